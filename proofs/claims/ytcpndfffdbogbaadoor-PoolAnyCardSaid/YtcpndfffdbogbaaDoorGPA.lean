/-
  Pools: shards, one behind the other; a key's shard; empty pools. Pools: how great one is, how many transactions it has, twins, whether two are the same. Whether shards are a pool. What a pool tells: the statement's law. Pools, plainly: a shard turned; what Submit, Draw and Back tell. Pools: whether a pool and a state may be asked; a pool with one shard turned. Pools: a transaction is submitted; a shard is drawn. Pools, plainly: all but one shard stay. Pools, plainly: how many shards there are changes nothing of what a sender has.
-/
import Derived.Test.YtcpndfffdbogbaaDoorGS
import Derived.Test.YtcpndfffdbogbaaDoorGU
import Derived.Test.YtcpndfffdbogbaaDoorGZA
set_option linter.unusedVariables false
set_option linter.unusedSimpArgs false
namespace Go.Proofs.YtcpndfffdbogbaaDoor
open Go Go.RowKit
set_option linter.unusedVariables false
set_option linter.unusedSimpArgs false
open Classical

/-- A shard's content. -/
structure Sh where
  a : Option Addr
  c : Nat
  ls : List Ln
def Sh.cells (s : Sh) : List Value := [.slice s.a s.ls.length s.c]
abbrev shc (ss : List Sh) : List Value := flat Sh.cells ss
structure SsOk (ss : List Sh) : Prop where
  ok : ∀ s ∈ ss, LsOk s.ls
  len : ss.length ≤ 1000000
abbrev shl (ss : List Sh) : List (List (List UInt8 × List Tx)) := ss.map fun s => lls s.ls
theorem shs_wide (ss : List Sh) : Wide Sh.cells 1 ss := fun _ _ => rfl
theorem shs_len (ss : List Sh) : (shc ss).length = ss.length := by rw [show shc ss = flat Sh.cells ss from rfl, (shs_wide ss).len, Nat.mul_one]
theorem shs_at {ss : List Sh} (k : Nat) (hk : k < ss.length) : (shc ss)[k]? = some (.slice ss[k].a ss[k].ls.length ss[k].c) := by
  have := (shs_wide ss).cell k hk 0 (by decide)
  rw [Nat.mul_one, Nat.add_zero] at this
  rw [this]; rfl
section
variable {ss : List Sh}
theorem SsOk.at (h : SsOk ss) (k : Nat) (hk : k < ss.length) : LsOk (ss[k]).ls := h.ok _ (List.getElem_mem hk)
theorem SsOk.e (h : SsOk ss) (k : Nat) (hk : k < ss.length) : ((shc ss).drop (k * 1)).take 1 = [.slice ss[k].a ss[k].ls.length ss[k].c] := (shs_wide ss).at k hk
theorem shs_e1 (k : Nat) (hk : k < ss.length) : ((shc ss).drop k).take 1 = [.slice ss[k].a ss[k].ls.length ss[k].c] := by
  have := (shs_wide ss).at k hk
  rw [Nat.mul_one] at this
  exact this
theorem SsOk.pos (h : SsOk ss) (k : Nat) (hk : k < ss.length) : 0 < (shc ss).length := by rw [shs_len]; omega
end
theorem SsOk.sub {ss ts : List Sh} (h : SsOk ss) (hs : ∀ p ∈ ts, p ∈ ss) (hl : ts.length ≤ ss.length) : SsOk ts := ⟨fun p hp => h.ok p (hs p hp), by have := h.len; omega⟩
theorem shl_len {ss ts : List Sh} (h : shl ss = shl ts) : ss.length = ts.length := by simpa using congrArg List.length h
theorem shl_get {ms ns : List Sh} (h : shl ms = shl ns) {i : Nat} (hm : i < ms.length) (hn : i < ns.length) : lls ms[i].ls = lls ns[i].ls := by
  have h1 : (shl ms)[i]? = (shl ns)[i]? := by rw [h]
  rw [List.getElem?_map, List.getElem?_map, List.getElem?_eq_getElem hm, List.getElem?_eq_getElem hn] at h1
  exact Option.some.inj h1
theorem SsOk.of_shl {ms ss : List Sh} (h : SsOk ss) (e : shl ms = shl ss) : SsOk ms := by
  have hl := shl_len e
  refine ⟨fun p hp => ?_, by have := h.len; omega⟩
  obtain ⟨i, hi, rfl⟩ := List.getElem_of_mem hp
  exact (h.at i (by omega)).of_lls (shl_get e hi (by omega))
/-- Their lines can be read. -/
class RdSs (w0 : World) (L : List Asn) (ss : List Sh) : Prop where
  out : ∀ s ∈ ss, RdC w0 L s.a (lnc s.ls) ∧ RdLs w0 L s.ls
instance (priority := 50) rdSs_cons (w0 : World) (A : Asn) (L : List Asn) (ss : List Sh) [h : RdSs w0 L ss] : RdSs w0 (A :: L) ss := ⟨fun p hp => by
    obtain ⟨h1, h2⟩ := h.out p hp
    exact ⟨inferInstance, inferInstance⟩⟩
theorem RdSs.at {w0 : World} {L : List Asn} {ss : List Sh} (h : RdSs w0 L ss) (k : Nat) (hk : k < ss.length) : RdC w0 L (ss[k]).a (lnc (ss[k]).ls) := (h.out _ (List.getElem_mem hk)).1
theorem RdSs.at2 {w0 : World} {L : List Asn} {ss : List Sh} (h : RdSs w0 L ss) (k : Nat) (hk : k < ss.length) : RdLs w0 L (ss[k]).ls := (h.out _ (List.getElem_mem hk)).2
def sh2 (ss : List Sh) : List Asn := ss.flatMap fun s => [ownLs s.a s.c s.ls, tsA s.ls]
/-- All lines and transactions of the call's own. -/
def shA (ss : List Sh) : Asn := bundle (sh2 ss)
theorem se_shA_nil (L : List Asn) : SE L (shA [] :: L) := se_bundle [] L
theorem se_shA_snoc (ss : List Sh) (L : List Asn) (s : Sh) : SE (ownLs s.a s.c s.ls :: tsA s.ls :: shA ss :: L) (shA (ss ++ [s]) :: L) := by
  have h1 : (ownLs s.a s.c s.ls :: tsA s.ls :: sh2 ss).Perm (sh2 (ss ++ [s])) := by
    unfold sh2
    rw [List.flatMap_append]
    exact List.perm_append_comm (l₁ := [ownLs s.a s.c s.ls, tsA s.ls])
  exact (SE.cons _ (SE.cons _ (se_unbundle _ L))).trans ((se_perm (h1.append_right L)).trans (se_bundle _ L))
class HasSh (L : List Asn) (ss : List Sh) : Prop where
  out : ∃ i : Nat, L[i]? = some (shA ss)
instance hasSh_zero (L : List Asn) (ss : List Sh) : HasSh (shA ss :: L) ss := ⟨0, rfl⟩
instance (priority := low) hasSh_succ (P : Asn) (L : List Asn) (ss : List Sh) [h : HasSh L ss] : HasSh (P :: L) ss := ⟨by obtain ⟨i, hi⟩ := h.out; exact ⟨i + 1, by simpa using hi⟩⟩
instance rdSs_own (w0 : World) (L : List Asn) (ss : List Sh) [h : HasSh L ss] : RdSs w0 L ss := ⟨fun s hs => by
  obtain ⟨i, hi⟩ := h.out
  have m1 : ownLs s.a s.c s.ls ∈ sh2 ss := List.mem_flatMap.2 ⟨s, hs, by simp⟩
  have m2 : tsA s.ls ∈ sh2 ss := List.mem_flatMap.2 ⟨s, hs, by simp⟩
  refine ⟨⟨fun w hw => hw.know i hi (fun F hF => ?_)⟩, ⟨fun l hl => ⟨fun w hw => hw.know i hi (fun F hF => ?_)⟩⟩⟩
  · obtain ⟨G, hG⟩ := SLs.mem (P := ownLs s.a s.c s.ls) hF m1
    exact own.rc hG
  · obtain ⟨G, hG⟩ := SLs.mem (P := tsA s.ls) hF m2
    obtain ⟨G2, hG2⟩ := SLs.mem (P := ownTs l.a l.c l.xs) hG (List.mem_map.2 ⟨l, hl, rfl⟩)
    exact own.rc hG2⟩
abbrev ownSs (a : Option Addr) (cap : Nat) (ss : List Sh) : Asn := own 64 1 a ss.length cap (shc ss)
theorem ownSs_snoc (a : Option Addr) (c : Nat) (ss : List Sh) (s : Sh) : ownSs a c (ss ++ [s]) = own 64 1 a (ss.length + 1) c (shc ss ++ s.cells) := by
  unfold ownSs shc
  rw [flat_snoc, List.length_append]
  rfl
theorem se_ss_nil (L : List Asn) : SE L (ownSs none 0 [] :: shA [] :: L) := (se_shA_nil L).trans (se_own_nil 64 1 _)
/-- What is told of a pool: its memory is new. -/
def RPo (L : List Asn) (ss : List Sh) (v : Value) (L' : List Asn) : Prop := ∃ a c ts, v = .slice a ts.length c ∧ shl ts = shl ss ∧ L' = ownSs a c ts :: shA ts :: L
def shE : Sh := ⟨none, 0, []⟩
theorem se_shA_zero (L : List Asn) : ∀ n, SE L (shA (List.replicate n shE) :: L)
  | 0 => se_shA_nil L
  | n + 1 => by
    rw [List.replicate_succ']
    exact ((se_shA_zero L n).trans (se_ls_nil _)).trans (se_shA_snoc (List.replicate n shE) L shE)
theorem shc_zero : ∀ n, shc (List.replicate n shE) = List.replicate n (.slice none 0 0)
  | 0 => rfl
  | n + 1 => by
    rw [List.replicate_succ, List.replicate_succ, ← shc_zero n]
    rfl
/-- A key's shard, of so many. -/
def atP (k : List UInt8) (m : Int) : Int := ((k.getD 31 0).toNat : Int).tmod m
set_option maxRecDepth 100000 in
theorem pat_vc (w0 : World) (L : List Asn) (k : List UInt8) (m : Int) (hk : k.length = 32) :
    VC Tryd.prog w0 14 [.agg (bvs k).toArray, .int .i64 m] L fun v L' => v = (if 1 ≤ m ∧ m ≤ 8 then .tuple #[.int .i64 (atP k m), .int .i64 0] else .tuple #[.int .i64 0, .int .i64 2]) ∧ L' = L := by
  have h31 : (bvs k)[0 + 31 * 1]? = some (.int .u8 ((k.getD 31 0).toNat : Nat)) := by
    have := bvs_at k 31 (by omega)
    rw [show k.getD 31 0 = k[31]'(by omega) by rw [List.getD_eq_getElem?_getD, List.getElem?_eq_getElem (by omega)]; rfl]
    simpa using this
  have h31' : (bvs k)[31]? = some (.int .u8 ((k.getD 31 0).toNat : Nat)) := by simpa using h31
  have hb := (k.getD 31 0).toNat_lt
  have hp : 0 < (bvs k).length := by rw [bvs_length]; omega
  unfold atP
  generalize (k.getD 31 0).toNat = B at *
  refine vc_ent ?_
  refine vc_in rfl rfl ?_
  by_cases h : 1 ≤ m ∧ m ≤ 8
  · rw [if_pos h]
    repeat' (first | (refine go1 ?_; intros) | (refine goCC ?_ ?_ <;> (intro hb; (try simp only [hSQ] at hb); try (exfalso; omega))) | fail)
    all_goals first | (exfalso; omega) | skip
    refine vl_q rfl rfl rfl rfl (vq_rem rfl rfl (by omega) rfl) ?_
    repeat' (first | (refine go1 ?_; intros) | (refine goCC ?_ ?_ <;> (intro hb; (try simp only [hSQ] at hb); try (exfalso; omega))) | fail)
    exact ⟨L, sei _ _ _, rfl, rfl⟩
  · rw [if_neg h]
    repeat' (first | (refine go1 ?_; intros) | (refine goCC ?_ ?_ <;> (intro hb; (try simp only [hSQ] at hb); try (exfalso; omega))) | fail)
    all_goals first | (exfalso; omega) | exact ⟨L, sei _ _ _, rfl, rfl⟩
/-- What New tells. -/
def RNew (L : List Asn) (m : Int) (v : Value) (L' : List Asn) : Prop := ∃ a c ss, v = .tuple #[.slice a ss.length c, .int .i64 (if 1 ≤ m ∧ m ≤ 8 then 0 else 2)] ∧ ss = (if 1 ≤ m ∧ m ≤ 8 then List.replicate m.toNat shE else []) ∧ L' = ownSs a c ss :: shA ss :: L
set_option maxRecDepth 100000 in
theorem pnew_vc (w0 : World) (L : List Asn) (m : Int) :
    VC Tryd.prog w0 6 [.int .i64 m] L (RNew L m) := by
  refine vc_ent ?_
  refine vc_in rfl rfl ?_
  unfold RNew
  by_cases h : 1 ≤ m ∧ m ≤ 8
  · rw [if_pos h, if_pos h]
    obtain ⟨k, rfl⟩ : ∃ k : Nat, m = k := ⟨m.toNat, by omega⟩
    repeat' (first | (refine go1 ?_; intros) | (refine goCC ?_ ?_ <;> (intro hb; (try simp only [hSQ] at hb); try (exfalso; omega))) | fail)
    all_goals first | (exfalso; omega) | skip
    refine vl_o rfl (vo_make (m := k) rfl rfl rfl (by omega) (by omega) rfl ?_)
    intro g
    repeat' (first | (refine go1 ?_; intros) | (refine goCC ?_ ?_ <;> (intro hb; (try simp only [hSQ] at hb); try (exfalso; omega))) | fail)
    refine ⟨ownSs (some ⟨g, 0, none⟩) k (List.replicate k shE) :: shA (List.replicate k shE) :: L, ?_, some ⟨g, 0, none⟩, k, List.replicate k shE, by rw [List.length_replicate], by rw [Int.toNat_natCast], rfl⟩
    have e : ownSs (some ⟨g, 0, none⟩) k (List.replicate k shE) = own 64 1 (some ⟨g, 0, none⟩) k k (madeCells [.slice none 0 0].toArray (k * 1)).toList := by
      unfold ownSs
      rw [List.length_replicate, shc_zero, Nat.mul_one, List.toArray, toList_madeCells_one]
    rw [e]
    exact (SE.cons _ (se_shA_zero L k)).ent w0
  · rw [if_neg h, if_neg h]
    repeat' (first | (refine go1 ?_; intros) | (refine goCC ?_ ?_ <;> (intro hb; (try simp only [hSQ] at hb); try (exfalso; omega))) | fail)
    all_goals first | (exfalso; omega) | exact ⟨_, (SEI.out.trans (se_ss_nil L)).ent w0, none, 0, [], rfl, rfl, rfl⟩
end Go.Proofs.YtcpndfffdbogbaaDoor
namespace Go.Proofs.YtcpndfffdbogbaaDoor
open Go Go.RowKit
set_option linter.unusedVariables false
set_option linter.unusedSimpArgs false
open Classical

theorem cntS_take {ss : List Sh} {i : Nat} (hi : i < ss.length) : ((ss.take (i + 1)).map fun s => cntL s.ls).sum = ((ss.take i).map fun s => cntL s.ls).sum + cntL ss[i].ls := by
  rw [List.take_succ_eq_append_getElem hi, List.map_append, List.sum_append]
  simp only [List.map_cons, List.map_nil, List.sum_cons, List.sum_nil, Nat.add_zero]
def cntS (ss : List Sh) : Nat := (ss.map fun s => cntL s.ls).sum
/-- Few enough that their count is no overflow. -/
theorem cntS_le {ss : List Sh} (h : SsOk ss) (hl : ss.length ≤ 10) (h6 : ∀ s ∈ ss, cntL s.ls ≤ 1000000000000) : ∀ i, ((ss.take i).map fun s => cntL s.ls).sum ≤ 10000000000000 := by
  intro i
  have key : ∀ l : List Sh, (∀ s ∈ l, cntL s.ls ≤ 1000000000000) → (l.map fun s => cntL s.ls).sum ≤ l.length * 1000000000000 := by
    intro l
    induction l with
    | nil => intro _; simp
    | cons x l ih =>
      intro hx
      have h1 := ih (fun s hs => hx s (List.mem_cons_of_mem _ hs))
      have h2 := hx x (by simp)
      simp only [List.map_cons, List.sum_cons, List.length_cons]
      omega
  have := key (ss.take i) (fun s hs => h6 s (List.mem_of_mem_take hs))
  have hle : (ss.take i).length ≤ 10 := by rw [List.length_take]; omega
  omega
set_option maxRecDepth 100000 in
set_option maxHeartbeats 1000000 in
theorem pcount_vc (w0 : World) (L : List Asn) (a : Option Addr) (c : Nat) (ss : List Sh) {n : Nat} (hn : n = ss.length) (h : SsOk ss) (hl : ss.length ≤ 10) [hr : RdC w0 L a (shc ss)] [hv : RdSs w0 L ss] :
    VC Tryd.prog w0 13 [.slice a n c] L fun v L' => v = .int .i64 (cntS ss) ∧ L' = L := by
  subst hn
  have hlen := h.len
  have hb := cntS_le h hl (fun s hs => Nat.le_trans (cntL_le (h.ok s hs)) (by have := (h.ok s hs).len; omega))
  refine vc_ent ?_
  refine vc_in rfl rfl ?_
  repeat' (first | (refine go1 ?_; intros) | (refine goCC ?_ ?_ <;> (intro hb; (try simp only [hSQ] at hb); try (exfalso; omega))) | fail)
  refine v_loopS (Nat × Nat) [5, 6] rfl (fun x => [(7, .int .i64 x.1), (2, .int .i64 x.2)]) (fun x => x.1 ≤ ss.length ∧ x.2 = ((ss.take x.1).map fun s => cntL s.ls).sum) (fun x => ss.length - x.1) (0, 0) ⟨Nat.zero_le _, rfl⟩ (by (repeat' (first | exact Sub.nil _ | refine Sub.cons rfl rfl ?_ | refine Sub.cons rfl ?_ ?_))) ?_
  rintro ⟨i, k⟩ ⟨hi, hk⟩
  dsimp only at hi hk ⊢
  by_cases hlt : i < ss.length
  · have e' := shs_e1 i hlt
    have hpos := h.pos i hlt
    haveI := hv.at i hlt
    haveI := hv.at2 i hlt
    have hst := cntS_take hlt
    have hb2 := hb (i + 1)
    rw [hst] at hb2
    rw [← hk] at hst hb2
    have sok := h.at i hlt
    repeat' (first | (refine go1 ?_; intros) | (refine goCC ?_ ?_ <;> (intro hb; (try simp only [hSQ] at hb); try (exfalso; omega))) | fail)
    refine vl_o rfl (vo_call rfl rfl ?_)
    refine vc_mono (scount_vc w0 _ ss[i].a ss[i].c ss[i].ls rfl sok) ?_
    rintro v L' ⟨rfl, rfl⟩
    repeat' (first | (refine go1 ?_; intros) | (refine goCC ?_ ?_ <;> (intro hb; (try simp only [hSQ] at hb); try (exfalso; omega))) | fail)
    refine ⟨rfl, (i + 1, k + cntL ss[i].ls), ⟨by dsimp only; omega, by dsimp only; omega⟩, by dsimp only; omega, ?_, sei _ _ _⟩
    (repeat' (first | exact Sub.nil _ | refine Sub.cons rfl rfl ?_ | refine Sub.cons rfl ?_ ?_))
  · obtain rfl : i = ss.length := by omega
    rw [List.take_length] at hk
    repeat' (first | (refine go1 ?_; intros) | (refine goCC ?_ ?_ <;> (intro hb; (try simp only [hSQ] at hb); try (exfalso; omega))) | fail)
    exact ⟨L, sei _ _ _, by rw [hk]; rfl, rfl⟩
/-! ### Twins -/
theorem shl_snoc {ss ts : List Sh} {i : Nat} (hi : i < ss.length) (hp : shl ts = (shl ss).take i) (s : Sh) (hs : lls s.ls = lls ss[i].ls) : shl (ts ++ [s]) = (shl ss).take (i + 1) := by
  show List.map _ (ts ++ [s]) = _
  rw [List.map_append, show List.map (fun s : Sh => lls s.ls) ts = shl ts from rfl, hp, List.take_succ_eq_append_getElem (by simpa using hi), List.getElem_map]
  simp [hs]
set_option maxRecDepth 100000 in
set_option maxHeartbeats 1000000 in
theorem ptwin21_vc (w0 : World) (L : List Asn) (a : Option Addr) (c : Nat) (ss : List Sh) {n : Nat} (hn : n = ss.length) (h : SsOk ss) [hr : RdC w0 L a (shc ss)] [hv : RdSs w0 L ss] :
    VC Tryd.prog w0 36 [.slice a n c] L (RPo L ss) := by
  subst hn
  have hlen := h.len
  refine vc_ent ?_
  refine vc_in rfl rfl ?_
  repeat' (first | (refine go1 ?_; intros) | (refine goCC ?_ ?_ <;> (intro hb; (try simp only [hSQ] at hb); try (exfalso; omega))) | fail)
  refine v_loopF (List Sh × Option Addr × Nat) [6, 7] rfl (fun x => [(8, .int .i64 x.1.length), (3, .slice x.2.1 x.1.length x.2.2)]) (fun _ x => ownSs x.2.1 x.2.2 x.1 :: shA x.1 :: L) (fun x => x.1.length ≤ ss.length ∧ shl x.1 = (shl ss).take x.1.length) (fun x => ss.length - x.1.length) ([], none, 0) ⟨Nat.zero_le _, by simp⟩ (by (repeat' (first | exact Sub.nil _ | refine Sub.cons rfl rfl ?_ | refine Sub.cons rfl ?_ ?_))) ((se_ss_nil L).ent w0) ?_
  rintro ⟨ts, a', c'⟩ ⟨hi, hp⟩
  dsimp only at hi hp ⊢
  obtain ⟨i, hni⟩ : ∃ i, i = ts.length := ⟨_, rfl⟩
  rw [← hni] at hi hp
  by_cases hlt : i < ss.length
  · rw [show ownSs a' c' ts = own 64 1 a' i c' (shc ts) by rw [hni], ← hni]
    have e' := shs_e1 i hlt
    have hpos := h.pos i hlt
    haveI := hv.at i hlt
    haveI := hv.at2 i hlt
    have sok := h.at i hlt
    have htl : (shc ts).length = i := by rw [shs_len, hni]
    repeat' (first | (refine go1 ?_; intros) | (refine goCC ?_ ?_ <;> (intro hb; (try simp only [hSQ] at hb); try (exfalso; omega))) | fail)
    refine vl_o rfl (vo_call rfl rfl ?_)
    refine vc_mono (stwin_vc w0 _ ss[i].a ss[i].c ss[i].ls rfl sok) ?_
    rintro v L' ⟨a2, c2, ms, rfl, hms, rfl⟩
    repeat' (first | (refine go1 ?_; intros) | (refine goCC ?_ ?_ <;> (intro hb; (try simp only [hSQ] at hb); try (exfalso; omega))) | fail)
    rename_i g0 g a3 c3 _ _
    refine ⟨rfl, (ts ++ [⟨a2, c2, ms⟩], a3, c3), ⟨by simp; omega, ?_⟩, by simp; omega, ?_, ?_⟩
    · simp only [List.length_append, List.length_cons, List.length_nil, ← hni, Nat.zero_add]
      exact shl_snoc hlt hp ⟨a2, c2, ms⟩ hms
    · simp only [List.length_append, List.length_cons, List.length_nil, ← hni, Nat.zero_add]
      (repeat' (first | exact Sub.nil _ | refine Sub.cons rfl rfl ?_ | refine Sub.cons rfl ?_ ?_))
    · rw [ownSs_snoc, ← hni]
      simp only [List.append_nil]
      refine (sei w0 _ (ownLs a2 c2 ms :: tsA ms :: shA ts :: own 64 1 a3 (i + 1) c3 (shc ts ++ [.slice a2 ms.length c2]) :: L)).trans (((se_shA_snoc ts _ ⟨a2, c2, ms⟩).ent w0).trans ((se_swap _ _ _).ent w0))
  · have hin : i = ss.length := by omega
    repeat' (first | (refine go1 ?_; intros) | (refine goCC ?_ ?_ <;> (intro hb; (try simp only [hSQ] at hb); try (exfalso; omega))) | fail)
    exact ⟨_, Ent.refl _ _, a', c', ts, by rw [← hni, hin], by rw [hp, List.take_of_length_le (by simp; omega)], rfl⟩
/-! ### Whether two are the same -/
end Go.Proofs.YtcpndfffdbogbaaDoor
namespace Go.Proofs.YtcpndfffdbogbaaDoor
open Go Go.RowKit
set_option linter.unusedVariables false
set_option linter.unusedSimpArgs false
open Classical

/-- Whether a shard's lines are all of senders of that shard. -/
noncomputable def ofS (ls : List Ln) (i : Nat) (m : Nat) : Bool := decide (∀ k (hk : k < ls.length), atP ls[k].own m = (i : Int))
/-- Whether the i-th shard may stand where it stands. -/
noncomputable def shAt (ss : List Sh) (i : Nat) : Bool := match ss[i]? with | some s => mayS s.ls && ofS s.ls i ss.length | none => false
theorem shAt_eq {ss : List Sh} (i : Nat) (hi : i < ss.length) : shAt ss i = (mayS ss[i].ls && ofS ss[i].ls i ss.length) := by
  unfold shAt
  rw [List.getElem?_eq_getElem hi]
noncomputable def mayPo (ss : List Sh) : Bool := decide (1 ≤ ss.length ∧ ss.length ≤ 8 ∧ ∀ i, i < ss.length → shAt ss i = true)
theorem any_ofS (ls : List Ln) (i m : Nat) : (ls.any fun l => !decide (atP l.own m = (i : Int))) = !ofS ls i m := by
  unfold ofS
  by_cases h : ∀ k (hk : k < ls.length), atP ls[k].own m = (i : Int)
  · rw [decide_eq_true h]
    simp only [Bool.not_true, List.any_eq_false]
    intro l hl
    obtain ⟨k, hk, rfl⟩ := List.getElem_of_mem hl
    simp [h k hk]
  · rw [decide_eq_false h]
    simp only [Bool.not_false, List.any_eq_true]
    obtain ⟨k, hk⟩ := Classical.not_forall.1 h
    obtain ⟨h1, h2⟩ := Classical.not_forall.1 hk
    exact ⟨ls[k], List.getElem_mem h1, by simp [h2]⟩
theorem pchk1_vc (w0 : World) (L : List Asn) (l : Ln) (hl : l.ok) (g gi gs : Nat) (cs : List Value) (a : Option Addr) (c : Nat) (ss : List Sh) (i : Nat) {n : Nat} (hn : n = ss.length) (h1 : 1 ≤ ss.length) (h8 : ss.length ≤ 8) :
    VC Tryd.prog w0 30 ([.agg l.cells.toArray] ++ #[Value.pointer (some ⟨g, 0, none⟩), .pointer (some ⟨gi, 0, none⟩)].toList) (blk gs 64 cs :: blk gi 3 [.int .i64 (i : Int)] :: blk g 27 [.slice a n c] :: L) fun v L' => v = .bool (!decide (atP l.own ss.length = (i : Int))) ∧ L' = blk gs 64 cs :: blk gi 3 [.int .i64 (i : Int)] :: blk g 27 [.slice a n c] :: L := by
  subst hn
  have f0 := Ln.f0 hl.own
  have hcl := Ln.len hl.own
  have hol := hl.own
  haveI hoc : OC l.cells := oc_ln _
  refine vc_ent ?_
  refine vc_in rfl rfl ?_
  generalize l.cells = ds at *
  repeat' (first | (refine go1 ?_; intros) | (refine goCC ?_ ?_ <;> (intro hb; (try simp only [hSQ] at hb); try (exfalso; omega))) | fail)
  refine vl_o rfl (vo_call rfl rfl ?_)
  refine vc_mono (pat_vc w0 _ l.own ss.length hol) ?_
  rintro v L' ⟨rfl, rfl⟩
  rw [if_pos (by omega)]
  generalize atP l.own ss.length = A
  repeat' (first | (refine go1 ?_; intros) | (refine goCC ?_ ?_ <;> (intro hb; (try simp only [hSQ] at hb); try (exfalso; omega))) | fail)
  exact ⟨_, sei _ _ (blk gs 64 cs :: blk gi 3 [.int .i64 (i : Int)] :: blk g 27 [.slice a ss.length c] :: L), by simp, rfl⟩
set_option maxRecDepth 100000 in
set_option maxHeartbeats 2000000 in
theorem pcheck21_vc (w0 : World) (L : List Asn) [hK : RdA w0 (some ⟨0, 0, none⟩) (wds K64)] (a : Option Addr) (c : Nat) (ss : List Sh) {n : Nat} (hn : n = ss.length) (h : SsOk ss) [hr : RdC w0 L a (shc ss)] [hv : RdSs w0 L ss] :
    VC Tryd.prog w0 16 [.slice a n c] L fun v L' => v = .int .i64 (if mayPo ss then 0 else 8) ∧ L' = L := by
  subst hn
  have hlen := h.len
  refine vc_ent ?_
  refine vc_in rfl rfl ?_
  by_cases hl : 1 ≤ ss.length ∧ ss.length ≤ 8
  rotate_left
  · have hm : mayPo ss = false := decide_eq_false (fun e => hl ⟨e.1, e.2.1⟩)
    repeat' (first | (refine go1 ?_; intros) | (refine goCC ?_ ?_ <;> (intro hb; (try simp only [hSQ] at hb); try (exfalso; omega))) | fail)
    all_goals first | exact ⟨L, sei _ _ _, by rw [hm]; rfl, rfl⟩ | (exfalso; omega)
  obtain ⟨hl1, hl8⟩ := hl
  repeat' (first | (refine go1 ?_; intros) | (refine goCC ?_ ?_ <;> (intro hb; (try simp only [hSQ] at hb); try (exfalso; omega))) | fail)
  all_goals first | (exfalso; omega) | skip
  refine v_loopF Nat [1, 13, 14] rfl (fun i => [(15, .int .i64 i)]) (fun M _ => M) (fun i => i ≤ ss.length ∧ ∀ j, j < i → shAt ss j = true) (fun i => ss.length - i) 0 ⟨Nat.zero_le _, fun j h => by omega⟩ (by (repeat' (first | exact Sub.nil _ | refine Sub.cons rfl rfl ?_ | refine Sub.cons rfl ?_ ?_))) (Ent.refl _ _) ?_
  rintro i ⟨hi, hok⟩
  by_cases hlt : i < ss.length
  rotate_left
  · obtain rfl : i = ss.length := by omega
    have hm : mayPo ss = true := decide_eq_true ⟨hl1, hl8, hok⟩
    repeat' (first | (refine go1 ?_; intros) | (refine goCC ?_ ?_ <;> (intro hb; (try simp only [hSQ] at hb); try (exfalso; omega))) | fail)
    exact ⟨L, sei _ _ _, by rw [hm]; rfl, rfl⟩
  have e' := shs_e1 i hlt
  have hpos := h.pos i hlt
  haveI := hv.at i hlt
  haveI := hv.at2 i hlt
  have sok := h.at i hlt
  have hq := shAt_eq i hlt
  have hbad : shAt ss i = false → mayPo ss = false := fun e => decide_eq_false (fun f => by rw [f.2.2 i hlt] at e; cases e)
  repeat' (first | (refine go1 ?_; intros) | (refine goCC ?_ ?_ <;> (intro hb; (try simp only [hSQ] at hb); try (exfalso; omega))) | fail)
  refine vl_o rfl (vo_call rfl rfl ?_)
  refine vc_mono (scheck_vc w0 _ ss[i].a ss[i].c ss[i].ls rfl sok) ?_
  rintro v L' ⟨rfl, rfl⟩
  cases hms : mayS ss[i].ls
  · rw [hms, Bool.false_and] at hq
    repeat' (first | (refine go1 ?_; intros) | (refine goCC ?_ ?_ <;> (intro hb; (try simp only [hSQ] at hb); try (exfalso; omega))) | fail)
    exact ⟨L, sei _ _ _, by rw [hbad hq]; rfl, rfl⟩
  rw [hms, Bool.true_and] at hq
  repeat' (first | (refine go1 ?_; intros) | (refine goCC ?_ ?_ <;> (intro hb; (try simp only [hSQ] at hb); try (exfalso; omega))) | fail)
  refine vl_o rfl (vo_call rfl rfl ?_)
  refine vc_mono (hasF_vc w0 _ ss[i].a ss[i].c ss[i].ls _ _ (fun l => !decide (atP l.own ss.length = (i : Int))) rfl sok (fun l hl => pchk1_vc w0 L l (sok.ok l hl) _ _ _ _ a c ss i rfl hl1 hl8)) ?_
  rintro v L' ⟨rfl, rfl⟩
  rw [any_ofS]
  cases hof : ofS ss[i].ls i ss.length
  · rw [hof] at hq
    repeat' (first | (refine go1 ?_; intros) | (refine goCC ?_ ?_ <;> (intro hb; (try simp only [hSQ] at hb); try (exfalso; omega))) | fail)
    exact ⟨L, sei _ _ _, by rw [hbad hq]; rfl, rfl⟩
  · rw [hof] at hq
    repeat' (first | (refine go1 ?_; intros) | (refine goCC ?_ ?_ <;> (intro hb; (try simp only [hSQ] at hb); try (exfalso; omega))) | fail)
    refine ⟨rfl, i + 1, ⟨by omega, fun j hj => ?_⟩, by omega, by (repeat' (first | exact Sub.nil _ | refine Sub.cons rfl rfl ?_ | refine Sub.cons rfl ?_ ?_)), sei _ _ _⟩
    by_cases e : j = i
    · rw [e]; exact hq
    · exact hok j (by omega)
end Go.Proofs.YtcpndfffdbogbaaDoor
namespace Go.Proofs.YtcpndfffdbogbaaDoor
open Go Go.RowKit
set_option linter.unusedVariables false
set_option linter.unusedSimpArgs false
open Classical

end Go.Proofs.YtcpndfffdbogbaaDoor
namespace Go.Proofs.YtcpndfffdbogbaaDoor
open Go Go.RowKit
set_option linter.unusedVariables false
set_option linter.unusedSimpArgs false
set_option linter.unusedSectionVars false
open Classical

abbrev PC := List (List LC)
structure MayO (cs : PC) : Prop where
  lo : 1 ≤ cs.length
  hi : cs.length ≤ 8
  at' : ∀ i (h : i < cs.length), MayC cs[i] ∧ ∀ c ∈ cs[i], atP c.1 cs.length = (i : Int)
theorem shl_length (ss : List Sh) : (shl ss).length = ss.length := List.length_map ..
theorem shl_at (ss : List Sh) (i : Nat) (hi : i < (shl ss).length) : (shl ss)[i] = lls (ss[i]'(by rwa [shl_length] at hi)).ls := List.getElem_map ..
theorem mayO_iff {ss : List Sh} : mayPo ss = true ↔ MayO (shl ss) := by
  have hl := shl_length ss
  have hz : ((shl ss).length : Int) = (ss.length : Int) := by rw [hl]
  have e : ∀ i (hi : i < ss.length), shAt ss i = true ↔ MayC (lls ss[i].ls) ∧ ∀ c ∈ lls ss[i].ls, atP c.1 ss.length = (i : Int) := fun i hi => by
    rw [shAt_eq i hi, Bool.and_eq_true, mayS_iff]
    refine and_congr_right fun _ => ?_
    unfold ofS
    rw [decide_eq_true_iff]
    constructor
    · intro h c hc
      obtain ⟨l, hl, rfl⟩ := List.mem_map.1 hc
      obtain ⟨k, hk, rfl⟩ := List.getElem_of_mem hl
      exact h k hk
    · intro h k hk
      exact h ss[i].ls[k].pl (List.mem_map.2 ⟨_, List.getElem_mem hk, rfl⟩)
  unfold mayPo
  rw [decide_eq_true_iff]
  constructor
  · rintro ⟨h1, h2, h3⟩
    refine ⟨by omega, by omega, fun i hi => ?_⟩
    rw [shl_at, hz]
    exact (e i (by omega)).1 (h3 i (by omega))
  · rintro ⟨h1, h2, h3⟩
    refine ⟨by omega, by omega, fun i hi => ?_⟩
    have := h3 i (by omega)
    rw [shl_at, hz] at this
    exact (e i hi).2 this
theorem atP_lt (k : List UInt8) {m : Int} (h : 1 ≤ m) : 0 ≤ atP k m ∧ atP k m < m := ⟨Int.tmod_nonneg _ (by omega), Int.tmod_lt_of_pos _ (by omega)⟩
/-- A key's shard as a number. -/
def atN (k : List UInt8) (n : Nat) : Nat := (atP k n).toNat
theorem atN_lt (k : List UInt8) {n : Nat} (h : 1 ≤ n) : atN k n < n := by
  have := atP_lt k (m := n) (by omega)
  unfold atN
  omega
theorem atN_cast (k : List UInt8) {n : Nat} (h : 1 ≤ n) : ((atN k n : Nat) : Int) = atP k n := by
  have := atP_lt k (m := n) (by omega)
  unfold atN
  omega
theorem MayO.set {cs : PC} (h : MayO cs) {i : Nat} (hi : i < cs.length) {z : List LC} (hz : MayC z) (ho : ∀ c ∈ z, atP c.1 cs.length = (i : Int)) : MayO (cs.set i z) := by
  have hl : (cs.set i z).length = cs.length := List.length_set
  refine ⟨by rw [hl]; exact h.lo, by rw [hl]; exact h.hi, fun j hj => ?_⟩
  rw [hl]
  rw [List.getElem_set]
  split
  · rename_i e
    subst e
    exact ⟨hz, ho⟩
  · exact h.at' j (by omega)
/-- What a pool turned in one shard tells. -/
def turnO {α : Type} (cs : PC) (i : Int) (q : Nat → List LC × α × Int) (none' : α) : PC × α × Int :=
  if 0 ≤ i ∧ i < cs.length then (if (q i.toNat).2.2 = 0 then (cs.set i.toNat (q i.toNat).1, (q i.toNat).2.1, 0) else ([], none', (q i.toNat).2.2)) else ([], none', 2)
theorem turnO_in {cs : PC} {k : Nat} (hk : k < cs.length) {q : Nat → List LC × List Tx × Int} {Q : List LC × List Tx × Int} (e : q k = Q) : turnO cs (k : Int) q [] = if Q.2.2 = 0 then (cs.set k Q.1, Q.2.1, 0) else ([], [], Q.2.2) := by
  subst e
  unfold turnO
  rw [if_pos (by omega), Int.toNat_natCast]
def atC (cs : PC) (i : Nat) : List LC := (cs[i]?).getD []
theorem atC_eq {cs : PC} {i : Nat} (h : i < cs.length) : atC cs i = cs[i] := by
  unfold atC
  rw [List.getElem?_eq_getElem h]
  rfl
noncomputable def submitO (cs : PC) (ns : List Nd) (r : Int) (cap : Int) (x : Tx) : PC × List Tx × Int :=
  if MayO cs ∧ StP ns r then turnO cs (atP (fromT x) cs.length) (fun i => submitS (atC cs i) cap (nonceA ns r (fromT x)) x) [] else ([], [], 8)
/-! ### Memory -/
theorem sh2_erase (ss : List Sh) {i : Nat} (hi : i < ss.length) : (sh2 (ss.take i ++ ss.drop (i + 1))).Sublist (sh2 ss) := by
  have e : ss.take i ++ ss[i] :: ss.drop (i + 1) = ss := by rw [← List.drop_eq_getElem_cons hi, List.take_append_drop]
  have h : sh2 ss = sh2 (ss.take i) ++ ([ownLs ss[i].a ss[i].c ss[i].ls, tsA ss[i].ls] ++ sh2 (ss.drop (i + 1))) := by
    conv => lhs; rw [← e]
    unfold sh2
    rw [List.flatMap_append, List.flatMap_cons]
  rw [h]
  unfold sh2
  rw [List.flatMap_append]
  exact (List.Sublist.refl _).append (List.sublist_append_right _ _)
theorem setSh_perm {ss : List Sh} {i : Nat} (hi : i < ss.length) (s : Sh) : (s :: (ss.take i ++ ss.drop (i + 1))).Perm (ss.set i s) := by
  rw [List.set_eq_take_append_cons_drop, if_pos hi]
  exact List.perm_middle.symm
theorem se_shA_set (ss : List Sh) {i : Nat} (hi : i < ss.length) (s : Sh) (L : List Asn) : SE (ownLs s.a s.c s.ls :: tsA s.ls :: shA ss :: L) (shA (ss.set i s) :: L) := by
  have h1 : (ownLs s.a s.c s.ls :: tsA s.ls :: sh2 (ss.take i ++ ss.drop (i + 1))).Perm (sh2 (ss.set i s)) := List.Perm.flatMap_right (fun s : Sh => [ownLs s.a s.c s.ls, tsA s.ls]) (setSh_perm hi s)
  exact (SE.cons _ (SE.cons _ ((se_unbundle _ L).trans (se_sublist (sh2_erase ss hi) L)))).trans ((se_perm (h1.append_right L)).trans (se_bundle _ L))
theorem shc_set (ss : List Sh) {i : Nat} (hi : i < ss.length) (s : Sh) : splice (shc ss) i [.slice s.a s.ls.length s.c] = shc (ss.set i s) := by
  have := (shs_wide ss).spl (x := s) rfl i hi
  rw [Nat.mul_one] at this
  exact this
theorem SsOk.set {ss : List Sh} (h : SsOk ss) (i : Nat) {s : Sh} (hs : LsOk s.ls) : SsOk (ss.set i s) := ⟨fun p hp => by
  rcases List.mem_or_eq_of_mem_set hp with hp | rfl
  · exact h.ok p hp
  · exact hs, by rw [List.length_set]; exact h.len⟩
theorem shl_set (ss : List Sh) (i : Nat) (s : Sh) : shl (ss.set i s) = (shl ss).set i (lls s.ls) := by
  show List.map _ _ = _
  rw [List.map_set]
/-- What is told of a pool, of transactions, and with an error: their memory is new. -/
def RPS (q : PC × List Tx × Int) (L : List Asn) (v : Value) (L' : List Asn) : Prop := ∃ a c ts b d, v = .tuple #[.slice a ts.length c, .slice b q.2.1.length d, .int .i64 q.2.2] ∧ shl ts = q.1 ∧ SsOk ts ∧ L' = ownSs a c ts :: shA ts :: ownTs b d q.2.1 :: L
theorem SsOk.nil : SsOk [] := ⟨fun _ h => (by cases h), by simp⟩
theorem RPS.bad (w0 : World) (L : List Asn) (e : Int) {M : List Asn} (h : Ent w0 M L) : ∃ L', Ent w0 M L' ∧ RPS ([], [], e) L (.tuple #[.slice none 0 0, .slice none 0 0, .int .i64 e]) L' :=
  ⟨_, h.trans (((se_own_nil 39 99 L).trans (se_ss_nil _)).ent w0), none, 0, [], none, 0, rfl, rfl, SsOk.nil, rfl⟩
theorem K2.at {ss : List Sh} (h : SsOk ss) {i : Nat} (hi : i < ss.length) : K2 (lls ss[i].ls) := (h.at i hi).k2
end Go.Proofs.YtcpndfffdbogbaaDoor
namespace Go.Proofs.YtcpndfffdbogbaaDoor
open Go Go.RowKit
set_option linter.unusedVariables false
set_option linter.unusedSimpArgs false
set_option linter.unusedSectionVars false
open Classical

set_option maxRecDepth 100000 in
set_option maxHeartbeats 2000000 in
theorem pasked_vc (w0 : World) (L : List Asn) [hK : RdA w0 (some ⟨0, 0, none⟩) (wds K64)] (a : Option Addr) (c : Nat) (ss : List Sh) (ta : Option Addr) (tc : Nat) (ns : List Nd) (r : Int) {n tn : Nat} (hn : n = ss.length) (htn : tn = ns.length) (h : SsOk ss) (hok : NsOk ns) [hr : RdC w0 L a (shc ss)] [hv : RdSs w0 L ss] [hr2 : RdC w0 L ta (ndc ns)] [hv2 : RdNs w0 L ns] :
    VC Tryd.prog w0 19 [.slice a n c, .agg #[.slice ta tn tc, .int .i64 r]] L fun v L' => v = .int .i64 (if MayO (shl ss) ∧ StP ns r then 0 else 8) ∧ L' = L := by
  subst hn
  subst htn
  have e : max (if mayPo ss = true then (0 : Int) else 8) (if StP ns r then 0 else 8) = if MayO (shl ss) ∧ StP ns r then 0 else 8 := by
    by_cases h1 : mayPo ss = true
    · rw [if_pos h1]
      by_cases h2 : StP ns r
      · rw [if_pos h2, if_pos ⟨mayO_iff.1 h1, h2⟩]
        rfl
      · rw [if_neg h2, if_neg (fun f => h2 f.2)]
        rfl
    · rw [if_neg h1, if_neg (show ¬ (MayO (shl ss) ∧ StP ns r) from fun f => h1 (mayO_iff.2 f.1))]
      split <;> rfl
  refine vc_ent ?_
  refine vc_in rfl rfl ?_
  repeat' (first | (refine go1 ?_; intros) | (refine goCC ?_ ?_ <;> (intro hb; (try simp only [hSQ] at hb); try (exfalso; omega))) | fail)
  (refine v_draw0 [] (by kernel_rfl) ?_ <;> (refine tA 0 ?_) <;> (refine tA 2 ?_))
  first | refine va_one 1 (by kernel_rfl) rfl rfl (vo_call rfl rfl ?_) | refine va_one 1 (by kernel_rfl) rfl rfl (vo_callV rfl rfl rfl ?_)
  refine vc_mono (pcheck21_vc w0 _ a c ss rfl h) ?_
  rintro v L' ⟨rfl, rfl⟩
  refine ⟨.inr entD, ?_⟩
  skip
  first | refine va_one 3 (by kernel_rfl) rfl rfl (vo_call rfl rfl ?_) | refine va_one 3 (by kernel_rfl) rfl rfl (vo_callV rfl rfl rfl ?_)
  refine vc_mono (acheck_vc w0 _ ta tc ns r rfl hok) ?_
  rintro v L' ⟨rfl, rfl⟩
  refine ⟨.inr entD, ?_⟩
  refine va_take 4 rfl rfl rfl rfl (by kernel_rfl) (fun _ _ _ _ h => h) entD (vq_maxI rfl rfl) ?_
  rw [e]
  refine tA 5 ?_
  (refine va_done (by kernel_rfl) ?_)
  repeat' (first | (refine go1 ?_; intros) | (refine goCC ?_ ?_ <;> (intro hb; (try simp only [hSQ] at hb); try (exfalso; omega))) | fail)
  exact ⟨L, sei _ _ _, rfl, rfl⟩
set_option maxRecDepth 100000 in
set_option maxHeartbeats 2000000 in
theorem pturned_vc (w0 : World) (L : List Asn) (a : Option Addr) (c : Nat) (ss : List Sh) (i : Int) (f : FuncId) (cap : Array Value) (q : Nat → List LC × List Tx × Int) {n : Nat} (hn : n = ss.length) (h : SsOk ss) [hf : FnB Tryd.prog f] [hr : RdC w0 L a (shc ss)] [hv : RdSs w0 L ss] (hq : ∀ k (hk : k < ss.length), i = (k : Int) → VC Tryd.prog w0 f ([.agg #[.slice ss[k].a ss[k].ls.length ss[k].c]] ++ cap.toList) L (RSub (q k) L)) :
    VC Tryd.prog w0 21 [.slice a n c, .int .i64 i, .func (.func f) #[] cap] L (RPS (turnO (shl ss) i q []) L) := by
  subst hn
  have hlen := h.len
  refine vc_ent ?_
  refine vc_in rfl rfl ?_
  by_cases hi : 0 ≤ i ∧ i < ss.length
  rotate_left
  · have e : turnO (shl ss) i q [] = ([], [], 2) := if_neg (by rw [shl_length]; exact hi)
    rw [e]
    repeat' (first | (refine go1 ?_; intros) | (refine goCC ?_ ?_ <;> (intro hb; (try simp only [hSQ] at hb); try (exfalso; omega))) | fail)
    all_goals first | (exfalso; omega) | exact RPS.bad w0 L 2 (sei _ _ _)
  obtain ⟨k, rfl⟩ : ∃ k : Nat, i = k := ⟨i.toNat, by omega⟩
  have hk : k < ss.length := by omega
  have eT : turnO (shl ss) (k : Int) q [] = if (q k).2.2 = 0 then ((shl ss).set k (q k).1, (q k).2.1, 0) else ([], [], (q k).2.2) := by
    unfold turnO
    rw [if_pos (by rw [shl_length]; exact hi), Int.toNat_natCast]
  have e' := shs_e1 k hk
  have hpos := h.pos k hk
  haveI := hv.at k hk
  haveI := hv.at2 k hk
  have hqk := hq k hk rfl
  rw [eT]
  generalize q k = Q at *
  obtain ⟨Q1, Q2, Q3⟩ := Q
  dsimp only at eT ⊢
  repeat' (first | (refine goN ?_; intros) | (refine goCC ?_ ?_ <;> (intro hb; (try simp only [hSQ] at hb); try (exfalso; omega))) | fail)
  all_goals first | (exfalso; omega) | skip
  refine vl_o rfl (vo_callV rfl rfl rfl ?_)
  refine vc_mono hqk ?_
  rintro v L' ⟨a1, c1, ms, b1, d1, rfl, hms, hmo, rfl⟩
  dsimp only at hms ⊢
  by_cases he : Q3 = 0
  rotate_left
  · rw [if_neg he]
    repeat' (first | (refine go1 ?_; intros) | (refine goCC ?_ ?_ <;> (intro hb; (try simp only [hSQ] at hb); try (exfalso; omega))) | fail)
    all_goals first | exact RPS.bad w0 L Q3 (sei _ _ _) | (exfalso; omega)
  subst he
  rw [if_pos rfl]
  repeat' (first | (refine go1 ?_; intros) | (refine goCC ?_ ?_ <;> (intro hb; (try simp only [hSQ] at hb); try (exfalso; omega))) | fail)
  all_goals first | (exfalso; omega) | skip
  refine vl_o rfl (vo_call rfl rfl ?_)
  refine vc_mono (ptwin21_vc w0 _ a c ss rfl h) ?_
  rintro v L' ⟨a2, c2, ts, rfl, hts, rfl⟩
  have hto := h.of_shl hts
  have htl := shl_len hts
  have hkt : k < ts.length := by omega
  have htc := shs_len ts
  have hpos2 := hto.pos k hkt
  have hset := shc_set ts hkt ⟨a1, c1, ms⟩
  dsimp only at hset
  repeat' (first | (refine go1 ?_; intros) | (refine goCC ?_ ?_ <;> (intro hb; (try simp only [hSQ] at hb); try (exfalso; omega))) | fail)
  rename_i g10
  rw [hset]
  refine ⟨ownSs a2 c2 (ts.set k ⟨a1, c1, ms⟩) :: shA (ts.set k ⟨a1, c1, ms⟩) :: ownTs b1 d1 Q2 :: L, ?_, a2, c2, ts.set k ⟨a1, c1, ms⟩, b1, d1, ?_, ?_, hto.set k hmo, rfl⟩
  · unfold ownSs
    rw [List.length_set]
    exact (sei w0 _ (ownLs a1 c1 ms :: tsA ms :: shA ts :: own 64 1 a2 ts.length c2 (shc (ts.set k ⟨a1, c1, ms⟩)) :: ownTs b1 d1 Q2 :: L)).trans (((se_shA_set ts hkt ⟨a1, c1, ms⟩ _).ent w0).trans (sei w0 _ _))
  · rw [List.length_set]
  · rw [shl_set, hms, hts]
end Go.Proofs.YtcpndfffdbogbaaDoor
namespace Go.Proofs.YtcpndfffdbogbaaDoor
open Go Go.RowKit
set_option linter.unusedVariables false
set_option linter.unusedSimpArgs false
set_option linter.unusedSectionVars false
open Classical

set_option maxRecDepth 100000 in
set_option maxHeartbeats 2000000 in
theorem psub1_vc (w0 : World) (L : List Asn) [hK : RdA w0 (some ⟨0, 0, none⟩) (wds K64)] (gc ga gf gx gt : Nat) (fs ts : List Value) (s : Sh) (h : LsOk s.ls) (h9 : s.ls.length ≤ 900000) (cap : Int) (K bal : Nat) (hKl : K < 18446744073709551616) (x : Tx) (hx : x.ok) [hr : RdC w0 L s.a (lnc s.ls)] [hv : RdLs w0 L s.ls] :
    VC Tryd.prog w0 22 ([.agg #[.slice s.a s.ls.length s.c]] ++ #[Value.pointer (some ⟨gc, 0, none⟩), .pointer (some ⟨ga, 0, none⟩), .pointer (some ⟨gx, 0, none⟩)].toList) (blk ga 57 [.int .u64 K, .int .u64 bal] :: blk gf 36 fs :: blk gx 39 x.cells :: blk gt 24 ts :: blk gc 3 [.int .i64 cap] :: L) (RSub (submitS (lls s.ls) cap K x) (blk ga 57 [.int .u64 K, .int .u64 bal] :: blk gf 36 fs :: blk gx 39 x.cells :: blk gt 24 ts :: blk gc 3 [.int .i64 cap] :: L)) := by
  have hlen := h.len
  have hxl := Tx.len hx
  haveI oxc : OC x.cells := oc_tx _
  refine vc_ent ?_
  refine vc_in rfl rfl ?_
  obtain ⟨xc, hxc⟩ : ∃ xc, xc = x.cells := ⟨_, rfl⟩
  rw [← hxc] at hxl oxc ⊢
  repeat' (first | (refine go1 ?_; intros) | (refine goCC ?_ ?_ <;> (intro hb; (try simp only [hSQ] at hb); try (exfalso; omega))) | fail)
  refine vl_o rfl (vo_call rfl rfl ?_)
  rw [hxc]
  refine vc_mono (ssubmit_vc w0 _ s.a s.c s.ls cap K x rfl h h9 hx hKl) ?_
  rintro v L' ⟨a1, c1, ms, b1, d1, rfl, hms, hmo, rfl⟩
  rw [← hxc]
  generalize submitS (lls s.ls) cap K x = q at *
  repeat' (first | (refine go1 ?_; intros) | (refine goCC ?_ ?_ <;> (intro hb; (try simp only [hSQ] at hb); try (exfalso; omega))) | fail)
  exact ⟨_, sei w0 _ (ownLs a1 c1 ms :: tsA ms :: ownTs b1 d1 q.2.1 :: blk ga 57 [.int .u64 K, .int .u64 bal] :: blk gf 36 fs :: blk gx 39 xc :: blk gt 24 ts :: blk gc 3 [.int .i64 cap] :: L), a1, c1, ms, b1, d1, rfl, hms, hmo, rfl⟩
set_option maxRecDepth 100000 in
set_option maxHeartbeats 4000000 in
theorem psubmit_vc (w0 : World) (L : List Asn) [hK : RdA w0 (some ⟨0, 0, none⟩) (wds K64)] (a : Option Addr) (c : Nat) (ss : List Sh) (cap : Int) (ta : Option Addr) (tc : Nat) (ns : List Nd) (r : Int) (x : Tx) {n tn : Nat} (hn : n = ss.length) (htn : tn = ns.length) (h : SsOk ss) (h9 : ∀ s ∈ ss, s.ls.length ≤ 900000) (hok : NsOk ns) (hx : x.ok) [hr : RdC w0 L a (shc ss)] [hv : RdSs w0 L ss] [hr2 : RdC w0 L ta (ndc ns)] [hv2 : RdNs w0 L ns] :
    VC Tryd.prog w0 9 [.slice a n c, .int .i64 cap, .agg #[.slice ta tn tc, .int .i64 r], .agg x.cells.toArray] L (RPS (submitO (shl ss) ns r cap x) L) := by
  subst hn
  subst htn
  have hlen := h.len
  have hxl := Tx.len hx
  have hfl := fromT_len x
  haveI oxc : OC x.cells := oc_tx _
  refine vc_ent ?_
  refine vc_in rfl rfl ?_
  unfold submitO
  obtain ⟨xc, hxc⟩ : ∃ xc, xc = x.cells := ⟨_, rfl⟩
  rw [← hxc] at hxl oxc ⊢
  repeat' (first | (refine go1 ?_; intros) | (refine goCC ?_ ?_ <;> (intro hb; (try simp only [hSQ] at hb); try (exfalso; omega))) | fail)
  refine vl_o rfl (vo_call rfl rfl ?_)
  refine vc_mono (pasked_vc w0 _ a c ss ta tc ns r rfl rfl h hok) ?_
  rintro v L' ⟨rfl, rfl⟩
  by_cases hc : MayO (shl ss) ∧ StP ns r
  rotate_left
  · rw [if_neg hc, if_neg hc]
    repeat' (first | (refine go1 ?_; intros) | (refine goCC ?_ ?_ <;> (intro hb; (try simp only [hSQ] at hb); try (exfalso; omega))) | fail)
    all_goals first | (exfalso; omega) | exact RPS.bad w0 L 8 (sei _ _ _)
  rw [if_pos hc, if_pos hc]
  obtain ⟨hm, hst⟩ := hc
  have hlo := hm.lo
  have hhi := hm.hi
  rw [shl_length] at hlo hhi ⊢
  repeat' (first | (refine go1 ?_; intros) | (refine goCC ?_ ?_ <;> (intro hb; (try simp only [hSQ] at hb); try (exfalso; omega))) | fail)
  all_goals first | (exfalso; omega) | skip
  refine vl_o rfl (vo_call rfl rfl ?_)
  rw [hxc]
  refine vc_mono (txFrom_vc w0 _ x hx) ?_
  rintro v L' ⟨rfl, rfl⟩
  rw [← hxc, show sha (tagB 3 [x.pub]) = fromT x from rfl]
  repeat' (first | (refine go1 ?_; intros) | (refine goCC ?_ ?_ <;> (intro hb; (try simp only [hSQ] at hb); try (exfalso; omega))) | fail)
  refine vl_o rfl (vo_call rfl rfl ?_)
  refine vc_mono (pat_vc w0 _ (fromT x) ss.length hfl) ?_
  rintro v L' ⟨rfl, rfl⟩
  rw [if_pos (by omega)]
  obtain ⟨K, hKe⟩ : ∃ K, K = nonceA ns r (fromT x) := ⟨_, rfl⟩
  have hKl : K < 18446744073709551616 := by rw [hKe]; exact nonceA_lt _ _ _
  rw [← hKe]
  repeat' (first | (refine go1 ?_; intros) | (refine goCC ?_ ?_ <;> (intro hb; (try simp only [hSQ] at hb); try (exfalso; omega))) | fail)
  refine vl_o rfl (vo_call rfl rfl ?_)
  refine vc_mono (aget_vc w0 _ ta tc ns r (fromT x) rfl hok hfl) ?_
  rintro v L' ⟨rfl, rfl⟩
  rw [show (accG ns r (fromT x)).1 = K from hKe.symm]
  generalize (accG ns r (fromT x)).2 = bal at *
  generalize atP (fromT x) ss.length = at' at *
  repeat' (first | (refine go1 ?_; intros) | (refine goCC ?_ ?_ <;> (intro hb; (try simp only [hSQ] at hb); try (exfalso; omega))) | fail)
  refine vl_o rfl (vo_call rfl rfl ?_)
  rename_i gc gt gx gf ga
  refine vc_pre (L2 := blk ga 57 [.int .u64 K, .int .u64 bal] :: blk gf 36 (bvs (fromT x)) :: blk gx 39 x.cells :: blk gt 24 [.slice ta ns.length tc, .int .i64 r] :: blk gc 3 [.int .i64 cap] :: L) (by rw [← hxc]; exact sei w0 _ _) ?_
  refine vc_mono (pturned_vc w0 _ a c ss at' 22 #[Value.pointer (some ⟨gc, 0, none⟩), .pointer (some ⟨ga, 0, none⟩), .pointer (some ⟨gx, 0, none⟩)] (fun i => submitS (atC (shl ss) i) cap K x) rfl h (fun k hk hi => ?_)) ?_
  · haveI := hv.at k hk
    haveI := hv.at2 k hk
    have hk2 : k < (shl ss).length := by rw [shl_length]; exact hk
    rw [atC_eq hk2, shl_at]
    exact psub1_vc w0 L gc ga gf gx gt _ _ ss[k] (h.at k hk) (h9 _ (List.getElem_mem hk)) cap K bal hKl x hx
  rintro v L' ⟨a1, c1, ms, b1, d1, rfl, hms, hmo, rfl⟩
  generalize turnO (shl ss) at' (fun i => submitS (atC (shl ss) i) cap K x) [] = q at *
  repeat' (first | (refine go1 ?_; intros) | (refine goCC ?_ ?_ <;> (intro hb; (try simp only [hSQ] at hb); try (exfalso; omega))) | fail)
  exact ⟨_, sei w0 _ (ownSs a1 c1 ms :: shA ms :: ownTs b1 d1 q.2.1 :: L), a1, c1, ms, b1, d1, rfl, hms, hmo, rfl⟩
end Go.Proofs.YtcpndfffdbogbaaDoor
namespace Go.Proofs.YtcpndfffdbogbaaDoor
open Go Go.RowKit
set_option linter.unusedVariables false
set_option linter.unusedSimpArgs false
set_option linter.unusedSectionVars false
open Classical

theorem keys_set {cs : List LC} {o : List UInt8} {xs : List Tx} {c : LC} (h : c ∈ setC cs o xs) : c.1 = o ∨ c ∈ cs := by
  unfold setC at h
  rcases List.mem_append.1 h with h | h
  · exact .inr (mem_lowC.1 h).1
  rcases List.mem_append.1 h with h | h
  · exact .inl (by rw [(mem_ownC.1 h).2])
  · exact .inr (mem_highC.1 h).1
/-- Two pools are the same but for a shard, and the first is a pool. -/
structure Apart (cs zs : PC) (i : Int) : Prop where
  len : zs.length = cs.length
  may : MayO zs
  same : ∀ j (h1 : j < zs.length) (h2 : j < cs.length), (j : Int) ≠ i → zs[j] = cs[j]
end Go.Proofs.YtcpndfffdbogbaaDoor
namespace Go.Proofs.YtcpndfffdbogbaaDoor
open Go Go.RowKit
set_option linter.unusedVariables false
set_option linter.unusedSimpArgs false
set_option linter.unusedSectionVars false
open Classical

/-- What is told of a transaction put into a sender's line, with room. -/
def lineS (xs : List Tx) (n : Nat) (x : Tx) : List Tx × Int :=
  if x.sign = sgn x then
    if x.nonce < n then ([], 200)
    else if 16 ≤ x.nonce - n ∨ x.nonce = 18446744073709551615 then ([], 201)
    else match atT xs x.nonce with
      | some y => if x.fee ≤ y.fee then ([], 190) else ([y], 0)
      | none => if 256 ≤ xs.length then ([], 9) else ([], 0)
  else ([], 110)
theorem submitC_room {cs : List LC} {cap : Int} {n : Nat} {x : Tx} (h : (cntC cs : Int) < cap) : (submitC cs cap n x).2 = lineS (lineC cs (fromT x)) n x ∧ ((submitC cs cap n x).2.2 = 0 → (submitC cs cap n x).1 = setC cs (fromT x) (withT (lineC cs (fromT x)) x)) := by
  unfold submitC lineS
  rw [if_pos h]
  generalize setC cs (fromT x) (withT (lineC cs (fromT x)) x) = Z
  generalize atT (lineC cs (fromT x)) x.nonce = A
  by_cases h1 : x.sign = sgn x
  rotate_left
  · rw [if_neg h1, if_neg h1]
    exact ⟨rfl, fun e => absurd e (show ¬ (110 : Int) = 0 by decide)⟩
  rw [if_pos h1, if_pos h1]
  by_cases h2 : x.nonce < n
  · rw [if_pos h2, if_pos h2]
    exact ⟨rfl, fun e => absurd e (show ¬ (200 : Int) = 0 by decide)⟩
  rw [if_neg h2, if_neg h2]
  by_cases h3 : 16 ≤ x.nonce - n ∨ x.nonce = 18446744073709551615
  · rw [if_pos h3, if_pos h3]
    exact ⟨rfl, fun e => absurd e (show ¬ (201 : Int) = 0 by decide)⟩
  rw [if_neg h3, if_neg h3]
  cases A with
  | some y =>
    dsimp only
    by_cases h4 : x.fee ≤ y.fee
    · rw [if_pos h4, if_pos h4]
      exact ⟨rfl, fun e => absurd e (show ¬ (190 : Int) = 0 by decide)⟩
    · rw [if_neg h4, if_neg h4]
      exact ⟨rfl, fun _ => rfl⟩
  | none =>
    dsimp only
    by_cases h4 : 256 ≤ (lineC cs (fromT x)).length
    · rw [if_pos h4, if_pos h4]
      exact ⟨rfl, fun e => absurd e (show ¬ (9 : Int) = 0 by decide)⟩
    · rw [if_neg h4, if_neg h4]
      exact ⟨rfl, fun _ => rfl⟩
def cntO (cs : PC) : Nat := (cs.map cntC).sum
theorem cntO_shl (ss : List Sh) : cntO (shl ss) = cntS ss := by
  unfold cntO cntS shl
  rw [List.map_map]
  congr 1
  refine List.map_congr_left fun s _ => ?_
  exact (cntL_lls s.ls).symm
theorem sum_set {cs : PC} {i : Nat} (hi : i < cs.length) (z : List LC) : cntO (cs.set i z) + cntC cs[i] = cntO cs + cntC z := by
  unfold cntO
  induction cs generalizing i with
  | nil => exact absurd hi (by simp)
  | cons c cs ih =>
    cases i with
    | zero =>
      simp only [List.set_cons_zero, List.map_cons, List.sum_cons, List.getElem_cons_zero]
      omega
    | succ i =>
      have := ih (i := i) (by simpa using hi)
      simp only [List.set_cons_succ, List.map_cons, List.sum_cons, List.getElem_cons_succ]
      omega
theorem cnt_le {cs : PC} {i : Nat} (hi : i < cs.length) : cntC cs[i] ≤ cntO cs := by
  have h := sum_set hi []
  have : cntC [] = 0 := rfl
  omega
theorem atC_set {cs : PC} {i j : Nat} (hi : i < cs.length) (z : List LC) : atC (cs.set i z) j = if i = j then z else atC cs j := by
  unfold atC
  rw [List.getElem?_set]
  split
  · rename_i e
    subst e
    first | rfl | (rw [if_pos hi]; rfl)
  · rfl
/-- Two pools, one of so many shards and one of one, that have the same of every sender. -/
structure Any (cs : PC) (bs : List LC) (k : Nat) : Prop where
  mayA : MayO cs
  mayB : MayO [bs]
  k2A : ∀ c ∈ cs, K2 c
  k2B : K2 bs
  line : ∀ o : List UInt8, o.length = 32 → lineC (atC cs (atN o cs.length)) o = lineC bs o
  cnt : cntO cs = cntC bs
  few : cntC bs ≤ k
theorem atP_one (k : List UInt8) : atP k 1 = 0 := by
  have := atP_lt k (m := 1) (by decide)
  omega
theorem mayO_one {bs : List LC} (h : MayC bs) : MayO [bs] := ⟨by simp, by simp, fun i hi => by
  obtain rfl : i = 0 := by simpa using hi
  exact ⟨h, fun c _ => atP_one _⟩⟩
theorem mayO_zero {n : Nat} (h1 : 1 ≤ n) (h8 : n ≤ 8) : MayO (List.replicate n []) := ⟨by simpa using h1, by simpa using h8, fun i hi => by
  rw [List.getElem_replicate]
  exact ⟨⟨fun _ h => (by cases h), fun _ h => (by cases h), List.Pairwise.nil⟩, fun _ h => (by cases h)⟩⟩
theorem any_zero {n : Nat} (h1 : 1 ≤ n) (h8 : n ≤ 8) : Any (List.replicate n []) [] 0 where
  mayA := mayO_zero h1 h8
  mayB := mayO_one ⟨fun _ h => (by cases h), fun _ h => (by cases h), List.Pairwise.nil⟩
  k2A := fun c hc => by
    rw [List.eq_of_mem_replicate hc]
    exact fun _ h => (by cases h)
  k2B := fun _ h => (by cases h)
  line := fun o ho => by
    unfold atC
    rw [List.getElem?_replicate]
    split <;> rfl
  cnt := by
    unfold cntO
    rw [List.map_replicate]
    show (List.replicate n 0).sum = 0
    simp
  few := Nat.le_refl 0
theorem any_step {cs : PC} {bs : List LC} {k : Nat} (h : Any cs bs k) {ns : List Nd} {r : Int} (hst : StP ns r) {cap : Int} (hk : (k : Int) < cap) (x : Tx) : (submitO cs ns r cap x).2 = (submitO [bs] ns r cap x).2 ∧ ((submitO cs ns r cap x).2.2 = 0 → ∃ bz, (submitO [bs] ns r cap x).1 = [bz] ∧ (submitO cs ns r cap x).1.length = cs.length ∧ Any (submitO cs ns r cap x).1 bz (k + 1)) := by
  have hl := fromT_len x
  have hi := atN_lt (fromT x) h.mayA.lo
  have hic := atN_cast (fromT x) h.mayA.lo
  obtain ⟨hm, ho⟩ := h.mayA.at' _ hi
  obtain ⟨hmb, _⟩ := h.mayB.at' 0 (by simp)
  have hmb : MayC bs := hmb
  have hle := cnt_le hi
  have hcA : (cntC cs[atN (fromT x) cs.length] : Int) < cap := by have := h.cnt; have := h.few; omega
  have hcB : (cntC bs : Int) < cap := by have := h.few; omega
  obtain ⟨a1, a2⟩ := submitC_room (n := nonceA ns r (fromT x)) (x := x) hcA
  obtain ⟨b1, b2⟩ := submitC_room (n := nonceA ns r (fromT x)) (x := x) hcB
  have hline := h.line _ hl
  rw [atC_eq hi] at hline
  have eA : submitS (atC cs (atN (fromT x) cs.length)) cap (nonceA ns r (fromT x)) x = submitC cs[atN (fromT x) cs.length] cap (nonceA ns r (fromT x)) x := by
    rw [atC_eq hi]
    exact if_pos hm
  have eB : submitS (atC [bs] 0) cap (nonceA ns r (fromT x)) x = submitC bs cap (nonceA ns r (fromT x)) x := if_pos hmb
  have hsA : submitO cs ns r cap x = if (submitC cs[atN (fromT x) cs.length] cap (nonceA ns r (fromT x)) x).2.2 = 0 then (cs.set (atN (fromT x) cs.length) (submitC cs[atN (fromT x) cs.length] cap (nonceA ns r (fromT x)) x).1, (submitC cs[atN (fromT x) cs.length] cap (nonceA ns r (fromT x)) x).2.1, 0) else ([], [], (submitC cs[atN (fromT x) cs.length] cap (nonceA ns r (fromT x)) x).2.2) := by
    have e1 : submitO cs ns r cap x = turnO cs (atP (fromT x) cs.length) (fun i => submitS (atC cs i) cap (nonceA ns r (fromT x)) x) [] := if_pos ⟨h.mayA, hst⟩
    rw [e1, ← eA]
    unfold turnO
    rw [← hic, if_pos (by omega), Int.toNat_natCast]
  have hsB : submitO [bs] ns r cap x = if (submitC bs cap (nonceA ns r (fromT x)) x).2.2 = 0 then ([(submitC bs cap (nonceA ns r (fromT x)) x).1], (submitC bs cap (nonceA ns r (fromT x)) x).2.1, 0) else ([], [], (submitC bs cap (nonceA ns r (fromT x)) x).2.2) := by
    have e1 : submitO [bs] ns r cap x = turnO [bs] (atP (fromT x) ([bs] : PC).length) (fun i => submitS (atC [bs] i) cap (nonceA ns r (fromT x)) x) [] := if_pos ⟨h.mayB, hst⟩
    rw [e1, ← eB, show (([bs] : PC).length : Int) = 1 from rfl, atP_one]
    rfl
  rw [hsA, hsB]
  rw [hline] at a1 a2
  have k2i := h.k2A _ (List.getElem_mem hi)
  have kA := submitC_kept (cap := cap) (nonce := nonceA ns r (fromT x)) (x := x) hm k2i
  have kB := submitC_kept (cap := cap) (nonce := nonceA ns r (fromT x)) (x := x) hmb h.k2B
  rw [a1] at kA a2 ⊢
  rw [b1] at kB b2 ⊢
  generalize lineS (lineC bs (fromT x)) (nonceA ns r (fromT x)) x = q at *
  by_cases hq : q.2 = 0
  rotate_left
  · rw [if_neg hq, if_neg hq]
    exact ⟨rfl, fun e => absurd e hq⟩
  rw [if_pos hq, if_pos hq]
  have a2 := a2 hq
  have b2 := b2 hq
  have kA := kA hq
  have kB := kB hq
  refine ⟨rfl, fun _ => ⟨(submitC bs cap (nonceA ns r (fromT x)) x).1, rfl, List.length_set, ?_⟩⟩
  dsimp only
  rw [a2, b2]
  rw [a2] at kA
  rw [b2] at kB
  generalize withT (lineC bs (fromT x)) x = W at *
  have e1 := cntC_set hm.srt k2i hl hm.ne W
  have e2 := cntC_set hmb.srt h.k2B hl hmb.ne W
  have e3 := sum_set hi (setC cs[atN (fromT x) cs.length] (fromT x) W)
  rw [hline] at e1
  have hcnt := h.cnt
  have hfew := h.few
  exact {
    mayA := h.mayA.set hi kA.may (fun c hc => by
      rcases keys_set hc with e | e
      · rw [e, hic]
      · exact ho c e)
    mayB := mayO_one kB.may
    k2A := fun c hc => by
      rcases List.mem_or_eq_of_mem_set hc with hc | rfl
      · exact h.k2A c hc
      · exact kA.k2
    k2B := kB.k2
    line := fun o hol => by
      rw [List.length_set, atC_set hi]
      by_cases e : atN (fromT x) cs.length = atN o cs.length
      · rw [if_pos e]
        by_cases eo : o = fromT x
        · subst eo
          rw [lineC_set hm.srt k2i hol, lineC_set hmb.srt h.k2B hol]
        · rw [lineC_set_ne hm.srt k2i hl W eo, lineC_set_ne hmb.srt h.k2B hl W eo]
          have := h.line o hol
          rw [← e, atC_eq hi] at this
          exact this
      · rw [if_neg e]
        have eo : o ≠ fromT x := fun f => e (by rw [f])
        rw [lineC_set_ne hmb.srt h.k2B hl W eo]
        exact h.line o hol
    cnt := by omega
    few := by have := kB.cnt; omega }
/-- A sender's line, wherever it stands. -/
theorem lineC_flat {cs : PC} (h : MayO cs) {o : List UInt8} : lineC cs.flatten o = lineC (atC cs (atN o cs.length)) o := by
  have hi := atN_lt o h.lo
  have hic := atN_cast o h.lo
  rw [atC_eq hi]
  cases hf : cs.flatten.find? (fun c => decide (c.1 = o)) with
  | none =>
    have h1 := List.find?_eq_none.1 hf
    rw [lineC_none (cs := cs[atN o cs.length]) (fun j hj => by simpa using h1 _ (List.mem_flatten.2 ⟨_, List.getElem_mem hi, List.getElem_mem hj⟩))]
    unfold lineC
    rw [hf]
    rfl
  | some y =>
    have h1 := List.mem_of_find?_eq_some hf
    have h2 : y.1 = o := by simpa using List.find?_some hf
    obtain ⟨l, hl, hy⟩ := List.mem_flatten.1 h1
    obtain ⟨i, hil, rfl⟩ := List.getElem_of_mem hl
    obtain ⟨hm, ho⟩ := h.at' i hil
    have h3 := ho y hy
    rw [h2, ← hic] at h3
    have h4 : atN o cs.length = i := by omega
    have h5 : lineC cs.flatten o = y.2 := by
      unfold lineC
      rw [hf]
      rfl
    have h6 : (o, y.2) ∈ cs[i] := by rw [← h2]; exact hy
    rw [h5, (lineC_mem hm.srt h6).symm]
    simp only [h4]
end Go.Proofs.YtcpndfffdbogbaaDoor

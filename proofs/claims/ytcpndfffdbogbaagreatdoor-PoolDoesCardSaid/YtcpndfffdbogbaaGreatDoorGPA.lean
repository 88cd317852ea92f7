/-
  Pools: shards, one behind the other; a key's shard; empty pools. Pools: how great one is, how many transactions it has, twins, whether two are the same. Whether shards are a pool. What a pool tells: the statement's law. Pools, plainly: a shard turned; what Submit, Draw and Back tell. Pools: whether a pool and a state may be asked; a pool with one shard turned. Pools: a transaction is submitted; a shard is drawn. Pools: what goes back to a shard.
-/
import Derived.Test.YtcpndfffdbogbaaGreatDoorGS
import Derived.Test.YtcpndfffdbogbaaGreatDoorGU
set_option linter.unusedVariables false
set_option linter.unusedSimpArgs false
set_option linter.unusedSectionVars false
set_option maxRecDepth 100000
set_option maxHeartbeats 4000000
namespace Go.Proofs.YtcpndfffdbogbaaGreatDoor
open Go Go.RowKit
open Classical

/-- A shard's content. -/
structure Sh where
  a : Option Addr
  c : Nat
  ls : List Ln
def Sh.cells (s : Sh) : List Value := [.slice s.a s.ls.length s.c]
abbrev shc (ss : List Sh) : List Value := flat Sh.cells ss
structure SsOk (ss : List Sh) : Prop where
  ok : ∀ s ∈ ss, LsOk s.ls
  len : ss.length ≤ 1000000
abbrev shl (ss : List Sh) : List (List (List UInt8 × List Tx)) := ss.map fun s => lls s.ls
theorem shs_wide (ss : List Sh) : Wide Sh.cells 1 ss := fun _ _ => rfl
theorem shs_len (ss : List Sh) : (shc ss).length = ss.length := by rw [show shc ss = flat Sh.cells ss from rfl, (shs_wide ss).len, Nat.mul_one]
theorem shs_at {ss : List Sh} (k : Nat) (hk : k < ss.length) : (shc ss)[k]? = some (.slice ss[k].a ss[k].ls.length ss[k].c) := by
  have := (shs_wide ss).cell k hk 0 (by decide)
  rw [Nat.mul_one, Nat.add_zero] at this
  rw [this]; rfl
section
variable {ss : List Sh}
theorem SsOk.at (h : SsOk ss) (k : Nat) (hk : k < ss.length) : LsOk (ss[k]).ls := h.ok _ (List.getElem_mem hk)
theorem SsOk.e (h : SsOk ss) (k : Nat) (hk : k < ss.length) : ((shc ss).drop (k * 1)).take 1 = [.slice ss[k].a ss[k].ls.length ss[k].c] := (shs_wide ss).at k hk
theorem shs_e1 (k : Nat) (hk : k < ss.length) : ((shc ss).drop k).take 1 = [.slice ss[k].a ss[k].ls.length ss[k].c] := by
  have := (shs_wide ss).at k hk
  rw [Nat.mul_one] at this
  exact this
theorem SsOk.pos (h : SsOk ss) (k : Nat) (hk : k < ss.length) : 0 < (shc ss).length := by rw [shs_len]; omega
end
theorem SsOk.sub {ss ts : List Sh} (h : SsOk ss) (hs : ∀ p ∈ ts, p ∈ ss) (hl : ts.length ≤ ss.length) : SsOk ts := ⟨fun p hp => h.ok p (hs p hp), by have := h.len; omega⟩
theorem shl_len {ss ts : List Sh} (h : shl ss = shl ts) : ss.length = ts.length := by simpa using congrArg List.length h
theorem shl_get {ms ns : List Sh} (h : shl ms = shl ns) {i : Nat} (hm : i < ms.length) (hn : i < ns.length) : lls ms[i].ls = lls ns[i].ls := by
  have h1 : (shl ms)[i]? = (shl ns)[i]? := by rw [h]
  rw [List.getElem?_map, List.getElem?_map, List.getElem?_eq_getElem hm, List.getElem?_eq_getElem hn] at h1
  exact Option.some.inj h1
theorem shl_step {ms ns : List Sh} {i : Nat} (hm : i < ms.length) (hn : i < ns.length) (he : (shl ms).take i = (shl ns).take i) (h : lls ms[i].ls = lls ns[i].ls) : (shl ms).take (i + 1) = (shl ns).take (i + 1) := by
  rw [List.take_succ_eq_append_getElem (by simpa using hm), List.take_succ_eq_append_getElem (by simpa using hn), he, List.getElem_map, List.getElem_map, h]
theorem SsOk.of_shl {ms ss : List Sh} (h : SsOk ss) (e : shl ms = shl ss) : SsOk ms := by
  have hl := shl_len e
  refine ⟨fun p hp => ?_, by have := h.len; omega⟩
  obtain ⟨i, hi, rfl⟩ := List.getElem_of_mem hp
  exact (h.at i (by omega)).of_lls (shl_get e hi (by omega))
/-- Their lines can be read. -/
class RdSs (w0 : World) (L : List Asn) (ss : List Sh) : Prop where
  out : ∀ s ∈ ss, RdC w0 L s.a (lnc s.ls) ∧ RdLs w0 L s.ls
instance (priority := 50) rdSs_cons (w0 : World) (A : Asn) (L : List Asn) (ss : List Sh) [h : RdSs w0 L ss] : RdSs w0 (A :: L) ss := ⟨fun p hp => by
    obtain ⟨h1, h2⟩ := h.out p hp
    exact ⟨inferInstance, inferInstance⟩⟩
theorem RdSs.at {w0 : World} {L : List Asn} {ss : List Sh} (h : RdSs w0 L ss) (k : Nat) (hk : k < ss.length) : RdC w0 L (ss[k]).a (lnc (ss[k]).ls) := (h.out _ (List.getElem_mem hk)).1
theorem RdSs.at2 {w0 : World} {L : List Asn} {ss : List Sh} (h : RdSs w0 L ss) (k : Nat) (hk : k < ss.length) : RdLs w0 L (ss[k]).ls := (h.out _ (List.getElem_mem hk)).2
def sh2 (ss : List Sh) : List Asn := ss.flatMap fun s => [ownLs s.a s.c s.ls, tsA s.ls]
/-- All lines and transactions of the call's own. -/
def shA (ss : List Sh) : Asn := bundle (sh2 ss)
theorem se_shA_nil (L : List Asn) : SE L (shA [] :: L) := se_bundle [] L
theorem se_shA_snoc (ss : List Sh) (L : List Asn) (s : Sh) : SE (ownLs s.a s.c s.ls :: tsA s.ls :: shA ss :: L) (shA (ss ++ [s]) :: L) := by
  have h1 : (ownLs s.a s.c s.ls :: tsA s.ls :: sh2 ss).Perm (sh2 (ss ++ [s])) := by
    unfold sh2
    rw [List.flatMap_append]
    exact List.perm_append_comm (l₁ := [ownLs s.a s.c s.ls, tsA s.ls])
  exact (SE.cons _ (SE.cons _ (se_unbundle _ L))).trans ((se_perm (h1.append_right L)).trans (se_bundle _ L))
class HasSh (L : List Asn) (ss : List Sh) : Prop where
  out : ∃ i : Nat, L[i]? = some (shA ss)
instance hasSh_zero (L : List Asn) (ss : List Sh) : HasSh (shA ss :: L) ss := ⟨0, rfl⟩
instance (priority := low) hasSh_succ (P : Asn) (L : List Asn) (ss : List Sh) [h : HasSh L ss] : HasSh (P :: L) ss := ⟨by obtain ⟨i, hi⟩ := h.out; exact ⟨i + 1, by simpa using hi⟩⟩
instance rdSs_own (w0 : World) (L : List Asn) (ss : List Sh) [h : HasSh L ss] : RdSs w0 L ss := ⟨fun s hs => by
  obtain ⟨i, hi⟩ := h.out
  have m1 : ownLs s.a s.c s.ls ∈ sh2 ss := List.mem_flatMap.2 ⟨s, hs, by simp⟩
  have m2 : tsA s.ls ∈ sh2 ss := List.mem_flatMap.2 ⟨s, hs, by simp⟩
  refine ⟨⟨fun w hw => hw.know i hi (fun F hF => ?_)⟩, ⟨fun l hl => ⟨fun w hw => hw.know i hi (fun F hF => ?_)⟩⟩⟩
  · obtain ⟨G, hG⟩ := SLs.mem (P := ownLs s.a s.c s.ls) hF m1
    exact own.rc hG
  · obtain ⟨G, hG⟩ := SLs.mem (P := tsA s.ls) hF m2
    obtain ⟨G2, hG2⟩ := SLs.mem (P := ownTs l.a l.c l.xs) hG (List.mem_map.2 ⟨l, hl, rfl⟩)
    exact own.rc hG2⟩
abbrev ownSs (a : Option Addr) (cap : Nat) (ss : List Sh) : Asn := own 24 1 a ss.length cap (shc ss)
theorem ownSs_snoc (a : Option Addr) (c : Nat) (ss : List Sh) (s : Sh) : ownSs a c (ss ++ [s]) = own 24 1 a (ss.length + 1) c (shc ss ++ s.cells) := by
  unfold ownSs shc
  rw [flat_snoc, List.length_append]
  rfl
theorem se_ss_nil (L : List Asn) : SE L (ownSs none 0 [] :: shA [] :: L) := (se_shA_nil L).trans (se_own_nil 24 1 _)
/-- What is told of a pool: its memory is new. -/
def RPo (L : List Asn) (ss : List Sh) (v : Value) (L' : List Asn) : Prop := ∃ a c ts, v = .slice a ts.length c ∧ shl ts = shl ss ∧ L' = ownSs a c ts :: shA ts :: L
/-- A key's shard, of so many. -/
def atP (k : List UInt8) (m : Int) : Int := ((k.getD 31 0).toNat : Int).tmod m
theorem pat_vc (w0 : World) (L : List Asn) (k : List UInt8) (m : Int) (hk : k.length = 32) :
    VC Tryz.prog w0 26 [.agg (bvs k).toArray, .int .i64 m] L fun v L' => v = (if 1 ≤ m ∧ m ≤ 8 then .tuple #[.int .i64 (atP k m), .int .i64 0] else .tuple #[.int .i64 0, .int .i64 2]) ∧ L' = L := by
  have h31 : (bvs k)[0 + 31 * 1]? = some (.int .u8 ((k.getD 31 0).toNat : Nat)) := by
    have := bvs_at k 31 (by omega)
    rw [show k.getD 31 0 = k[31]'(by omega) by rw [List.getD_eq_getElem?_getD, List.getElem?_eq_getElem (by omega)]; rfl]
    simpa using this
  have h31' : (bvs k)[31]? = some (.int .u8 ((k.getD 31 0).toNat : Nat)) := by simpa using h31
  have hb := (k.getD 31 0).toNat_lt
  have hp : 0 < (bvs k).length := by rw [bvs_length]; omega
  unfold atP
  generalize (k.getD 31 0).toNat = B at *
  refine vc_ent ?_
  refine vc_in rfl rfl ?_
  by_cases h : 1 ≤ m ∧ m ≤ 8
  · rw [if_pos h]
    repeat' (first | (refine go1 ?_; intros) | (refine goCC ?_ ?_ <;> (intro hb; (try simp only [hSQ] at hb); try (exfalso; omega))) | fail)
    all_goals first | (exfalso; omega) | skip
    refine vl_q rfl rfl rfl rfl (vq_rem rfl rfl (by omega) rfl) ?_
    repeat' (first | (refine go1 ?_; intros) | (refine goCC ?_ ?_ <;> (intro hb; (try simp only [hSQ] at hb); try (exfalso; omega))) | fail)
    exact ⟨L, sei _ _ _, rfl, rfl⟩
  · rw [if_neg h]
    repeat' (first | (refine go1 ?_; intros) | (refine goCC ?_ ?_ <;> (intro hb; (try simp only [hSQ] at hb); try (exfalso; omega))) | fail)
    all_goals first | (exfalso; omega) | exact ⟨L, sei _ _ _, rfl, rfl⟩
theorem rof21_vc (w0 : World) (L : List Asn) (k : List UInt8) (m : Int) (hk : k.length = 32) (hm : 1 ≤ m) :
    VC Tryz.prog w0 100 [.agg (bvs k).toArray, .int .i64 m] L fun v L' => v = .int .i64 (atP k m) ∧ L' = L := by
  have h31' : (bvs k)[31]? = some (.int .u8 ((k.getD 31 0).toNat : Nat)) := by
    have := bvs_at k 31 (by omega)
    rw [show k.getD 31 0 = k[31]'(by omega) by rw [List.getD_eq_getElem?_getD, List.getElem?_eq_getElem (by omega)]; rfl]
    simpa using this
  have hb := (k.getD 31 0).toNat_lt
  have hp : 0 < (bvs k).length := by rw [bvs_length]; omega
  unfold atP
  generalize (k.getD 31 0).toNat = B at *
  refine vc_ent ?_
  refine vc_in rfl rfl ?_
  repeat' (first | (refine go1 ?_; intros) | (refine goCC ?_ ?_ <;> (intro hb; (try simp only [hSQ] at hb); try (exfalso; omega))) | fail)
  refine vl_q rfl rfl rfl rfl (vq_rem rfl rfl (by omega) rfl) ?_
  repeat' (first | (refine go1 ?_; intros) | (refine goCC ?_ ?_ <;> (intro hb; (try simp only [hSQ] at hb); try (exfalso; omega))) | fail)
  exact ⟨L, sei _ _ _, rfl, rfl⟩
end Go.Proofs.YtcpndfffdbogbaaGreatDoor
namespace Go.Proofs.YtcpndfffdbogbaaGreatDoor
open Go Go.RowKit
open Classical

/-! ### Twins -/
theorem shl_snoc {ss ts : List Sh} {i : Nat} (hi : i < ss.length) (hp : shl ts = (shl ss).take i) (s : Sh) (hs : lls s.ls = lls ss[i].ls) : shl (ts ++ [s]) = (shl ss).take (i + 1) := by
  show List.map _ (ts ++ [s]) = _
  rw [List.map_append, show List.map (fun s : Sh => lls s.ls) ts = shl ts from rfl, hp, List.take_succ_eq_append_getElem (by simpa using hi), List.getElem_map]
  simp [hs]
theorem rtwin21_vc (w0 : World) (L : List Asn) (a : Option Addr) (c : Nat) (ss : List Sh) {n : Nat} (hn : n = ss.length) (h : SsOk ss) [hr : RdC w0 L a (shc ss)] [hv : RdSs w0 L ss] :
    VC Tryz.prog w0 17 [.slice a n c] L (RPo L ss) := by
  subst hn
  have hlen := h.len
  refine vc_ent ?_
  refine vc_in rfl rfl ?_
  repeat' (first | (refine go1 ?_; intros) | (refine goCC ?_ ?_ <;> (intro hb; (try simp only [hSQ] at hb); try (exfalso; omega))) | fail)
  refine v_loopF (List Sh × Option Addr × Nat) [0] rfl (fun x => [(4, .int .i64 x.1.length), (3, .slice x.2.1 x.1.length x.2.2)]) (fun _ x => ownSs x.2.1 x.2.2 x.1 :: shA x.1 :: L) (fun x => x.1.length ≤ ss.length ∧ shl x.1 = (shl ss).take x.1.length) (fun x => ss.length - x.1.length) ([], none, 0) ⟨Nat.zero_le _, by simp⟩ (by (exact sbS)) ((se_ss_nil L).ent w0) ?_
  rintro ⟨ts, a', c'⟩ ⟨hi, hp⟩
  dsimp only at hi hp ⊢
  obtain ⟨i, hni⟩ : ∃ i, i = ts.length := ⟨_, rfl⟩
  rw [← hni] at hi hp
  by_cases hlt : i < ss.length
  · rw [show ownSs a' c' ts = own 24 1 a' i c' (shc ts) by rw [hni], ← hni]
    have e' := shs_e1 i hlt
    have hpos := h.pos i hlt
    haveI := hv.at i hlt
    haveI := hv.at2 i hlt
    have sok := h.at i hlt
    have htl : (shc ts).length = i := by rw [shs_len, hni]
    repeat' (first | (refine go1 ?_; intros) | (refine goCC ?_ ?_ <;> (intro hb; (try simp only [hSQ] at hb); try (exfalso; omega))) | fail)
    refine clV ?_
    refine vc_mono (rtwin20_vc w0 _ ss[i].a ss[i].c ss[i].ls rfl sok) ?_
    rintro v L' ⟨a2, c2, ms, rfl, hms, rfl⟩
    repeat' (first | (refine go1 ?_; intros) | (refine goCC ?_ ?_ <;> (intro hb; (try simp only [hSQ] at hb); try (exfalso; omega))) | fail)
    rename_i g a3 c3 _ _
    refine ⟨rfl, (ts ++ [⟨a2, c2, ms⟩], a3, c3), ⟨by simp; omega, ?_⟩, by simp; omega, ?_, ?_⟩
    · simp only [List.length_append, List.length_cons, List.length_nil, ← hni, Nat.zero_add]
      exact shl_snoc hlt hp ⟨a2, c2, ms⟩ hms
    · simp only [List.length_append, List.length_cons, List.length_nil, ← hni, Nat.zero_add]
      (exact sbS)
    · rw [ownSs_snoc, ← hni]
      simp only [List.append_nil]
      refine (sei w0 _ (ownLs a2 c2 ms :: tsA ms :: shA ts :: own 24 1 a3 (i + 1) c3 (shc ts ++ [.slice a2 ms.length c2]) :: L)).trans (((se_shA_snoc ts _ ⟨a2, c2, ms⟩).ent w0).trans ((se_swap _ _ _).ent w0))
  · have hin : i = ss.length := by omega
    repeat' (first | (refine go1 ?_; intros) | (refine goCC ?_ ?_ <;> (intro hb; (try simp only [hSQ] at hb); try (exfalso; omega))) | fail)
    exact ⟨_, Ent.refl _ _, a', c', ts, rfl, by rw [hp, List.take_of_length_le (by simp; omega)], rfl⟩
theorem ptwin21_vc (w0 : World) (L : List Asn) (a : Option Addr) (c : Nat) (ss : List Sh) {n : Nat} (hn : n = ss.length) (h : SsOk ss) [hr : RdC w0 L a (shc ss)] [hv : RdSs w0 L ss] :
    VC Tryz.prog w0 97 [.slice a n c] L (RPo L ss) := by
  subst hn
  have hlen := h.len
  refine vc_ent ?_
  refine vc_in rfl rfl ?_
  repeat' (first | (refine go1 ?_; intros) | (refine goCC ?_ ?_ <;> (intro hb; (try simp only [hSQ] at hb); try (exfalso; omega))) | fail)
  refine v_loopF (List Sh × Option Addr × Nat) [6, 7] rfl (fun x => [(8, .int .i64 x.1.length), (3, .slice x.2.1 x.1.length x.2.2)]) (fun _ x => ownSs x.2.1 x.2.2 x.1 :: shA x.1 :: L) (fun x => x.1.length ≤ ss.length ∧ shl x.1 = (shl ss).take x.1.length) (fun x => ss.length - x.1.length) ([], none, 0) ⟨Nat.zero_le _, by simp⟩ (by (exact sbS)) ((se_ss_nil L).ent w0) ?_
  rintro ⟨ts, a', c'⟩ ⟨hi, hp⟩
  dsimp only at hi hp ⊢
  obtain ⟨i, hni⟩ : ∃ i, i = ts.length := ⟨_, rfl⟩
  rw [← hni] at hi hp
  by_cases hlt : i < ss.length
  · rw [show ownSs a' c' ts = own 24 1 a' i c' (shc ts) by rw [hni], ← hni]
    have e' := shs_e1 i hlt
    have hpos := h.pos i hlt
    haveI := hv.at i hlt
    haveI := hv.at2 i hlt
    have sok := h.at i hlt
    have htl : (shc ts).length = i := by rw [shs_len, hni]
    repeat' (first | (refine go1 ?_; intros) | (refine goCC ?_ ?_ <;> (intro hb; (try simp only [hSQ] at hb); try (exfalso; omega))) | fail)
    refine clV ?_
    refine vc_mono (stwin_vc w0 _ ss[i].a ss[i].c ss[i].ls rfl sok) ?_
    rintro v L' ⟨a2, c2, ms, rfl, hms, rfl⟩
    repeat' (first | (refine go1 ?_; intros) | (refine goCC ?_ ?_ <;> (intro hb; (try simp only [hSQ] at hb); try (exfalso; omega))) | fail)
    rename_i g0 g a3 c3 _ _
    refine ⟨rfl, (ts ++ [⟨a2, c2, ms⟩], a3, c3), ⟨by simp; omega, ?_⟩, by simp; omega, ?_, ?_⟩
    · simp only [List.length_append, List.length_cons, List.length_nil, ← hni, Nat.zero_add]
      exact shl_snoc hlt hp ⟨a2, c2, ms⟩ hms
    · simp only [List.length_append, List.length_cons, List.length_nil, ← hni, Nat.zero_add]
      (exact sbS)
    · rw [ownSs_snoc, ← hni]
      simp only [List.append_nil]
      refine (sei w0 _ (ownLs a2 c2 ms :: tsA ms :: shA ts :: own 24 1 a3 (i + 1) c3 (shc ts ++ [.slice a2 ms.length c2]) :: L)).trans (((se_shA_snoc ts _ ⟨a2, c2, ms⟩).ent w0).trans ((se_swap _ _ _).ent w0))
  · have hin : i = ss.length := by omega
    repeat' (first | (refine go1 ?_; intros) | (refine goCC ?_ ?_ <;> (intro hb; (try simp only [hSQ] at hb); try (exfalso; omega))) | fail)
    exact ⟨_, Ent.refl _ _, a', c', ts, by rw [← hni, hin], by rw [hp, List.take_of_length_le (by simp; omega)], rfl⟩
/-! ### Whether two are the same -/
theorem rsame21_vc (w0 : World) (L : List Asn) (a : Option Addr) (c : Nat) (ss : List Sh) (b : Option Addr) (d : Nat) (ts : List Sh) {n m : Nat} (hn : n = ss.length) (hm : m = ts.length) (h : SsOk ss) (k : SsOk ts) [hr : RdC w0 L a (shc ss)] [hv : RdSs w0 L ss] [hr2 : RdC w0 L b (shc ts)] [hv2 : RdSs w0 L ts] :
    VC Tryz.prog w0 24 [.slice a n c, .slice b m d] L fun v L' => v = .bool (decide (shl ss = shl ts)) ∧ L' = L := by
  subst hn
  subst hm
  have hlen := h.len
  have hlen2 := k.len
  refine vc_ent ?_
  refine vc_in rfl rfl ?_
  by_cases hl : ss.length = ts.length
  rotate_left
  · repeat' (first | (refine go1 ?_; intros) | (refine goCC ?_ ?_ <;> (intro hb; (try simp only [hSQ] at hb); try (exfalso; omega))) | fail)
    all_goals first | exact ⟨L, sei _ _ _, by rw [decide_eq_false (fun e => hl (shl_len e))], rfl⟩ | (exfalso; omega)
  repeat' (first | (refine go1 ?_; intros) | (refine goCC ?_ ?_ <;> (intro hb; (try simp only [hSQ] at hb); try (exfalso; omega))) | fail)
  all_goals first | (exfalso; omega) | skip
  refine v_loopS Nat [0, 1] rfl (fun i => [(5, .int .i64 i)]) (fun i => i ≤ ss.length ∧ (shl ss).take i = (shl ts).take i) (fun i => ss.length - i) 0 ⟨Nat.zero_le _, by simp⟩ (by (exact sbS)) (fun i ⟨hi, he⟩ => ?_)
  by_cases hlt : i < ss.length
  · have hlt2 : i < ts.length := by omega
    have e1' := shs_e1 i hlt
    have e2' := shs_e1 i hlt2
    have hpos := h.pos i hlt
    have hpos2 := k.pos i hlt2
    haveI := hv.at i hlt
    haveI := hv.at2 i hlt
    haveI := hv2.at i hlt2
    haveI := hv2.at2 i hlt2
    have lok := h.at i hlt
    have kok := k.at i hlt2
    have hstep := shl_step hlt hlt2 he
    have hne : ¬ lls ss[i].ls = lls ts[i].ls → ¬ shl ss = shl ts := fun e f => e (shl_get f hlt hlt2)
    repeat' (first | (refine go1 ?_; intros) | (refine goCC ?_ ?_ <;> (intro hb; (try simp only [hSQ] at hb); try (exfalso; omega))) | fail)
    (refine v_draw0 [] (by kernel_rfl) ?_ <;> (refine tA 0 ?_) <;> (refine tA 1 ?_) <;> (refine tA 2 ?_) <;> (refine tA 3 ?_) <;> (refine tA 4 ?_) <;> (refine tA 5 ?_) <;> (refine tA 6 ?_) <;> (refine tA 7 ?_))
    first | refine va_one 8 (by kernel_rfl) rfl rfl (vo_call rfl rfl ?_) | refine va_one 8 (by kernel_rfl) rfl rfl (vo_callV rfl rfl rfl ?_)
    refine vc_mono (rsame20_vc w0 _ ss[i].a ss[i].c ss[i].ls ts[i].a ts[i].c ts[i].ls rfl rfl lok kok) ?_
    rintro v L' ⟨rfl, hL⟩
    obtain rfl := hL.symm
    by_cases hs : lls ss[i].ls = lls ts[i].ls
    · rw [decide_eq_true hs]
      refine ⟨.inr entD, ?_⟩
      ((refine tA 9 ?_) <;> (refine va_done (by kernel_rfl) ?_))
      repeat' (first | (refine go1 ?_; intros) | (refine goCC ?_ ?_ <;> (intro hb; (try simp only [hSQ] at hb); try (exfalso; omega))) | fail)
      exact ⟨rfl, i + 1, ⟨by omega, hstep hs⟩, by omega, by (exact sbS), sei _ _ _⟩
    · rw [decide_eq_false hs]
      refine ⟨.inr entD, ?_⟩
      ((refine tA 9 ?_) <;> (refine va_done (by kernel_rfl) ?_))
      repeat' (first | (refine go1 ?_; intros) | (refine goCC ?_ ?_ <;> (intro hb; (try simp only [hSQ] at hb); try (exfalso; omega))) | fail)
      exact ⟨L, sei _ _ _, by rw [decide_eq_false (hne hs)], rfl⟩
  · obtain rfl : i = ss.length := by omega
    rw [List.take_of_length_le (by simp), List.take_of_length_le (by simp; omega)] at he
    repeat' (first | (refine go1 ?_; intros) | (refine goCC ?_ ?_ <;> (intro hb; (try simp only [hSQ] at hb); try (exfalso; omega))) | fail)
    exact ⟨L, sei _ _ _, by rw [decide_eq_true he], rfl⟩
end Go.Proofs.YtcpndfffdbogbaaGreatDoor
namespace Go.Proofs.YtcpndfffdbogbaaGreatDoor
open Go Go.RowKit
open Classical

/-- Whether a shard's lines are all of senders of that shard. -/
noncomputable def ofS (ls : List Ln) (i : Nat) (m : Nat) : Bool := decide (∀ k (hk : k < ls.length), atP ls[k].own m = (i : Int))
/-- Whether the i-th shard may stand where it stands. -/
noncomputable def shAt (ss : List Sh) (i : Nat) : Bool := match ss[i]? with | some s => mayS s.ls && ofS s.ls i ss.length | none => false
theorem shAt_eq {ss : List Sh} (i : Nat) (hi : i < ss.length) : shAt ss i = (mayS ss[i].ls && ofS ss[i].ls i ss.length) := by
  unfold shAt
  rw [List.getElem?_eq_getElem hi]
noncomputable def mayPo (ss : List Sh) : Bool := decide (1 ≤ ss.length ∧ ss.length ≤ 8 ∧ ∀ i, i < ss.length → shAt ss i = true)
theorem rmay21_vc (w0 : World) (L : List Asn) (a : Option Addr) (c : Nat) (ss : List Sh) {n : Nat} (hn : n = ss.length) (h : SsOk ss) [hr : RdC w0 L a (shc ss)] [hv : RdSs w0 L ss] :
    VC Tryz.prog w0 53 [.slice a n c] L fun v L' => v = .bool (mayPo ss) ∧ L' = L := by
  subst hn
  have hlen := h.len
  refine vc_ent ?_
  refine vc_in rfl rfl ?_
  by_cases hl : 1 ≤ ss.length ∧ ss.length ≤ 8
  rotate_left
  · have hm : mayPo ss = false := decide_eq_false (fun e => hl ⟨e.1, e.2.1⟩)
    repeat' (first | (refine go1 ?_; intros) | (refine goCC ?_ ?_ <;> (intro hb; (try simp only [hSQ] at hb); try (exfalso; omega))) | fail)
    all_goals first | exact ⟨L, sei _ _ _, by rw [hm], rfl⟩ | (exfalso; omega)
  repeat' (first | (refine go1 ?_; intros) | (refine goCC ?_ ?_ <;> (intro hb; (try simp only [hSQ] at hb); try (exfalso; omega))) | fail)
  all_goals first | (exfalso; omega) | skip
  refine v_loopS Nat [0] rfl (fun i => [(3, .int .i64 i)]) (fun i => i ≤ ss.length ∧ ∀ j, j < i → shAt ss j = true) (fun i => ss.length - i) 0 ⟨Nat.zero_le _, fun j h => by omega⟩ (by (exact sbS)) (fun i ⟨hi, hok⟩ => ?_)
  by_cases hlt : i < ss.length
  rotate_left
  · obtain rfl : i = ss.length := by omega
    have hm : mayPo ss = true := decide_eq_true ⟨hl.1, hl.2, hok⟩
    repeat' (first | (refine go1 ?_; intros) | (refine goCC ?_ ?_ <;> (intro hb; (try simp only [hSQ] at hb); try (exfalso; omega))) | fail)
    exact ⟨L, sei _ _ _, by rw [hm], rfl⟩
  have e' := shs_e1 i hlt
  have ea := shs_at i hlt
  have hpos := h.pos i hlt
  haveI := hv.at i hlt
  haveI := hv.at2 i hlt
  have sok := h.at i hlt
  have hq := shAt_eq i hlt
  have hbad : shAt ss i = false → mayPo ss = false := fun e => decide_eq_false (fun f => by rw [f.2.2 i hlt] at e; cases e)
  repeat' (first | (refine go1 ?_; intros) | (refine goCC ?_ ?_ <;> (intro hb; (try simp only [hSQ] at hb); try (exfalso; omega))) | fail)
  refine clV ?_
  refine vc_mono (rmay20_vc w0 _ ss[i].a ss[i].c ss[i].ls rfl sok) ?_
  rintro v L' ⟨rfl, hL⟩
  obtain rfl := hL.symm
  cases hms : mayS ss[i].ls
  · rw [hms, Bool.false_and] at hq
    repeat' (first | (refine go1 ?_; intros) | (refine goCC ?_ ?_ <;> (intro hb; (try simp only [hSQ] at hb); try (exfalso; omega))) | fail)
    exact ⟨L, sei _ _ _, by rw [hbad hq], rfl⟩
  rw [hms, Bool.true_and] at hq
  repeat' (first | (refine go1 ?_; intros) | (refine goCC ?_ ?_ <;> (intro hb; (try simp only [hSQ] at hb); try (exfalso; omega))) | fail)
  refine v_loopS Nat [0, 3] rfl (fun k => [(4, .int .i64 k)]) (fun k => k ≤ ss[i].ls.length ∧ ∀ j (hj : j < ss[i].ls.length), j < k → atP ss[i].ls[j].own ss.length = (i : Int)) (fun k => ss[i].ls.length - k) 0 ⟨Nat.zero_le _, fun j h h2 => by omega⟩ (by (exact sbS)) (fun k ⟨hk, hok2⟩ => ?_)
  by_cases hkt : k < ss[i].ls.length
  · have e0 := sok.e0 k hkt
    have e0' : ((lnc ss[i].ls).drop (k * 33)).take 32 = bvs ss[i].ls[k].own := by simpa using e0
    have hpos2 := sok.pos k hkt
    have hol := (sok.at k hkt).own
    have hsl := sok.len
    repeat' (first | (refine go1 ?_; intros) | (refine goCC ?_ ?_ <;> (intro hb; (try simp only [hSQ] at hb); try (exfalso; omega))) | fail)
    refine clV ?_
    refine vc_mono (rof21_vc w0 _ ss[i].ls[k].own ss.length hol (by omega)) ?_
    rintro v L' ⟨rfl, hL⟩
    obtain rfl := hL.symm
    by_cases hat : atP ss[i].ls[k].own ss.length = (i : Int)
    · rw [hat]
      repeat' (first | (refine goE ?_; intros) | (refine goCC ?_ ?_ <;> (intro hb; (try simp only [hSQ] at hb); try (exfalso; omega))) | fail)
      refine ⟨rfl, k + 1, ⟨by omega, fun j hj hji => ?_⟩, by omega, by (exact sbS), Ent.refl _ _⟩
      by_cases e : j = k
      · subst e; exact hat
      · exact hok2 j hj (by omega)
    · have hof : ofS ss[i].ls i ss.length = false := decide_eq_false (fun f => hat (f k hkt))
      rw [hof] at hq
      repeat' (first | (refine go1 ?_; intros) | (refine goCC ?_ ?_ <;> (intro hb; (try simp only [hSQ] at hb); try (exfalso; omega))) | fail)
      all_goals first | exact ⟨L, sei _ _ _, by rw [hbad hq], rfl⟩ | (exact absurd (by assumption) hat)
  · have hof : ofS ss[i].ls i ss.length = true := decide_eq_true (fun j hj => hok2 j hj (by omega))
    rw [hof] at hq
    repeat' (first | (refine go1 ?_; intros) | (refine goCC ?_ ?_ <;> (intro hb; (try simp only [hSQ] at hb); try (exfalso; omega))) | fail)
    refine ⟨rfl, i + 1, ⟨by omega, fun j hj => ?_⟩, by omega, by (exact sbS), Ent.refl _ _⟩
    by_cases e : j = i
    · rw [e]; exact hq
    · exact hok j (by omega)
theorem any_ofS (ls : List Ln) (i m : Nat) : (ls.any fun l => !decide (atP l.own m = (i : Int))) = !ofS ls i m := by
  unfold ofS
  by_cases h : ∀ k (hk : k < ls.length), atP ls[k].own m = (i : Int)
  · rw [decide_eq_true h]
    simp only [Bool.not_true, List.any_eq_false]
    intro l hl
    obtain ⟨k, hk, rfl⟩ := List.getElem_of_mem hl
    simp [h k hk]
  · rw [decide_eq_false h]
    simp only [Bool.not_false, List.any_eq_true]
    obtain ⟨k, hk⟩ := Classical.not_forall.1 h
    obtain ⟨h1, h2⟩ := Classical.not_forall.1 hk
    exact ⟨ls[k], List.getElem_mem h1, by simp [h2]⟩
theorem pchk1_vc (w0 : World) (L : List Asn) (l : Ln) (hl : l.ok) (g gi gs : Nat) (cs : List Value) (a : Option Addr) (c : Nat) (ss : List Sh) (i : Nat) {n : Nat} (hn : n = ss.length) (h1 : 1 ≤ ss.length) (h8 : ss.length ≤ 8) :
    VC Tryz.prog w0 106 ([.agg l.cells.toArray] ++ #[Value.pointer (some ⟨g, 0, none⟩), .pointer (some ⟨gi, 0, none⟩)].toList) (blk gs 24 cs :: blk gi 3 [.int .i64 (i : Int)] :: blk g 45 [.slice a n c] :: L) fun v L' => v = .bool (!decide (atP l.own ss.length = (i : Int))) ∧ L' = blk gs 24 cs :: blk gi 3 [.int .i64 (i : Int)] :: blk g 45 [.slice a n c] :: L := by
  subst hn
  have f0 := Ln.f0 hl.own
  have hcl := Ln.len hl.own
  have hol := hl.own
  haveI hoc : OC l.cells := oc_ln _
  refine vc_ent ?_
  refine vc_in rfl rfl ?_
  generalize l.cells = ds at *
  repeat' (first | (refine go1 ?_; intros) | (refine goCC ?_ ?_ <;> (intro hb; (try simp only [hSQ] at hb); try (exfalso; omega))) | fail)
  refine clV ?_
  refine vc_mono (pat_vc w0 _ l.own ss.length hol) ?_
  rintro v L' ⟨rfl, rfl⟩
  rw [if_pos (by omega)]
  generalize atP l.own ss.length = A
  repeat' (first | (refine go1 ?_; intros) | (refine goCC ?_ ?_ <;> (intro hb; (try simp only [hSQ] at hb); try (exfalso; omega))) | fail)
  exact ⟨_, sei _ _ (blk gs 24 cs :: blk gi 3 [.int .i64 (i : Int)] :: blk g 45 [.slice a ss.length c] :: L), by simp, rfl⟩
theorem pcheck21_vc (w0 : World) (L : List Asn) [hK : RdA w0 (some ⟨0, 0, none⟩) (wds K64)] (a : Option Addr) (c : Nat) (ss : List Sh) {n : Nat} (hn : n = ss.length) (h : SsOk ss) [hr : RdC w0 L a (shc ss)] [hv : RdSs w0 L ss] :
    VC Tryz.prog w0 64 [.slice a n c] L fun v L' => v = .int .i64 (if mayPo ss then 0 else 8) ∧ L' = L := by
  subst hn
  have hlen := h.len
  refine vc_ent ?_
  refine vc_in rfl rfl ?_
  by_cases hl : 1 ≤ ss.length ∧ ss.length ≤ 8
  rotate_left
  · have hm : mayPo ss = false := decide_eq_false (fun e => hl ⟨e.1, e.2.1⟩)
    repeat' (first | (refine go1 ?_; intros) | (refine goCC ?_ ?_ <;> (intro hb; (try simp only [hSQ] at hb); try (exfalso; omega))) | fail)
    all_goals first | exact ⟨L, sei _ _ _, by rw [hm]; rfl, rfl⟩ | (exfalso; omega)
  obtain ⟨hl1, hl8⟩ := hl
  repeat' (first | (refine go1 ?_; intros) | (refine goCC ?_ ?_ <;> (intro hb; (try simp only [hSQ] at hb); try (exfalso; omega))) | fail)
  all_goals first | (exfalso; omega) | skip
  refine v_loopF Nat [1, 13, 14] rfl (fun i => [(15, .int .i64 i)]) (fun M _ => M) (fun i => i ≤ ss.length ∧ ∀ j, j < i → shAt ss j = true) (fun i => ss.length - i) 0 ⟨Nat.zero_le _, fun j h => by omega⟩ (by (exact sbS)) (Ent.refl _ _) ?_
  rintro i ⟨hi, hok⟩
  by_cases hlt : i < ss.length
  rotate_left
  · obtain rfl : i = ss.length := by omega
    have hm : mayPo ss = true := decide_eq_true ⟨hl1, hl8, hok⟩
    repeat' (first | (refine go1 ?_; intros) | (refine goCC ?_ ?_ <;> (intro hb; (try simp only [hSQ] at hb); try (exfalso; omega))) | fail)
    exact ⟨L, sei _ _ _, by rw [hm]; rfl, rfl⟩
  have e' := shs_e1 i hlt
  have hpos := h.pos i hlt
  haveI := hv.at i hlt
  haveI := hv.at2 i hlt
  have sok := h.at i hlt
  have hq := shAt_eq i hlt
  have hbad : shAt ss i = false → mayPo ss = false := fun e => decide_eq_false (fun f => by rw [f.2.2 i hlt] at e; cases e)
  repeat' (first | (refine go1 ?_; intros) | (refine goCC ?_ ?_ <;> (intro hb; (try simp only [hSQ] at hb); try (exfalso; omega))) | fail)
  refine clV ?_
  refine vc_mono (scheck_vc w0 _ ss[i].a ss[i].c ss[i].ls rfl sok) ?_
  rintro v L' ⟨rfl, rfl⟩
  cases hms : mayS ss[i].ls
  · rw [hms, Bool.false_and] at hq
    repeat' (first | (refine go1 ?_; intros) | (refine goCC ?_ ?_ <;> (intro hb; (try simp only [hSQ] at hb); try (exfalso; omega))) | fail)
    exact ⟨L, sei _ _ _, by rw [hbad hq]; rfl, rfl⟩
  rw [hms, Bool.true_and] at hq
  repeat' (first | (refine go1 ?_; intros) | (refine goCC ?_ ?_ <;> (intro hb; (try simp only [hSQ] at hb); try (exfalso; omega))) | fail)
  refine clV ?_
  refine vc_mono (hasF_vc w0 _ ss[i].a ss[i].c ss[i].ls _ _ (fun l => !decide (atP l.own ss.length = (i : Int))) rfl sok (fun l hl => pchk1_vc w0 L l (sok.ok l hl) _ _ _ _ a c ss i rfl hl1 hl8)) ?_
  rintro v L' ⟨rfl, rfl⟩
  rw [any_ofS]
  cases hof : ofS ss[i].ls i ss.length
  · rw [hof] at hq
    repeat' (first | (refine go1 ?_; intros) | (refine goCC ?_ ?_ <;> (intro hb; (try simp only [hSQ] at hb); try (exfalso; omega))) | fail)
    exact ⟨L, sei _ _ _, by rw [hbad hq]; rfl, rfl⟩
  · rw [hof] at hq
    repeat' (first | (refine go1 ?_; intros) | (refine goCC ?_ ?_ <;> (intro hb; (try simp only [hSQ] at hb); try (exfalso; omega))) | fail)
    refine ⟨rfl, i + 1, ⟨by omega, fun j hj => ?_⟩, by omega, by (exact sbS), sei _ _ _⟩
    by_cases e : j = i
    · rw [e]; exact hq
    · exact hok j (by omega)
end Go.Proofs.YtcpndfffdbogbaaGreatDoor
namespace Go.Proofs.YtcpndfffdbogbaaGreatDoor
open Go Go.RowKit
open Classical

end Go.Proofs.YtcpndfffdbogbaaGreatDoor
namespace Go.Proofs.YtcpndfffdbogbaaGreatDoor
open Go Go.RowKit
open Classical

abbrev PC := List (List LC)
structure MayO (cs : PC) : Prop where
  lo : 1 ≤ cs.length
  hi : cs.length ≤ 8
  at' : ∀ i (h : i < cs.length), MayC cs[i] ∧ ∀ c ∈ cs[i], atP c.1 cs.length = (i : Int)
theorem shl_length (ss : List Sh) : (shl ss).length = ss.length := List.length_map ..
theorem shl_at (ss : List Sh) (i : Nat) (hi : i < (shl ss).length) : (shl ss)[i] = lls (ss[i]'(by rwa [shl_length] at hi)).ls := List.getElem_map ..
theorem mayO_iff {ss : List Sh} : mayPo ss = true ↔ MayO (shl ss) := by
  have hl := shl_length ss
  have hz : ((shl ss).length : Int) = (ss.length : Int) := by rw [hl]
  have e : ∀ i (hi : i < ss.length), shAt ss i = true ↔ MayC (lls ss[i].ls) ∧ ∀ c ∈ lls ss[i].ls, atP c.1 ss.length = (i : Int) := fun i hi => by
    rw [shAt_eq i hi, Bool.and_eq_true, mayS_iff]
    refine and_congr_right fun _ => ?_
    unfold ofS
    rw [decide_eq_true_iff]
    constructor
    · intro h c hc
      obtain ⟨l, hl, rfl⟩ := List.mem_map.1 hc
      obtain ⟨k, hk, rfl⟩ := List.getElem_of_mem hl
      exact h k hk
    · intro h k hk
      exact h ss[i].ls[k].pl (List.mem_map.2 ⟨_, List.getElem_mem hk, rfl⟩)
  unfold mayPo
  rw [decide_eq_true_iff]
  constructor
  · rintro ⟨h1, h2, h3⟩
    refine ⟨by omega, by omega, fun i hi => ?_⟩
    rw [shl_at, hz]
    exact (e i (by omega)).1 (h3 i (by omega))
  · rintro ⟨h1, h2, h3⟩
    refine ⟨by omega, by omega, fun i hi => ?_⟩
    have := h3 i (by omega)
    rw [shl_at, hz] at this
    exact (e i hi).2 this
theorem atP_lt (k : List UInt8) {m : Int} (h : 1 ≤ m) : 0 ≤ atP k m ∧ atP k m < m := ⟨Int.tmod_nonneg _ (by omega), Int.tmod_lt_of_pos _ (by omega)⟩
/-- A key's shard as a number. -/
def atN (k : List UInt8) (n : Nat) : Nat := (atP k n).toNat
theorem atN_lt (k : List UInt8) {n : Nat} (h : 1 ≤ n) : atN k n < n := by
  have := atP_lt k (m := n) (by omega)
  unfold atN
  omega
theorem atN_cast (k : List UInt8) {n : Nat} (h : 1 ≤ n) : ((atN k n : Nat) : Int) = atP k n := by
  have := atP_lt k (m := n) (by omega)
  unfold atN
  omega
theorem MayO.set {cs : PC} (h : MayO cs) {i : Nat} (hi : i < cs.length) {z : List LC} (hz : MayC z) (ho : ∀ c ∈ z, atP c.1 cs.length = (i : Int)) : MayO (cs.set i z) := by
  have hl : (cs.set i z).length = cs.length := List.length_set
  refine ⟨by rw [hl]; exact h.lo, by rw [hl]; exact h.hi, fun j hj => ?_⟩
  rw [hl]
  rw [List.getElem_set]
  split
  · rename_i e
    subst e
    exact ⟨hz, ho⟩
  · exact h.at' j (by omega)
/-- What a pool turned in one shard tells. -/
def turnO {α : Type} (cs : PC) (i : Int) (q : Nat → List LC × α × Int) (none' : α) : PC × α × Int :=
  if 0 ≤ i ∧ i < cs.length then (if (q i.toNat).2.2 = 0 then (cs.set i.toNat (q i.toNat).1, (q i.toNat).2.1, 0) else ([], none', (q i.toNat).2.2)) else ([], none', 2)
theorem turnO_in {cs : PC} {k : Nat} (hk : k < cs.length) {q : Nat → List LC × List Tx × Int} {Q : List LC × List Tx × Int} (e : q k = Q) : turnO cs (k : Int) q [] = if Q.2.2 = 0 then (cs.set k Q.1, Q.2.1, 0) else ([], [], Q.2.2) := by
  subst e
  unfold turnO
  rw [if_pos (by omega), Int.toNat_natCast]
def atC (cs : PC) (i : Nat) : List LC := (cs[i]?).getD []
theorem atC_eq {cs : PC} {i : Nat} (h : i < cs.length) : atC cs i = cs[i] := by
  unfold atC
  rw [List.getElem?_eq_getElem h]
  rfl
noncomputable def submitO (cs : PC) (ns : List Nd) (r : Int) (cap : Int) (x : Tx) : PC × List Tx × Int :=
  if MayO cs ∧ StP ns r then turnO cs (atP (fromT x) cs.length) (fun i => submitS (atC cs i) cap (nonceA ns r (fromT x)) x) [] else ([], [], 8)
noncomputable def drawO (cs : PC) (ns : List Nd) (r : Int) (i : Int) (room : Int) : PC × List Tx × Int :=
  if MayO cs ∧ StP ns r then turnO cs i (fun i => drawQ (atC cs i) ns r room) [] else ([], [], 8)
def ofO (i : Int) (n : Nat) (x : Tx) : Bool := decide (atP (fromT x) n = i)
/-- What is returned to one shard: its own go back, the rest is told. -/
noncomputable def backI (cs : List LC) (ns : List Nd) (r : Int) (i : Int) (n : Nat) (l : List Tx) : List LC × List Tx × Int :=
  ((backQ cs ns r (l.filter (ofO i n))).1, (l.filter fun x => !ofO i n x), (backQ cs ns r (l.filter (ofO i n))).2)
noncomputable def backO (cs : PC) (ns : List Nd) (r : Int) (i : Int) (l : List Tx) : PC × List Tx × Int :=
  if MayO cs ∧ StP ns r then turnO cs i (fun k => backI (atC cs k) ns r i cs.length l) [] else ([], [], 8)
/-! ### Memory -/
theorem sh2_erase (ss : List Sh) {i : Nat} (hi : i < ss.length) : (sh2 (ss.take i ++ ss.drop (i + 1))).Sublist (sh2 ss) := by
  have e : ss.take i ++ ss[i] :: ss.drop (i + 1) = ss := by rw [← List.drop_eq_getElem_cons hi, List.take_append_drop]
  have h : sh2 ss = sh2 (ss.take i) ++ ([ownLs ss[i].a ss[i].c ss[i].ls, tsA ss[i].ls] ++ sh2 (ss.drop (i + 1))) := by
    conv => lhs; rw [← e]
    unfold sh2
    rw [List.flatMap_append, List.flatMap_cons]
  rw [h]
  unfold sh2
  rw [List.flatMap_append]
  exact (List.Sublist.refl _).append (List.sublist_append_right _ _)
theorem setSh_perm {ss : List Sh} {i : Nat} (hi : i < ss.length) (s : Sh) : (s :: (ss.take i ++ ss.drop (i + 1))).Perm (ss.set i s) := by
  rw [List.set_eq_take_append_cons_drop, if_pos hi]
  exact List.perm_middle.symm
theorem se_shA_set (ss : List Sh) {i : Nat} (hi : i < ss.length) (s : Sh) (L : List Asn) : SE (ownLs s.a s.c s.ls :: tsA s.ls :: shA ss :: L) (shA (ss.set i s) :: L) := by
  have h1 : (ownLs s.a s.c s.ls :: tsA s.ls :: sh2 (ss.take i ++ ss.drop (i + 1))).Perm (sh2 (ss.set i s)) := List.Perm.flatMap_right (fun s : Sh => [ownLs s.a s.c s.ls, tsA s.ls]) (setSh_perm hi s)
  exact (SE.cons _ (SE.cons _ ((se_unbundle _ L).trans (se_sublist (sh2_erase ss hi) L)))).trans ((se_perm (h1.append_right L)).trans (se_bundle _ L))
theorem shc_set (ss : List Sh) {i : Nat} (hi : i < ss.length) (s : Sh) : splice (shc ss) i [.slice s.a s.ls.length s.c] = shc (ss.set i s) := by
  have := (shs_wide ss).spl (x := s) rfl i hi
  rw [Nat.mul_one] at this
  exact this
theorem SsOk.set {ss : List Sh} (h : SsOk ss) (i : Nat) {s : Sh} (hs : LsOk s.ls) : SsOk (ss.set i s) := ⟨fun p hp => by
  rcases List.mem_or_eq_of_mem_set hp with hp | rfl
  · exact h.ok p hp
  · exact hs, by rw [List.length_set]; exact h.len⟩
theorem shl_set (ss : List Sh) (i : Nat) (s : Sh) : shl (ss.set i s) = (shl ss).set i (lls s.ls) := by
  show List.map _ _ = _
  rw [List.map_set]
/-- What is told of a pool, of transactions, and with an error: their memory is new. -/
def RPS (q : PC × List Tx × Int) (L : List Asn) (v : Value) (L' : List Asn) : Prop := ∃ a c ts b d, v = .tuple #[.slice a ts.length c, .slice b q.2.1.length d, .int .i64 q.2.2] ∧ shl ts = q.1 ∧ SsOk ts ∧ L' = ownSs a c ts :: shA ts :: ownTs b d q.2.1 :: L
theorem SsOk.nil : SsOk [] := ⟨fun _ h => (by cases h), by simp⟩
theorem RPS.bad (w0 : World) (L : List Asn) (e : Int) {M : List Asn} (h : Ent w0 M L) : ∃ L', Ent w0 M L' ∧ RPS ([], [], e) L (.tuple #[.slice none 0 0, .slice none 0 0, .int .i64 e]) L' :=
  ⟨_, h.trans (((se_own_nil 50 99 L).trans (se_ss_nil _)).ent w0), none, 0, [], none, 0, rfl, rfl, SsOk.nil, rfl⟩
theorem K2.at {ss : List Sh} (h : SsOk ss) {i : Nat} (hi : i < ss.length) : K2 (lls ss[i].ls) := (h.at i hi).k2
end Go.Proofs.YtcpndfffdbogbaaGreatDoor
namespace Go.Proofs.YtcpndfffdbogbaaGreatDoor
open Go Go.RowKit
open Classical

theorem pasked_vc (w0 : World) (L : List Asn) [hK : RdA w0 (some ⟨0, 0, none⟩) (wds K64)] (a : Option Addr) (c : Nat) (ss : List Sh) (ta : Option Addr) (tc : Nat) (ns : List Nd) (r : Int) {n tn : Nat} (hn : n = ss.length) (htn : tn = ns.length) (h : SsOk ss) (hok : NsOk ns) [hr : RdC w0 L a (shc ss)] [hv : RdSs w0 L ss] [hr2 : RdC w0 L ta (ndc ns)] [hv2 : RdNs w0 L ns] :
    VC Tryz.prog w0 49 [.slice a n c, .agg #[.slice ta tn tc, .int .i64 r]] L fun v L' => v = .int .i64 (if MayO (shl ss) ∧ StP ns r then 0 else 8) ∧ L' = L := by
  subst hn
  subst htn
  have e : max (if mayPo ss = true then (0 : Int) else 8) (if StP ns r then 0 else 8) = if MayO (shl ss) ∧ StP ns r then 0 else 8 := by
    by_cases h1 : mayPo ss = true
    · rw [if_pos h1]
      by_cases h2 : StP ns r
      · rw [if_pos h2, if_pos ⟨mayO_iff.1 h1, h2⟩]
        rfl
      · rw [if_neg h2, if_neg (fun f => h2 f.2)]
        rfl
    · rw [if_neg h1, if_neg (show ¬ (MayO (shl ss) ∧ StP ns r) from fun f => h1 (mayO_iff.2 f.1))]
      split <;> rfl
  refine vc_ent ?_
  refine vc_in rfl rfl ?_
  repeat' (first | (refine go1 ?_; intros) | (refine goCC ?_ ?_ <;> (intro hb; (try simp only [hSQ] at hb); try (exfalso; omega))) | fail)
  (refine v_draw0 [] (by kernel_rfl) ?_ <;> (refine tA 0 ?_) <;> (refine tA 2 ?_))
  first | refine va_one 1 (by kernel_rfl) rfl rfl (vo_call rfl rfl ?_) | refine va_one 1 (by kernel_rfl) rfl rfl (vo_callV rfl rfl rfl ?_)
  refine vc_mono (pcheck21_vc w0 _ a c ss rfl h) ?_
  rintro v L' ⟨rfl, rfl⟩
  refine ⟨.inr entD, ?_⟩
  skip
  first | refine va_one 3 (by kernel_rfl) rfl rfl (vo_call rfl rfl ?_) | refine va_one 3 (by kernel_rfl) rfl rfl (vo_callV rfl rfl rfl ?_)
  refine vc_mono (acheck_vc w0 _ ta tc ns r rfl hok) ?_
  rintro v L' ⟨rfl, rfl⟩
  refine ⟨.inr entD, ?_⟩
  refine va_take 4 rfl rfl rfl rfl (by kernel_rfl) (fun _ _ _ _ h => h) entD (vq_maxI rfl rfl) ?_
  rw [e]
  refine tA 5 ?_
  (refine va_done (by kernel_rfl) ?_)
  repeat' (first | (refine go1 ?_; intros) | (refine goCC ?_ ?_ <;> (intro hb; (try simp only [hSQ] at hb); try (exfalso; omega))) | fail)
  exact ⟨L, sei _ _ _, rfl, rfl⟩
theorem pturned_vc (w0 : World) (L : List Asn) (a : Option Addr) (c : Nat) (ss : List Sh) (i : Int) (f : FuncId) (cap : Array Value) (q : Nat → List LC × List Tx × Int) {n : Nat} (hn : n = ss.length) (h : SsOk ss) [hf : FnB Tryz.prog f] [hr : RdC w0 L a (shc ss)] [hv : RdSs w0 L ss] (hq : ∀ k (hk : k < ss.length), i = (k : Int) → VC Tryz.prog w0 f ([.agg #[.slice ss[k].a ss[k].ls.length ss[k].c]] ++ cap.toList) L (RSub (q k) L)) :
    VC Tryz.prog w0 50 [.slice a n c, .int .i64 i, .func (.func f) #[] cap] L (RPS (turnO (shl ss) i q []) L) := by
  subst hn
  have hlen := h.len
  refine vc_ent ?_
  refine vc_in rfl rfl ?_
  by_cases hi : 0 ≤ i ∧ i < ss.length
  rotate_left
  · have e : turnO (shl ss) i q [] = ([], [], 2) := if_neg (by rw [shl_length]; exact hi)
    rw [e]
    repeat' (first | (refine go1 ?_; intros) | (refine goCC ?_ ?_ <;> (intro hb; (try simp only [hSQ] at hb); try (exfalso; omega))) | fail)
    all_goals first | (exfalso; omega) | exact RPS.bad w0 L 2 (sei _ _ _)
  obtain ⟨k, rfl⟩ : ∃ k : Nat, i = k := ⟨i.toNat, by omega⟩
  have hk : k < ss.length := by omega
  have eT : turnO (shl ss) (k : Int) q [] = if (q k).2.2 = 0 then ((shl ss).set k (q k).1, (q k).2.1, 0) else ([], [], (q k).2.2) := by
    unfold turnO
    rw [if_pos (by rw [shl_length]; exact hi), Int.toNat_natCast]
  have e' := shs_e1 k hk
  have hpos := h.pos k hk
  haveI := hv.at k hk
  haveI := hv.at2 k hk
  have hqk := hq k hk rfl
  rw [eT]
  generalize q k = Q at *
  obtain ⟨Q1, Q2, Q3⟩ := Q
  dsimp only at eT ⊢
  repeat' (first | (refine goN ?_; intros) | (refine goCC ?_ ?_ <;> (intro hb; (try simp only [hSQ] at hb); try (exfalso; omega))) | fail)
  all_goals first | (exfalso; omega) | skip
  refine vl_o rfl (vo_callV rfl rfl rfl ?_)
  refine vc_mono hqk ?_
  rintro v L' ⟨a1, c1, ms, b1, d1, rfl, hms, hmo, rfl⟩
  dsimp only at hms ⊢
  by_cases he : Q3 = 0
  rotate_left
  · rw [if_neg he]
    repeat' (first | (refine go1 ?_; intros) | (refine goCC ?_ ?_ <;> (intro hb; (try simp only [hSQ] at hb); try (exfalso; omega))) | fail)
    all_goals first | exact RPS.bad w0 L Q3 (sei _ _ _) | (exfalso; omega)
  subst he
  rw [if_pos rfl]
  repeat' (first | (refine go1 ?_; intros) | (refine goCC ?_ ?_ <;> (intro hb; (try simp only [hSQ] at hb); try (exfalso; omega))) | fail)
  all_goals first | (exfalso; omega) | skip
  refine clV ?_
  refine vc_mono (ptwin21_vc w0 _ a c ss rfl h) ?_
  rintro v L' ⟨a2, c2, ts, rfl, hts, rfl⟩
  have hto := h.of_shl hts
  have htl := shl_len hts
  have hkt : k < ts.length := by omega
  have htc := shs_len ts
  have hpos2 := hto.pos k hkt
  have hset := shc_set ts hkt ⟨a1, c1, ms⟩
  dsimp only at hset
  repeat' (first | (refine go1 ?_; intros) | (refine goCC ?_ ?_ <;> (intro hb; (try simp only [hSQ] at hb); try (exfalso; omega))) | fail)
  rename_i g10
  rw [hset]
  refine ⟨ownSs a2 c2 (ts.set k ⟨a1, c1, ms⟩) :: shA (ts.set k ⟨a1, c1, ms⟩) :: ownTs b1 d1 Q2 :: L, ?_, a2, c2, ts.set k ⟨a1, c1, ms⟩, b1, d1, ?_, ?_, hto.set k hmo, rfl⟩
  · unfold ownSs
    rw [List.length_set]
    exact (sei w0 _ (ownLs a1 c1 ms :: tsA ms :: shA ts :: own 24 1 a2 ts.length c2 (shc (ts.set k ⟨a1, c1, ms⟩)) :: ownTs b1 d1 Q2 :: L)).trans (((se_shA_set ts hkt ⟨a1, c1, ms⟩ _).ent w0).trans (sei w0 _ _))
  · rw [List.length_set]
  · rw [shl_set, hms, hts]
end Go.Proofs.YtcpndfffdbogbaaGreatDoor
namespace Go.Proofs.YtcpndfffdbogbaaGreatDoor
open Go Go.RowKit
open Classical

theorem psub1_vc (w0 : World) (L : List Asn) [hK : RdA w0 (some ⟨0, 0, none⟩) (wds K64)] (gc ga gf gx gt : Nat) (fs ts : List Value) (s : Sh) (h : LsOk s.ls) (h9 : s.ls.length ≤ 900000) (cap : Int) (K bal : Nat) (hKl : K < 18446744073709551616) (x : Tx) (hx : x.ok) [hr : RdC w0 L s.a (lnc s.ls)] [hv : RdLs w0 L s.ls] :
    VC Tryz.prog w0 51 ([.agg #[.slice s.a s.ls.length s.c]] ++ #[Value.pointer (some ⟨gc, 0, none⟩), .pointer (some ⟨ga, 0, none⟩), .pointer (some ⟨gx, 0, none⟩)].toList) (blk ga 80 [.int .u64 K, .int .u64 bal] :: blk gf 47 fs :: blk gx 50 x.cells :: blk gt 27 ts :: blk gc 3 [.int .i64 cap] :: L) (RSub (submitS (lls s.ls) cap K x) (blk ga 80 [.int .u64 K, .int .u64 bal] :: blk gf 47 fs :: blk gx 50 x.cells :: blk gt 27 ts :: blk gc 3 [.int .i64 cap] :: L)) := by
  have hlen := h.len
  have hxl := Tx.len hx
  haveI oxc : OC x.cells := oc_tx _
  refine vc_ent ?_
  refine vc_in rfl rfl ?_
  obtain ⟨xc, hxc⟩ : ∃ xc, xc = x.cells := ⟨_, rfl⟩
  rw [← hxc] at hxl oxc ⊢
  repeat' (first | (refine go1 ?_; intros) | (refine goCC ?_ ?_ <;> (intro hb; (try simp only [hSQ] at hb); try (exfalso; omega))) | fail)
  refine clV ?_
  rw [hxc]
  refine vc_mono (ssubmit_vc w0 _ s.a s.c s.ls cap K x rfl h h9 hx hKl) ?_
  rintro v L' ⟨a1, c1, ms, b1, d1, rfl, hms, hmo, rfl⟩
  rw [← hxc]
  generalize submitS (lls s.ls) cap K x = q at *
  repeat' (first | (refine go1 ?_; intros) | (refine goCC ?_ ?_ <;> (intro hb; (try simp only [hSQ] at hb); try (exfalso; omega))) | fail)
  exact ⟨_, sei w0 _ (ownLs a1 c1 ms :: tsA ms :: ownTs b1 d1 q.2.1 :: blk ga 80 [.int .u64 K, .int .u64 bal] :: blk gf 47 fs :: blk gx 50 xc :: blk gt 27 ts :: blk gc 3 [.int .i64 cap] :: L), a1, c1, ms, b1, d1, rfl, hms, hmo, rfl⟩
theorem psubmit_vc (w0 : World) (L : List Asn) [hK : RdA w0 (some ⟨0, 0, none⟩) (wds K64)] (a : Option Addr) (c : Nat) (ss : List Sh) (cap : Int) (ta : Option Addr) (tc : Nat) (ns : List Nd) (r : Int) (x : Tx) {n tn : Nat} (hn : n = ss.length) (htn : tn = ns.length) (h : SsOk ss) (h9 : ∀ s ∈ ss, s.ls.length ≤ 900000) (hok : NsOk ns) (hx : x.ok) [hr : RdC w0 L a (shc ss)] [hv : RdSs w0 L ss] [hr2 : RdC w0 L ta (ndc ns)] [hv2 : RdNs w0 L ns] :
    VC Tryz.prog w0 18 [.slice a n c, .int .i64 cap, .agg #[.slice ta tn tc, .int .i64 r], .agg x.cells.toArray] L (RPS (submitO (shl ss) ns r cap x) L) := by
  subst hn
  subst htn
  have hlen := h.len
  have hxl := Tx.len hx
  have hfl := fromT_len x
  haveI oxc : OC x.cells := oc_tx _
  refine vc_ent ?_
  refine vc_in rfl rfl ?_
  unfold submitO
  obtain ⟨xc, hxc⟩ : ∃ xc, xc = x.cells := ⟨_, rfl⟩
  rw [← hxc] at hxl oxc ⊢
  repeat' (first | (refine go1 ?_; intros) | (refine goCC ?_ ?_ <;> (intro hb; (try simp only [hSQ] at hb); try (exfalso; omega))) | fail)
  refine clV ?_
  refine vc_mono (pasked_vc w0 _ a c ss ta tc ns r rfl rfl h hok) ?_
  rintro v L' ⟨rfl, rfl⟩
  by_cases hc : MayO (shl ss) ∧ StP ns r
  rotate_left
  · rw [if_neg hc, if_neg hc]
    repeat' (first | (refine go1 ?_; intros) | (refine goCC ?_ ?_ <;> (intro hb; (try simp only [hSQ] at hb); try (exfalso; omega))) | fail)
    all_goals first | (exfalso; omega) | exact RPS.bad w0 L 8 (sei _ _ _)
  rw [if_pos hc, if_pos hc]
  obtain ⟨hm, hst⟩ := hc
  have hlo := hm.lo
  have hhi := hm.hi
  rw [shl_length] at hlo hhi ⊢
  repeat' (first | (refine go1 ?_; intros) | (refine goCC ?_ ?_ <;> (intro hb; (try simp only [hSQ] at hb); try (exfalso; omega))) | fail)
  all_goals first | (exfalso; omega) | skip
  refine clV ?_
  rw [hxc]
  refine vc_mono (txFrom_vc w0 _ x hx) ?_
  rintro v L' ⟨rfl, rfl⟩
  rw [← hxc, show sha (tagB 3 [x.pub]) = fromT x from rfl]
  repeat' (first | (refine go1 ?_; intros) | (refine goCC ?_ ?_ <;> (intro hb; (try simp only [hSQ] at hb); try (exfalso; omega))) | fail)
  refine clV ?_
  refine vc_mono (pat_vc w0 _ (fromT x) ss.length hfl) ?_
  rintro v L' ⟨rfl, rfl⟩
  rw [if_pos (by omega)]
  obtain ⟨K, hKe⟩ : ∃ K, K = nonceA ns r (fromT x) := ⟨_, rfl⟩
  have hKl : K < 18446744073709551616 := by rw [hKe]; exact nonceA_lt _ _ _
  rw [← hKe]
  repeat' (first | (refine go1 ?_; intros) | (refine goCC ?_ ?_ <;> (intro hb; (try simp only [hSQ] at hb); try (exfalso; omega))) | fail)
  refine clV ?_
  refine vc_mono (aget_vc w0 _ ta tc ns r (fromT x) rfl hok hfl) ?_
  rintro v L' ⟨rfl, rfl⟩
  rw [show (accG ns r (fromT x)).1 = K from hKe.symm]
  generalize (accG ns r (fromT x)).2 = bal at *
  generalize atP (fromT x) ss.length = at' at *
  repeat' (first | (refine go1 ?_; intros) | (refine goCC ?_ ?_ <;> (intro hb; (try simp only [hSQ] at hb); try (exfalso; omega))) | fail)
  refine clV ?_
  rename_i gc gt gx gf ga
  refine vc_pre (L2 := blk ga 80 [.int .u64 K, .int .u64 bal] :: blk gf 47 (bvs (fromT x)) :: blk gx 50 x.cells :: blk gt 27 [.slice ta ns.length tc, .int .i64 r] :: blk gc 3 [.int .i64 cap] :: L) (by rw [← hxc]; exact sei w0 _ _) ?_
  refine vc_mono (pturned_vc w0 _ a c ss at' 51 #[Value.pointer (some ⟨gc, 0, none⟩), .pointer (some ⟨ga, 0, none⟩), .pointer (some ⟨gx, 0, none⟩)] (fun i => submitS (atC (shl ss) i) cap K x) rfl h (fun k hk hi => ?_)) ?_
  · haveI := hv.at k hk
    haveI := hv.at2 k hk
    have hk2 : k < (shl ss).length := by rw [shl_length]; exact hk
    rw [atC_eq hk2, shl_at]
    exact psub1_vc w0 L gc ga gf gx gt _ _ ss[k] (h.at k hk) (h9 _ (List.getElem_mem hk)) cap K bal hKl x hx
  rintro v L' ⟨a1, c1, ms, b1, d1, rfl, hms, hmo, rfl⟩
  generalize turnO (shl ss) at' (fun i => submitS (atC (shl ss) i) cap K x) [] = q at *
  repeat' (first | (refine go1 ?_; intros) | (refine goCC ?_ ?_ <;> (intro hb; (try simp only [hSQ] at hb); try (exfalso; omega))) | fail)
  exact ⟨_, sei w0 _ (ownSs a1 c1 ms :: shA ms :: ownTs b1 d1 q.2.1 :: L), a1, c1, ms, b1, d1, rfl, hms, hmo, rfl⟩
theorem pdraw1_vc (w0 : World) (L : List Asn) [hK : RdA w0 (some ⟨0, 0, none⟩) (wds K64)] (gt gm : Nat) (s : Sh) (h : LsOk s.ls) (h6 : s.ls.length ≤ 6) (hx20 : ∀ l ∈ s.ls, l.xs.length ≤ 20) (hcaps : ∀ l ∈ s.ls, l.xs.length ≤ l.c) (ta : Option Addr) (tc : Nat) (ns : List Nd) (r : Int) (hok : NsOk ns) (room : Int) (hro : -9223372036854775808 ≤ room ∧ room < 9223372036854775808) [hr : RdC w0 L s.a (lnc s.ls)] [hv : RdLs w0 L s.ls] [hr2 : RdC w0 L ta (ndc ns)] [hv2 : RdNs w0 L ns] :
    VC Tryz.prog w0 55 ([.agg #[.slice s.a s.ls.length s.c]] ++ #[Value.pointer (some ⟨gt, 0, none⟩), .pointer (some ⟨gm, 0, none⟩)].toList) (blk gm 3 [.int .i64 room] :: blk gt 27 [.slice ta ns.length tc, .int .i64 r] :: L) (RSub (drawQ (lls s.ls) ns r room) (blk gm 3 [.int .i64 room] :: blk gt 27 [.slice ta ns.length tc, .int .i64 r] :: L)) := by
  have hlen := h.len
  refine vc_ent ?_
  refine vc_in rfl rfl ?_
  repeat' (first | (refine go1 ?_; intros) | (refine goCC ?_ ?_ <;> (intro hb; (try simp only [hSQ] at hb); try (exfalso; omega))) | fail)
  refine clV ?_
  refine vc_mono (sdraw_vc w0 _ s.a s.c s.ls ta tc ns r room rfl rfl h h6 hx20 hcaps hok hro) ?_
  rintro v L' ⟨a1, c1, ms, b1, d1, rfl, hms, hmo, rfl⟩
  generalize drawQ (lls s.ls) ns r room = q at *
  repeat' (first | (refine go1 ?_; intros) | (refine goCC ?_ ?_ <;> (intro hb; (try simp only [hSQ] at hb); try (exfalso; omega))) | fail)
  exact ⟨_, sei w0 _ (ownLs a1 c1 ms :: tsA ms :: ownTs b1 d1 q.2.1 :: blk gm 3 [.int .i64 room] :: blk gt 27 [.slice ta ns.length tc, .int .i64 r] :: L), a1, c1, ms, b1, d1, rfl, hms, hmo, rfl⟩
theorem pdraw_vc (w0 : World) (L : List Asn) [hK : RdA w0 (some ⟨0, 0, none⟩) (wds K64)] (a : Option Addr) (c : Nat) (ss : List Sh) (i : Int) (ta : Option Addr) (tc : Nat) (ns : List Nd) (r : Int) (room : Int) {n tn : Nat} (hn : n = ss.length) (htn : tn = ns.length) (h : SsOk ss) (h6 : ∀ s ∈ ss, s.ls.length ≤ 6 ∧ (∀ l ∈ s.ls, l.xs.length ≤ 20) ∧ ∀ l ∈ s.ls, l.xs.length ≤ l.c) (hok : NsOk ns) (hro : -9223372036854775808 ≤ room ∧ room < 9223372036854775808) [hr : RdC w0 L a (shc ss)] [hv : RdSs w0 L ss] [hr2 : RdC w0 L ta (ndc ns)] [hv2 : RdNs w0 L ns] :
    VC Tryz.prog w0 20 [.slice a n c, .int .i64 i, .agg #[.slice ta tn tc, .int .i64 r], .int .i64 room] L (RPS (drawO (shl ss) ns r i room) L) := by
  subst hn
  subst htn
  have hlen := h.len
  refine vc_ent ?_
  refine vc_in rfl rfl ?_
  unfold drawO
  repeat' (first | (refine go1 ?_; intros) | (refine goCC ?_ ?_ <;> (intro hb; (try simp only [hSQ] at hb); try (exfalso; omega))) | fail)
  refine clV ?_
  refine vc_mono (pasked_vc w0 _ a c ss ta tc ns r rfl rfl h hok) ?_
  rintro v L' ⟨rfl, rfl⟩
  by_cases hc : MayO (shl ss) ∧ StP ns r
  rotate_left
  · rw [if_neg hc, if_neg hc]
    repeat' (first | (refine go1 ?_; intros) | (refine goCC ?_ ?_ <;> (intro hb; (try simp only [hSQ] at hb); try (exfalso; omega))) | fail)
    all_goals first | (exfalso; omega) | exact RPS.bad w0 L 8 (sei _ _ _)
  rw [if_pos hc, if_pos hc]
  repeat' (first | (refine go1 ?_; intros) | (refine goCC ?_ ?_ <;> (intro hb; (try simp only [hSQ] at hb); try (exfalso; omega))) | fail)
  all_goals first | (exfalso; omega) | skip
  refine clV ?_
  rename_i gt gm
  refine vc_pre (L2 := blk gm 3 [.int .i64 room] :: blk gt 27 [.slice ta ns.length tc, .int .i64 r] :: L) (sei w0 _ _) ?_
  refine vc_mono (pturned_vc w0 _ a c ss i 55 #[Value.pointer (some ⟨gt, 0, none⟩), .pointer (some ⟨gm, 0, none⟩)] (fun i => drawQ (atC (shl ss) i) ns r room) rfl h (fun k hk hi => ?_)) ?_
  · haveI := hv.at k hk
    haveI := hv.at2 k hk
    have hk2 : k < (shl ss).length := by rw [shl_length]; exact hk
    obtain ⟨q1, q2, q3⟩ := h6 _ (List.getElem_mem hk)
    rw [atC_eq hk2, shl_at]
    exact pdraw1_vc w0 L gt gm ss[k] (h.at k hk) q1 q2 q3 ta tc ns r hok room hro
  rintro v L' ⟨a1, c1, ms, b1, d1, rfl, hms, hmo, rfl⟩
  generalize turnO (shl ss) i (fun i => drawQ (atC (shl ss) i) ns r room) [] = q at *
  repeat' (first | (refine go1 ?_; intros) | (refine goCC ?_ ?_ <;> (intro hb; (try simp only [hSQ] at hb); try (exfalso; omega))) | fail)
  exact ⟨_, sei w0 _ (ownSs a1 c1 ms :: shA ms :: ownTs b1 d1 q.2.1 :: L), a1, c1, ms, b1, d1, rfl, hms, hmo, rfl⟩
end Go.Proofs.YtcpndfffdbogbaaGreatDoor
namespace Go.Proofs.YtcpndfffdbogbaaGreatDoor
open Go Go.RowKit
open Classical

theorem pof_vc (w0 : World) (L : List Asn) [hK : RdA w0 (some ⟨0, 0, none⟩) (wds K64)] (x : Tx) (hx : x.ok) (i m : Int) (hm : 1 ≤ m ∧ m ≤ 8) :
    VC Tryz.prog w0 57 [.agg x.cells.toArray, .int .i64 i, .int .i64 m] L fun v L' => v = .bool (decide (atP (fromT x) m = i)) ∧ L' = L := by
  have hxl := Tx.len hx
  have hfl := fromT_len x
  haveI oxc : OC x.cells := oc_tx _
  refine vc_ent ?_
  refine vc_in rfl rfl ?_
  obtain ⟨xc, hxc⟩ : ∃ xc, xc = x.cells := ⟨_, rfl⟩
  rw [← hxc] at hxl oxc ⊢
  repeat' (first | (refine go1 ?_; intros) | (refine goCC ?_ ?_ <;> (intro hb; (try simp only [hSQ] at hb); try (exfalso; omega))) | fail)
  refine clV ?_
  rw [hxc]
  refine vc_mono (txFrom_vc w0 _ x hx) ?_
  rintro v L' ⟨rfl, rfl⟩
  rw [← hxc, show sha (tagB 3 [x.pub]) = fromT x from rfl]
  repeat' (first | (refine go1 ?_; intros) | (refine goCC ?_ ?_ <;> (intro hb; (try simp only [hSQ] at hb); try (exfalso; omega))) | fail)
  refine clV ?_
  refine vc_mono (pat_vc w0 _ (fromT x) m hfl) ?_
  rintro v L' ⟨rfl, rfl⟩
  rw [if_pos hm]
  generalize atP (fromT x) m = A
  repeat' (first | (refine go1 ?_; intros) | (refine goCC ?_ ?_ <;> (intro hb; (try simp only [hSQ] at hb); try (exfalso; omega))) | fail)
  exact ⟨L, sei _ _ _, rfl, rfl⟩
theorem filter_take {xs : List Tx} {p : Tx → Bool} {i : Nat} (hi : i < xs.length) : (xs.take (i + 1)).filter p = (xs.take i).filter p ++ (if p xs[i] = true then [xs[i]] else []) := by
  rw [List.take_succ_eq_append_getElem hi, List.filter_append]
  congr 1
  by_cases h : p xs[i] = true
  · rw [if_pos h, List.filter_cons_of_pos h]
    rfl
  · rw [if_neg h, List.filter_cons_of_neg h]
    rfl
theorem TsOk.filter {xs : List Tx} (h : TsOk xs) (p : Tx → Bool) (i : Nat) : TsOk ((xs.take i).filter p) := ⟨fun x hx => h.ok x (List.mem_of_mem_take (List.mem_filter.1 hx).1), by
  have h1 := List.length_filter_le p (xs.take i)
  have h2 := h.len
  rw [List.length_take] at h1
  omega⟩
theorem pback1_vc (w0 : World) (L : List Asn) [hK : RdA w0 (some ⟨0, 0, none⟩) (wds K64)] (gb gf gi gl gt : Nat) (s : Sh) (h : LsOk s.ls) (h8 : s.ls.length ≤ 800000) (la : Option Addr) (m lc : Nat) (hm : 1 ≤ m ∧ m ≤ 8) (I : Int) (ta : Option Addr) (tc : Nat) (ns : List Nd) (r : Int) (hok : NsOk ns) (ea : Option Addr) (ec : Nat) (xs : List Tx) (hxs : TsOk xs) (hx9 : xs.length ≤ 100000) [hr : RdC w0 L s.a (lnc s.ls)] [hv : RdLs w0 L s.ls] [hr2 : RdC w0 L ta (ndc ns)] [hv2 : RdNs w0 L ns] [hr3 : RdC w0 L ea (txc xs)] {L0 : List Asn} (hL0 : L0 = blk gf 109 [.func (.func 57) #[] #[]] :: blk gb 28 [.slice ea xs.length ec] :: blk gt 27 [.slice ta ns.length tc, .int .i64 r] :: blk gi 3 [.int .i64 I] :: blk gl 45 [.slice la m lc] :: L) :
    VC Tryz.prog w0 58 ([.agg #[.slice s.a s.ls.length s.c]] ++ #[Value.pointer (some ⟨gb, 0, none⟩), .pointer (some ⟨gf, 0, none⟩), .pointer (some ⟨gi, 0, none⟩), .pointer (some ⟨gl, 0, none⟩), .pointer (some ⟨gt, 0, none⟩)].toList) L0 (RSub (backI (lls s.ls) ns r I m xs) L0) := by
  subst hL0
  have hlen := h.len
  have hxl := hxs.len
  refine vc_ent ?_
  refine vc_in rfl rfl ?_
  repeat' (first | (refine go1 ?_; intros) | (refine goCC ?_ ?_ <;> (intro hb; (try simp only [hSQ] at hb); try (exfalso; omega))) | fail)
  rename_i g6 g7
  refine v_loopF (Nat × (Option Addr × Nat) × (Option Addr × Nat)) [1, 2, 3, 4, 5, 6, 7, 15, 16] rfl (fun z => [(17, .int .i64 z.1), (10, .slice z.2.1.1 ((xs.take z.1).filter (ofO I m)).length z.2.1.2), (11, .slice z.2.2.1 ((xs.take z.1).filter fun x => !ofO I m x).length z.2.2.2)]) (fun _ z => ownTs z.2.1.1 z.2.1.2 ((xs.take z.1).filter (ofO I m)) :: ownTs z.2.2.1 z.2.2.2 ((xs.take z.1).filter fun x => !ofO I m x) :: blk g7 24 [.slice none 0 0] :: blk g6 24 [.slice s.a s.ls.length s.c] :: blk gf 109 [.func (.func 57) #[] #[]] :: blk gb 28 [.slice ea xs.length ec] :: blk gt 27 [.slice ta ns.length tc, .int .i64 r] :: blk gi 3 [.int .i64 I] :: blk gl 45 [.slice la m lc] :: L) (fun z => z.1 ≤ xs.length) (fun z => xs.length - z.1) (0, (none, 0), (none, 0)) (Nat.zero_le _) ?_ ?_ ?_
  · dsimp only
    rw [List.take_zero]
    (exact sbS)
  · dsimp only
    rw [List.take_zero]
    exact (sei w0 _ (blk g7 24 [.slice none 0 0] :: blk g6 24 [.slice s.a s.ls.length s.c] :: blk gf 109 [.func (.func 57) #[] #[]] :: blk gb 28 [.slice ea xs.length ec] :: blk gt 27 [.slice ta ns.length tc, .int .i64 r] :: blk gi 3 [.int .i64 I] :: blk gl 45 [.slice la m lc] :: L)).trans (((se_own_nil 50 99 _).trans (se_own_nil 50 99 _)).ent w0)
  rintro ⟨i, ⟨a1, c1⟩, ⟨a2, c2⟩⟩ hi
  dsimp only at hi ⊢
  by_cases hlt : i < xs.length
  rotate_left
  · obtain rfl : i = xs.length := by omega
    have hoo := hxs.filter (ofO I m) xs.length
    have hol := List.length_filter_le (ofO I m) xs
    rw [List.take_length] at hoo ⊢
    unfold backI
    generalize (xs.filter fun x => !ofO I m x) = rs at *
    generalize xs.filter (ofO I m) = os at *
    repeat' (first | (refine go1 ?_; intros) | (refine goCC ?_ ?_ <;> (intro hb; (try simp only [hSQ] at hb); try (exfalso; omega))) | fail)
    refine clV ?_
    refine vc_mono (sback_vc w0 _ s.a s.c s.ls ta tc ns r a1 c1 os rfl rfl rfl h h8 hok hoo (by omega)) ?_
    rintro v L' ⟨a3, c3, ms, rfl, hms, hmo, rfl⟩
    generalize backQ (lls s.ls) ns r os = q at *
    repeat' (first | (refine go1 ?_; intros) | (refine goCC ?_ ?_ <;> (intro hb; (try simp only [hSQ] at hb); try (exfalso; omega))) | fail)
    exact ⟨_, sei w0 _ (ownLs a3 c3 ms :: tsA ms :: ownTs a2 c2 rs :: blk gf 109 [.func (.func 57) #[] #[]] :: blk gb 28 [.slice ea xs.length ec] :: blk gt 27 [.slice ta ns.length tc, .int .i64 r] :: blk gi 3 [.int .i64 I] :: blk gl 45 [.slice la m lc] :: L), a3, c3, ms, a2, c2, rfl, hms, hmo, rfl⟩
  have e := hxs.el i hlt
  have hpos := hxs.pos i hlt
  have hx := hxs.at i hlt
  have f1 := filter_take (p := ofO I m) hlt
  have f2 := filter_take (p := fun x => !ofO I m x) hlt
  have l1 := List.length_filter_le (ofO I m) (xs.take i)
  have l2 := List.length_filter_le (fun x => !ofO I m x) (xs.take i)
  rw [List.length_take] at l1 l2
  generalize (xs.take i).filter (ofO I m) = os at *
  generalize (xs.take i).filter (fun x => !ofO I m x) = rs at *
  generalize xs[i] = x at *
  have hxl2 := Tx.len hx
  haveI oxc : OC x.cells := oc_tx _
  obtain ⟨xc, hxc⟩ : ∃ xc, xc = x.cells := ⟨_, rfl⟩
  rw [← hxc] at e hxl2 oxc
  repeat' (first | (refine goN ?_; intros) | (refine goCC ?_ ?_ <;> (intro hb; (try simp only [hSQ] at hb); try (exfalso; omega))) | fail)
  refine vl_o rfl (vo_callV rfl rfl rfl ?_)
  rw [hxc]
  refine vc_mono (pof_vc w0 _ x hx I m (by omega)) ?_
  rintro v L' ⟨rfl, rfl⟩
  rw [← hxc]
  cases hp : ofO I m x
  · rw [show decide (atP (fromT x) m = I) = false from hp]
    rw [hp] at f1 f2
    rw [if_neg (by decide), List.append_nil] at f1
    rw [if_pos (by decide)] at f2
    repeat' (first | (refine go1 ?_; intros) | (refine goCC ?_ ?_ <;> (intro hb; (try simp only [hSQ] at hb); try (exfalso; omega))) | fail)
    rename_i g8 gq a' c' _ _
    refine ⟨rfl, (i + 1, (a1, c1), (a', c')), by dsimp only; omega, by dsimp only; omega, ?_, ?_⟩
    · dsimp only
      rw [f1, f2, List.length_append]
      (exact sbS)
    · dsimp only
      rw [f1, f2, ownTs_snoc, ← hxc]
      exact sei _ _ _
  · rw [show decide (atP (fromT x) m = I) = true from hp]
    rw [hp] at f1 f2
    rw [if_pos (by decide)] at f1
    rw [if_neg (by decide), List.append_nil] at f2
    repeat' (first | (refine go1 ?_; intros) | (refine goCC ?_ ?_ <;> (intro hb; (try simp only [hSQ] at hb); try (exfalso; omega))) | fail)
    rename_i g8 gq a' c' _ _
    refine ⟨rfl, (i + 1, (a', c'), (a2, c2)), by dsimp only; omega, by dsimp only; omega, ?_, ?_⟩
    · dsimp only
      rw [f1, f2, List.length_append]
      (exact sbS)
    · dsimp only
      rw [f1, f2, ownTs_snoc, ← hxc]
      exact sei _ _ _
theorem pback_vc (w0 : World) (L : List Asn) [hK : RdA w0 (some ⟨0, 0, none⟩) (wds K64)] (a : Option Addr) (c : Nat) (ss : List Sh) (I : Int) (ta : Option Addr) (tc : Nat) (ns : List Nd) (r : Int) (ea : Option Addr) (ec : Nat) (xs : List Tx) {n tn en : Nat} (hn : n = ss.length) (htn : tn = ns.length) (hen : en = xs.length) (h : SsOk ss) (h8 : ∀ s ∈ ss, s.ls.length ≤ 800000) (hok : NsOk ns) (hxs : TsOk xs) (hx9 : xs.length ≤ 100000) [hr : RdC w0 L a (shc ss)] [hv : RdSs w0 L ss] [hr2 : RdC w0 L ta (ndc ns)] [hv2 : RdNs w0 L ns] [hr3 : RdC w0 L ea (txc xs)] :
    VC Tryz.prog w0 22 [.slice a n c, .int .i64 I, .agg #[.slice ta tn tc, .int .i64 r], .slice ea en ec] L (RPS (backO (shl ss) ns r I xs) L) := by
  subst hn
  subst htn
  subst hen
  have hlen := h.len
  refine vc_ent ?_
  refine vc_in rfl rfl ?_
  unfold backO
  repeat' (first | (refine go1 ?_; intros) | (refine goCC ?_ ?_ <;> (intro hb; (try simp only [hSQ] at hb); try (exfalso; omega))) | fail)
  refine clV ?_
  refine vc_mono (pasked_vc w0 _ a c ss ta tc ns r rfl rfl h hok) ?_
  rintro v L' ⟨rfl, rfl⟩
  by_cases hc : MayO (shl ss) ∧ StP ns r
  rotate_left
  · rw [if_neg hc, if_neg hc]
    repeat' (first | (refine go1 ?_; intros) | (refine goCC ?_ ?_ <;> (intro hb; (try simp only [hSQ] at hb); try (exfalso; omega))) | fail)
    all_goals first | (exfalso; omega) | exact RPS.bad w0 L 8 (sei _ _ _)
  rw [if_pos hc, if_pos hc]
  obtain ⟨hm, hst⟩ := hc
  have hlo := hm.lo
  have hhi := hm.hi
  rw [shl_length] at hlo hhi ⊢
  repeat' (first | (refine go1 ?_; intros) | (refine goCC ?_ ?_ <;> (intro hb; (try simp only [hSQ] at hb); try (exfalso; omega))) | fail)
  all_goals first | (exfalso; omega) | skip
  refine clV ?_
  rename_i gl gi gt gb gf
  refine vc_pre (L2 := blk gf 109 [.func (.func 57) #[] #[]] :: blk gb 28 [.slice ea xs.length ec] :: blk gt 27 [.slice ta ns.length tc, .int .i64 r] :: blk gi 3 [.int .i64 I] :: blk gl 45 [.slice a ss.length c] :: L) (sei w0 _ _) ?_
  refine vc_mono (pturned_vc w0 _ a c ss I 58 #[Value.pointer (some ⟨gb, 0, none⟩), .pointer (some ⟨gf, 0, none⟩), .pointer (some ⟨gi, 0, none⟩), .pointer (some ⟨gl, 0, none⟩), .pointer (some ⟨gt, 0, none⟩)] (fun k => backI (atC (shl ss) k) ns r I ss.length xs) rfl h (fun k hk hi => ?_)) ?_
  · haveI := hv.at k hk
    haveI := hv.at2 k hk
    have hk2 : k < (shl ss).length := by rw [shl_length]; exact hk
    rw [atC_eq hk2, shl_at]
    exact pback1_vc w0 L gb gf gi gl gt ss[k] (h.at k hk) (h8 _ (List.getElem_mem hk)) a ss.length c ⟨hlo, hhi⟩ I ta tc ns r hok ea ec xs hxs hx9 rfl
  rintro v L' ⟨a1, c1, ms, b1, d1, rfl, hms, hmo, rfl⟩
  generalize turnO (shl ss) I (fun k => backI (atC (shl ss) k) ns r I ss.length xs) [] = q at *
  repeat' (first | (refine go1 ?_; intros) | (refine goCC ?_ ?_ <;> (intro hb; (try simp only [hSQ] at hb); try (exfalso; omega))) | fail)
  exact ⟨_, sei w0 _ (ownSs a1 c1 ms :: shA ms :: ownTs b1 d1 q.2.1 :: L), a1, c1, ms, b1, d1, rfl, hms, hmo, rfl⟩
end Go.Proofs.YtcpndfffdbogbaaGreatDoor

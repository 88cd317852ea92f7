/-
  Pools: shards, one behind the other; a key's shard; empty pools.
-/
import Derived.Test.YtcpndfffdbogbaaDoorGS
set_option linter.unusedVariables false
set_option linter.unusedSimpArgs false
namespace Go.Proofs.YtcpndfffdbogbaaDoor
open Go Go.RowKit
set_option linter.unusedVariables false
set_option linter.unusedSimpArgs false
open Classical

/-- A shard's content. -/
structure Sh where
  a : Option Addr
  c : Nat
  ls : List Ln
def Sh.cells (s : Sh) : List Value := [.slice s.a s.ls.length s.c]
abbrev shc (ss : List Sh) : List Value := flat Sh.cells ss
structure SsOk (ss : List Sh) : Prop where
  ok : ∀ s ∈ ss, LsOk s.ls
  len : ss.length ≤ 1000000
abbrev shl (ss : List Sh) : List (List (List UInt8 × List Tx)) := ss.map fun s => lls s.ls
theorem shs_wide (ss : List Sh) : Wide Sh.cells 1 ss := fun _ _ => rfl
theorem shs_len (ss : List Sh) : (shc ss).length = ss.length := by rw [show shc ss = flat Sh.cells ss from rfl, (shs_wide ss).len, Nat.mul_one]
section
variable {ss : List Sh}
theorem SsOk.at (h : SsOk ss) (k : Nat) (hk : k < ss.length) : LsOk (ss[k]).ls := h.ok _ (List.getElem_mem hk)
theorem SsOk.e (h : SsOk ss) (k : Nat) (hk : k < ss.length) : ((shc ss).drop (k * 1)).take 1 = [.slice ss[k].a ss[k].ls.length ss[k].c] := (shs_wide ss).at k hk
theorem shs_e1 (k : Nat) (hk : k < ss.length) : ((shc ss).drop k).take 1 = [.slice ss[k].a ss[k].ls.length ss[k].c] := by
  have := (shs_wide ss).at k hk
  rw [Nat.mul_one] at this
  exact this
theorem SsOk.pos (h : SsOk ss) (k : Nat) (hk : k < ss.length) : 0 < (shc ss).length := by rw [shs_len]; omega
end
theorem SsOk.sub {ss ts : List Sh} (h : SsOk ss) (hs : ∀ p ∈ ts, p ∈ ss) (hl : ts.length ≤ ss.length) : SsOk ts := ⟨fun p hp => h.ok p (hs p hp), by have := h.len; omega⟩
theorem shl_len {ss ts : List Sh} (h : shl ss = shl ts) : ss.length = ts.length := by simpa using congrArg List.length h
theorem shl_get {ms ns : List Sh} (h : shl ms = shl ns) {i : Nat} (hm : i < ms.length) (hn : i < ns.length) : lls ms[i].ls = lls ns[i].ls := by
  have h1 : (shl ms)[i]? = (shl ns)[i]? := by rw [h]
  rw [List.getElem?_map, List.getElem?_map, List.getElem?_eq_getElem hm, List.getElem?_eq_getElem hn] at h1
  exact Option.some.inj h1
theorem SsOk.of_shl {ms ss : List Sh} (h : SsOk ss) (e : shl ms = shl ss) : SsOk ms := by
  have hl := shl_len e
  refine ⟨fun p hp => ?_, by have := h.len; omega⟩
  obtain ⟨i, hi, rfl⟩ := List.getElem_of_mem hp
  exact (h.at i (by omega)).of_lls (shl_get e hi (by omega))
/-- Their lines can be read. -/
class RdSs (w0 : World) (L : List Asn) (ss : List Sh) : Prop where
  out : ∀ s ∈ ss, RdC w0 L s.a (lnc s.ls) ∧ RdLs w0 L s.ls
instance (priority := 50) rdSs_cons (w0 : World) (A : Asn) (L : List Asn) (ss : List Sh) [h : RdSs w0 L ss] : RdSs w0 (A :: L) ss := ⟨fun p hp => by
    obtain ⟨h1, h2⟩ := h.out p hp
    exact ⟨inferInstance, inferInstance⟩⟩
theorem RdSs.at {w0 : World} {L : List Asn} {ss : List Sh} (h : RdSs w0 L ss) (k : Nat) (hk : k < ss.length) : RdC w0 L (ss[k]).a (lnc (ss[k]).ls) := (h.out _ (List.getElem_mem hk)).1
theorem RdSs.at2 {w0 : World} {L : List Asn} {ss : List Sh} (h : RdSs w0 L ss) (k : Nat) (hk : k < ss.length) : RdLs w0 L (ss[k]).ls := (h.out _ (List.getElem_mem hk)).2
def sh2 (ss : List Sh) : List Asn := ss.flatMap fun s => [ownLs s.a s.c s.ls, tsA s.ls]
/-- All lines and transactions of the call's own. -/
def shA (ss : List Sh) : Asn := bundle (sh2 ss)
theorem se_shA_nil (L : List Asn) : SE L (shA [] :: L) := se_bundle [] L
theorem se_shA_snoc (ss : List Sh) (L : List Asn) (s : Sh) : SE (ownLs s.a s.c s.ls :: tsA s.ls :: shA ss :: L) (shA (ss ++ [s]) :: L) := by
  have h1 : (ownLs s.a s.c s.ls :: tsA s.ls :: sh2 ss).Perm (sh2 (ss ++ [s])) := by
    unfold sh2
    rw [List.flatMap_append]
    exact List.perm_append_comm (l₁ := [ownLs s.a s.c s.ls, tsA s.ls])
  exact (SE.cons _ (SE.cons _ (se_unbundle _ L))).trans ((se_perm (h1.append_right L)).trans (se_bundle _ L))
class HasSh (L : List Asn) (ss : List Sh) : Prop where
  out : ∃ i : Nat, L[i]? = some (shA ss)
instance hasSh_zero (L : List Asn) (ss : List Sh) : HasSh (shA ss :: L) ss := ⟨0, rfl⟩
instance (priority := low) hasSh_succ (P : Asn) (L : List Asn) (ss : List Sh) [h : HasSh L ss] : HasSh (P :: L) ss := ⟨by obtain ⟨i, hi⟩ := h.out; exact ⟨i + 1, by simpa using hi⟩⟩
instance rdSs_own (w0 : World) (L : List Asn) (ss : List Sh) [h : HasSh L ss] : RdSs w0 L ss := ⟨fun s hs => by
  obtain ⟨i, hi⟩ := h.out
  have m1 : ownLs s.a s.c s.ls ∈ sh2 ss := List.mem_flatMap.2 ⟨s, hs, by simp⟩
  have m2 : tsA s.ls ∈ sh2 ss := List.mem_flatMap.2 ⟨s, hs, by simp⟩
  refine ⟨⟨fun w hw => hw.know i hi (fun F hF => ?_)⟩, ⟨fun l hl => ⟨fun w hw => hw.know i hi (fun F hF => ?_)⟩⟩⟩
  · obtain ⟨G, hG⟩ := SLs.mem (P := ownLs s.a s.c s.ls) hF m1
    exact own.rc hG
  · obtain ⟨G, hG⟩ := SLs.mem (P := tsA s.ls) hF m2
    obtain ⟨G2, hG2⟩ := SLs.mem (P := ownTs l.a l.c l.xs) hG (List.mem_map.2 ⟨l, hl, rfl⟩)
    exact own.rc hG2⟩
abbrev ownSs (a : Option Addr) (cap : Nat) (ss : List Sh) : Asn := own 64 1 a ss.length cap (shc ss)
theorem ownSs_snoc (a : Option Addr) (c : Nat) (ss : List Sh) (s : Sh) : ownSs a c (ss ++ [s]) = own 64 1 a (ss.length + 1) c (shc ss ++ s.cells) := by
  unfold ownSs shc
  rw [flat_snoc, List.length_append]
  rfl
theorem se_ss_nil (L : List Asn) : SE L (ownSs none 0 [] :: shA [] :: L) := (se_shA_nil L).trans (se_own_nil 64 1 _)
/-- What is told of a pool: its memory is new. -/
def RPo (L : List Asn) (ss : List Sh) (v : Value) (L' : List Asn) : Prop := ∃ a c ts, v = .slice a ts.length c ∧ shl ts = shl ss ∧ L' = ownSs a c ts :: shA ts :: L
def shE : Sh := ⟨none, 0, []⟩
theorem se_shA_zero (L : List Asn) : ∀ n, SE L (shA (List.replicate n shE) :: L)
  | 0 => se_shA_nil L
  | n + 1 => by
    rw [List.replicate_succ']
    exact ((se_shA_zero L n).trans (se_ls_nil _)).trans (se_shA_snoc (List.replicate n shE) L shE)
theorem shc_zero : ∀ n, shc (List.replicate n shE) = List.replicate n (.slice none 0 0)
  | 0 => rfl
  | n + 1 => by
    rw [List.replicate_succ, List.replicate_succ, ← shc_zero n]
    rfl
/-- A key's shard, of so many. -/
def atP (k : List UInt8) (m : Int) : Int := ((k.getD 31 0).toNat : Int).tmod m
set_option maxRecDepth 100000 in
theorem pat_vc (w0 : World) (L : List Asn) (k : List UInt8) (m : Int) (hk : k.length = 32) :
    VC Tryd.prog w0 14 [.agg (bvs k).toArray, .int .i64 m] L fun v L' => v = (if 1 ≤ m ∧ m ≤ 8 then .tuple #[.int .i64 (atP k m), .int .i64 0] else .tuple #[.int .i64 0, .int .i64 2]) ∧ L' = L := by
  have h31 : (bvs k)[0 + 31 * 1]? = some (.int .u8 ((k.getD 31 0).toNat : Nat)) := by
    have := bvs_at k 31 (by omega)
    rw [show k.getD 31 0 = k[31]'(by omega) by rw [List.getD_eq_getElem?_getD, List.getElem?_eq_getElem (by omega)]; rfl]
    simpa using this
  have h31' : (bvs k)[31]? = some (.int .u8 ((k.getD 31 0).toNat : Nat)) := by simpa using h31
  have hb := (k.getD 31 0).toNat_lt
  have hp : 0 < (bvs k).length := by rw [bvs_length]; omega
  unfold atP
  generalize (k.getD 31 0).toNat = B at *
  refine vc_ent ?_
  refine vc_in rfl rfl ?_
  by_cases h : 1 ≤ m ∧ m ≤ 8
  · rw [if_pos h]
    repeat' (first | (refine go1 ?_; intros) | (refine goCC ?_ ?_ <;> (intro hb; (try simp only [hSQ] at hb); try (exfalso; omega))) | fail)
    all_goals first | (exfalso; omega) | skip
    refine vl_q rfl rfl rfl rfl (vq_rem rfl rfl (by omega) rfl) ?_
    repeat' (first | (refine go1 ?_; intros) | (refine goCC ?_ ?_ <;> (intro hb; (try simp only [hSQ] at hb); try (exfalso; omega))) | fail)
    exact ⟨L, sei _ _ _, rfl, rfl⟩
  · rw [if_neg h]
    repeat' (first | (refine go1 ?_; intros) | (refine goCC ?_ ?_ <;> (intro hb; (try simp only [hSQ] at hb); try (exfalso; omega))) | fail)
    all_goals first | (exfalso; omega) | exact ⟨L, sei _ _ _, rfl, rfl⟩
/-- What New tells. -/
def RNew (L : List Asn) (m : Int) (v : Value) (L' : List Asn) : Prop := ∃ a c ss, v = .tuple #[.slice a ss.length c, .int .i64 (if 1 ≤ m ∧ m ≤ 8 then 0 else 2)] ∧ ss = (if 1 ≤ m ∧ m ≤ 8 then List.replicate m.toNat shE else []) ∧ L' = ownSs a c ss :: shA ss :: L
set_option maxRecDepth 100000 in
theorem pnew_vc (w0 : World) (L : List Asn) (m : Int) :
    VC Tryd.prog w0 6 [.int .i64 m] L (RNew L m) := by
  refine vc_ent ?_
  refine vc_in rfl rfl ?_
  unfold RNew
  by_cases h : 1 ≤ m ∧ m ≤ 8
  · rw [if_pos h, if_pos h]
    obtain ⟨k, rfl⟩ : ∃ k : Nat, m = k := ⟨m.toNat, by omega⟩
    repeat' (first | (refine go1 ?_; intros) | (refine goCC ?_ ?_ <;> (intro hb; (try simp only [hSQ] at hb); try (exfalso; omega))) | fail)
    all_goals first | (exfalso; omega) | skip
    refine vl_o rfl (vo_make (m := k) rfl rfl rfl (by omega) (by omega) rfl ?_)
    intro g
    repeat' (first | (refine go1 ?_; intros) | (refine goCC ?_ ?_ <;> (intro hb; (try simp only [hSQ] at hb); try (exfalso; omega))) | fail)
    refine ⟨ownSs (some ⟨g, 0, none⟩) k (List.replicate k shE) :: shA (List.replicate k shE) :: L, ?_, some ⟨g, 0, none⟩, k, List.replicate k shE, by rw [List.length_replicate], by rw [Int.toNat_natCast], rfl⟩
    have e : ownSs (some ⟨g, 0, none⟩) k (List.replicate k shE) = own 64 1 (some ⟨g, 0, none⟩) k k (madeCells [.slice none 0 0].toArray (k * 1)).toList := by
      unfold ownSs
      rw [List.length_replicate, shc_zero, Nat.mul_one, List.toArray, toList_madeCells_one]
    rw [e]
    exact (SE.cons _ (se_shA_zero L k)).ent w0
  · rw [if_neg h, if_neg h]
    repeat' (first | (refine go1 ?_; intros) | (refine goCC ?_ ?_ <;> (intro hb; (try simp only [hSQ] at hb); try (exfalso; omega))) | fail)
    all_goals first | (exfalso; omega) | exact ⟨_, (SEI.out.trans (se_ss_nil L)).ent w0, none, 0, [], rfl, rfl, rfl⟩
end Go.Proofs.YtcpndfffdbogbaaDoor

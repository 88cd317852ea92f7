/-
  The chapter's first example: the proof of a key among two.
-/
import Derived.Test.YtmaimkbppnpbnaaDoorTPrE
import Derived.Test.YtmaimkbppnpbnaaDoorTE
import Derived.Test.YtmaimkbppnpbnaaDoorTPrC
import Derived.Test.YtmaimkbppnpbnaaDoorTGtA
import Derived.Test.YtmaimkbppnpbnaaDoorTPtB
import Derived.Test.YtmaimkbppnpbnaaDoorGM
import Derived.Test.YtmaimkbppnpbnaaDoorTC
import Derived.Test.YtmaimkbppnpbnaaDoorGB
import Derived.Test.YtmaimkbppnpbnaaDoorGC
set_option linter.unusedVariables false
set_option linter.unusedSimpArgs false
namespace Go.Proofs.YtmaimkbppnpbnaaDoor
open Go Go.RowKit
set_option linter.unusedVariables false
set_option linter.unusedSimpArgs false
open Classical

/-- The two of the examples. -/
def twoL : List KV := [(dk 3, [97]), (dk 200, [98])]
theorem tw_bit3 : bitAt (dk 3) 0 = 0 := by decide
theorem tw_bit200 : ¬ bitAt (dk 200) 0 = 0 := by decide
theorem tw_b0 : bit0 twoL 0 = [(dk 3, [97])] := by simp [twoL, bit0, tw_bit3, tw_bit200]
theorem tw_b1 : bit1 twoL 0 = [(dk 200, [98])] := by simp [twoL, bit1, tw_bit3, tw_bit200]
theorem tw_lo (k : List UInt8) (h : bitAt k 0 = 0) : endF 257 twoL 0 k = (some (dk 3, [97]), [leaf1 (dk 200) [98]]) := by
  rw [endF_two (by decide), if_pos h, tw_b0, tw_b1]
  rfl
theorem tw_put1 : putF [] (dk 3) [97] = [(dk 3, [97])] := by simp [putF, lowF, highF]
theorem tw_put2 : putF [(dk 3, [97])] (dk 200) [98] = twoL := by simp [putF, lowF, highF, ahd_dk, twoL]
theorem tw_may : MayP [] 0 := by
  refine ⟨by simp, by simp, by simp, fun i x h => by simp at h, ?_⟩
  rw [show Int.toNat 0 = 0 from rfl, rightP]
  decide
structure TwoR (ns : List Nd) (s : Int) : Prop where
  may : MayP ns s
  ok : NsOk ns
  for' : forP ns s.toNat = twoL
theorem rdNs_nil (w0 : World) (L : List Asn) : RdNs w0 L [] := ⟨fun p hp => absurd hp (by simp)⟩
theorem nsOk_nil : NsOk [] := ⟨fun p hp => absurd hp (by simp), fun p hp => absurd hp (by simp), by simp⟩
set_option maxRecDepth 100000 in
set_option maxHeartbeats 1000000 in
theorem two7_vc (w0 : World) (L : List Asn) :
    VC Tryd.prog w0 46 [] L fun v L' => ∃ a c ns s, v = .agg #[.slice a ns.length c, .int .i64 s] ∧ TwoR ns s ∧ L' = ownNs a c ns :: vnA ns :: L := by
  have k3 := dk_len 3
  have k200 := dk_len 200
  refine vc_ent ?_
  refine vc_in rfl rfl ?_
  repeat' (first | (refine goB ?_; intros) | (refine vl_caseG rfl rfl rfl rfl ?_ ?_ <;> (intro hb; (try simp only [decide_eq_true_eq, decide_eq_false_iff_not, Bool.not_eq_true', Bool.not_eq_false', ne_eq, Decidable.not_not, Option.isNone_iff_eq_none, not_true_eq_false, not_false_eq_true] at hb); try (exfalso; omega))) | (refine v_cond rfl ?_ ?_ <;> (intro hb; (try simp only [decide_eq_true_eq, decide_eq_false_iff_not, Bool.not_eq_true', Bool.not_eq_false', ne_eq, Decidable.not_not, Option.isNone_iff_eq_none, not_true_eq_false, not_false_eq_true] at hb); try (exfalso; omega))) | fail)
  refine vl_q rfl rfl rfl rfl (vq_dk (c := 3) rfl) ?_
  repeat' (first | (refine goB ?_; intros) | (refine vl_caseG rfl rfl rfl rfl ?_ ?_ <;> (intro hb; (try simp only [decide_eq_true_eq, decide_eq_false_iff_not, Bool.not_eq_true', Bool.not_eq_false', ne_eq, Decidable.not_not, Option.isNone_iff_eq_none, not_true_eq_false, not_false_eq_true] at hb); try (exfalso; omega))) | (refine v_cond rfl ?_ ?_ <;> (intro hb; (try simp only [decide_eq_true_eq, decide_eq_false_iff_not, Bool.not_eq_true', Bool.not_eq_false', ne_eq, Decidable.not_not, Option.isNone_iff_eq_none, not_true_eq_false, not_false_eq_true] at hb); try (exfalso; omega))) | fail)
  rename_i g0 g1
  haveI hrv : ∀ M, RdC w0 (rd (some ⟨g1, 0, none⟩) [.int .u8 97] :: M) (some ⟨g1, 0, none⟩) (bvs [97]) := fun M => (inferInstance : RdC w0 _ _ [.int .u8 97])
  refine vl_o rfl (vo_call rfl rfl ?_)
  refine vc_mono (tput_vc (hr := rdC_nil _ _ _) (hv := rdNs_nil _ _) w0 _ none 0 [] 0 (dk 3) _ _ [97] rfl rfl nsOk_nil k3 (by decide)) ?_
  rintro v L' ⟨a2, c2, es, s, rfl, hes, rfl⟩
  have e0 : tputE [] 0 [97] = 0 := by
    unfold tputE
    rw [if_pos ⟨tw_may, by decide⟩]
    rfl
  rw [e0, if_pos rfl, show forP [] (Int.toNat 0) = [] by rw [show Int.toNat 0 = 0 from rfl, forP], tw_put1] at hes
  rw [e0]
  have hl1 := hes.len2
  refine vl_ent (L' := ownNs a2 c2 es :: vnA es :: blk g0 24 [.slice none 0 0, .int .i64 0] :: L) (sei _ _ _) ?_
  repeat' (first | (refine goB ?_; intros) | (refine vl_caseG rfl rfl rfl rfl ?_ ?_ <;> (intro hb; (try simp only [decide_eq_true_eq, decide_eq_false_iff_not, Bool.not_eq_true', Bool.not_eq_false', ne_eq, Decidable.not_not, Option.isNone_iff_eq_none, not_true_eq_false, not_false_eq_true] at hb); try (exfalso; omega))) | (refine v_cond rfl ?_ ?_ <;> (intro hb; (try simp only [decide_eq_true_eq, decide_eq_false_iff_not, Bool.not_eq_true', Bool.not_eq_false', ne_eq, Decidable.not_not, Option.isNone_iff_eq_none, not_true_eq_false, not_false_eq_true] at hb); try (exfalso; omega))) | fail)
  refine vl_q rfl rfl rfl rfl (vq_dk (c := 200) rfl) ?_
  repeat' (first | (refine goB ?_; intros) | (refine vl_caseG rfl rfl rfl rfl ?_ ?_ <;> (intro hb; (try simp only [decide_eq_true_eq, decide_eq_false_iff_not, Bool.not_eq_true', Bool.not_eq_false', ne_eq, Decidable.not_not, Option.isNone_iff_eq_none, not_true_eq_false, not_false_eq_true] at hb); try (exfalso; omega))) | (refine v_cond rfl ?_ ?_ <;> (intro hb; (try simp only [decide_eq_true_eq, decide_eq_false_iff_not, Bool.not_eq_true', Bool.not_eq_false', ne_eq, Decidable.not_not, Option.isNone_iff_eq_none, not_true_eq_false, not_false_eq_true] at hb); try (exfalso; omega))) | fail)
  rename_i g2
  haveI hrv2 : ∀ M, RdC w0 (rd (some ⟨g2, 0, none⟩) [.int .u8 98] :: M) (some ⟨g2, 0, none⟩) (bvs [98]) := fun M => (inferInstance : RdC w0 _ _ [.int .u8 98])
  refine vl_o rfl (vo_call rfl rfl ?_)
  refine vc_mono (tput_vc w0 _ a2 c2 es s (dk 200) _ _ [98] rfl rfl hes.ok k200 (by decide)) ?_
  rintro v L' ⟨a3, c3, fs, t, rfl, hfs, rfl⟩
  have e1 : tputE es s [98] = 0 := by
    unfold tputE
    rw [if_pos ⟨hes.may, by decide⟩, if_neg (by simp at hl1; omega)]
  rw [e1, if_pos rfl, hes.for', tw_put2] at hfs
  rw [e1]
  repeat' (first | (refine goB ?_; intros) | (refine vl_caseG rfl rfl rfl rfl ?_ ?_ <;> (intro hb; (try simp only [decide_eq_true_eq, decide_eq_false_iff_not, Bool.not_eq_true', Bool.not_eq_false', ne_eq, Decidable.not_not, Option.isNone_iff_eq_none, not_true_eq_false, not_false_eq_true] at hb); try (exfalso; omega))) | (refine v_cond rfl ?_ ?_ <;> (intro hb; (try simp only [decide_eq_true_eq, decide_eq_false_iff_not, Bool.not_eq_true', Bool.not_eq_false', ne_eq, Decidable.not_not, Option.isNone_iff_eq_none, not_true_eq_false, not_false_eq_true] at hb); try (exfalso; omega))) | fail)
  exact ⟨_, sei _ _ _, a3, c3, fs, t, rfl, ⟨hfs.may, hfs.ok, hfs.for'⟩, rfl⟩
set_option maxRecDepth 100000 in
set_option maxHeartbeats 1000000 in
theorem side7_vc (w0 : World) [hK : RdA w0 (some ⟨0, 0, none⟩) (wds K64)] (L : List Asn) (k : UInt8) (l : List UInt8) {I : Int} (hI : I = (k.toNat : Int)) (hl : l.length ≤ 1000) :
    VC Tryd.prog w0 48 [.int .u8 I, .string ⟨l.toArray⟩] L fun v L' => ∃ g, v = .slice (some ⟨g, 0, none⟩) 1 1 ∧ L' = own 26 32 (some ⟨g, 0, none⟩) 1 1 (bvs (leaf1 (dk k) l)) :: L := by
  subst hI
  have hk := dk_len k
  have hB := leaf_bytes (dk k) l hk (by omega)
  refine vc_ent ?_
  refine vc_in rfl rfl ?_
  repeat' (first | (refine goB ?_; intros) | (refine vl_caseG rfl rfl rfl rfl ?_ ?_ <;> (intro hb; (try simp only [decide_eq_true_eq, decide_eq_false_iff_not, Bool.not_eq_true', Bool.not_eq_false', ne_eq, Decidable.not_not, Option.isNone_iff_eq_none, not_true_eq_false, not_false_eq_true] at hb); try (exfalso; omega))) | (refine v_cond rfl ?_ ?_ <;> (intro hb; (try simp only [decide_eq_true_eq, decide_eq_false_iff_not, Bool.not_eq_true', Bool.not_eq_false', ne_eq, Decidable.not_not, Option.isNone_iff_eq_none, not_true_eq_false, not_false_eq_true] at hb); try (exfalso; omega))) | fail)
  refine vl_q rfl rfl rfl rfl (vq_dk rfl) ?_
  repeat' (first | (refine goB ?_; intros) | (refine vl_caseG rfl rfl rfl rfl ?_ ?_ <;> (intro hb; (try simp only [decide_eq_true_eq, decide_eq_false_iff_not, Bool.not_eq_true', Bool.not_eq_false', ne_eq, Decidable.not_not, Option.isNone_iff_eq_none, not_true_eq_false, not_false_eq_true] at hb); try (exfalso; omega))) | (refine v_cond rfl ?_ ?_ <;> (intro hb; (try simp only [decide_eq_true_eq, decide_eq_false_iff_not, Bool.not_eq_true', Bool.not_eq_false', ne_eq, Decidable.not_not, Option.isNone_iff_eq_none, not_true_eq_false, not_false_eq_true] at hb); try (exfalso; omega))) | fail)
  refine vl_o rfl (vo_strBytes rfl rfl ?_)
  intro g c hc
  repeat' (first | (refine goB ?_; intros) | (refine vl_caseG rfl rfl rfl rfl ?_ ?_ <;> (intro hb; (try simp only [decide_eq_true_eq, decide_eq_false_iff_not, Bool.not_eq_true', Bool.not_eq_false', ne_eq, Decidable.not_not, Option.isNone_iff_eq_none, not_true_eq_false, not_false_eq_true] at hb); try (exfalso; omega))) | (refine v_cond rfl ?_ ?_ <;> (intro hb; (try simp only [decide_eq_true_eq, decide_eq_false_iff_not, Bool.not_eq_true', Bool.not_eq_false', ne_eq, Decidable.not_not, Option.isNone_iff_eq_none, not_true_eq_false, not_false_eq_true] at hb); try (exfalso; omega))) | fail)
  rename_i g3
  refine vl_o rfl (vo_call rfl rfl ?_)
  refine vc_mono (tof2_vc w0 _ 1 (by decide) g3 _ 32 (dk k) _ c l hk.symm rfl hB) ?_
  rintro v L' ⟨rfl, rfl⟩
  rw [show sha (tagB 1 [dk k, l]) = leaf1 (dk k) l from rfl]
  have hS := leaf1_len (dk k) l
  generalize leaf1 (dk k) l = S at *
  repeat' (first | (refine goB ?_; intros) | (refine vl_caseG rfl rfl rfl rfl ?_ ?_ <;> (intro hb; (try simp only [decide_eq_true_eq, decide_eq_false_iff_not, Bool.not_eq_true', Bool.not_eq_false', ne_eq, Decidable.not_not, Option.isNone_iff_eq_none, not_true_eq_false, not_false_eq_true] at hb); try (exfalso; omega))) | (refine v_cond rfl ?_ ?_ <;> (intro hb; (try simp only [decide_eq_true_eq, decide_eq_false_iff_not, Bool.not_eq_true', Bool.not_eq_false', ne_eq, Decidable.not_not, Option.isNone_iff_eq_none, not_true_eq_false, not_false_eq_true] at hb); try (exfalso; omega))) | fail)
  rename_i g4
  rw [List.append_nil]
  exact ⟨_, sei _ _ _, g4, rfl, rfl⟩
theorem g_lo (k : UInt8) (h : bitAt (dk k) 0 = 0) : prfG twoL (dk k) = if dk 3 = dk k then ⟨dk k, 1, z32, none, 0, [97], none, 0, [leaf1 (dk 200) [98]]⟩ else ⟨dk k, 2, dk 3, none, 0, [97], none, 0, [leaf1 (dk 200) [98]]⟩ := by
  unfold prfG
  rw [tw_lo _ h]
theorem TwoR.prf {ns : List Nd} {s : Int} (h : TwoR ns s) (k : List UInt8) : prfT ns s k = prfG twoL k := by rw [prfT_pairs k h.may, h.for']
theorem TwoR.mayE {ns : List Nd} {s : Int} (h : TwoR ns s) : mayE ns s = 0 := by unfold Go.Proofs.YtmaimkbppnpbnaaDoor.mayE; rw [if_pos h.may]
/-- A proof as the examples write it. -/
def prfQ (k : Nat) (a o : List UInt8) (gb : Nat) (v : List UInt8) (gs : Nat) (D : List UInt8) : Prf := ⟨a, k, o, some ⟨gb, 0, none⟩, 1, v, some ⟨gs, 0, none⟩, 1, [D]⟩
theorem prfQ_ok {k : Nat} {a o : List UInt8} {gb : Nat} {v : List UInt8} {gs : Nat} {D : List UInt8} (hk : k < 256) (ha : a.length = 32) (ho : o.length = 32) (hv : v.length ≤ 1000) (hD : D.length = 32) : (prfQ k a o gb v gs D).ok := by
  refine ⟨ha, hk, ho, fun x hx => ?_, by show v.length ≤ _; omega, by simp [prfQ]⟩
  rcases List.mem_singleton.1 hx with rfl
  exact hD
theorem z32_len : z32.length = 32 := rfl
theorem prfQ_fill {k : Nat} {a : List UInt8} {gb : Nat} {v : List UInt8} {gs : Nat} {D : List UInt8} (ha : a.length = 32) (hv : v.length = 1) : fillS [(0, 32), (32, 1), (33, 32), (65, 1), (66, 1)] (bvs (List.replicate 32 0) ++ (.int .u8 0 :: (bvs (List.replicate 32 0) ++ [.slice none 0 0, .slice none 0 0]))) [(0, bvs a), (1, [.int .u8 k]), (3, [.slice (some ⟨gb, 0, none⟩) 1 1]), (4, [.slice (some ⟨gs, 0, none⟩) 1 1])] = (prfQ k a z32 gb v gs D).cells := by
  simp [fillS, splice, ha, hv, prfQ, Prf.cells, z32, List.drop_append, List.drop_of_length_le, List.take_append]
  repeat rw [List.take_of_length_le (by simp [ha])]
set_option maxRecDepth 100000 in
set_option maxHeartbeats 4000000 in
theorem alive7_vc (w0 : World) [hK : RdA w0 (some ⟨0, 0, none⟩) (wds K64)] (L : List Asn) :
    VC Tryd.prog w0 49 [] L fun v L' => v = .bool true ∧ L' = L := by
  have k3 := dk_len 3
  refine vc_ent ?_
  refine vc_in rfl rfl ?_
  repeat' (first | (refine goB ?_; intros) | (refine vl_caseG rfl rfl rfl rfl ?_ ?_ <;> (intro hb; (try simp only [decide_eq_true_eq, decide_eq_false_iff_not, Bool.not_eq_true', Bool.not_eq_false', ne_eq, Decidable.not_not, Option.isNone_iff_eq_none, not_true_eq_false, not_false_eq_true] at hb); try (exfalso; omega))) | (refine v_cond rfl ?_ ?_ <;> (intro hb; (try simp only [decide_eq_true_eq, decide_eq_false_iff_not, Bool.not_eq_true', Bool.not_eq_false', ne_eq, Decidable.not_not, Option.isNone_iff_eq_none, not_true_eq_false, not_false_eq_true] at hb); try (exfalso; omega))) | fail)
  refine vl_o rfl (vo_call rfl rfl ?_)
  refine vc_mono (two7_vc w0 _) ?_
  rintro v L' ⟨a, c, ns, s, rfl, hT, rfl⟩
  repeat' (first | (refine goB ?_; intros) | (refine vl_caseG rfl rfl rfl rfl ?_ ?_ <;> (intro hb; (try simp only [decide_eq_true_eq, decide_eq_false_iff_not, Bool.not_eq_true', Bool.not_eq_false', ne_eq, Decidable.not_not, Option.isNone_iff_eq_none, not_true_eq_false, not_false_eq_true] at hb); try (exfalso; omega))) | (refine v_cond rfl ?_ ?_ <;> (intro hb; (try simp only [decide_eq_true_eq, decide_eq_false_iff_not, Bool.not_eq_true', Bool.not_eq_false', ne_eq, Decidable.not_not, Option.isNone_iff_eq_none, not_true_eq_false, not_false_eq_true] at hb); try (exfalso; omega))) | fail)
  refine vl_q rfl rfl rfl rfl (vq_dk (c := 3) rfl) ?_
  repeat' (first | (refine goB ?_; intros) | (refine vl_caseG rfl rfl rfl rfl ?_ ?_ <;> (intro hb; (try simp only [decide_eq_true_eq, decide_eq_false_iff_not, Bool.not_eq_true', Bool.not_eq_false', ne_eq, Decidable.not_not, Option.isNone_iff_eq_none, not_true_eq_false, not_false_eq_true] at hb); try (exfalso; omega))) | (refine v_cond rfl ?_ ?_ <;> (intro hb; (try simp only [decide_eq_true_eq, decide_eq_false_iff_not, Bool.not_eq_true', Bool.not_eq_false', ne_eq, Decidable.not_not, Option.isNone_iff_eq_none, not_true_eq_false, not_false_eq_true] at hb); try (exfalso; omega))) | fail)
  refine vl_o rfl (vo_call rfl rfl ?_)
  refine vc_mono (pmake_vc w0 _ a c ns s (dk 3) rfl hT.ok k3) ?_
  rintro v L' ⟨p, rfl, hp1, hp2, rfl⟩
  rw [hT.mayE]
  have M := made_law hT.ok k3 hT.may
  rw [← hp1] at M
  rw [hT.prf, g_lo 3 tw_bit3, if_pos rfl] at hp1
  have hk1 : p.kind = 1 := congrArg Prf.kind hp1
  have hv1 : p.vl = [97] := congrArg Prf.vl hp1
  have hT1 : p.isT = true := by
    unfold Prf.isT
    rw [← may_ct, M.may, hk1]
    rfl
  have hT2 : p.tl = [97] := by unfold Prf.tl; rw [if_pos hT1, hv1]
  have hpc := Prf.len hp2
  repeat' (first | (refine goB ?_; intros) | (refine vl_caseG rfl rfl rfl rfl ?_ ?_ <;> (intro hb; (try simp only [decide_eq_true_eq, decide_eq_false_iff_not, Bool.not_eq_true', Bool.not_eq_false', ne_eq, Decidable.not_not, Option.isNone_iff_eq_none, not_true_eq_false, not_false_eq_true] at hb); try (exfalso; omega))) | (refine v_cond rfl ?_ ?_ <;> (intro hb; (try simp only [decide_eq_true_eq, decide_eq_false_iff_not, Bool.not_eq_true', Bool.not_eq_false', ne_eq, Decidable.not_not, Option.isNone_iff_eq_none, not_true_eq_false, not_false_eq_true] at hb); try (exfalso; omega))) | fail)
  refine vl_o rfl (vo_call rfl rfl ?_)
  refine vc_mono (told_vc w0 _ p hp2) ?_
  rintro v L' ⟨a2, c2, rfl, rfl⟩
  rw [hT1, hT2]
  repeat' (first | (refine goB ?_; intros) | (refine vl_caseG rfl rfl rfl rfl ?_ ?_ <;> (intro hb; (try simp only [decide_eq_true_eq, decide_eq_false_iff_not, Bool.not_eq_true', Bool.not_eq_false', ne_eq, Decidable.not_not, Option.isNone_iff_eq_none, not_true_eq_false, not_false_eq_true] at hb); try (exfalso; omega))) | (refine v_cond rfl ?_ ?_ <;> (intro hb; (try simp only [decide_eq_true_eq, decide_eq_false_iff_not, Bool.not_eq_true', Bool.not_eq_false', ne_eq, Decidable.not_not, Option.isNone_iff_eq_none, not_true_eq_false, not_false_eq_true] at hb); try (exfalso; omega))) | fail)
  have lD := leaf1_len (dk 200) [98]
  obtain ⟨D, hD⟩ : ∃ D, D = leaf1 (dk 200) [98] := ⟨_, rfl⟩
  rw [← hD] at lD hp1
  refine v_id ?_
  refine v_draw0 [] (by kernel_rfl) ?_
  refine va_takeA 0 rfl rfl rfl rfl ?_
  refine va_takeA 1 rfl rfl rfl rfl ?_
  refine va_takeA 2 rfl rfl rfl rfl ?_
  first | (refine va_takeGA 3 rfl rfl rfl rfl rfl rfl rfl rfl ?_) | (refine va_passGA 3 rfl rfl rfl rfl rfl rfl rfl rfl ?_)
  refine va_takeG 4 rfl rfl rfl rfl rfl rfl rfl rfl (by kernel_rfl) (fun _ _ _ _ h => h) (SE.ent (by repeat' (first | exact SE.refl _ | refine SE.cons _ ?_ | refine SE.trans (se_drop _ _) ?_)) _) (vq_dk (c := 3) rfl) ?_
  refine va_twoG 5 7 (by kernel_rfl) rfl rfl rfl rfl rfl rfl rfl rfl ?_ ?_
  · (first | (refine vo_box rfl rfl rfl ?_; intro _) | (refine vo_alloc rfl ?_; intro _) | (refine vo_isStore ?_; first | (refine vo_isPt0 rfl ?_; refine vo_stWA rfl rfl ?_) | (refine vo_isPt rfl ?_; refine vo_stBA rfl rfl ?_) | (refine vo_stO rfl rfl (by rfl) (by first | rfl | assumption) (by first | assumption | (simp; done) | (simp; omega) | omega) rfl ?_; skip)) | (refine vo_isCall ?_; first | (refine vo_isApp ?_; first | (refine vo_append0A rfl rfl rfl ?_; intro _ _ _ _) | (refine vo_appendA rfl rfl rfl ?_; intro _ _ _ _)) | (refine vo_isCopy ?_; refine vo_copyB rfl rfl rfl (by assumption) (by assumption) (by assumption) (by assumption) ?_) | refine vo_yield rfl rfl rfl rfl rfl ?_ | refine vo_callV rfl rfl rfl (vc_in rfl rfl ?_)) | refine vo_convRow rfl rfl ?_ | (refine vo_isBs ?_; refine vo_buildSlice rfl rfl rfl (by decide) (by repeat' (first | exact trivial | rfl | assumption | refine ⟨?_, ?_⟩ | (simp; done) | (simp; omega))) (by decide) rfl ?_; intro _) | (refine vo_buildSlice0 rfl ?_; intro _) | fail)
    rename_i gb
    refine ⟨.inr (sei _ _ _), ?_⟩
    refine va_twoG 6 7 (by kernel_rfl) rfl rfl rfl rfl rfl rfl rfl rfl ?_ ?_
    · refine vo_convRow rfl rfl ?_
      refine ⟨.inr (sei _ _ _), ?_⟩
      refine va_oneG 7 (by kernel_rfl) rfl rfl rfl rfl rfl rfl ?_
      first | refine vo_call rfl rfl ?_ | refine vo_callV rfl rfl rfl ?_
      refine vc_mono (side7_vc w0 _ 200 [98] rfl (by decide)) ?_
      rintro v L' ⟨gs, rfl, rfl⟩
      rw [← hD]
      refine ⟨.inr (sei _ _ _), ?_⟩
      have q2 : (prfQ 1 (dk 3) z32 gb [97] gs D).ok := prfQ_ok (by decide) k3 z32_len (by simp) lD
      have hqc := Prf.len q2
      refine va_takeG 8 rfl rfl rfl rfl rfl rfl rfl rfl (by kernel_rfl) (fun _ _ _ _ h => h) (SE.ent (by repeat' (first | exact SE.refl _ | refine SE.cons _ ?_ | refine SE.trans (se_drop _ _) ?_)) _) (vq_buildP (cs := (prfQ 1 (dk 3) z32 gb [97] gs D).cells) rfl (by simp [okS, Value.cells, k3]) (prfQ_fill k3 rfl)) ?_
      refine va_oneG 9 (by kernel_rfl) rfl rfl rfl rfl rfl rfl ?_
      first | refine vo_call rfl rfl ?_ | refine vo_callV rfl rfl rfl ?_
      haveI r1 : ∀ M, RdC w0 (rd (some ⟨gb, 0, none⟩) [.int .u8 97] :: M) (prfQ 1 (dk 3) z32 gb [97] gs D).va (bvs (prfQ 1 (dk 3) z32 gb [97] gs D).vl) := fun M => (inferInstance : RdC w0 (rd (some ⟨gb, 0, none⟩) [.int .u8 97] :: M) (some ⟨gb, 0, none⟩) [.int .u8 97])
      haveI r2 : ∀ M, RdC w0 (own 26 32 (some ⟨gs, 0, none⟩) 1 1 (bvs D) :: M) (prfQ 1 (dk 3) z32 gb [97] gs D).pa (bvs (prfQ 1 (dk 3) z32 gb [97] gs D).pl.flatten) := fun M => by
        rw [show (prfQ 1 (dk 3) z32 gb [97] gs D).pl.flatten = D from List.append_nil D]
        exact (inferInstance : RdC w0 (own 26 32 (some ⟨gs, 0, none⟩) 1 1 (bvs D) :: M) (some ⟨gs, 0, none⟩) (bvs D))
      refine vc_mono (same7_vc w0 _ p (prfQ 1 (dk 3) z32 gb [97] gs D) hp2 q2) ?_
      rintro v L' ⟨rfl, rfl⟩
      rw [decide_eq_true (ct_eq (q := prfQ 1 (dk 3) z32 gb [97] gs D) hp1)]
      refine ⟨.inr (sei _ _ _), ?_⟩
      refine va_takeA 10 rfl rfl rfl rfl ?_
      refine va_takeA 11 rfl rfl rfl rfl ?_
      first | (refine va_takeGA 12 rfl rfl rfl rfl rfl rfl rfl rfl ?_) | (refine va_passGA 12 rfl rfl rfl rfl rfl rfl rfl rfl ?_)
      refine va_takeA 13 rfl rfl rfl rfl ?_
      refine va_takeA 14 rfl rfl rfl rfl ?_
      first | (refine va_takeGA 15 rfl rfl rfl rfl rfl rfl rfl rfl ?_) | (refine va_passGA 15 rfl rfl rfl rfl rfl rfl rfl rfl ?_)
      refine va_takeG 16 rfl rfl rfl rfl rfl rfl rfl rfl (by kernel_rfl) (fun _ _ _ _ h => h) (SE.ent (by repeat' (first | exact SE.refl _ | refine SE.cons _ ?_ | refine SE.trans (se_drop _ _) ?_)) _) (vq_toStr (l := [97]) rfl rfl) ?_
      refine va_takeG 17 rfl rfl rfl rfl rfl rfl rfl rfl (by kernel_rfl) (fun _ _ _ _ h => h) (SE.ent (by repeat' (first | exact SE.refl _ | refine SE.cons _ ?_ | refine SE.trans (se_drop _ _) ?_)) _) (vq_eqStr (l := [97]) (m := [97]) rfl rfl) ?_
      rw [decide_eq_true rfl]
      refine va_takeA 18 rfl rfl rfl rfl ?_
      refine va_takeA 19 rfl rfl rfl rfl ?_
      refine va_done (by kernel_rfl) ?_
      repeat' (first | (refine goB ?_; intros) | (refine vl_caseG rfl rfl rfl rfl ?_ ?_ <;> (intro hb; (try simp only [decide_eq_true_eq, decide_eq_false_iff_not, Bool.not_eq_true', Bool.not_eq_false', ne_eq, Decidable.not_not, Option.isNone_iff_eq_none, not_true_eq_false, not_false_eq_true] at hb); try (exfalso; omega))) | (refine v_cond rfl ?_ ?_ <;> (intro hb; (try simp only [decide_eq_true_eq, decide_eq_false_iff_not, Bool.not_eq_true', Bool.not_eq_false', ne_eq, Decidable.not_not, Option.isNone_iff_eq_none, not_true_eq_false, not_false_eq_true] at hb); try (exfalso; omega))) | fail)
      exact ⟨L, sei _ _ _, rfl, rfl⟩
    · first | refine vo_call rfl rfl ?_ | refine vo_callV rfl rfl rfl ?_
      refine vc_mono (side7_vc w0 _ 200 [98] rfl (by decide)) ?_
      rintro v L' ⟨gs, rfl, rfl⟩
      rw [← hD]
      refine ⟨.inr (sei _ _ _), ?_⟩
      refine va_oneG 6 (by kernel_rfl) rfl rfl rfl rfl rfl rfl ?_
      refine vo_convRow rfl rfl ?_
      refine ⟨.inr (sei _ _ _), ?_⟩
      have q2 : (prfQ 1 (dk 3) z32 gb [97] gs D).ok := prfQ_ok (by decide) k3 z32_len (by simp) lD
      have hqc := Prf.len q2
      refine va_takeG 8 rfl rfl rfl rfl rfl rfl rfl rfl (by kernel_rfl) (fun _ _ _ _ h => h) (SE.ent (by repeat' (first | exact SE.refl _ | refine SE.cons _ ?_ | refine SE.trans (se_drop _ _) ?_)) _) (vq_buildP (cs := (prfQ 1 (dk 3) z32 gb [97] gs D).cells) rfl (by simp [okS, Value.cells, k3]) (prfQ_fill k3 rfl)) ?_
      refine va_oneG 9 (by kernel_rfl) rfl rfl rfl rfl rfl rfl ?_
      first | refine vo_call rfl rfl ?_ | refine vo_callV rfl rfl rfl ?_
      haveI r1 : ∀ M, RdC w0 (rd (some ⟨gb, 0, none⟩) [.int .u8 97] :: M) (prfQ 1 (dk 3) z32 gb [97] gs D).va (bvs (prfQ 1 (dk 3) z32 gb [97] gs D).vl) := fun M => (inferInstance : RdC w0 (rd (some ⟨gb, 0, none⟩) [.int .u8 97] :: M) (some ⟨gb, 0, none⟩) [.int .u8 97])
      haveI r2 : ∀ M, RdC w0 (own 26 32 (some ⟨gs, 0, none⟩) 1 1 (bvs D) :: M) (prfQ 1 (dk 3) z32 gb [97] gs D).pa (bvs (prfQ 1 (dk 3) z32 gb [97] gs D).pl.flatten) := fun M => by
        rw [show (prfQ 1 (dk 3) z32 gb [97] gs D).pl.flatten = D from List.append_nil D]
        exact (inferInstance : RdC w0 (own 26 32 (some ⟨gs, 0, none⟩) 1 1 (bvs D) :: M) (some ⟨gs, 0, none⟩) (bvs D))
      refine vc_mono (same7_vc w0 _ p (prfQ 1 (dk 3) z32 gb [97] gs D) hp2 q2) ?_
      rintro v L' ⟨rfl, rfl⟩
      rw [decide_eq_true (ct_eq (q := prfQ 1 (dk 3) z32 gb [97] gs D) hp1)]
      refine ⟨.inr (sei _ _ _), ?_⟩
      refine va_takeA 10 rfl rfl rfl rfl ?_
      refine va_takeA 11 rfl rfl rfl rfl ?_
      first | (refine va_takeGA 12 rfl rfl rfl rfl rfl rfl rfl rfl ?_) | (refine va_passGA 12 rfl rfl rfl rfl rfl rfl rfl rfl ?_)
      refine va_takeA 13 rfl rfl rfl rfl ?_
      refine va_takeA 14 rfl rfl rfl rfl ?_
      first | (refine va_takeGA 15 rfl rfl rfl rfl rfl rfl rfl rfl ?_) | (refine va_passGA 15 rfl rfl rfl rfl rfl rfl rfl rfl ?_)
      refine va_takeG 16 rfl rfl rfl rfl rfl rfl rfl rfl (by kernel_rfl) (fun _ _ _ _ h => h) (SE.ent (by repeat' (first | exact SE.refl _ | refine SE.cons _ ?_ | refine SE.trans (se_drop _ _) ?_)) _) (vq_toStr (l := [97]) rfl rfl) ?_
      refine va_takeG 17 rfl rfl rfl rfl rfl rfl rfl rfl (by kernel_rfl) (fun _ _ _ _ h => h) (SE.ent (by repeat' (first | exact SE.refl _ | refine SE.cons _ ?_ | refine SE.trans (se_drop _ _) ?_)) _) (vq_eqStr (l := [97]) (m := [97]) rfl rfl) ?_
      rw [decide_eq_true rfl]
      refine va_takeA 18 rfl rfl rfl rfl ?_
      refine va_takeA 19 rfl rfl rfl rfl ?_
      refine va_done (by kernel_rfl) ?_
      repeat' (first | (refine goB ?_; intros) | (refine vl_caseG rfl rfl rfl rfl ?_ ?_ <;> (intro hb; (try simp only [decide_eq_true_eq, decide_eq_false_iff_not, Bool.not_eq_true', Bool.not_eq_false', ne_eq, Decidable.not_not, Option.isNone_iff_eq_none, not_true_eq_false, not_false_eq_true] at hb); try (exfalso; omega))) | (refine v_cond rfl ?_ ?_ <;> (intro hb; (try simp only [decide_eq_true_eq, decide_eq_false_iff_not, Bool.not_eq_true', Bool.not_eq_false', ne_eq, Decidable.not_not, Option.isNone_iff_eq_none, not_true_eq_false, not_false_eq_true] at hb); try (exfalso; omega))) | fail)
      exact ⟨L, sei _ _ _, rfl, rfl⟩
  · first | refine vo_call rfl rfl ?_ | refine vo_callV rfl rfl rfl ?_
    refine vc_mono (side7_vc w0 _ 200 [98] rfl (by decide)) ?_
    rintro v L' ⟨gs, rfl, rfl⟩
    rw [← hD]
    refine ⟨.inr (sei _ _ _), ?_⟩
    refine va_oneG 5 (by kernel_rfl) rfl rfl rfl rfl rfl rfl ?_
    (first | (refine vo_box rfl rfl rfl ?_; intro _) | (refine vo_alloc rfl ?_; intro _) | (refine vo_isStore ?_; first | (refine vo_isPt0 rfl ?_; refine vo_stWA rfl rfl ?_) | (refine vo_isPt rfl ?_; refine vo_stBA rfl rfl ?_) | (refine vo_stO rfl rfl (by rfl) (by first | rfl | assumption) (by first | assumption | (simp; done) | (simp; omega) | omega) rfl ?_; skip)) | (refine vo_isCall ?_; first | (refine vo_isApp ?_; first | (refine vo_append0A rfl rfl rfl ?_; intro _ _ _ _) | (refine vo_appendA rfl rfl rfl ?_; intro _ _ _ _)) | (refine vo_isCopy ?_; refine vo_copyB rfl rfl rfl (by assumption) (by assumption) (by assumption) (by assumption) ?_) | refine vo_yield rfl rfl rfl rfl rfl ?_ | refine vo_callV rfl rfl rfl (vc_in rfl rfl ?_)) | refine vo_convRow rfl rfl ?_ | (refine vo_isBs ?_; refine vo_buildSlice rfl rfl rfl (by decide) (by repeat' (first | exact trivial | rfl | assumption | refine ⟨?_, ?_⟩ | (simp; done) | (simp; omega))) (by decide) rfl ?_; intro _) | (refine vo_buildSlice0 rfl ?_; intro _) | fail)
    rename_i gb
    refine ⟨.inr (sei _ _ _), ?_⟩
    refine va_oneG 6 (by kernel_rfl) rfl rfl rfl rfl rfl rfl ?_
    refine vo_convRow rfl rfl ?_
    refine ⟨.inr (sei _ _ _), ?_⟩
    have q2 : (prfQ 1 (dk 3) z32 gb [97] gs D).ok := prfQ_ok (by decide) k3 z32_len (by simp) lD
    have hqc := Prf.len q2
    refine va_takeG 8 rfl rfl rfl rfl rfl rfl rfl rfl (by kernel_rfl) (fun _ _ _ _ h => h) (SE.ent (by repeat' (first | exact SE.refl _ | refine SE.cons _ ?_ | refine SE.trans (se_drop _ _) ?_)) _) (vq_buildP (cs := (prfQ 1 (dk 3) z32 gb [97] gs D).cells) rfl (by simp [okS, Value.cells, k3]) (prfQ_fill k3 rfl)) ?_
    refine va_oneG 9 (by kernel_rfl) rfl rfl rfl rfl rfl rfl ?_
    first | refine vo_call rfl rfl ?_ | refine vo_callV rfl rfl rfl ?_
    haveI r1 : ∀ M, RdC w0 (rd (some ⟨gb, 0, none⟩) [.int .u8 97] :: M) (prfQ 1 (dk 3) z32 gb [97] gs D).va (bvs (prfQ 1 (dk 3) z32 gb [97] gs D).vl) := fun M => (inferInstance : RdC w0 (rd (some ⟨gb, 0, none⟩) [.int .u8 97] :: M) (some ⟨gb, 0, none⟩) [.int .u8 97])
    haveI r2 : ∀ M, RdC w0 (own 26 32 (some ⟨gs, 0, none⟩) 1 1 (bvs D) :: M) (prfQ 1 (dk 3) z32 gb [97] gs D).pa (bvs (prfQ 1 (dk 3) z32 gb [97] gs D).pl.flatten) := fun M => by
      rw [show (prfQ 1 (dk 3) z32 gb [97] gs D).pl.flatten = D from List.append_nil D]
      exact (inferInstance : RdC w0 (own 26 32 (some ⟨gs, 0, none⟩) 1 1 (bvs D) :: M) (some ⟨gs, 0, none⟩) (bvs D))
    refine vc_mono (same7_vc w0 _ p (prfQ 1 (dk 3) z32 gb [97] gs D) hp2 q2) ?_
    rintro v L' ⟨rfl, rfl⟩
    rw [decide_eq_true (ct_eq (q := prfQ 1 (dk 3) z32 gb [97] gs D) hp1)]
    refine ⟨.inr (sei _ _ _), ?_⟩
    refine va_takeA 10 rfl rfl rfl rfl ?_
    refine va_takeA 11 rfl rfl rfl rfl ?_
    first | (refine va_takeGA 12 rfl rfl rfl rfl rfl rfl rfl rfl ?_) | (refine va_passGA 12 rfl rfl rfl rfl rfl rfl rfl rfl ?_)
    refine va_takeA 13 rfl rfl rfl rfl ?_
    refine va_takeA 14 rfl rfl rfl rfl ?_
    first | (refine va_takeGA 15 rfl rfl rfl rfl rfl rfl rfl rfl ?_) | (refine va_passGA 15 rfl rfl rfl rfl rfl rfl rfl rfl ?_)
    refine va_takeG 16 rfl rfl rfl rfl rfl rfl rfl rfl (by kernel_rfl) (fun _ _ _ _ h => h) (SE.ent (by repeat' (first | exact SE.refl _ | refine SE.cons _ ?_ | refine SE.trans (se_drop _ _) ?_)) _) (vq_toStr (l := [97]) rfl rfl) ?_
    refine va_takeG 17 rfl rfl rfl rfl rfl rfl rfl rfl (by kernel_rfl) (fun _ _ _ _ h => h) (SE.ent (by repeat' (first | exact SE.refl _ | refine SE.cons _ ?_ | refine SE.trans (se_drop _ _) ?_)) _) (vq_eqStr (l := [97]) (m := [97]) rfl rfl) ?_
    rw [decide_eq_true rfl]
    refine va_takeA 18 rfl rfl rfl rfl ?_
    refine va_takeA 19 rfl rfl rfl rfl ?_
    refine va_done (by kernel_rfl) ?_
    repeat' (first | (refine goB ?_; intros) | (refine vl_caseG rfl rfl rfl rfl ?_ ?_ <;> (intro hb; (try simp only [decide_eq_true_eq, decide_eq_false_iff_not, Bool.not_eq_true', Bool.not_eq_false', ne_eq, Decidable.not_not, Option.isNone_iff_eq_none, not_true_eq_false, not_false_eq_true] at hb); try (exfalso; omega))) | (refine v_cond rfl ?_ ?_ <;> (intro hb; (try simp only [decide_eq_true_eq, decide_eq_false_iff_not, Bool.not_eq_true', Bool.not_eq_false', ne_eq, Decidable.not_not, Option.isNone_iff_eq_none, not_true_eq_false, not_false_eq_true] at hb); try (exfalso; omega))) | fail)
    exact ⟨L, sei _ _ _, rfl, rfl⟩
end Go.Proofs.YtmaimkbppnpbnaaDoor

/-
  The reader of kinds and parts answers as the second writing of it does.
-/
import Derived.Test.YtpnhgmmijkjmlaaDoorTagE
namespace Go.Proofs.YtpnhgmmijkjmlaaDoor
open Go Go.RowKit
set_option linter.unusedVariables false
set_option linter.unusedSimpArgs false

theorem vc_ent' {P : Program} {w0 : World} {f : FuncId} {args : List Value} {L : List Asn} {R R' : Value → List Asn → Prop} (h : VC P w0 f args L fun v L' => ∃ L'', Ent w0 L' L'' ∧ R v L'') (hr : ∀ v L', R v L' → R' v L') : VC P w0 f args L R' := vc_mono (vc_ent h) hr
theorem u8_wrap (I : Int) : IntKind.u8.wrap I = ((UInt8.ofNat (I % 256).toNat).toNat : Int) := by
  rw [UInt8.toNat_ofNat']
  simp [IntKind.wrap, IntKind.bits, IntKind.signed]
  omega
theorem splice_set (l : List UInt8) (k : Nat) (h : k < l.length) (c : UInt8) : splice (bvs l) k [.int .u8 c.toNat] = bvs (l.set k c) := by
  have e1 : bvs l = (bvs l).take k ++ ([(bvs l)[k]'(by simpa)] ++ (bvs l).drop (k + 1)) := by simp
  rw [e1, splice_mid _ _ _ _ _ (by simp; omega) (by simp)]
  have e2 : l.set k c = l.take k ++ ([c] ++ l.drop (k + 1)) := by rw [List.set_eq_take_append_cons_drop, if_pos h]; rfl
  rw [e2]
  simp [bvs, bv]

theorem partsG_bound : ∀ (f : Nat) (l : List UInt8), (partsG f l).2.length ≤ l.length ∧ ∀ x ∈ (partsG f l).2, x.length ≤ l.length
  | 0, l => by simp [partsG]
  | f + 1, l => by
    unfold partsG
    split
    · simp
    split
    · simp
    split
    · simp
    split
    · simp
    · have ⟨h1, h2⟩ := partsG_bound f (l.drop (4 + numOf (l.take 4)))
      simp only [List.length_drop] at h1 h2
      refine ⟨by simp only [List.length_cons]; omega, fun x hx => ?_⟩
      rcases List.mem_cons.1 hx with rfl | hx
      · simp; omega
      · have := h2 x hx; omega
theorem tagOf_bound (l : List UInt8) : (tagOf l).2.1.length ≤ l.length ∧ ∀ x ∈ (tagOf l).2.1, x.length ≤ l.length := by
  have ⟨h1, h2⟩ := partsG_bound (l.drop 1).length (l.drop 1)
  simp only [List.length_drop] at h1 h2
  unfold tagOf
  split
  · simp
  split
  · refine ⟨?_, fun x hx => ?_⟩
    · show (parts (l.drop 1)).2.length ≤ _
      unfold parts
      simp only [List.length_drop]; omega
    · unfold parts at hx
      simp only [List.length_drop] at hx
      have := h2 x hx; omega
  · simp

theorem psA_set (ps : List PB) (L : List Asn) (k : Nat) (hk : k < ps.length) (p : PB) : SE (ownB p.a p.cap p.l :: psA (ps.eraseIdx k) :: L) (psA (ps.set k p) :: L) := by
  refine se_psA_push _ _ L p ?_
  have := perm_pull (ps.set k p) k p (by simp [hk])
  rw [List.eraseIdx_set_eq] at this
  exact this.symm

end Go.Proofs.YtpnhgmmijkjmlaaDoor

/-
  Laws for digests: what is left of a slice of one's own, variables of the program, an array as a slice.
-/
import Derived.Test.YtpnhgmmijkjmlaaDoorWord
import Derived.Test.YtpnhgmmijkjmlaaDoorVNum
import Derived.Test.YtpnhgmmijkjmlaaDoorVBool
namespace Go.Proofs.YtpnhgmmijkjmlaaDoor
open Go Go.RowKit
set_option linter.unusedVariables false
set_option linter.unusedSimpArgs false

/-- What is left of one's own slice. -/
theorem own_drop {e : TypeId} {size : Nat} {a : Option Addr} {m c : Nat} {xs : List Value} (l : Nat) (hl : l ≤ m) : ∀ w F, (own e size a m c xs).holds w F → (own e size (subA a l c size) (m - l) (c - l) (xs.drop (l * size))).holds w F := by
  rintro w F ⟨h1, ⟨rfl, rfl, rfl⟩ | ⟨g, off, cs, rfl, f, hg, q1, q2, q3, q4⟩⟩
  · obtain rfl : l = 0 := by omega
    exact ⟨by simp [h1], .inl ⟨rfl, rfl, rfl⟩⟩
  · have hle : l * size ≤ m * size := Nat.mul_le_mul_right _ hl
    have hlc : l * size ≤ c * size := Nat.mul_le_mul_right _ (by omega)
    refine ⟨by simp [h1, Nat.sub_mul], .inr ?_⟩
    by_cases h0 : c = l
    · subst h0
      have : m = c := by omega
      subst this
      refine ⟨g, off, cs, by simp [subA], f, hg, by omega, by omega, by rw [Nat.sub_self, Nat.zero_mul]; omega, ?_⟩
      rw [Nat.sub_self, Nat.zero_mul, List.take_zero, List.drop_eq_nil_of_le (by omega)]
    · refine ⟨g, off + l * size, cs, by simp [subA, h0, addr_add], f, hg, by omega, by omega, by rw [Nat.sub_mul]; omega, ?_⟩
      rw [← q4, List.drop_take, List.drop_drop, Nat.sub_mul]
theorem se_own_drop {e : TypeId} {size : Nat} {a : Option Addr} {m c : Nat} {xs : List Value} (l : Nat) (hl : l ≤ m) (L : List Asn) : SE (own e size a m c xs :: L) (own e size (subA a l c size) (m - l) (c - l) (xs.drop (l * size)) :: L) := se_head _ (own_drop l hl)

section
variable {P : Program} {ro : Option Nat} {w0 : World} {n : Nat} {ds : List Deferred} {fr : Fr} {L L' : List Asn} {Q : Exit → List Deferred → Fr → List Asn → Prop}
variable {ty : TypeId} {pos : String} {after : Array Edge} {dst : Option Nat} {gd : Option (Nat × Bool)} {e t : TypeId} {agg : Bool} {size bytes : Nat} {z : List Value}
/-- A cell of what could be read when the call began. -/
theorem vq_ldG {x : Operand} {g off : Nat} {vs : List Value} {v : Value} (hx : evA fr x = some (.pointer (some ⟨g, off, none⟩))) [ht : TyI P e false size bytes z] [hr : RdA w0 (some ⟨g, 0, none⟩) vs] (hv : vs[off]? = some v) : VQ P w0 n ⟨dst, .load e x, ty, pos, after, gd⟩ v ds fr L :=
  vq_val (fun a w hk hs => by
    have hne : vs ≠ [] := by rintro rfl; simp at hv
    obtain ⟨b, o, hb, hc⟩ := (hr.out.st hs).read hne
    simp only [Option.some.injEq, Addr.mk.injEq] at hb
    obtain ⟨rfl, rfl, _⟩ := hb
    have h1 := hc off v hv
    rw [Nat.zero_add] at h1
    exact run_load1 e x rfl g off (hk.ev hx) ht v h1)
/-- An array as a slice. -/
theorem vq_sliceArr {x : Operand} {g off m : Nat} (hx : evA fr x = some (.pointer (some ⟨g, off, none⟩))) [hu : ArI P t e m agg size bytes z] (hm : Nat.blt 0 m = true) : VQ P w0 n ⟨dst, .slice t x none none none, ty, pos, after, gd⟩ (.slice (some ⟨g, off, none⟩) m m) ds fr L :=
  vq_val (fun a w hk hs => by
    have hm' : 0 < m := by simpa using hm
    have hA := hu.arr
    have e1 : P.arrayLen t = m := by simp [Program.arrayLen, hA]
    have e2 : P.elem t = e := by simp [Program.elem, hA]
    have hu2 : P.underlying t = some (.array (P.arrayLen t) (P.elem t)) := by rw [e1, e2]; exact hA
    simp only [execOp, hk.ev hx, Sem.run_bind, Option.map_none]
    rw [run_sliceAt_array_all _ _ _ hu2, e1, e2]
    have : m ≠ 0 := by omega
    simp [hu.el.run_size, slicedAt, sliced, this, Result.andThen, Addr.add])
theorem rdC_part {g i : Nat} {t : TypeId} {cs us : List Value} (off k : Nat) [hb : HasBlk L g i t cs] (hu : (cs.drop off).take k = us) : RdC w0 L (some ⟨g, off, none⟩) us := ⟨fun w hs => by
  have hr := hs.rcBlk i hb.out
  have := hr.part off us (fun j u hj => by
    subst hu
    rw [List.getElem?_take] at hj
    split at hj
    · rwa [List.getElem?_drop] at hj
    · cases hj)
  simpa using this⟩
end
end Go.Proofs.YtpnhgmmijkjmlaaDoor

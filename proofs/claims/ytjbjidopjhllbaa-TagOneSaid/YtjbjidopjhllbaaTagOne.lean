/-
  For every two kinds and every two lists of parts, in whatever memory and on every schedule, the law function TagOne returns true and leaves its arguments as they read before. No condition.
-/
import Derived.Test.YtjbjidopjhllbaaRows
import Derived.Test.YtjbjidopjhllbaaTagJ
import Derived.Test.YtjbjidopjhllbaaOpenC
import Derived.ShutString
import Derived.ChangeOld
namespace Go.Proofs.Ytjbjidopjhllbaa.tagOne
open Go.ChangeShapes Go.WideShapes Go.ChangeAt Go.RowKit

theorem open_u8 {H : Type} {enc : TypeId × Value → H} {W : World} {base : Nat} {v : Value} {d : DataW H} {p : List MemPlace} (hv : Value.okWide Try.prog W .any base 5 v) (h : DataW.Trod enc Try.prog W 0 (fun _ => true) true 5 v d p) :
    ∃ k : Nat, v = .int .u8 k ∧ k < 256 := by
  obtain ⟨n, rfl, _, _, hw⟩ := open_int Try.underlying5 hv h
  have := bounds_u8 hw
  exact ⟨n.toNat, by rw [Int.toNat_of_nonneg (by omega)], by omega⟩

theorem walk (k1 : Nat) (a1 : Option Addr) (n1 c1 : Nat) (l1 : List PB) (k2 : Nat) (a2 : Option Addr) (n2 c2 : Nat) (l2 : List PB) (w : World) (hk1 : k1 < 256) (b1 : Bss w a1 n1 c1 l1) (hk2 : k2 < 256) (b2 : Bss w a2 n2 c2 l2) :
    Calls Try.prog 6 #[.int .u8 k1, .slice a1 n1 c1, .int .u8 k2, .slice a2 n2 c2] w fun e w' => e = .returned (.bool true) ∧ Below w.heap.size w w' := by
  haveI : RdA w a1 (pbs l1) := ⟨b1.rc⟩
  haveI : RdA w a2 (pbs l2) := ⟨b2.rc⟩
  haveI : RdAs w l1 := ⟨fun p hp => ⟨(b1.each p hp).rc⟩⟩
  haveI : RdAs w l2 := ⟨fun p hp => ⟨(b2.each p hp).rc⟩⟩
  refine (VC.calls w (tagOne_vc w k1 hk1 a1 c1 l1 b1.hn b1.hcap b1.hmax k2 hk2 a2 c2 l2 b2.hn b2.hcap b2.hmax)).mono ?_
  rintro e w' ⟨v, M, rfl, hs, rfl⟩
  exact ⟨rfl, hs.below⟩

theorem own : ownKnob Try.prog.godebug = none := by kernel_rfl
theorem laidOut : laidOutB Try.prog = true := by kernel_rfl

set_option maxRecDepth 100000 in
set_option maxHeartbeats 2000000 in
theorem lifted (os : Os) (started : os.Started) (H : Type) (enc : TypeId × Value → H) :
    ReturnsInHanded {} Try.checked os 6 .any (Rows.tagOneSpec.pre6 enc Try.prog Try.f6 Rows.tagOneRow.domain false) (Rows.tagOneSpec.post enc Try.prog Try.f6 false true false false) := by
  refine returnsInHanded_of_change (C := Try.checked) own started (by kernel_rfl) Try.func6
    (ChangeSpec.witness6 (enc := enc) (C := Try.checked) false ⟨#[], #[.int .u8 0, .slice none 0 0, .int .u8 0, .slice none 0 0], []⟩ 8 (by kernel_rfl) (by kernel_rfl) (by kernel_rfl) (by kernel_rfl)) ?_
  intro W base args ds gs before hval0 hW hcnd _
  have hval : ∀ (j : Nat) t v, Try.f6.params[j]? = some t → args[j]? = some v → Value.okWide Try.prog W .any base t v := hval0
  have hW' := hW
  obtain ⟨p, q, hA0, hV, rfl, hfz, hnd⟩ := hW
  have hA : DataW.TrodAll enc Try.prog W 0 (fun _ => true) true Try.f6.params.toList args.toList ds p := hA0
  rw [Try.params6] at hA hval
  obtain ⟨v0, vs0, d0, ds0, p0, q0, hargs, rfl, rfl, h0, r0⟩ := trodAll_cons hA
  obtain ⟨v1, vs1, d1, ds1, p1, q1, rfl, rfl, rfl, h1, r1⟩ := trodAll_cons r0
  obtain ⟨v2, vs2, d2, ds2, p2, q2, rfl, rfl, rfl, h2, r2⟩ := trodAll_cons r1
  obtain ⟨v3, vs3, d3, ds3, p3, q3, rfl, rfl, rfl, h3, r3⟩ := trodAll_cons r2
  obtain ⟨rfl, rfl, rfl⟩ := trodAll_nil r3
  obtain rfl : args = #[v0, v1, v2, v3] := by cases args; simp_all
  obtain ⟨rfl, rfl⟩ := trodVars_none hV
  have k0 := h0
  have lt0 : ∀ x ∈ p0, x.block < W.heap.size := by obtain ⟨m, hm⟩ := k0; exact DataW.trod_lt m _ _ _ hm
  have k1 := h1
  have lt1 : ∀ x ∈ p1, x.block < W.heap.size := by obtain ⟨m, hm⟩ := k1; exact DataW.trod_lt m _ _ _ hm
  have k2 := h2
  have lt2 : ∀ x ∈ p2, x.block < W.heap.size := by obtain ⟨m, hm⟩ := k2; exact DataW.trod_lt m _ _ _ hm
  have k3 := h3
  have lt3 : ∀ x ∈ p3, x.block < W.heap.size := by obtain ⟨m, hm⟩ := k3; exact DataW.trod_lt m _ _ _ hm
  obtain ⟨m0, rfl, hm0⟩ := open_u8 (hval 0 _ v0 rfl rfl) h0
  obtain ⟨a1, n1, c1, l1, rfl, b1⟩ := open_bss (hval 1 _ v1 rfl rfl) h1
  obtain ⟨m2, rfl, hm2⟩ := open_u8 (hval 2 _ v2 rfl rfl) h2
  obtain ⟨a3, n3, c3, l3, rfl, b3⟩ := open_bss (hval 3 _ v3 rfl rfl) h3
  clear hA0 hval0
  refine (walk m0 a1 n1 c1 l1 m2 a3 n3 c3 l3 W hm0 b1 hm2 b3).mono fun e W' ⟨he, bel⟩ => ?_
  subst he
  exact ⟨_, rfl, _, _, _, [], _, [], hW', trodAll_mk1 (shut_bool Try.underlying4 _), (trodAll_cons_mk (Below.trod laidOut (by kernel_rfl) (of_decide_eq_true (by kernel_rfl)) k0 bel lt0) (trodAll_cons_mk (Below.trod laidOut (by kernel_rfl) (of_decide_eq_true (by kernel_rfl)) k1 bel lt1) (trodAll_cons_mk (Below.trod laidOut (by kernel_rfl) (of_decide_eq_true (by kernel_rfl)) k2 bel lt2) (trodAll_cons_mk (Below.trod laidOut (by kernel_rfl) (of_decide_eq_true (by kernel_rfl)) k3 bel lt3) trodAll_mk0)))), rfl, bel.frame _, fun h => by cases h⟩

theorem proved : Rows.TagOneSaid :=
  OpenClaim.holds_of_wide 6 Try.f6 rfl rfl rfl rfl rfl rfl rfl ⟨rfl, rfl, rfl, rfl, rfl⟩ rfl rfl rfl rfl rfl (by kernel_rfl) Try.func6 (by kernel_rfl)
    (of_decide_eq_true (by kernel_rfl)) (by unfold Func.isWrapper; first | (rw [if_pos (by decide +kernel)]; kernel_rfl) | (rw [if_neg (by decide +kernel)]; exact ⟨rfl, rfl⟩))
    (fun os started H enc _ => lifted os started H enc)
#print axioms proved
end Go.Proofs.Ytjbjidopjhllbaa.tagOne

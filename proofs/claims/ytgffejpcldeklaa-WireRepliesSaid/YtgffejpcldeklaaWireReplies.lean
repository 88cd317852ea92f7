/-
  For every two replies and bytes, in whatever memory and on every schedule, the law function WireReplies returns true and leaves its arguments as they read before. No condition.
-/
import Derived.Test.YtgffejpcldeklaaRows
import Derived.Test.YtgffejpcldeklaaGRG
import Derived.Test.YtgffejpcldeklaaOpenW
import Derived.ShutString
import Derived.ChangeOld
set_option linter.unusedVariables false
set_option linter.unusedSimpArgs false
set_option linter.unusedSectionVars false

namespace Go.Proofs.Ytgffejpcldeklaa.wireReplies
open Go.ChangeShapes Go.WideShapes Go.ChangeAt Go.RowKit

theorem walk (r o : Rp) (va : Option Addr) (vn vc : Nat) (v : List UInt8) (w : World) (h : r.ok0) (pa : Rc w r.prf.va (bvs r.prf.vl)) (pb : Rc w r.prf.pa (bvs r.prf.pl.flatten)) (k : o.ok0) (qa : Rc w o.prf.va (bvs o.prf.vl)) (qb : Rc w o.prf.pa (bvs o.prf.pl.flatten)) (z : Bts w va vn vc v) :
    Calls Try.prog 3 #[.agg r.cells.toArray, .agg o.cells.toArray, .slice va vn vc] w fun e w' => e = .returned (.bool true) ∧ Below w.heap.size w w' := by
  haveI : RdA w r.prf.va (bvs r.prf.vl) := ⟨pa⟩
  haveI : RdA w r.prf.pa (bvs r.prf.pl.flatten) := ⟨pb⟩
  haveI : RdA w o.prf.va (bvs o.prf.vl) := ⟨qa⟩
  haveI : RdA w o.prf.pa (bvs o.prf.pl.flatten) := ⟨qb⟩
  haveI : RdA w va (bvs v) := ⟨z.rc⟩
  refine (VC.calls w (wireReplies_vc w r o h k va vc v z.hn z.hcap)).mono ?_
  rintro e w' ⟨v, M, rfl, hs, rfl⟩
  exact ⟨rfl, hs.below⟩

theorem own : ownKnob Try.prog.godebug = none := by kernel_rfl
theorem laidOut : laidOutB Try.prog = true := by kernel_rfl

set_option maxRecDepth 100000 in
theorem lifted (os : Os) (started : os.Started) (H : Type) (enc : TypeId × Value → H) :
    ReturnsInHanded {} Try.checked os 3 .any (Rows.wireRepliesSpec.pre6 enc Try.prog Try.f3 Rows.wireRepliesRow.domain false) (Rows.wireRepliesSpec.post enc Try.prog Try.f3 false true false false) := by
  refine returnsInHanded_of_change (C := Try.checked) own started (by kernel_rfl) Try.func3
    (ChangeSpec.witness6 (enc := enc) (C := Try.checked) false ⟨#[], #[.agg (Rp.cells rp0).toArray, .agg (Rp.cells rp0).toArray, .slice none 0 0], []⟩ 8 (by kernel_rfl) (by kernel_rfl) (by kernel_rfl) (by kernel_rfl)) ?_
  intro W base args ds gs before hval0 hW hcnd _
  have hval : ∀ (j : Nat) t v, Try.f3.params[j]? = some t → args[j]? = some v → Value.okWide Try.prog W .any base t v := hval0
  have hW' := hW
  obtain ⟨p, q, hA0, hV, rfl, hfz, hnd⟩ := hW
  have hA : DataW.TrodAll enc Try.prog W 0 (fun _ => true) true Try.f3.params.toList args.toList ds p := hA0
  rw [Try.params3] at hA hval
  obtain ⟨v0, vs0, d0, ds0, p0, q0, hargs, rfl, rfl, h0, r0⟩ := trodAll_cons hA
  obtain ⟨v1, vs1, d1, ds1, p1, q1, rfl, rfl, rfl, h1, r1⟩ := trodAll_cons r0
  obtain ⟨v2, vs2, d2, ds2, p2, q2, rfl, rfl, rfl, h2, r2⟩ := trodAll_cons r1
  obtain ⟨rfl, rfl, rfl⟩ := trodAll_nil r2
  obtain rfl : args = #[v0, v1, v2] := by cases args; simp_all
  obtain ⟨rfl, rfl⟩ := trodVars_none hV
  have k0 := h0
  have lt0 : ∀ x ∈ p0, x.block < W.heap.size := by obtain ⟨m, hm⟩ := k0; exact DataW.trod_lt m _ _ _ hm
  have k1 := h1
  have lt1 : ∀ x ∈ p1, x.block < W.heap.size := by obtain ⟨m, hm⟩ := k1; exact DataW.trod_lt m _ _ _ hm
  have k2 := h2
  have lt2 : ∀ x ∈ p2, x.block < W.heap.size := by obtain ⟨m, hm⟩ := k2; exact DataW.trod_lt m _ _ _ hm
  obtain ⟨x0, rfl, hx0, ra0, rb0⟩ := open_reply (hval 0 _ v0 rfl rfl) h0
  obtain ⟨x1, rfl, hx1, ra1, rb1⟩ := open_reply (hval 1 _ v1 rfl rfl) h1
  obtain ⟨a2, n2, c2, l2, rfl, b2⟩ := open_bts (hval 2 _ v2 rfl rfl) h2
  clear hA0 hval0
  refine (walk x0 x1 a2 n2 c2 l2 W hx0 ra0 rb0 hx1 ra1 rb1 b2).mono fun e W' ⟨he, bel⟩ => ?_
  subst he
  exact ⟨_, rfl, _, _, _, [], _, [], hW', trodAll_mk1 (shut_bool Try.underlying4 _), (trodAll_cons_mk (Below.trod laidOut (by kernel_rfl) (of_decide_eq_true (by kernel_rfl)) k0 bel lt0) (trodAll_cons_mk (Below.trod laidOut (by kernel_rfl) (of_decide_eq_true (by kernel_rfl)) k1 bel lt1) (trodAll_cons_mk (Below.trod laidOut (by kernel_rfl) (of_decide_eq_true (by kernel_rfl)) k2 bel lt2) trodAll_mk0))), rfl, bel.frame _, fun h => by cases h⟩

theorem proved : Rows.WireRepliesSaid :=
  OpenClaim.holds_of_wide 3 Try.f3 rfl rfl rfl rfl rfl rfl rfl ⟨rfl, rfl, rfl, rfl, rfl⟩ rfl rfl rfl rfl rfl (by kernel_rfl) Try.func3 (by kernel_rfl)
    (of_decide_eq_true (by kernel_rfl)) (by unfold Func.isWrapper; first | (rw [if_pos (by decide +kernel)]; kernel_rfl) | (rw [if_neg (by decide +kernel)]; exact ⟨rfl, rfl⟩))
    (fun os started H enc _ => lifted os started H enc)
#print axioms proved
end Go.Proofs.Ytgffejpcldeklaa.wireReplies

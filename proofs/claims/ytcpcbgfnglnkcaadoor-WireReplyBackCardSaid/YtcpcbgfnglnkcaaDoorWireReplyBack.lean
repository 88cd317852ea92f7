/-
  For every reply and bytes, in whatever memory and on every schedule, the law function WireReplyBack returns true and leaves its arguments as they read before; the program's table of words is tied to its own text. No other condition.
-/
import Derived.Test.YtcpcbgfnglnkcaaDoorLaidK
import Derived.Test.YtcpcbgfnglnkcaaDoorOpenW
import Derived.ShutString
import Derived.ChangeOld
set_option linter.unusedVariables false
set_option linter.unusedSimpArgs false
set_option linter.unusedSectionVars false

namespace Go.Proofs.YtcpcbgfnglnkcaaDoor.wireReplyBack
open Go.ChangeShapes Go.WideShapes Go.ChangeAt Go.RowKit

theorem walk (r : Rp) (va : Option Addr) (vn vc : Nat) (v : List UInt8) (w : World) (hK : Rc w (some ⟨1, 0, none⟩) (wds K64)) (h : r.ok0) (pa : Rc w r.prf.va (bvs r.prf.vl)) (pb : Rc w r.prf.pa (bvs r.prf.pl.flatten)) (z : Bts w va vn vc v) :
    Calls Tryd.prog 3 #[.agg r.cells.toArray, .slice va vn vc] w fun e w' => e = .returned (.bool true) ∧ Below w.heap.size w w' := by
  haveI : RdA w (some ⟨1, 0, none⟩) (wds K64) := ⟨hK⟩
  haveI : RdA w r.prf.va (bvs r.prf.vl) := ⟨pa⟩
  haveI : RdA w r.prf.pa (bvs r.prf.pl.flatten) := ⟨pb⟩
  haveI : RdA w va (bvs v) := ⟨z.rc⟩
  refine (VC.calls w (wireReplyBack_vc w r h va vc v z.hn z.hcap)).mono ?_
  rintro e w' ⟨v, M, rfl, hs, rfl⟩
  exact ⟨rfl, hs.below⟩

set_option maxRecDepth 100000 in
set_option maxHeartbeats 4000000 in
theorem lifted (os : Os) (started : os.Started) (H : Type) (enc : TypeId × Value → H) :
    ReturnsInHanded {} Tryd.checked os 3 .any (fun w args => (Rows.wireReplyBackSpec.pre enc Tryd.prog Tryd.f3 Rows.wireReplyBackRow.domain false w args ∧ laidMetH Tryd.prog laidK w) ∧ sizedMet enc Tryd.prog Tryd.f3 (OpenSpec.ofChange Rows.wireReplyBackSpec) false w args) (Rows.wireReplyBackSpec.post enc Tryd.prog Tryd.f3 false true false false) := by
  refine returnsInHanded_of_change_and (C := Tryd.checked) (X := fun w _ => laidMetH Tryd.prog laidK w) (fun _ _ _ hh h => h.of_heap hh) ownK started (by kernel_rfl) Tryd.func3
    (ChangeSpec.witness_shaped (enc := enc) (C := Tryd.checked) (os := os) (X := fun w _ => laidMetH Tryd.prog laidK w) false (World.laidAll Tryd.prog os laidK) #[.agg (Rp.cells rp0).toArray, .slice none 0 0] 8 (World.laidAll_os _ _ _)
      (World.shaped_of_ZipB (by kernel_rfl) (by kernel_rfl)) (by kernel_rfl) (by kernel_rfl) (by kernel_rfl)
      (by rw [MakeChecks.laidMetH_plain _ _ _ (by kernel_rfl)]; exact laidMet_laidAll _ (by kernel_rfl) (by kernel_rfl))) ?_
  intro W base args ds gs before hval0 hW hcnd _ hL _
  have hval : ∀ (j : Nat) t v, Tryd.f3.params[j]? = some t → args[j]? = some v → Value.okWide Tryd.prog W .any base t v := hval0
  have hW' := hW
  obtain ⟨p, q, hA0, hV, rfl, hfz, hnd⟩ := hW
  have hA : DataW.TrodAll enc Tryd.prog W 0 (fun _ => true) true Tryd.f3.params.toList args.toList ds p := hA0
  rw [Tryd.params3] at hA hval
  obtain ⟨v0, vs0, d0, ds0, p0, q0, hargs, rfl, rfl, h0, r0⟩ := trodAll_cons hA
  obtain ⟨v1, vs1, d1, ds1, p1, q1, rfl, rfl, rfl, h1, r1⟩ := trodAll_cons r0
  obtain ⟨rfl, rfl, rfl⟩ := trodAll_nil r1
  obtain rfl : args = #[v0, v1] := by cases args; simp_all
  obtain ⟨rfl, rfl⟩ := trodVars_none hV
  have k0 := h0
  have lt0 : ∀ x ∈ p0, x.block < W.heap.size := by obtain ⟨m, hm⟩ := k0; exact DataW.trod_lt m _ _ _ hm
  have k1 := h1
  have lt1 : ∀ x ∈ p1, x.block < W.heap.size := by obtain ⟨m, hm⟩ := k1; exact DataW.trod_lt m _ _ _ hm
  obtain ⟨x0, rfl, hx0, ra0, rb0⟩ := open_reply (hval 0 _ v0 rfl rfl) h0
  obtain ⟨a1, n1, c1, l1, rfl, b1⟩ := open_bts (hval 1 _ v1 rfl rfl) h1
  clear hA0 hval0
  refine (walk x0 a1 n1 c1 l1 W (kcells hL) hx0 ra0 rb0 b1).mono fun e W' ⟨he, bel⟩ => ?_
  subst he
  exact ⟨_, rfl, _, _, _, [], _, [], hW', trodAll_mk1 (shut_bool Tryd.underlying4 _), (trodAll_cons_mk (Below.trod laidOutK (by kernel_rfl) (of_decide_eq_true (by kernel_rfl)) k0 bel lt0) (trodAll_cons_mk (Below.trod laidOutK (by kernel_rfl) (of_decide_eq_true (by kernel_rfl)) k1 bel lt1) trodAll_mk0)), rfl, bel.frame _, fun h => by cases h⟩

theorem holds : Rows.WireReplyBackSaid :=
  OpenClaim.holds_of_wide 3 Tryd.f3 rfl rfl rfl rfl rfl rfl rfl ⟨rfl, rfl, rfl, rfl, rfl⟩ rfl rfl rfl rfl rfl (by kernel_rfl) Tryd.func3 (by kernel_rfl)
    (of_decide_eq_true (by kernel_rfl)) (by unfold Func.isWrapper; first | (rw [if_pos (by decide +kernel)]; kernel_rfl) | (rw [if_neg (by decide +kernel)]; exact ⟨rfl, rfl⟩))
    (fun os started H enc _ => lifted os started H enc)
theorem proved : Rows.WireReplyBackCardSaid :=
  Claim7.holds_tied_plain_at .later [] [.data] true Rows.wireReplyBackCard.stood.harness Rows.wireReplyBackCard.stood.looks holds (fun _ h => by cases h) (by kernel_rfl) (fun _ h => by cases h) wireReplyBack_row_tie rfl ⟨rfl, rfl⟩ (by kernel_rfl) rfl
    (fun f fn hf hfn => by
      obtain rfl : f = 3 := Option.some.inj ((show Tryd.prog.funcNamed "beadroll/beadrolllaw22.WireReplyBack" = some 3 by kernel_rfl).symm.trans hf) |>.symm
      obtain rfl : fn = Tryd.f3 := (Option.some.inj (Tryd.func3.symm.trans hfn)).symm
      exact ⟨by kernel_rfl, fun j t ht => by
        rw [Tryd.params3] at ht
        have hm : t ∈ [41, 30] := by simpa using Array.mem_of_getElem? ht
        have hall : ([41, 30].all fun u => !Tryd.prog.wantsStandIn u) = true := by kernel_rfl
        exact (show Tryd.prog.wantsStandIn t = false by simpa using List.all_eq_true.1 hall t hm)⟩)
    (by kernel_rfl)
#print axioms proved
end Go.Proofs.YtcpcbgfnglnkcaaDoor.wireReplyBack

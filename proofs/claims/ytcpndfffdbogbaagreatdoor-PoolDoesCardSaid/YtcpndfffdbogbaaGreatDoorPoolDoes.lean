/-
  For every slice of shards, tree, place, number, transaction and transactions, in whatever memory and on every schedule, the law function PoolDoes returns true and leaves its arguments as they read before; the program's table of words is tied to its own text. No other condition.
-/
import Derived.Test.YtcpndfffdbogbaaGreatDoorLaidK
import Derived.Test.YtcpndfffdbogbaaGreatDoorPolJ
import Derived.Test.YtcpndfffdbogbaaGreatDoorOpenY
import Derived.Test.YtcpndfffdbogbaaGreatDoorOpenT
import Derived.Test.YtcpndfffdbogbaaGreatDoorOpenX
import Derived.ShutString
import Derived.ChangeOld
set_option linter.unusedVariables false
set_option linter.unusedSimpArgs false
set_option linter.unusedSectionVars false

namespace Go.Proofs.YtcpndfffdbogbaaGreatDoor.poolDoes
open Go.ChangeShapes Go.WideShapes Go.ChangeAt Go.RowKit

theorem walk (a : Option Addr) (n c : Nat) (ss : List Sh) (b : Option Addr) (d : Nat) (ns : List Nd) (r I m : Int) (x : Tx) (e : Option Addr) (en g : Nat) (xs : List Tx) (w : World) (hK : Rc w (some ⟨0, 0, none⟩) (wds K64)) (hs : Shs w a n c ss) (hn : Nds w b d ns) (hm : -9223372036854775808 ≤ m ∧ m < 9223372036854775808) (hxo : x.ok) (hx : Txs w e en g xs) :
    Calls Tryz.prog 4 #[.slice a n c, .agg #[.slice b ns.length d, .int .i64 r], .int .i64 I, .int .i64 m, .agg x.cells.toArray, .slice e en g] w fun e w' => e = .returned (.bool true) ∧ Below w.heap.size w w' := by
  haveI : RdA w (some ⟨0, 0, none⟩) (wds K64) := ⟨hK⟩
  haveI := hs.rdA
  haveI := hs.rdS
  haveI := hn.rdA
  haveI := hn.rdV
  haveI := hx.rdA
  refine (VC.calls w (poolDoes_vc w a c ss b d ns r I m x e g xs hs.hn hs.wide hs.len hn.key hn.len hm hxo hx.hn hx.ok hx.len)).mono ?_
  rintro e w' ⟨v, M, rfl, hs, rfl⟩
  exact ⟨rfl, hs.below⟩

set_option maxRecDepth 100000 in
set_option maxHeartbeats 4000000 in
theorem lifted (os : Os) (started : os.Started) (H : Type) (enc : TypeId × Value → H) :
    ReturnsInHanded {} Tryz.checked os 4 .any (fun w args => (Rows.poolDoesSpec.pre enc Tryz.prog Tryz.f4 Rows.poolDoesRow.domain false w args ∧ laidMetH Tryz.prog laidK w) ∧ sizedMet enc Tryz.prog Tryz.f4 (OpenSpec.ofChange Rows.poolDoesSpec) false w args) (Rows.poolDoesSpec.post enc Tryz.prog Tryz.f4 false true false false) := by
  refine returnsInHanded_of_change_and (C := Tryz.checked) (X := fun w _ => laidMetH Tryz.prog laidK w) (fun _ _ _ hh h => h.of_heap hh) ownK started (by kernel_rfl) Tryz.func4
    (ChangeSpec.witness_shaped (enc := enc) (C := Tryz.checked) (os := os) (X := fun w _ => laidMetH Tryz.prog laidK w) false (World.laidAll Tryz.prog os laidK) #[.slice none 0 0, .agg #[.slice none 0 0, .int .i64 0], .int .i64 0, .int .i64 0, .agg (Tx.cells ⟨List.replicate 32 0, List.replicate 32 0, 0, 0, 0, List.replicate 32 0⟩).toArray, .slice none 0 0] 8 (World.laidAll_os _ _ _)
      (World.shaped_of_ZipB (by kernel_rfl) (by kernel_rfl)) (by kernel_rfl) (by kernel_rfl) (by kernel_rfl)
      (by rw [MakeChecks.laidMetH_plain _ _ _ (by kernel_rfl)]; exact laidMet_laidAll _ (by kernel_rfl) (by kernel_rfl))) ?_
  intro W base args ds gs before hval0 hW hcnd _ hL _
  have hval : ∀ (j : Nat) t v, Tryz.f4.params[j]? = some t → args[j]? = some v → Value.okWide Tryz.prog W .any base t v := hval0
  have hW' := hW
  obtain ⟨p, q, hA0, hV, rfl, hfz, hnd⟩ := hW
  have hA : DataW.TrodAll enc Tryz.prog W 0 (fun _ => true) true Tryz.f4.params.toList args.toList ds p := hA0
  rw [Tryz.params4] at hA hval
  obtain ⟨v0, vs0, d0, ds0, p0, q0, hargs, rfl, rfl, h0, r0⟩ := trodAll_cons hA
  obtain ⟨v1, vs1, d1, ds1, p1, q1, rfl, rfl, rfl, h1, r1⟩ := trodAll_cons r0
  obtain ⟨v2, vs2, d2, ds2, p2, q2, rfl, rfl, rfl, h2, r2⟩ := trodAll_cons r1
  obtain ⟨v3, vs3, d3, ds3, p3, q3, rfl, rfl, rfl, h3, r3⟩ := trodAll_cons r2
  obtain ⟨v4, vs4, d4, ds4, p4, q4, rfl, rfl, rfl, h4, r4⟩ := trodAll_cons r3
  obtain ⟨v5, vs5, d5, ds5, p5, q5, rfl, rfl, rfl, h5, r5⟩ := trodAll_cons r4
  obtain ⟨rfl, rfl, rfl⟩ := trodAll_nil r5
  obtain rfl : args = #[v0, v1, v2, v3, v4, v5] := by cases args; simp_all
  obtain ⟨rfl, rfl⟩ := trodVars_none hV
  have k0 := h0
  have lt0 : ∀ x ∈ p0, x.block < W.heap.size := by obtain ⟨m, hm⟩ := k0; exact DataW.trod_lt m _ _ _ hm
  have k1 := h1
  have lt1 : ∀ x ∈ p1, x.block < W.heap.size := by obtain ⟨m, hm⟩ := k1; exact DataW.trod_lt m _ _ _ hm
  have k2 := h2
  have lt2 : ∀ x ∈ p2, x.block < W.heap.size := by obtain ⟨m, hm⟩ := k2; exact DataW.trod_lt m _ _ _ hm
  have k3 := h3
  have lt3 : ∀ x ∈ p3, x.block < W.heap.size := by obtain ⟨m, hm⟩ := k3; exact DataW.trod_lt m _ _ _ hm
  have k4 := h4
  have lt4 : ∀ x ∈ p4, x.block < W.heap.size := by obtain ⟨m, hm⟩ := k4; exact DataW.trod_lt m _ _ _ hm
  have k5 := h5
  have lt5 : ∀ x ∈ p5, x.block < W.heap.size := by obtain ⟨m, hm⟩ := k5; exact DataW.trod_lt m _ _ _ hm
  obtain ⟨a0, n0, c0, ss0, rfl, b0⟩ := open_pool (hval 0 _ v0 rfl rfl) h0
  obtain ⟨a1, c1, ns1, rt1, rfl, b1⟩ := open_tree (hval 1 _ v1 rfl rfl) h1
  obtain ⟨z2, rfl⟩ := open_int64 (hval 2 _ v2 rfl rfl) h2
  obtain ⟨z3, rfl, b3⟩ := open_int64b (hval 3 _ v3 rfl rfl) h3
  obtain ⟨cs4, rfl, fit4⟩ := open_plain (inferInstance : EqI Tryz.prog 50 txShape) (hval 4 _ v4 rfl rfl) h4
  obtain ⟨x4, hx4, rfl⟩ := tx_of_fits fit4
  obtain ⟨a5, n5, c5, xs5, rfl, b5⟩ := open_txs (hval 5 _ v5 rfl rfl) h5
  clear hA0 hval0
  refine (walk a0 n0 c0 ss0 a1 c1 ns1 rt1 z2 z3 x4 a5 n5 c5 xs5 W (kcells hL) b0 b1  b3 hx4 b5).mono fun e W' ⟨he, bel⟩ => ?_
  subst he
  exact ⟨_, rfl, _, _, _, [], _, [], hW', trodAll_mk1 (shut_bool Tryz.underlying4 _), (trodAll_cons_mk (Below.trod laidOutK (by kernel_rfl) (of_decide_eq_true (by kernel_rfl)) k0 bel lt0) (trodAll_cons_mk (Below.trod laidOutK (by kernel_rfl) (of_decide_eq_true (by kernel_rfl)) k1 bel lt1) (trodAll_cons_mk (Below.trod laidOutK (by kernel_rfl) (of_decide_eq_true (by kernel_rfl)) k2 bel lt2) (trodAll_cons_mk (Below.trod laidOutK (by kernel_rfl) (of_decide_eq_true (by kernel_rfl)) k3 bel lt3) (trodAll_cons_mk (Below.trod laidOutK (by kernel_rfl) (of_decide_eq_true (by kernel_rfl)) k4 bel lt4) (trodAll_cons_mk (Below.trod laidOutK (by kernel_rfl) (of_decide_eq_true (by kernel_rfl)) k5 bel lt5) trodAll_mk0)))))), rfl, bel.frame _, fun h => by cases h⟩

theorem holds : Rows.PoolDoesSaid :=
  OpenClaim.holds_of_wide 4 Tryz.f4 rfl rfl rfl rfl rfl rfl rfl ⟨rfl, rfl, rfl, rfl, rfl⟩ rfl rfl rfl rfl rfl (by kernel_rfl) Tryz.func4 (by kernel_rfl)
    (of_decide_eq_true (by kernel_rfl)) (by unfold Func.isWrapper; first | (rw [if_pos (by decide +kernel)]; kernel_rfl) | (rw [if_neg (by decide +kernel)]; exact ⟨rfl, rfl⟩))
    (fun os started H enc _ => lifted os started H enc)
theorem proved : Rows.PoolDoesCardSaid :=
  Claim7.holds_tied_plain_at .later [] [.data] true Rows.poolDoesCard.stood.harness Rows.poolDoesCard.stood.looks holds (fun _ h => by cases h) (by kernel_rfl) (fun _ h => by cases h) poolDoes_row_tie rfl ⟨rfl, rfl⟩ (by kernel_rfl) rfl
    (fun f fn hf hfn => by
      obtain rfl : f = 4 := Option.some.inj ((show Tryz.prog.funcNamed "beadroll/beadrolllaw21.PoolDoes" = some 4 by kernel_rfl).symm.trans hf) |>.symm
      obtain rfl : fn = Tryz.f4 := (Option.some.inj (Tryz.func4.symm.trans hfn)).symm
      exact ⟨by kernel_rfl, fun j t ht => by
        rw [Tryz.params4] at ht
        have hm : t ∈ [45, 27, 3, 3, 50, 28] := by simpa using Array.mem_of_getElem? ht
        have hall : ([45, 27, 3, 3, 50, 28].all fun u => !Tryz.prog.wantsStandIn u) = true := by kernel_rfl
        exact (show Tryz.prog.wantsStandIn t = false by simpa using List.all_eq_true.1 hall t hm)⟩)
    (by kernel_rfl)
#print axioms proved
end Go.Proofs.YtcpndfffdbogbaaGreatDoor.poolDoes

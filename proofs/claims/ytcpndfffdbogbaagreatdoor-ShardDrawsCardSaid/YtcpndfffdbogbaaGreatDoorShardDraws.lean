/-
  For every shard, tree, room and transactions, in whatever memory and on every schedule, the law function ShardDraws returns true and leaves its arguments as they read before; the program's table of words is tied to its own text. No other condition.
-/
import Derived.Test.YtcpndfffdbogbaaGreatDoorLaidK
import Derived.Test.YtcpndfffdbogbaaGreatDoorShdW
import Derived.Test.YtcpndfffdbogbaaGreatDoorOpenY
import Derived.Test.YtcpndfffdbogbaaGreatDoorOpenT
import Derived.Test.YtcpndfffdbogbaaGreatDoorOpenX
import Derived.ShutString
import Derived.ChangeOld
set_option linter.unusedVariables false
set_option linter.unusedSimpArgs false
namespace Go.Proofs.YtcpndfffdbogbaaGreatDoor.shardDraws
open Go.ChangeShapes Go.WideShapes Go.ChangeAt Go.RowKit

theorem walk (a : Option Addr) (c : Nat) (ls : List Ln) (b : Option Addr) (d : Nat) (ns : List Nd) (r : Int) (m : Int) (e : Option Addr) (n g : Nat) (xs : List Tx) (w : World) (hK : Rc w (some ⟨0, 0, none⟩) (wds K64)) (hl : Lns w a c ls) (x : Nds w b d ns) (hm : -9223372036854775808 ≤ m ∧ m < 9223372036854775808) (hx : Txs w e n g xs) :
    Calls Tryz.prog 3 #[.agg #[.slice a ls.length c], .agg #[.slice b ns.length d, .int .i64 r], .int .i64 m, .slice e n g] w fun e w' => e = .returned (.bool true) ∧ Below w.heap.size w w' := by
  haveI : RdA w (some ⟨0, 0, none⟩) (wds K64) := ⟨hK⟩
  haveI := hl.rdA
  haveI := hl.rdL
  haveI := x.rdA
  haveI := x.rdV
  haveI := hx.rdA
  refine (VC.calls w (shardDraws_vc w a c ls b d ns r m e g xs hl.wide hl.len hl.caps x.key x.len hm hx.hn hx.ok hx.len)).mono ?_
  rintro e w' ⟨v, M, rfl, hs, rfl⟩
  exact ⟨rfl, hs.below⟩

set_option maxRecDepth 100000 in
set_option maxHeartbeats 4000000 in
theorem lifted (os : Os) (started : os.Started) (H : Type) (enc : TypeId × Value → H) :
    ReturnsInHanded {} Tryz.checked os 3 .any (fun w args => (Rows.shardDrawsSpec.pre enc Tryz.prog Tryz.f3 Rows.shardDrawsRow.domain false w args ∧ laidMetH Tryz.prog laidK w) ∧ sizedMet enc Tryz.prog Tryz.f3 (OpenSpec.ofChange Rows.shardDrawsSpec) false w args) (Rows.shardDrawsSpec.post enc Tryz.prog Tryz.f3 false true false false) := by
  refine returnsInHanded_of_change_and (C := Tryz.checked) (X := fun w _ => laidMetH Tryz.prog laidK w) (fun _ _ _ hh h => h.of_heap hh) ownK started (by kernel_rfl) Tryz.func3
    (ChangeSpec.witness_shaped (enc := enc) (C := Tryz.checked) (os := os) (X := fun w _ => laidMetH Tryz.prog laidK w) false (World.laidAll Tryz.prog os laidK) #[.agg #[.slice none 0 0], .agg #[.slice none 0 0, .int .i64 0], .int .i64 0, .slice none 0 0] 8 (World.laidAll_os _ _ _)
      (World.shaped_of_ZipB (by kernel_rfl) (by kernel_rfl)) (by kernel_rfl) (by kernel_rfl) (by kernel_rfl)
      (by rw [MakeChecks.laidMetH_plain _ _ _ (by kernel_rfl)]; exact laidMet_laidAll _ (by kernel_rfl) (by kernel_rfl))) ?_
  intro W base args ds gs before hval0 hW hcnd _ hL _
  have hval : ∀ (j : Nat) t v, Tryz.f3.params[j]? = some t → args[j]? = some v → Value.okWide Tryz.prog W .any base t v := hval0
  have hW' := hW
  obtain ⟨p, q, hA0, hV, rfl, hfz, hnd⟩ := hW
  have hA : DataW.TrodAll enc Tryz.prog W 0 (fun _ => true) true Tryz.f3.params.toList args.toList ds p := hA0
  rw [Tryz.params3] at hA hval
  obtain ⟨v0, vs0, d0, ds0, p0, q0, hargs, rfl, rfl, h0, r0⟩ := trodAll_cons hA
  obtain ⟨v1, vs1, d1, ds1, p1, q1, rfl, rfl, rfl, h1, r1⟩ := trodAll_cons r0
  obtain ⟨v2, vs2, d2, ds2, p2, q2, rfl, rfl, rfl, h2, r2⟩ := trodAll_cons r1
  obtain ⟨v3, vs3, d3, ds3, p3, q3, rfl, rfl, rfl, h3, r3⟩ := trodAll_cons r2
  obtain ⟨rfl, rfl, rfl⟩ := trodAll_nil r3
  obtain rfl : args = #[v0, v1, v2, v3] := by cases args; simp_all
  obtain ⟨rfl, rfl⟩ := trodVars_none hV
  have k0 := h0
  have lt0 : ∀ x ∈ p0, x.block < W.heap.size := by obtain ⟨m, hm⟩ := k0; exact DataW.trod_lt m _ _ _ hm
  have k1 := h1
  have lt1 : ∀ x ∈ p1, x.block < W.heap.size := by obtain ⟨m, hm⟩ := k1; exact DataW.trod_lt m _ _ _ hm
  have k2 := h2
  have lt2 : ∀ x ∈ p2, x.block < W.heap.size := by obtain ⟨m, hm⟩ := k2; exact DataW.trod_lt m _ _ _ hm
  have k3 := h3
  have lt3 : ∀ x ∈ p3, x.block < W.heap.size := by obtain ⟨m, hm⟩ := k3; exact DataW.trod_lt m _ _ _ hm
  obtain ⟨a0, c0, ls0, rfl, b0⟩ := open_shard (hval 0 _ v0 rfl rfl) h0
  obtain ⟨a1, c1, ns1, rt1, rfl, b1⟩ := open_tree (hval 1 _ v1 rfl rfl) h1
  obtain ⟨z2, rfl, b2⟩ := open_int64b (hval 2 _ v2 rfl rfl) h2
  obtain ⟨a3, n3, c3, xs3, rfl, b3⟩ := open_txs (hval 3 _ v3 rfl rfl) h3
  clear hA0 hval0
  refine (walk a0 c0 ls0 a1 c1 ns1 rt1 z2 a3 n3 c3 xs3 W (kcells hL) b0 b1 b2 b3).mono fun e W' ⟨he, bel⟩ => ?_
  subst he
  exact ⟨_, rfl, _, _, _, [], _, [], hW', trodAll_mk1 (shut_bool Tryz.underlying4 _), (trodAll_cons_mk (Below.trod laidOutK (by kernel_rfl) (of_decide_eq_true (by kernel_rfl)) k0 bel lt0) (trodAll_cons_mk (Below.trod laidOutK (by kernel_rfl) (of_decide_eq_true (by kernel_rfl)) k1 bel lt1) (trodAll_cons_mk (Below.trod laidOutK (by kernel_rfl) (of_decide_eq_true (by kernel_rfl)) k2 bel lt2) (trodAll_cons_mk (Below.trod laidOutK (by kernel_rfl) (of_decide_eq_true (by kernel_rfl)) k3 bel lt3) trodAll_mk0)))), rfl, bel.frame _, fun h => by cases h⟩

theorem holds : Rows.ShardDrawsSaid :=
  OpenClaim.holds_of_wide 3 Tryz.f3 rfl rfl rfl rfl rfl rfl rfl ⟨rfl, rfl, rfl, rfl, rfl⟩ rfl rfl rfl rfl rfl (by kernel_rfl) Tryz.func3 (by kernel_rfl)
    (of_decide_eq_true (by kernel_rfl)) (by unfold Func.isWrapper; first | (rw [if_pos (by decide +kernel)]; kernel_rfl) | (rw [if_neg (by decide +kernel)]; exact ⟨rfl, rfl⟩))
    (fun os started H enc _ => lifted os started H enc)
theorem proved : Rows.ShardDrawsCardSaid :=
  Claim7.holds_tied_plain_at .later [] [.data] true Rows.shardDrawsCard.stood.harness Rows.shardDrawsCard.stood.looks holds (fun _ h => by cases h) (by kernel_rfl) (fun _ h => by cases h) shardDraws_row_tie rfl ⟨rfl, rfl⟩ (by kernel_rfl) rfl
    (fun f fn hf hfn => by
      obtain rfl : f = 3 := Option.some.inj ((show Tryz.prog.funcNamed "beadroll/beadrolllaw20.ShardDraws" = some 3 by kernel_rfl).symm.trans hf) |>.symm
      obtain rfl : fn = Tryz.f3 := (Option.some.inj (Tryz.func3.symm.trans hfn)).symm
      exact ⟨by kernel_rfl, fun j t ht => by
        rw [Tryz.params3] at ht
        have hm : t ∈ [24, 27, 3, 28] := by simpa using Array.mem_of_getElem? ht
        have hall : ([24, 27, 3, 28].all fun u => !Tryz.prog.wantsStandIn u) = true := by kernel_rfl
        exact (show Tryz.prog.wantsStandIn t = false by simpa using List.all_eq_true.1 hall t hm)⟩)
    (by kernel_rfl)
#print axioms proved
end Go.Proofs.YtcpndfffdbogbaaGreatDoor.shardDraws

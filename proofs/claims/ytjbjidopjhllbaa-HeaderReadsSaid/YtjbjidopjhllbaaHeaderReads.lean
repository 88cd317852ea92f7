/-
  For every slice of bytes, in whatever memory and on every schedule, the law function HeaderReads returns true and leaves its argument as it read before. No condition.
-/
import Derived.Test.YtjbjidopjhllbaaRows
import Derived.Test.YtjbjidopjhllbaaHeadC
import Derived.Test.YtjbjidopjhllbaaOpen
import Derived.ShutString
import Derived.ChangeOld
namespace Go.Proofs.Ytjbjidopjhllbaa.headerReads
open Go.ChangeShapes Go.WideShapes Go.ChangeAt Go.RowKit

theorem eHeader : EqI Try.prog 27 (some .i64 :: (List.replicate 32 (some .u8) ++ (List.replicate 32 (some .u8) ++ (List.replicate 32 (some .u8) ++ [some .i64])))) := ⟨⟨9, by decide, by kernel_rfl⟩, by kernel_rfl, by kernel_rfl⟩
theorem fits_hdr (h : Hdr) (ho : h.ok) : Fits (some .i64 :: (List.replicate 32 (some .u8) ++ (List.replicate 32 (some .u8) ++ (List.replicate 32 (some .u8) ++ [some .i64])))) h.cells := by
  refine ⟨⟨_, rfl⟩, ?_⟩
  have f1 := fits_bvs h.parent
  have f2 := fits_bvs h.state
  have f3 := fits_bvs h.rows
  rw [ho.1] at f1
  rw [ho.2.1] at f2
  rw [ho.2.2] at f3
  exact f1.append (f2.append (f3.append ⟨⟨_, rfl⟩, trivial⟩))
theorem hdrRead_ok (l : List UInt8) : (hdrRead l).1.ok := by
  unfold hdrRead
  split
  · exact ⟨rfl, rfl, rfl⟩
  split
  · exact ⟨rfl, rfl, rfl⟩
  split
  · exact ⟨rfl, rfl, rfl⟩
  · exact ⟨by simp [hdrOf]; omega, by simp [hdrOf]; omega, by simp [hdrOf]; omega⟩

set_option maxRecDepth 100000 in
set_option maxHeartbeats 1600000 in
theorem walk (a : Option Addr) (n cap : Nat) (l : List UInt8) (w : World) (hb : Bts w a n cap l) :
    Calls Try.prog 3 #[.slice a n cap] w fun e w' => e = .returned (.bool true) ∧ Below w.heap.size w w' := by
  obtain ⟨hn, hcap, _, hc⟩ := hb
  subst hn
  by_cases hl : 300 < l.length
  · go_enter Try.func3, Try.ntmps3
    go_wp2_with fail
    go_ret
    exact ⟨rfl, Below.refl _ _⟩
  have hl' : l.length ≤ 300 := by omega
  obtain ⟨p, hp⟩ : ∃ p, p = hdrRead l := ⟨_, rfl⟩
  have hok : p.1.ok := by rw [hp]; exact hdrRead_ok l
  have HP : Hid (p = hdrRead l) := hp
  clear hp hl
  go_enter Try.func3, Try.ntmps3
  go_wp2_with fail
  refine (twin_calls a cap l _ rfl (by omega) hc).mono ?_
  rintro e w1 ⟨a1, c1, rfl, hs1⟩
  have ho1 := (hs1.ownLen 0 rfl).2.1
  have hr1 := hs1.rcOwn 0 rfl
  go_wp2_with fail
  refine (read_any a1 c1 l _ rfl ho1 hr1).mono ?_
  rintro e w2 ⟨he, hd2⟩
  rw [← HP.out] at he
  subst he
  have hs2 := hs1.comp hd2
  simp only [List.nil_append] at hs2
  go_wp2_with (first | (refine lg (wp_alloc _ rfl tHeader hs2 ?_); intro g1 w3 hs3) | (refine lg (wp_storeBlk _ (.tmp 4) (.tmp 16) rfl _ _ rfl tHeader hs3 0 rfl p.1.cells rfl (Hdr.len _ hok) (Hdr.one _) _ (splice_all _ _ (by rw [Hdr.len _ hok]; rfl)) (by rw [Hdr.len _ hok]; exact Nat.le_refl _) ?_); intro w4 hs4))
  refine (read14_any a cap l _ rfl hcap (hc.st hs4)).mono ?_
  rintro e w5 ⟨he, hd5⟩
  rw [← HP.out] at he
  subst he
  have hs5 := hs4.comp hd5
  simp only [List.nil_append, List.set_cons_zero] at hs5
  go_wp2_with (first | (refine lg (wp_alloc _ rfl tHeader hs5 ?_); intro g2 w6 hs6) | (refine lg (wp_storeBlk _ (.tmp 6) (.tmp 21) rfl _ _ rfl tHeader hs6 0 rfl p.1.cells rfl (Hdr.len _ hok) (Hdr.one _) _ (splice_all _ _ (by rw [Hdr.len _ hok]; rfl)) (by rw [Hdr.len _ hok]; exact Nat.le_refl _) ?_); intro w7 hs7) | (refine lg (wp_loadAgg _ (.tmp 4) rfl _ _ rfl tHeader _ (hs7.rcBlk 1 rfl) (Hdr.len _ hok) ?_)) | (refine lg (wp_loadAgg _ (.tmp 6) rfl _ _ rfl tHeader _ (hs7.rcBlk 0 rfl) (Hdr.len _ hok) ?_)) | (refine lg (wp_eqAgg _ _ (.tmp 23) (.tmp 24) rfl eHeader p.1.cells p.1.cells rfl rfl (fits_hdr _ hok) (fits_hdr _ hok) True (by simp) ?_)) | (go_at_call 12; refine (same_calls a1 c1 l a cap l _ rfl rfl (hs7.rcOwn 2 rfl) (hc.st hs7)).mono ?_; rintro e w8 ⟨rfl, rfl⟩))
  go_ret
  exact ⟨rfl, hs7.below⟩

theorem own : ownKnob Try.prog.godebug = none := by kernel_rfl
theorem laidOut : laidOutB Try.prog = true := by kernel_rfl

set_option maxRecDepth 100000 in
theorem lifted (os : Os) (started : os.Started) (H : Type) (enc : TypeId × Value → H) :
    ReturnsInHanded {} Try.checked os 3 .any (Rows.headerReadsSpec.pre6 enc Try.prog Try.f3 Rows.headerReadsRow.domain false) (Rows.headerReadsSpec.post enc Try.prog Try.f3 false true false false) := by
  refine returnsInHanded_of_change (C := Try.checked) own started (by kernel_rfl) Try.func3
    (ChangeSpec.witness6 (enc := enc) (C := Try.checked) false ⟨#[], #[.slice none 0 0], []⟩ 8 (by kernel_rfl) (by kernel_rfl) (by kernel_rfl) (by kernel_rfl)) ?_
  intro W base args ds gs before hval0 hW hcnd _
  have hval : ∀ (j : Nat) t v, Try.f3.params[j]? = some t → args[j]? = some v → Value.okWide Try.prog W .any base t v := hval0
  have hW' := hW
  obtain ⟨p, q, hA0, hV, rfl, hfz, hnd⟩ := hW
  have hA : DataW.TrodAll enc Try.prog W 0 (fun _ => true) true Try.f3.params.toList args.toList ds p := hA0
  rw [Try.params3] at hA hval
  obtain ⟨v0, vs0, d0, ds0, p0, q0, hargs, rfl, rfl, h0, r0⟩ := trodAll_cons hA
  obtain ⟨rfl, rfl, rfl⟩ := trodAll_nil r0
  obtain rfl : args = #[v0] := by cases args; simp_all
  obtain ⟨rfl, rfl⟩ := trodVars_none hV
  have k0 := h0
  have lt0 : ∀ x ∈ p0, x.block < W.heap.size := by obtain ⟨m, hm⟩ := k0; exact DataW.trod_lt m _ _ _ hm
  obtain ⟨a0, len0, cap0, l0, rfl, b0⟩ := open_bts (hval 0 _ v0 rfl rfl) h0
  clear hA0 hval0
  refine (walk a0 len0 cap0 l0 W b0).mono fun e W' ⟨he, bel⟩ => ?_
  subst he
  exact ⟨_, rfl, _, _, _, [], _, [], hW', trodAll_mk1 (shut_bool Try.underlying4 _), (trodAll_cons_mk (Below.trod laidOut (by kernel_rfl) (of_decide_eq_true (by kernel_rfl)) k0 bel lt0) trodAll_mk0), rfl, bel.frame _, fun h => by cases h⟩

theorem proved : Rows.HeaderReadsSaid :=
  OpenClaim.holds_of_wide 3 Try.f3 rfl rfl rfl rfl rfl rfl rfl ⟨rfl, rfl, rfl, rfl, rfl⟩ rfl rfl rfl rfl rfl (by kernel_rfl) Try.func3 (by kernel_rfl)
    (of_decide_eq_true (by kernel_rfl)) (by unfold Func.isWrapper; first | (rw [if_pos (by decide +kernel)]; kernel_rfl) | (rw [if_neg (by decide +kernel)]; exact ⟨rfl, rfl⟩))
    (fun os started H enc _ => lifted os started H enc)
#print axioms proved
end Go.Proofs.Ytjbjidopjhllbaa.headerReads

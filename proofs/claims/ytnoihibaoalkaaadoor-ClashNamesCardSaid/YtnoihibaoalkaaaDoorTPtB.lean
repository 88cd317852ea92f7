/-
  A tree with a value for a key: the program's.
-/
import Derived.Test.YtnoihibaoalkaaaDoorTPtA
import Derived.Test.YtnoihibaoalkaaaDoorTC
import Derived.Test.YtnoihibaoalkaaaDoorGC
set_option linter.unusedVariables false
set_option linter.unusedSimpArgs false
namespace Go.Proofs.YtnoihibaoalkaaaDoor
open Go Go.RowKit
set_option linter.unusedVariables false
set_option linter.unusedSimpArgs false
open Classical

noncomputable def tputE (ns : List Nd) (r : Int) (v : List UInt8) : Int := if MayP ns r ∧ okVal v.length = true then (if 261844 < ns.length then 9 else 0) else 8
/-- A tree that goes on with another one's nodes, and stands for a list. -/
structure GrowR (ns ms : List Nd) (s : Int) (l : List KV) : Prop where
  may : MayP ms s
  ok : NsOk ms
  pre : pls (ms.take ns.length) = pls ns
  len : ns.length ≤ ms.length
  len2 : ms.length ≤ ns.length + 300
  for' : forP ms s.toNat = l
  one : ns = [] → ms.length ≤ 1
def RGrow (w0 : World) (L : List Asn) (ns : List Nd) (e : Int) (l : List KV) (v : Value) (L' : List Asn) : Prop := ∃ a c ms s, v = .tuple #[.agg #[.slice a ms.length c, .int .i64 s], .int .i64 e] ∧ (if e = 0 then GrowR ns ms s l else ms = [] ∧ s = 0) ∧ L' = ownNs a c ms :: vnA ms :: L
/-- Values of what is put behind. -/
theorem se_vn_fork (ns : List Nd) (y : Nd) (hy : Fk y) (L : List Asn) : SE (vnA ns :: L) (vnA (ns ++ [y]) :: L) := by
  have e : ownB y.a y.c y.v = own 5 1 none 0 0 [] := by rw [hy.1, hy.2.1, hy.2.2.1]; rfl
  refine SE.trans ?_ (se_ns_snoc ns y L)
  rw [e]
  exact se_own_nil _ _ _
theorem se_vn_forks (ns : List Nd) (L : List Asn) : ∀ (fs : List Nd), (∀ y ∈ fs, Fk y) → SE (vnA ns :: L) (vnA (ns ++ fs) :: L) := by
  intro fs
  induction fs generalizing ns with
  | nil => intro _; rw [List.append_nil]; exact SE.refl _
  | cons y fs ih =>
    intro h
    have := ih (ns ++ [y]) (fun z hz => h z (by simp [hz]))
    rw [List.append_assoc] at this
    exact (se_vn_fork ns y (h y (by simp)) L).trans this
theorem se_vn_with (x : Nd) (ns : List Nd) (f n d : Nat) (L : List Asn) : SE (ownB x.a x.c x.v :: vnA ns :: L) (vnA (withP f ns n d x).1 :: L) := by
  obtain ⟨b, fs, h1, h2⟩ := with_shape x f ns n d
  rw [h1]
  cases b with
  | true =>
    have := se_vn_forks (ns ++ [x]) L fs h2
    rw [List.append_assoc] at this
    exact (se_ns_snoc ns x L).trans this
  | false => exact (se_drop _ _).trans (se_vn_forks ns L fs h2)
theorem take_app (ns : List Nd) (ms : List Nd) : (ns ++ ms).take ns.length = ns := by simp
theorem grow_with {ns ms : List Nd} {r : Int} {x : Nd} (hok : NsOk ns) (hm : MayP ns r) (hms : pls ms = pls ns) (hx : x.leaf = true) (hk : x.key.length = 32) (hv : okVal x.v.length = true) (hxl : x.left = 0) (hxr : x.right = 0) (hbig : ns.length ≤ 261844) :
    GrowR ns (withP 257 ms r.toNat 0 x).1 (withP 257 ms r.toNat 0 x).2 (putF (forP ns r.toNat) x.key x.v) := by
  have hom := hok.of_pls hms
  have hmm := (mayP_eq hms r).2 hm
  have hlen := pls_len hms
  have hvl : x.v.length ≤ 64 := by simp [okVal] at hv; omega
  have W := with_law x hx hk 257 ms r.toNat 0 zb rfl (by decide) (by have := hmm.hi; have := hmm.lo; omega) (fun _ _ => rfl) (fun m hm => by omega) (for_k32 hom _) hmm.right
  obtain ⟨⟨es, e1, e2⟩, h2, h3, h4, h5⟩ := W
  have hq := congrArg List.length e1
  rw [List.length_append] at hq
  have hkq := with_keys hk hom.key 257 r.toNat 0
  have hsh := with_shape x 257 ms r.toNat 0
  refine ⟨⟨by omega, by omega, by omega, h5 hmm.ones (fun i => (by unfold oneP; rw [if_pos hx]; exact ⟨hv, hxl, hxr⟩)), by rw [Int.toNat_natCast]; exact h3⟩, ⟨hkq, ?_, by omega⟩, ?_, by omega, by omega, ?_, ?_⟩
  · obtain ⟨b, fs, g1, g2⟩ := hsh
    rw [g1]
    intro p hp
    rcases List.mem_append.1 hp with hp | hp
    · exact hom.vl p hp
    · cases b with
      | true =>
        rcases List.mem_cons.1 hp with rfl | hp
        · omega
        · rw [(g2 p hp).1]; simp
      | false => rw [(g2 p hp).1]; simp
  · rw [e1, ← hlen, take_app]; exact hms
  · rw [Int.toNat_natCast, h4, forP_eq hms]
  · intro h0
    have hm0 : ms = [] := List.map_eq_nil_iff.1 (show ms.map Nd.pl = [] by rw [show ms.map Nd.pl = pls ms from rfl, hms, h0]; rfl)
    have hr0 : r.toNat = 0 := by have h1 := hm.hi; have h2 := hm.lo; rw [h0] at h1; simp at h1; omega
    rw [hm0, hr0]
    simp [withP]
set_option maxRecDepth 100000 in
set_option maxHeartbeats 4000000 in
theorem tput_vc (w0 : World) (L : List Asn) (a : Option Addr) (c : Nat) (ns : List Nd) (r : Int) (k : List UInt8) (va : Option Addr) (vc : Nat) (v : List UInt8) {n m : Nat} (hn : n = ns.length) (hmv : m = v.length) (hok : NsOk ns) (hlk : k.length = 32) (hvl : v.length ≤ 1000000) [hr : RdC w0 L a (ndc ns)] [hv : RdNs w0 L ns] [hrv : RdC w0 L va (bvs v)] :
    VC Tryd.prog w0 22 [.agg #[.slice a n c, .int .i64 r], .agg (bvs k).toArray, .slice va m vc] L (RGrow w0 L ns (tputE ns r v) (putF (forP ns r.toNat) k v)) := by
  subst hn
  subst hmv
  have hlen := hok.len
  refine vc_ent ?_
  refine vc_in rfl rfl ?_
  have hbc : ∀ a2 c2, fillS [(0, 1), (1, 32), (33, 1), (34, 1), (35, 1)] (Value.bool false :: (bvs (List.replicate 32 0) ++ [.slice none 0 0, .int .i64 0, .int .i64 0])) [(0, [.bool true]), (1, bvs k), (2, [.slice a2 v.length c2])] = (Nd.mk true k a2 c2 v 0 0).cells := fun a2 c2 => by
    simp [fillS, splice, hlk, Nd.cells, List.drop_append, List.drop_of_length_le, List.take_append]
  repeat' (first | (refine go1 ?_; intros) | (refine vl_caseG rfl rfl rfl rfl ?_ ?_ <;> (intro hb; (try simp only [decide_eq_true_eq, decide_eq_false_iff_not, Bool.not_eq_true', Bool.not_eq_false', ne_eq, Decidable.not_not, Option.isNone_iff_eq_none, not_true_eq_false, not_false_eq_true] at hb); try (exfalso; omega))) | (refine v_cond rfl ?_ ?_ <;> (intro hb; (try simp only [decide_eq_true_eq, decide_eq_false_iff_not, Bool.not_eq_true', Bool.not_eq_false', ne_eq, Decidable.not_not, Option.isNone_iff_eq_none, not_true_eq_false, not_false_eq_true] at hb); try (exfalso; omega))) | fail)
  rename_i g3 g4 g6
  refine v_cut (Nat × Option Addr × Nat) [3, 4, 6, 7] rfl (fun z => [(8, .pointer (some ⟨z.1, 0, none⟩))]) (fun z => blk z.1 100 (Nd.mk true k z.2.1 z.2.2 v 0 0).cells :: ownB z.2.1 z.2.2 v :: blk g6 24 [.slice none 0 0, .int .i64 0] :: blk g4 26 (bvs k) :: blk g3 24 [.slice a ns.length c, .int .i64 r] :: L) ?_ ?_
  · refine v_id ?_
    refine v_draw0 [] (by kernel_rfl) ?_
    refine va_takeA 0 rfl rfl rfl rfl ?_
    refine va_takeA 1 rfl rfl rfl rfl ?_
    refine va_two 2 4 (by kernel_rfl) rfl rfl rfl rfl ?_ ?_
    · first | refine vo_call rfl rfl ?_ | refine vo_callV rfl rfl rfl ?_
      refine vc_mono (clone_vc w0 _ va vc v rfl (by omega)) ?_
      rintro v' L' ⟨a2, c2, _, rfl, rfl⟩
      have hxl : (Nd.mk true k a2 c2 v 0 0).cells.length = 36 := Nd.len hlk
      haveI hxo : OC (Nd.mk true k a2 c2 v 0 0).cells := oc_nd _
      refine ⟨.inr (sei _ _ _), ?_⟩
      refine va_take 3 rfl rfl rfl rfl (by kernel_rfl) (fun _ _ _ _ h => h) (sei _ _ _) (vq_buildP (cs := (Nd.mk true k a2 c2 v 0 0).cells) rfl (by simp [okS, Value.cells, hlk]) (hbc a2 c2)) ?_
      refine va_one 4 (by kernel_rfl) rfl rfl ?_
      (first | (refine vo_box rfl rfl rfl ?_; intro _) | (refine vo_alloc rfl ?_; intro _) | (refine vo_isStore ?_; first | (refine vo_isPt0 rfl ?_; refine vo_stWA rfl rfl ?_) | (refine vo_isPt rfl ?_; refine vo_stBA rfl rfl ?_) | (refine vo_stO rfl rfl (by rfl) (by first | rfl | assumption) (by first | assumption | (simp; done) | (simp; omega) | omega) rfl ?_; skip)) | (refine vo_isCall ?_; first | (refine vo_isApp ?_; first | (refine vo_append0A rfl rfl rfl ?_; intro _ _ _ _) | (refine vo_appendA rfl rfl rfl ?_; intro _ _ _ _)) | (refine vo_isCopy ?_; refine vo_copyB rfl rfl rfl (by assumption) (by assumption) (by assumption) (by assumption) ?_) | refine vo_yield rfl rfl rfl rfl rfl ?_ | refine vo_callV rfl rfl rfl (vc_in rfl rfl ?_)) | refine vo_convRow rfl rfl ?_ | (refine vo_isBs ?_; refine vo_buildSlice rfl rfl rfl (by decide) (by repeat' (first | exact trivial | rfl | assumption | refine ⟨?_, ?_⟩ | (simp; done) | (simp; omega))) (by decide) rfl ?_; intro _) | (refine vo_buildSlice0 rfl ?_; intro _) | fail)
      refine ⟨.inr (sei _ _ _), ?_⟩
      refine va_one 5 (by kernel_rfl) rfl rfl ?_
      (first | (refine vo_box rfl rfl rfl ?_; intro _) | (refine vo_alloc rfl ?_; intro _) | (refine vo_isStore ?_; first | (refine vo_isPt0 rfl ?_; refine vo_stWA rfl rfl ?_) | (refine vo_isPt rfl ?_; refine vo_stBA rfl rfl ?_) | (refine vo_stO rfl rfl (by rfl) (by first | rfl | assumption) (by first | assumption | (simp; done) | (simp; omega) | omega) rfl ?_; skip)) | (refine vo_isCall ?_; first | (refine vo_isApp ?_; first | (refine vo_append0A rfl rfl rfl ?_; intro _ _ _ _) | (refine vo_appendA rfl rfl rfl ?_; intro _ _ _ _)) | (refine vo_isCopy ?_; refine vo_copyB rfl rfl rfl (by assumption) (by assumption) (by assumption) (by assumption) ?_) | refine vo_yield rfl rfl rfl rfl rfl ?_ | refine vo_callV rfl rfl rfl (vc_in rfl rfl ?_)) | refine vo_convRow rfl rfl ?_ | (refine vo_isBs ?_; refine vo_buildSlice rfl rfl rfl (by decide) (by repeat' (first | exact trivial | rfl | assumption | refine ⟨?_, ?_⟩ | (simp; done) | (simp; omega))) (by decide) rfl ?_; intro _) | (refine vo_buildSlice0 rfl ?_; intro _) | fail)
      refine ⟨.inr (sei _ _ _), ?_⟩
      refine va_done (by kernel_rfl) ?_
      refine ⟨rfl, (_, a2, c2), by (repeat' (first | exact Sub.nil _ | refine Sub.cons rfl rfl ?_ | refine Sub.cons rfl ?_ ?_)), ?_⟩
      exact sei _ _ _
    · (first | (refine vo_box rfl rfl rfl ?_; intro _) | (refine vo_alloc rfl ?_; intro _) | (refine vo_isStore ?_; first | (refine vo_isPt0 rfl ?_; refine vo_stWA rfl rfl ?_) | (refine vo_isPt rfl ?_; refine vo_stBA rfl rfl ?_) | (refine vo_stO rfl rfl (by rfl) (by first | rfl | assumption) (by first | assumption | (simp; done) | (simp; omega) | omega) rfl ?_; skip)) | (refine vo_isCall ?_; first | (refine vo_isApp ?_; first | (refine vo_append0A rfl rfl rfl ?_; intro _ _ _ _) | (refine vo_appendA rfl rfl rfl ?_; intro _ _ _ _)) | (refine vo_isCopy ?_; refine vo_copyB rfl rfl rfl (by assumption) (by assumption) (by assumption) (by assumption) ?_) | refine vo_yield rfl rfl rfl rfl rfl ?_ | refine vo_callV rfl rfl rfl (vc_in rfl rfl ?_)) | refine vo_convRow rfl rfl ?_ | (refine vo_isBs ?_; refine vo_buildSlice rfl rfl rfl (by decide) (by repeat' (first | exact trivial | rfl | assumption | refine ⟨?_, ?_⟩ | (simp; done) | (simp; omega))) (by decide) rfl ?_; intro _) | (refine vo_buildSlice0 rfl ?_; intro _) | fail)
      refine ⟨.inr (sei _ _ _), ?_⟩
      refine va_one 2 (by kernel_rfl) rfl rfl ?_
      first | refine vo_call rfl rfl ?_ | refine vo_callV rfl rfl rfl ?_
      refine vc_mono (clone_vc w0 _ va vc v rfl (by omega)) ?_
      rintro v' L' ⟨a2, c2, _, rfl, rfl⟩
      have hxl : (Nd.mk true k a2 c2 v 0 0).cells.length = 36 := Nd.len hlk
      haveI hxo : OC (Nd.mk true k a2 c2 v 0 0).cells := oc_nd _
      refine ⟨.inr (sei _ _ _), ?_⟩
      refine va_take 3 rfl rfl rfl rfl (by kernel_rfl) (fun _ _ _ _ h => h) (sei _ _ _) (vq_buildP (cs := (Nd.mk true k a2 c2 v 0 0).cells) rfl (by simp [okS, Value.cells, hlk]) (hbc a2 c2)) ?_
      refine va_one 5 (by kernel_rfl) rfl rfl ?_
      (first | (refine vo_box rfl rfl rfl ?_; intro _) | (refine vo_alloc rfl ?_; intro _) | (refine vo_isStore ?_; first | (refine vo_isPt0 rfl ?_; refine vo_stWA rfl rfl ?_) | (refine vo_isPt rfl ?_; refine vo_stBA rfl rfl ?_) | (refine vo_stO rfl rfl (by rfl) (by first | rfl | assumption) (by first | assumption | (simp; done) | (simp; omega) | omega) rfl ?_; skip)) | (refine vo_isCall ?_; first | (refine vo_isApp ?_; first | (refine vo_append0A rfl rfl rfl ?_; intro _ _ _ _) | (refine vo_appendA rfl rfl rfl ?_; intro _ _ _ _)) | (refine vo_isCopy ?_; refine vo_copyB rfl rfl rfl (by assumption) (by assumption) (by assumption) (by assumption) ?_) | refine vo_yield rfl rfl rfl rfl rfl ?_ | refine vo_callV rfl rfl rfl (vc_in rfl rfl ?_)) | refine vo_convRow rfl rfl ?_ | (refine vo_isBs ?_; refine vo_buildSlice rfl rfl rfl (by decide) (by repeat' (first | exact trivial | rfl | assumption | refine ⟨?_, ?_⟩ | (simp; done) | (simp; omega))) (by decide) rfl ?_; intro _) | (refine vo_buildSlice0 rfl ?_; intro _) | fail)
      refine ⟨.inr (sei _ _ _), ?_⟩
      refine va_done (by kernel_rfl) ?_
      refine ⟨rfl, (_, a2, c2), by (repeat' (first | exact Sub.nil _ | refine Sub.cons rfl rfl ?_ | refine Sub.cons rfl ?_ ?_)), ?_⟩
      exact sei _ _ _
  rintro ⟨g8, a2, c2⟩
  dsimp only
  have hxl : (Nd.mk true k a2 c2 v 0 0).cells.length = 36 := Nd.len hlk
  haveI hxo : OC (Nd.mk true k a2 c2 v 0 0).cells := oc_nd _
  have hO := fun L => one_vc w0 L (Nd.mk true k a2 c2 v 0 0) 0 hlk hvl (by decide)
  have hOP : oneP (Nd.mk true k a2 c2 v 0 0) 0 ↔ okVal v.length = true := by
    rw [oneP_leaf rfl]; simp
  have hbad : ∀ (e : Int) (M : List Asn), e ≠ 0 → tputE ns r v = e → SE M L → ∃ L'', Ent w0 M L'' ∧ RGrow w0 L ns (tputE ns r v) (putF (forP ns r.toNat) k v) (.tuple #[.agg #[.slice none 0 0, .int .i64 0], .int .i64 e]) L'' := fun e M h1 h2 h3 => ⟨_, (h3.trans (se_ns_nil L)).ent w0, none, 0, [], 0, by rw [h2]; rfl, by rw [h2, if_neg h1]; exact ⟨rfl, rfl⟩, rfl⟩
  repeat' (first | (refine go1 ?_; intros) | (refine vl_caseG rfl rfl rfl rfl ?_ ?_ <;> (intro hb; (try simp only [decide_eq_true_eq, decide_eq_false_iff_not, Bool.not_eq_true', Bool.not_eq_false', ne_eq, Decidable.not_not, Option.isNone_iff_eq_none, not_true_eq_false, not_false_eq_true] at hb); try (exfalso; omega))) | (refine v_cond rfl ?_ ?_ <;> (intro hb; (try simp only [decide_eq_true_eq, decide_eq_false_iff_not, Bool.not_eq_true', Bool.not_eq_false', ne_eq, Decidable.not_not, Option.isNone_iff_eq_none, not_true_eq_false, not_false_eq_true] at hb); try (exfalso; omega))) | fail)
  refine vl_o rfl (vo_call rfl rfl ?_)
  refine vc_mono (tcheck_vc w0 _ a c ns r rfl hok) ?_
  rintro v' L' ⟨rfl, rfl⟩
  by_cases hm : MayP ns r
  · rw [if_pos hm]
    generalize hX : (Nd.mk true k a2 c2 v 0 0).cells = cs at *
    repeat' (first | (refine go1 ?_; intros) | (refine vl_caseG rfl rfl rfl rfl ?_ ?_ <;> (intro hb; (try simp only [decide_eq_true_eq, decide_eq_false_iff_not, Bool.not_eq_true', Bool.not_eq_false', ne_eq, Decidable.not_not, Option.isNone_iff_eq_none, not_true_eq_false, not_false_eq_true] at hb); try (exfalso; omega))) | (refine v_cond rfl ?_ ?_ <;> (intro hb; (try simp only [decide_eq_true_eq, decide_eq_false_iff_not, Bool.not_eq_true', Bool.not_eq_false', ne_eq, Decidable.not_not, Option.isNone_iff_eq_none, not_true_eq_false, not_false_eq_true] at hb); try (exfalso; omega))) | fail)
    refine vl_o rfl (vo_call rfl rfl ?_)
    refine vc_mono (hO _) ?_
    rintro v' L' ⟨rfl, rfl⟩
    by_cases hv1 : okVal v.length = true
    · rw [decide_eq_true (hOP.2 hv1)]
      repeat' (first | (refine go1 ?_; intros) | (refine vl_caseG rfl rfl rfl rfl ?_ ?_ <;> (intro hb; (try simp only [decide_eq_true_eq, decide_eq_false_iff_not, Bool.not_eq_true', Bool.not_eq_false', ne_eq, Decidable.not_not, Option.isNone_iff_eq_none, not_true_eq_false, not_false_eq_true] at hb); try (exfalso; omega))) | (refine v_cond rfl ?_ ?_ <;> (intro hb; (try simp only [decide_eq_true_eq, decide_eq_false_iff_not, Bool.not_eq_true', Bool.not_eq_false', ne_eq, Decidable.not_not, Option.isNone_iff_eq_none, not_true_eq_false, not_false_eq_true] at hb); try (exfalso; omega))) | fail)
      · exact hbad 9 _ (by decide) (by unfold tputE; rw [if_pos ⟨hm, hv1⟩, if_pos (by omega)]) SEI.out
      refine vl_o rfl (vo_call rfl rfl ?_)
      refine vc_mono (ttwin_vc w0 _ a c ns r rfl hok) ?_
      rintro v' L' ⟨a5, c5, ms, rfl, hms, rfl⟩
      have hom := hok.of_pls hms
      have hmm := (mayP_eq hms r).2 hm
      have hml := pls_len hms
      have hG := grow_with (x := Nd.mk true k a2 c2 v 0 0) hok hm hms rfl hlk hv1 rfl rfl (by omega)
      have hE : tputE ns r v = 0 := by unfold tputE; rw [if_pos ⟨hm, hv1⟩, if_neg (by omega)]
      obtain ⟨rn, hrn⟩ : ∃ rn : Nat, r = rn := ⟨r.toNat, by have := hm.lo; omega⟩
      have hrl := hmm.hi
      have hSE := fun M => se_vn_with (Nd.mk true k a2 c2 v 0 0) ms 257 r.toNat 0 M
      have hW := fun g L a c => with_vc w0 g r (Nd.mk true k a2 c2 v 0 0) rfl hlk 257 L ms a c r.toNat 0 zb rfl (by decide) (by omega) (fun _ _ => rfl) (fun m hm => by omega) hom.key hmm.ones hmm.right (by omega)
      rw [hX] at hW
      rw [show ((r.toNat : Nat) : Int) = r by omega] at hW
      generalize withP 257 ms r.toNat 0 (Nd.mk true k a2 c2 v 0 0) = q at *
      dsimp only at hG hSE
      repeat' (first | (refine go1 ?_; intros) | (refine vl_caseG rfl rfl rfl rfl ?_ ?_ <;> (intro hb; (try simp only [decide_eq_true_eq, decide_eq_false_iff_not, Bool.not_eq_true', Bool.not_eq_false', ne_eq, Decidable.not_not, Option.isNone_iff_eq_none, not_true_eq_false, not_false_eq_true] at hb); try (exfalso; omega))) | (refine v_cond rfl ?_ ?_ <;> (intro hb; (try simp only [decide_eq_true_eq, decide_eq_false_iff_not, Bool.not_eq_true', Bool.not_eq_false', ne_eq, Decidable.not_not, Option.isNone_iff_eq_none, not_true_eq_false, not_false_eq_true] at hb); try (exfalso; omega))) | fail)
      rename_i gm
      rw [show ([Value.slice a5 ms.length c5, Value.int .i64 r] ++ [] : List Value) = [.slice a5 ms.length c5, .int .i64 r] from rfl]
      refine v_draw0 [8, 12] (by kernel_rfl) ?_
      refine va_takeP 0 rfl rfl rfl rfl (by kernel_rfl) (fun _ _ _ _ h => h) (.inl (sei _ _ _)) (by (first | exact vq_move rfl | exact vq_assign rfl | (apply vq_isBin; first | exact vq_lt rfl rfl | exact vq_eq rfl rfl | exact vq_ne rfl rfl | (apply vq_isOp .add; exact vq_add rfl rfl (by first | exact wr_add (by omega) | exact wu_add (by omega) | exact wr_id (by omega) (by omega) | rfl)) | (apply vq_isOp .sub; exact vq_minus rfl rfl (by first | exact wr_sub (by omega) (by omega) | exact wu_sub (by omega) (by omega) | exact wr_id (by omega) (by omega) | rfl)) | exact vq_gt rfl rfl | exact vq_le rfl rfl | exact vq_ge rfl rfl | (apply vq_isOp .mul; exact vq_mul rfl rfl (by first | exact wr_mul (by omega) | exact wr_id (by omega) (by omega) | rfl)) | (apply vq_isOp .or; exact vq_or rfl rfl (by rfl)) | (apply vq_isOp .and; exact vq_and rfl rfl (by rfl)) | (apply vq_isOp .xor; exact vq_xor rfl rfl (by rfl)) | (apply vq_isOp .shl; exact vq_shl rfl rfl (by omega) (by rfl)) | (apply vq_isOp .shr; exact vq_shr rfl rfl (by omega) (by rfl)) | (apply vq_isOp .quo; exact vq_quo rfl rfl (by decide) (by first | exact q8_i64 (by omega) | exact q2_u8 (by omega) | exact q4_i64 (by omega) | assumption | rfl)) | (apply vq_isOp .rem; exact vq_rem rfl rfl (by decide) (by first | exact r8 | exact r2 | exact r4 | exact r64 | assumption | rfl)) | exact vq_eqNil rfl rfl | exact vq_eqBool rfl rfl | (apply vq_isOp .eql; exact vq_eqB rfl rfl (by first | assumption | (simp; done)) (by first | assumption | (simp; done))) | (apply vq_isOp .neq; first | exact vq_neBool rfl rfl | exact vq_neB rfl rfl (by first | assumption | (simp; done)) (by first | assumption | (simp; done)))) | (apply vq_isLoad; first | (apply vq_isPt; exact rfl; first | (apply vq_isOne; exact vq_ldB rfl (by first | rfl | assumption)) | (apply vq_isPt0; exact rfl; apply vq_isAgg; exact vq_ldW rfl (by first | rfl | assumption | (simp; done) | (simp; assumption))) | (apply vq_isAgg; exact vq_ldP rfl (by assumption) (by first | assumption | (simp; done) | (simp; assumption)))) | (apply vq_isPtA; exact rfl; first | (apply vq_isOne; exact vq_ld1 rfl (by first | assumption | rfl)) | exact vq_ldA rfl (by assumption) (by first | assumption | (simp; done) | (simp; assumption))) | fail) | exact vq_lenSl rfl | (apply vq_isIx; first | (apply vq_ixSl; exact rfl; exact vq_index rfl rfl (by omega) (by omega) (by first | assumption | (simp; done) | (simp; omega) | (rw [bvs_length]; omega)) (by first | exact ix_1 | exact ix_s _ | rfl)) | (apply vq_ixPt; exact rfl; exact vq_indexArr rfl rfl (by omega) (by omega) (by first | exact ix_1 | exact ix_s _ | rfl)) | exact vq_indexArrA rfl rfl (by first | assumption | (simp; done) | (rw [bvs_length]; omega) | (simp; omega)) (by omega) (by omega) (by first | exact ix_1 | exact ix_s _ | rfl)) | exact vq_extract rfl rfl | exact vq_pickT rfl rfl | exact vq_pickF rfl rfl | exact vq_fieldAddr rfl (by rfl) rfl | exact vq_fieldAddrO rfl (by first | assumption | (simp; done) | (simp; omega)) (by rfl) rfl | exact vq_makeFunc rfl rfl | exact vq_nilCheck rfl | (apply vq_isConv; exact vq_conv rfl (by first | exact wi_id (by omega) | exact wu_id (by omega) | exact wr_id (by omega) (by omega) | rfl)) | (apply vq_isUn; first | exact vq_not rfl | exact vq_xorU rfl (by rfl) | exact vq_neg rfl (by rfl)) | (apply vq_isSlice; first | exact vq_slice rfl (by first | exact bnd_none | exact bnd_nat rfl) (by first | exact bnd_none | exact bnd_nat rfl) (by first | exact bnd_none | exact bnd_nat rfl) rfl (by omega) (by omega) (by omega) | exact vq_sliceArr rfl rfl | exact vq_sliceArrO rfl (by first | assumption | (simp; done) | (simp; omega)) rfl) | (apply vq_isBuild; first | exact vq_build0 | exact vq_buildArr0 | exact vq_build rfl rfl (by first | rfl | (simp [plOf]; done)) (by first | rfl | (simp; done)) | exact vq_buildP rfl (by first | (simp [okS, Value.cells]; done) | (simp [okS, Value.cells]; omega)) rfl) | fail)) ?_
      refine va_takeA 1 rfl rfl rfl rfl ?_
      refine va_takeA 2 rfl rfl rfl rfl ?_
      refine va_takeA 3 rfl rfl rfl rfl ?_
      refine va_takeA 4 rfl rfl rfl rfl ?_
      refine va_takeA 5 rfl rfl rfl rfl ?_
      refine va_takeA 6 rfl rfl rfl rfl ?_
      refine va_takeA 7 rfl rfl rfl rfl ?_
      refine va_one 8 (by kernel_rfl) rfl rfl ?_
      first | refine vo_call rfl rfl ?_ | refine vo_callV rfl rfl rfl ?_
      refine vc_mono (vc_pre (sei w0 _ (mkB gm a5 c5 ms.length r :: ownNs a5 c5 ms :: vnA ms :: ownB a2 c2 v :: blk g6 24 [.slice none 0 0, .int .i64 0] :: L)) (hW _ _ _ _)) ?_
      rintro v' L' ⟨a6, c6, rfl, rfl⟩
      refine ⟨.inl (by kernel_rfl), ?_⟩
      refine va_takePA 9 rfl rfl rfl rfl ?_
      refine va_takePA 10 rfl rfl rfl rfl ?_
      refine va_takePA 11 rfl rfl rfl rfl ?_
      refine va_one 12 (by kernel_rfl) rfl rfl ?_
      (first | (refine vo_box rfl rfl rfl ?_; intro _) | (refine vo_alloc rfl ?_; intro _) | (refine vo_isStore ?_; first | (refine vo_isPt0 rfl ?_; refine vo_stWA rfl rfl ?_) | (refine vo_isPt rfl ?_; refine vo_stBA rfl rfl ?_) | (refine vo_stO rfl rfl (by rfl) (by first | rfl | assumption) (by first | assumption | (simp; done) | (simp; omega) | omega) rfl ?_; skip)) | (refine vo_isCall ?_; first | (refine vo_isApp ?_; first | (refine vo_append0A rfl rfl rfl ?_; intro _ _ _ _) | (refine vo_appendA rfl rfl rfl ?_; intro _ _ _ _)) | (refine vo_isCopy ?_; refine vo_copyB rfl rfl rfl (by assumption) (by assumption) (by assumption) (by assumption) ?_) | refine vo_yield rfl rfl rfl rfl rfl ?_ | refine vo_callV rfl rfl rfl (vc_in rfl rfl ?_)) | refine vo_convRow rfl rfl ?_ | (refine vo_isBs ?_; refine vo_buildSlice rfl rfl rfl (by decide) (by repeat' (first | exact trivial | rfl | assumption | refine ⟨?_, ?_⟩ | (simp; done) | (simp; omega))) (by decide) rfl ?_; intro _) | (refine vo_buildSlice0 rfl ?_; intro _) | fail)
      refine ⟨.inl (by kernel_rfl), ?_⟩
      refine va_done (by kernel_rfl) ?_
      rw [show splice [Value.slice a6 q.1.length c6, Value.int .i64 r] (0 + 0 + 1) [.int .i64 (q.2 : Nat)] = [.slice a6 q.1.length c6, .int .i64 (q.2 : Nat)] from rfl]
      repeat' (first | (refine go1 ?_; intros) | (refine vl_caseG rfl rfl rfl rfl ?_ ?_ <;> (intro hb; (try simp only [decide_eq_true_eq, decide_eq_false_iff_not, Bool.not_eq_true', Bool.not_eq_false', ne_eq, Decidable.not_not, Option.isNone_iff_eq_none, not_true_eq_false, not_false_eq_true] at hb); try (exfalso; omega))) | (refine v_cond rfl ?_ ?_ <;> (intro hb; (try simp only [decide_eq_true_eq, decide_eq_false_iff_not, Bool.not_eq_true', Bool.not_eq_false', ne_eq, Decidable.not_not, Option.isNone_iff_eq_none, not_true_eq_false, not_false_eq_true] at hb); try (exfalso; omega))) | fail)
      refine ⟨_, ?_, a6, c6, q.1, q.2, by rw [hE], by rw [hE, if_pos rfl]; exact hG, rfl⟩
      refine (sei w0 _ (ownB a2 c2 v :: vnA ms :: ownNs a6 c6 q.1 :: L)).trans (((hSE _).ent w0).trans (sei _ _ _))
    · rw [decide_eq_false (fun e => hv1 (hOP.1 e))]
      repeat' (first | (refine go1 ?_; intros) | (refine vl_caseG rfl rfl rfl rfl ?_ ?_ <;> (intro hb; (try simp only [decide_eq_true_eq, decide_eq_false_iff_not, Bool.not_eq_true', Bool.not_eq_false', ne_eq, Decidable.not_not, Option.isNone_iff_eq_none, not_true_eq_false, not_false_eq_true] at hb); try (exfalso; omega))) | (refine v_cond rfl ?_ ?_ <;> (intro hb; (try simp only [decide_eq_true_eq, decide_eq_false_iff_not, Bool.not_eq_true', Bool.not_eq_false', ne_eq, Decidable.not_not, Option.isNone_iff_eq_none, not_true_eq_false, not_false_eq_true] at hb); try (exfalso; omega))) | fail)
      exact hbad 8 _ (by decide) (by unfold tputE; rw [if_neg (fun e => hv1 e.2)]) SEI.out
  · rw [if_neg hm]
    repeat' (first | (refine go1 ?_; intros) | (refine vl_caseG rfl rfl rfl rfl ?_ ?_ <;> (intro hb; (try simp only [decide_eq_true_eq, decide_eq_false_iff_not, Bool.not_eq_true', Bool.not_eq_false', ne_eq, Decidable.not_not, Option.isNone_iff_eq_none, not_true_eq_false, not_false_eq_true] at hb); try (exfalso; omega))) | (refine v_cond rfl ?_ ?_ <;> (intro hb; (try simp only [decide_eq_true_eq, decide_eq_false_iff_not, Bool.not_eq_true', Bool.not_eq_false', ne_eq, Decidable.not_not, Option.isNone_iff_eq_none, not_true_eq_false, not_false_eq_true] at hb); try (exfalso; omega))) | fail)
    exact hbad 8 _ (by decide) (by unfold tputE; rw [if_neg (fun e => hm e.1)]) SEI.out
end Go.Proofs.YtnoihibaoalkaaaDoor

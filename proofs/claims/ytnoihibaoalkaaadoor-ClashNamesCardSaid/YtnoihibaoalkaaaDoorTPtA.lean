/-
  A maker of trees: a node put behind; a value for a key.
-/
import Derived.Test.YtnoihibaoalkaaaDoorTPtP
import Derived.Test.YtnoihibaoalkaaaDoorTC
import Derived.Test.YtnoihibaoalkaaaDoorGK
set_option linter.unusedVariables false
set_option linter.unusedSimpArgs false
namespace Go.Proofs.YtnoihibaoalkaaaDoor
open Go Go.RowKit
set_option linter.unusedVariables false
set_option linter.unusedSimpArgs false
open Classical

/-- A maker: its tree, and the nodes, its own. -/
abbrev mkB (g : Nat) (a : Option Addr) (c n : Nat) (r : Int) : Asn := blk g 123 [.slice a n c, .int .i64 r]
set_option maxRecDepth 100000 in
theorem node_vc (w0 : World) (L : List Asn) (g : Nat) (a : Option Addr) (c : Nat) (ns : List Nd) (r : Int) (x : Nd) {n : Nat} (hn : n = ns.length) (hk : ∀ p ∈ ns, p.key.length = 32) (hl : ns.length ≤ 1000000) (hxk : x.key.length = 32) :
    VC Tryd.prog w0 110 [.pointer (some ⟨g, 0, none⟩), .agg x.cells.toArray] (mkB g a c n r :: ownNs a c ns :: L) fun v L' => ∃ a' c', v = .int .i64 (ns.length + 1 : Nat) ∧ L' = mkB g a' c' (ns.length + 1) r :: ownNs a' c' (ns ++ [x]) :: L := by
  subst hn
  have hw : Wide Nd.cells 36 ns := fun p hp => Nd.len (hk p hp)
  have hwl := hw.len
  have hc := Nd.len hxk
  haveI hoc : OC x.cells := oc_nd _
  refine vc_ent ?_
  refine vc_in rfl rfl ?_
  generalize hcs : x.cells = cs at *
  repeat' (first | (refine go1 ?_; intros) | (refine vl_caseG rfl rfl rfl rfl ?_ ?_ <;> (intro hb; (try simp only [decide_eq_true_eq, decide_eq_false_iff_not, Bool.not_eq_true', Bool.not_eq_false', ne_eq, Decidable.not_not, Option.isNone_iff_eq_none, not_true_eq_false, not_false_eq_true] at hb); try (exfalso; omega))) | (refine v_cond rfl ?_ ?_ <;> (intro hb; (try simp only [decide_eq_true_eq, decide_eq_false_iff_not, Bool.not_eq_true', Bool.not_eq_false', ne_eq, Decidable.not_not, Option.isNone_iff_eq_none, not_true_eq_false, not_false_eq_true] at hb); try (exfalso; omega))) | fail)
  refine v_drawX [12] 2 (by kernel_rfl) ?_
  refine va_takeA 0 rfl rfl rfl rfl ?_
  refine va_takeA 1 rfl rfl rfl rfl ?_
  refine va_takeA 2 rfl rfl rfl rfl ?_
  refine va_takeA 3 rfl rfl rfl rfl ?_
  refine va_takeA 4 rfl rfl rfl rfl ?_
  refine va_takeA 5 rfl rfl rfl rfl ?_
  refine va_takeA 6 rfl rfl rfl rfl ?_
  refine va_one 7 (by kernel_rfl) rfl rfl ?_
  (first | (refine vo_box rfl rfl rfl ?_; intro _) | (refine vo_alloc rfl ?_; intro _) | (refine vo_isStore ?_; first | (refine vo_isPt0 rfl ?_; refine vo_stWA rfl rfl ?_) | (refine vo_isPt rfl ?_; refine vo_stBA rfl rfl ?_) | (refine vo_stO rfl rfl (by rfl) (by first | rfl | assumption) (by first | assumption | (simp; done) | (simp; omega) | omega) rfl ?_; skip)) | (refine vo_isCall ?_; first | (refine vo_isApp ?_; first | (refine vo_append0A rfl rfl rfl ?_; intro _ _ _ _) | (refine vo_appendA rfl rfl rfl ?_; intro _ _ _ _)) | (refine vo_isCopy ?_; refine vo_copyB rfl rfl rfl (by assumption) (by assumption) (by assumption) (by assumption) ?_) | refine vo_yield rfl rfl rfl rfl rfl ?_ | refine vo_callV rfl rfl rfl (vc_in rfl rfl ?_)) | refine vo_convRow rfl rfl ?_ | (refine vo_isBs ?_; refine vo_buildSlice rfl rfl rfl (by decide) (by repeat' (first | exact trivial | rfl | assumption | refine ⟨?_, ?_⟩ | (simp; done) | (simp; omega))) (by decide) rfl ?_; intro _) | (refine vo_buildSlice0 rfl ?_; intro _) | fail)
  refine ⟨.inr (sei _ _ _), ?_⟩
  refine va_one 8 (by kernel_rfl) rfl rfl ?_
  (first | (refine vo_box rfl rfl rfl ?_; intro _) | (refine vo_alloc rfl ?_; intro _) | (refine vo_isStore ?_; first | (refine vo_isPt0 rfl ?_; refine vo_stWA rfl rfl ?_) | (refine vo_isPt rfl ?_; refine vo_stBA rfl rfl ?_) | (refine vo_stO rfl rfl (by rfl) (by first | rfl | assumption) (by first | assumption | (simp; done) | (simp; omega) | omega) rfl ?_; skip)) | (refine vo_isCall ?_; first | (refine vo_isApp ?_; first | (refine vo_append0A rfl rfl rfl ?_; intro _ _ _ _) | (refine vo_appendA rfl rfl rfl ?_; intro _ _ _ _)) | (refine vo_isCopy ?_; refine vo_copyB rfl rfl rfl (by assumption) (by assumption) (by assumption) (by assumption) ?_) | refine vo_yield rfl rfl rfl rfl rfl ?_ | refine vo_callV rfl rfl rfl (vc_in rfl rfl ?_)) | refine vo_convRow rfl rfl ?_ | (refine vo_isBs ?_; refine vo_buildSlice rfl rfl rfl (by decide) (by repeat' (first | exact trivial | rfl | assumption | refine ⟨?_, ?_⟩ | (simp; done) | (simp; omega))) (by decide) rfl ?_; intro _) | (refine vo_buildSlice0 rfl ?_; intro _) | fail)
  refine ⟨.inr (sei _ _ _), ?_⟩
  refine va_takeA 9 rfl rfl rfl rfl ?_
  refine va_takeA 10 rfl rfl rfl rfl ?_
  refine va_takeA 11 rfl rfl rfl rfl ?_
  refine va_one 12 (by kernel_rfl) rfl rfl ?_
  (first | (refine vo_box rfl rfl rfl ?_; intro _) | (refine vo_alloc rfl ?_; intro _) | (refine vo_isStore ?_; first | (refine vo_isPt0 rfl ?_; refine vo_stWA rfl rfl ?_) | (refine vo_isPt rfl ?_; refine vo_stBA rfl rfl ?_) | (refine vo_stO rfl rfl (by rfl) (by first | rfl | assumption) (by first | assumption | (simp; done) | (simp; omega) | omega) rfl ?_; skip)) | (refine vo_isCall ?_; first | (refine vo_isApp ?_; first | (refine vo_append0A rfl rfl rfl ?_; intro _ _ _ _) | (refine vo_appendA rfl rfl rfl ?_; intro _ _ _ _)) | (refine vo_isCopy ?_; refine vo_copyB rfl rfl rfl (by assumption) (by assumption) (by assumption) (by assumption) ?_) | refine vo_yield rfl rfl rfl rfl rfl ?_ | refine vo_callV rfl rfl rfl (vc_in rfl rfl ?_)) | refine vo_convRow rfl rfl ?_ | (refine vo_isBs ?_; refine vo_buildSlice rfl rfl rfl (by decide) (by repeat' (first | exact trivial | rfl | assumption | refine ⟨?_, ?_⟩ | (simp; done) | (simp; omega))) (by decide) rfl ?_; intro _) | (refine vo_buildSlice0 rfl ?_; intro _) | fail)
  refine ⟨.inl (by kernel_rfl), ?_⟩
  refine va_done (by kernel_rfl) ?_
  skip
  repeat' (first | (refine go1 ?_; intros) | (refine vl_caseG rfl rfl rfl rfl ?_ ?_ <;> (intro hb; (try simp only [decide_eq_true_eq, decide_eq_false_iff_not, Bool.not_eq_true', Bool.not_eq_false', ne_eq, Decidable.not_not, Option.isNone_iff_eq_none, not_true_eq_false, not_false_eq_true] at hb); try (exfalso; omega))) | (refine v_cond rfl ?_ ?_ <;> (intro hb; (try simp only [decide_eq_true_eq, decide_eq_false_iff_not, Bool.not_eq_true', Bool.not_eq_false', ne_eq, Decidable.not_not, Option.isNone_iff_eq_none, not_true_eq_false, not_false_eq_true] at hb); try (exfalso; omega))) | fail)
  rename_i a3 c3 _ _
  refine ⟨_, ?_, a3, c3, rfl, rfl⟩
  rw [ownNs_snoc, hcs, show splice [Value.slice a ns.length c, Value.int IntKind.i64 r] (0 + 0 + 0) [Value.slice a3 (ns.length + 1) c3] = [Value.slice a3 (ns.length + 1) c3, .int .i64 r] from rfl, List.append_nil]
  exact sei _ _ _
set_option maxRecDepth 100000 in
set_option maxHeartbeats 4000000 in
theorem with_vc (w0 : World) (g : Nat) (r : Int) (x : Nd) (hx : x.leaf = true) (hxk : x.key.length = 32) : ∀ (f : Nat) (L : List Asn) (ns : List Nd) (a : Option Addr) (c : Nat) (n d : Nat) (β : Nat → Nat), f + d = 257 → d ≤ 256 → n ≤ ns.length → (∀ m, d ≤ m → β m = 0) → (∀ m, m < d → bitAt x.key m = β m) → (∀ p ∈ ns, p.key.length = 32) → onesP ns → 0 ≤ rightP ns n d β → ns.length + f ≤ 1000000 →
    VC Tryd.prog w0 61 [.pointer (some ⟨g, 0, none⟩), .int .i64 n, .int .i64 d, .agg x.cells.toArray] (mkB g a c ns.length r :: ownNs a c ns :: L) fun v L' => ∃ a' c', v = .int .i64 ((withP f ns n d x).2 : Nat) ∧ L' = mkB g a' c' (withP f ns n d x).1.length r :: ownNs a' c' (withP f ns n d x).1 :: L := by
  intro f
  induction f with
  | zero => intro L ns a c n d β h1 h2; omega
  | succ f ih =>
    intro L ns a c n d β hf hd hn h0 hp hkey ho hr hbig
    have hf1 := Nd.f1 hxk
    have hc := Nd.len hxk
    haveI hoc : OC x.cells := oc_nd _
    have hNx := fun (L : List Asn) => node_vc w0 L g a c ns r x rfl hkey (by omega) hxk
    unfold withP
    by_cases hn0 : n = 0
    · subst hn0
      rw [if_pos rfl]
      generalize x.cells = cs at *
      refine vc_ent ?_
      refine vc_in rfl rfl ?_
      repeat' (first | (refine go1 ?_; intros) | (refine vl_caseG rfl rfl rfl rfl ?_ ?_ <;> (intro hb; (try simp only [decide_eq_true_eq, decide_eq_false_iff_not, Bool.not_eq_true', Bool.not_eq_false', ne_eq, Decidable.not_not, Option.isNone_iff_eq_none, not_true_eq_false, not_false_eq_true] at hb); try (exfalso; omega))) | (refine v_cond rfl ?_ ?_ <;> (intro hb; (try simp only [decide_eq_true_eq, decide_eq_false_iff_not, Bool.not_eq_true', Bool.not_eq_false', ne_eq, Decidable.not_not, Option.isNone_iff_eq_none, not_true_eq_false, not_false_eq_true] at hb); try (exfalso; omega))) | fail)
      refine vl_o rfl (vo_call rfl rfl ?_)
      refine vc_mono (vc_pre (sei _ _ (mkB g a c ns.length r :: ownNs a c ns :: L)) (hNx _)) ?_
      rintro v L' ⟨a', c', rfl, rfl⟩
      repeat' (first | (refine go1 ?_; intros) | (refine vl_caseG rfl rfl rfl rfl ?_ ?_ <;> (intro hb; (try simp only [decide_eq_true_eq, decide_eq_false_iff_not, Bool.not_eq_true', Bool.not_eq_false', ne_eq, Decidable.not_not, Option.isNone_iff_eq_none, not_true_eq_false, not_false_eq_true] at hb); try (exfalso; omega))) | (refine v_cond rfl ?_ ?_ <;> (intro hb; (try simp only [decide_eq_true_eq, decide_eq_false_iff_not, Bool.not_eq_true', Bool.not_eq_false', ne_eq, Decidable.not_not, Option.isNone_iff_eq_none, not_true_eq_false, not_false_eq_true] at hb); try (exfalso; omega))) | fail)
      exact ⟨_, sei _ _ _, a', c', rfl, by rw [List.length_append]⟩
    rw [if_neg hn0]
    obtain ⟨m, rfl⟩ : ∃ m, n = m + 1 := ⟨n - 1, by omega⟩
    rw [Nat.add_sub_cancel]
    have hm : m < ns.length := by omega
    have hx0 : ns[m]? = some ns[m] := List.getElem?_eq_getElem hm
    rw [hx0]
    dsimp only
    have hw : Wide Nd.cells 36 ns := fun p hp => Nd.len (hkey p hp)
    have he : ((ndc ns).drop (m * 36)).take 36 = ns[m].cells := hw.at m hm
    have hpos : 0 < (ndc ns).length := hw.pos (by decide) (by omega)
    have hk := hkey _ (List.getElem_mem hm)
    have g0 := Nd.f0 (x := ns[m])
    have g1 := Nd.f1 hk
    have hgc := Nd.len hk
    haveI hgo : OC ns[m].cells := oc_nd _
    have hR := fun L => roads_vc w0 L ns[m] hk
    have hfk := ho.fork hm
    have hql := ho.l hm
    have hqr := ho.r hm
    have hK : K32 (forP ns (m + 1)) := fun y hy => by
      obtain ⟨z, hz, _, rfl⟩ := for_mem ns (m + 1) y hy
      exact hkey z hz
    have hWR := fun hs => with_roads hxk (β := β) hx0 hs h0 hp hK hr
    by_cases hs : ns[m].leaf = true ∧ ns[m].key = x.key
    · rw [if_pos hs]
      rw [hs.1] at g0
      rw [hs.2] at g1
      generalize x.cells = cs at *
      generalize ns[m].cells = ys at *
      refine vc_ent ?_
      refine vc_in rfl rfl ?_
      repeat' (first | (refine goE ?_; intros) | (refine vl_caseG rfl rfl rfl rfl ?_ ?_ <;> (intro hb; (try simp only [decide_eq_true_eq, decide_eq_false_iff_not, Bool.not_eq_true', Bool.not_eq_false', ne_eq, Decidable.not_not, Option.isNone_iff_eq_none, not_true_eq_false, not_false_eq_true] at hb); try (exfalso; omega))) | (refine v_cond rfl ?_ ?_ <;> (intro hb; (try simp only [decide_eq_true_eq, decide_eq_false_iff_not, Bool.not_eq_true', Bool.not_eq_false', ne_eq, Decidable.not_not, Option.isNone_iff_eq_none, not_true_eq_false, not_false_eq_true] at hb); try (exfalso; omega))) | fail)
      refine vl_o rfl (vo_call rfl rfl ?_)
      refine vc_mono (vc_pre (sei _ _ (mkB g a c ns.length r :: ownNs a c ns :: L)) (hNx _)) ?_
      rintro v L' ⟨a', c', rfl, rfl⟩
      repeat' (first | (refine go1 ?_; intros) | (refine vl_caseG rfl rfl rfl rfl ?_ ?_ <;> (intro hb; (try simp only [decide_eq_true_eq, decide_eq_false_iff_not, Bool.not_eq_true', Bool.not_eq_false', ne_eq, Decidable.not_not, Option.isNone_iff_eq_none, not_true_eq_false, not_false_eq_true] at hb); try (exfalso; omega))) | (refine v_cond rfl ?_ ?_ <;> (intro hb; (try simp only [decide_eq_true_eq, decide_eq_false_iff_not, Bool.not_eq_true', Bool.not_eq_false', ne_eq, Decidable.not_not, Option.isNone_iff_eq_none, not_true_eq_false, not_false_eq_true] at hb); try (exfalso; omega))) | fail)
      exact ⟨_, sei _ _ _, a', c', rfl, by rw [List.length_append]⟩
    rw [if_neg hs]
    obtain ⟨hd2, RR⟩ := hWR hs
    clear hWR
    have IH := fun (n' : Nat) (β' : Nat → Nat) (h1 : n' ≤ ns.length) (h2 : ∀ m, d + 1 ≤ m → β' m = 0) (h3 : ∀ m, m < d + 1 → bitAt x.key m = β' m) (h4 : 0 ≤ rightP ns n' (d + 1) β') (L : List Asn) => ih L ns a c n' (d + 1) β' (by omega) (by omega) h1 h2 h3 hkey ho h4 (by omega)
    have WL := fun (n' : Nat) (β' : Nat → Nat) (h1 : n' ≤ ns.length) (h2 : ∀ m, d + 1 ≤ m → β' m = 0) (h3 : ∀ m, m < d + 1 → bitAt x.key m = β' m) (h4 : 0 ≤ rightP ns n' (d + 1) β') (h5 : K32 (forP ns n')) => with_law x hx hxk f ns n' (d + 1) β' (by omega) (by omega) h1 h2 h3 h5 h4
    cases hl : ns[m].leaf
    · rw [hl] at g0
      have hff := hfk hl
      have e1 := hql hl
      have e2 := hqr hl
      obtain ⟨l0, el⟩ : ∃ l : Nat, ns[m].left = l := ⟨ns[m].left.toNat, by omega⟩
      obtain ⟨l1, eq⟩ : ∃ q : Nat, ns[m].right = q := ⟨ns[m].right.toNat, by omega⟩
      rw [el, Int.toNat_natCast] at e1
      rw [eq, Int.toNat_natCast] at e2
      rw [el, eq] at hR
      have hab : roadsP ns ns[m] (m + 1) d = (l0, l1) := by unfold roadsP; rw [if_neg (by simp [hl]), Nat.add_sub_cancel, e1, e2]
      rw [hab] at RR ⊢
      generalize x.cells = cs at *
      generalize ns[m].cells = ys at *
      refine vc_ent ?_
      refine vc_in rfl rfl ?_
      repeat' (first | (refine go1 ?_; intros) | (refine vl_caseG rfl rfl rfl rfl ?_ ?_ <;> (intro hb; (try simp only [decide_eq_true_eq, decide_eq_false_iff_not, Bool.not_eq_true', Bool.not_eq_false', ne_eq, Decidable.not_not, Option.isNone_iff_eq_none, not_true_eq_false, not_false_eq_true] at hb); try (exfalso; omega))) | (refine v_cond rfl ?_ ?_ <;> (intro hb; (try simp only [decide_eq_true_eq, decide_eq_false_iff_not, Bool.not_eq_true', Bool.not_eq_false', ne_eq, Decidable.not_not, Option.isNone_iff_eq_none, not_true_eq_false, not_false_eq_true] at hb); try (exfalso; omega))) | fail)
      refine vl_o rfl (vo_call rfl rfl ?_)
      refine vc_mono (hR _) ?_
      rintro v L' ⟨rfl, rfl⟩
      repeat' (first | (refine go1 ?_; intros) | (refine vl_caseG rfl rfl rfl rfl ?_ ?_ <;> (intro hb; (try simp only [decide_eq_true_eq, decide_eq_false_iff_not, Bool.not_eq_true', Bool.not_eq_false', ne_eq, Decidable.not_not, Option.isNone_iff_eq_none, not_true_eq_false, not_false_eq_true] at hb); try (exfalso; omega))) | (refine v_cond rfl ?_ ?_ <;> (intro hb; (try simp only [decide_eq_true_eq, decide_eq_false_iff_not, Bool.not_eq_true', Bool.not_eq_false', ne_eq, Decidable.not_not, Option.isNone_iff_eq_none, not_true_eq_false, not_false_eq_true] at hb); try (exfalso; omega))) | fail)
      refine vl_o rfl (vo_call rfl rfl ?_)
      refine vc_mono (tbit_vc w0 _ x.key hxk d hd2) ?_
      rintro v L' ⟨rfl, rfl⟩
      rename_i g7 g9 g10
      have hbl := bitAt_lt x.key d
      by_cases hb0 : bitAt x.key d = 0
      · rw [if_pos hb0]
        dsimp only at RR ⊢
        have hpre : ∀ j, j < d + 1 → bitAt x.key j = β j := fun j hj => by
          skip
          by_cases e : j = d
          · subst e; rw [hb0]; exact (h0 j (Nat.le_refl _)).symm
          · exact hp j (by omega)
        have hKs : K32 (forP ns l0) := fun y hy => hK y (by rw [RR.sum]; exact List.mem_append.2 (.inl hy))
        have I := IH l0 (β) RR.a (zero_next h0) hpre RR.l
        obtain ⟨⟨ms2, q1, q1l⟩, q2, q3, q4, q5⟩ := WL l0 (β) RR.a (zero_next h0) hpre RR.l hKs
        have hkq := with_keys hxk hkey f l0 (d + 1)
        have hqn := congrArg List.length q1
        rw [List.length_append] at hqn
        generalize withP f ns l0 (d + 1) x = q at *
        have hN := fun L a c => node_vc w0 L g a c q.1 r (forkN q.2 l1) rfl hkq (by omega) rfl
        rw [hb0]
        repeat' (first | (refine go1 ?_; intros) | (refine vl_caseG rfl rfl rfl rfl ?_ ?_ <;> (intro hb; (try simp only [decide_eq_true_eq, decide_eq_false_iff_not, Bool.not_eq_true', Bool.not_eq_false', ne_eq, Decidable.not_not, Option.isNone_iff_eq_none, not_true_eq_false, not_false_eq_true] at hb); try (exfalso; omega))) | (refine v_cond rfl ?_ ?_ <;> (intro hb; (try simp only [decide_eq_true_eq, decide_eq_false_iff_not, Bool.not_eq_true', Bool.not_eq_false', ne_eq, Decidable.not_not, Option.isNone_iff_eq_none, not_true_eq_false, not_false_eq_true] at hb); try (exfalso; omega))) | fail)
        (refine v_draw0 [7] (by kernel_rfl) ?_ <;> (refine va_takeA 0 rfl rfl rfl rfl ?_) <;> (refine va_takeA 1 rfl rfl rfl rfl ?_) <;> (refine va_takeA 2 rfl rfl rfl rfl ?_) <;> (refine va_takeA 3 rfl rfl rfl rfl ?_) <;> (refine va_takeA 4 rfl rfl rfl rfl ?_) <;> (refine va_takeA 5 rfl rfl rfl rfl ?_) <;> (refine va_takeA 6 rfl rfl rfl rfl ?_))
        refine va_one 7 (by kernel_rfl) rfl rfl (vo_call rfl rfl ?_)
        refine vc_mono (vc_pre (sei w0 _ (mkB g a c ns.length r :: ownNs a c ns :: blk g10 174 [.int .i64 l0, .int .i64 l1] :: L)) (I _)) ?_
        rintro v L' ⟨a4, c4, rfl, rfl⟩
        refine ⟨.inl (by kernel_rfl), ?_⟩
        ((refine va_takePA 8 rfl rfl rfl rfl ?_) <;> (refine va_done (by kernel_rfl) ?_))
        repeat' (first | (refine go1 ?_; intros) | (refine vl_caseG rfl rfl rfl rfl ?_ ?_ <;> (intro hb; (try simp only [decide_eq_true_eq, decide_eq_false_iff_not, Bool.not_eq_true', Bool.not_eq_false', ne_eq, Decidable.not_not, Option.isNone_iff_eq_none, not_true_eq_false, not_false_eq_true] at hb); try (exfalso; omega))) | (refine v_cond rfl ?_ ?_ <;> (intro hb; (try simp only [decide_eq_true_eq, decide_eq_false_iff_not, Bool.not_eq_true', Bool.not_eq_false', ne_eq, Decidable.not_not, Option.isNone_iff_eq_none, not_true_eq_false, not_false_eq_true] at hb); try (exfalso; omega))) | fail)
        refine vl_o rfl (vo_call rfl rfl ?_)
        refine vc_mono (fork_vc w0 _ q.2 l1) ?_
        rintro v L' ⟨rfl, rfl⟩
        repeat' (first | (refine go1 ?_; intros) | (refine vl_caseG rfl rfl rfl rfl ?_ ?_ <;> (intro hb; (try simp only [decide_eq_true_eq, decide_eq_false_iff_not, Bool.not_eq_true', Bool.not_eq_false', ne_eq, Decidable.not_not, Option.isNone_iff_eq_none, not_true_eq_false, not_false_eq_true] at hb); try (exfalso; omega))) | (refine v_cond rfl ?_ ?_ <;> (intro hb; (try simp only [decide_eq_true_eq, decide_eq_false_iff_not, Bool.not_eq_true', Bool.not_eq_false', ne_eq, Decidable.not_not, Option.isNone_iff_eq_none, not_true_eq_false, not_false_eq_true] at hb); try (exfalso; omega))) | fail)
        refine vl_o rfl (vo_call rfl rfl ?_)
        refine vc_mono (vc_pre (sei w0 _ (mkB g a4 c4 q.1.length r :: ownNs a4 c4 q.1 :: L)) (hN _ _ _)) ?_
        rintro v L' ⟨a5, c5, rfl, rfl⟩
        repeat' (first | (refine go1 ?_; intros) | (refine vl_caseG rfl rfl rfl rfl ?_ ?_ <;> (intro hb; (try simp only [decide_eq_true_eq, decide_eq_false_iff_not, Bool.not_eq_true', Bool.not_eq_false', ne_eq, Decidable.not_not, Option.isNone_iff_eq_none, not_true_eq_false, not_false_eq_true] at hb); try (exfalso; omega))) | (refine v_cond rfl ?_ ?_ <;> (intro hb; (try simp only [decide_eq_true_eq, decide_eq_false_iff_not, Bool.not_eq_true', Bool.not_eq_false', ne_eq, Decidable.not_not, Option.isNone_iff_eq_none, not_true_eq_false, not_false_eq_true] at hb); try (exfalso; omega))) | fail)
        exact ⟨_, sei _ _ _, a5, c5, rfl, by rw [List.length_append]⟩
      have hb1 : bitAt x.key d = 1 := by omega
      rw [if_neg hb0]
      dsimp only at RR ⊢
      have hpre : ∀ j, j < d + 1 → bitAt x.key j = flipB β d j := fun j hj => by
        unfold flipB
        by_cases e : j = d
        · subst e; rw [if_pos rfl]; have := bitAt_lt x.key j; omega
        · rw [if_neg e]; exact hp j (by omega)
      have hKs : K32 (forP ns l1) := fun y hy => hK y (by rw [RR.sum]; exact List.mem_append.2 (.inr hy))
      have I := IH l1 (flipB β d) RR.b (zero_flip h0) hpre RR.r
      obtain ⟨⟨ms2, q1, q1l⟩, q2, q3, q4, q5⟩ := WL l1 (flipB β d) RR.b (zero_flip h0) hpre RR.r hKs
      have hkq := with_keys hxk hkey f l1 (d + 1)
      have hqn := congrArg List.length q1
      rw [List.length_append] at hqn
      generalize withP f ns l1 (d + 1) x = q at *
      have hN := fun L a c => node_vc w0 L g a c q.1 r (forkN l0 q.2) rfl hkq (by omega) rfl
      rw [hb1]
      repeat' (first | (refine go1 ?_; intros) | (refine vl_caseG rfl rfl rfl rfl ?_ ?_ <;> (intro hb; (try simp only [decide_eq_true_eq, decide_eq_false_iff_not, Bool.not_eq_true', Bool.not_eq_false', ne_eq, Decidable.not_not, Option.isNone_iff_eq_none, not_true_eq_false, not_false_eq_true] at hb); try (exfalso; omega))) | (refine v_cond rfl ?_ ?_ <;> (intro hb; (try simp only [decide_eq_true_eq, decide_eq_false_iff_not, Bool.not_eq_true', Bool.not_eq_false', ne_eq, Decidable.not_not, Option.isNone_iff_eq_none, not_true_eq_false, not_false_eq_true] at hb); try (exfalso; omega))) | fail)
      (refine v_draw0 [7] (by kernel_rfl) ?_ <;> (refine va_takeA 0 rfl rfl rfl rfl ?_) <;> (refine va_takeA 1 rfl rfl rfl rfl ?_) <;> (refine va_takeA 2 rfl rfl rfl rfl ?_) <;> (refine va_takeA 3 rfl rfl rfl rfl ?_) <;> (refine va_takeA 4 rfl rfl rfl rfl ?_) <;> (refine va_takeA 5 rfl rfl rfl rfl ?_) <;> (refine va_takeA 6 rfl rfl rfl rfl ?_))
      refine va_one 7 (by kernel_rfl) rfl rfl (vo_call rfl rfl ?_)
      refine vc_mono (vc_pre (sei w0 _ (mkB g a c ns.length r :: ownNs a c ns :: blk g10 174 [.int .i64 l0, .int .i64 l1] :: L)) (I _)) ?_
      rintro v L' ⟨a4, c4, rfl, rfl⟩
      refine ⟨.inl (by kernel_rfl), ?_⟩
      ((refine va_takePA 8 rfl rfl rfl rfl ?_) <;> (refine va_done (by kernel_rfl) ?_))
      repeat' (first | (refine go1 ?_; intros) | (refine vl_caseG rfl rfl rfl rfl ?_ ?_ <;> (intro hb; (try simp only [decide_eq_true_eq, decide_eq_false_iff_not, Bool.not_eq_true', Bool.not_eq_false', ne_eq, Decidable.not_not, Option.isNone_iff_eq_none, not_true_eq_false, not_false_eq_true] at hb); try (exfalso; omega))) | (refine v_cond rfl ?_ ?_ <;> (intro hb; (try simp only [decide_eq_true_eq, decide_eq_false_iff_not, Bool.not_eq_true', Bool.not_eq_false', ne_eq, Decidable.not_not, Option.isNone_iff_eq_none, not_true_eq_false, not_false_eq_true] at hb); try (exfalso; omega))) | fail)
      refine vl_o rfl (vo_call rfl rfl ?_)
      refine vc_mono (fork_vc w0 _ l0 q.2) ?_
      rintro v L' ⟨rfl, rfl⟩
      repeat' (first | (refine go1 ?_; intros) | (refine vl_caseG rfl rfl rfl rfl ?_ ?_ <;> (intro hb; (try simp only [decide_eq_true_eq, decide_eq_false_iff_not, Bool.not_eq_true', Bool.not_eq_false', ne_eq, Decidable.not_not, Option.isNone_iff_eq_none, not_true_eq_false, not_false_eq_true] at hb); try (exfalso; omega))) | (refine v_cond rfl ?_ ?_ <;> (intro hb; (try simp only [decide_eq_true_eq, decide_eq_false_iff_not, Bool.not_eq_true', Bool.not_eq_false', ne_eq, Decidable.not_not, Option.isNone_iff_eq_none, not_true_eq_false, not_false_eq_true] at hb); try (exfalso; omega))) | fail)
      refine vl_o rfl (vo_call rfl rfl ?_)
      refine vc_mono (vc_pre (sei w0 _ (mkB g a4 c4 q.1.length r :: ownNs a4 c4 q.1 :: L)) (hN _ _ _)) ?_
      rintro v L' ⟨a5, c5, rfl, rfl⟩
      repeat' (first | (refine go1 ?_; intros) | (refine vl_caseG rfl rfl rfl rfl ?_ ?_ <;> (intro hb; (try simp only [decide_eq_true_eq, decide_eq_false_iff_not, Bool.not_eq_true', Bool.not_eq_false', ne_eq, Decidable.not_not, Option.isNone_iff_eq_none, not_true_eq_false, not_false_eq_true] at hb); try (exfalso; omega))) | (refine v_cond rfl ?_ ?_ <;> (intro hb; (try simp only [decide_eq_true_eq, decide_eq_false_iff_not, Bool.not_eq_true', Bool.not_eq_false', ne_eq, Decidable.not_not, Option.isNone_iff_eq_none, not_true_eq_false, not_false_eq_true] at hb); try (exfalso; omega))) | fail)
      exact ⟨_, sei _ _ _, a5, c5, rfl, by rw [List.length_append]⟩
    · rw [hl] at g0
      have hne : ¬ ns[m].key = x.key := fun e => hs ⟨hl, e⟩
      generalize x.cells = cs at *
      generalize ns[m].cells = ys at *
      refine vc_ent ?_
      refine vc_in rfl rfl ?_
      repeat' (first | (refine go1 ?_; intros) | (refine vl_caseG rfl rfl rfl rfl ?_ ?_ <;> (intro hb; (try simp only [decide_eq_true_eq, decide_eq_false_iff_not, Bool.not_eq_true', Bool.not_eq_false', ne_eq, Decidable.not_not, Option.isNone_iff_eq_none, not_true_eq_false, not_false_eq_true] at hb); try (exfalso; omega))) | (refine v_cond rfl ?_ ?_ <;> (intro hb; (try simp only [decide_eq_true_eq, decide_eq_false_iff_not, Bool.not_eq_true', Bool.not_eq_false', ne_eq, Decidable.not_not, Option.isNone_iff_eq_none, not_true_eq_false, not_false_eq_true] at hb); try (exfalso; omega))) | fail)
      · exact absurd hb hne
      refine vl_o rfl (vo_call rfl rfl ?_)
      refine vc_mono (tbit_vc w0 _ ns[m].key hk d hd2) ?_
      rintro v L' ⟨rfl, rfl⟩
      by_cases ho0 : bitAt ns[m].key d = 0
      · skip
        obtain ⟨l0, hl0⟩ : ∃ l0, l0 = m + 1 := ⟨_, rfl⟩
        obtain ⟨l1, hl1⟩ : ∃ l1, l1 = 0 := ⟨_, rfl⟩
        have hab : roadsP ns ns[m] (m + 1) d = (l0, l1) := by unfold roadsP; rw [if_pos hl, if_pos ho0, hl0, hl1]
        rw [hab] at RR ⊢
        have hsp : splice [Value.int .i64 0, .int .i64 0] (0 + 0) [.int .i64 ((m + 1 : Nat) : Int)] = [.int .i64 (l0 : Nat), .int .i64 (l1 : Nat)] := by rw [hl0, hl1]; rfl
        rw [ho0]
        repeat' (first | (refine go1 ?_; intros) | (refine vl_caseG rfl rfl rfl rfl ?_ ?_ <;> (intro hb; (try simp only [decide_eq_true_eq, decide_eq_false_iff_not, Bool.not_eq_true', Bool.not_eq_false', ne_eq, Decidable.not_not, Option.isNone_iff_eq_none, not_true_eq_false, not_false_eq_true] at hb); try (exfalso; omega))) | (refine v_cond rfl ?_ ?_ <;> (intro hb; (try simp only [decide_eq_true_eq, decide_eq_false_iff_not, Bool.not_eq_true', Bool.not_eq_false', ne_eq, Decidable.not_not, Option.isNone_iff_eq_none, not_true_eq_false, not_false_eq_true] at hb); try (exfalso; omega))) | fail)
        rw [hsp]
        repeat' (first | (refine go1 ?_; intros) | (refine vl_caseG rfl rfl rfl rfl ?_ ?_ <;> (intro hb; (try simp only [decide_eq_true_eq, decide_eq_false_iff_not, Bool.not_eq_true', Bool.not_eq_false', ne_eq, Decidable.not_not, Option.isNone_iff_eq_none, not_true_eq_false, not_false_eq_true] at hb); try (exfalso; omega))) | (refine v_cond rfl ?_ ?_ <;> (intro hb; (try simp only [decide_eq_true_eq, decide_eq_false_iff_not, Bool.not_eq_true', Bool.not_eq_false', ne_eq, Decidable.not_not, Option.isNone_iff_eq_none, not_true_eq_false, not_false_eq_true] at hb); try (exfalso; omega))) | fail)
        refine vl_o rfl (vo_call rfl rfl ?_)
        refine vc_mono (tbit_vc w0 _ x.key hxk d hd2) ?_
        rintro v L' ⟨rfl, rfl⟩
        rename_i g7 g9 g10
        have hbl := bitAt_lt x.key d
        by_cases hb0 : bitAt x.key d = 0
        · rw [if_pos hb0]
          dsimp only at RR ⊢
          have hpre : ∀ j, j < d + 1 → bitAt x.key j = β j := fun j hj => by
            skip
            by_cases e : j = d
            · subst e; rw [hb0]; exact (h0 j (Nat.le_refl _)).symm
            · exact hp j (by omega)
          have hKs : K32 (forP ns l0) := fun y hy => hK y (by rw [RR.sum]; exact List.mem_append.2 (.inl hy))
          have I := IH l0 (β) RR.a (zero_next h0) hpre RR.l
          obtain ⟨⟨ms2, q1, q1l⟩, q2, q3, q4, q5⟩ := WL l0 (β) RR.a (zero_next h0) hpre RR.l hKs
          have hkq := with_keys hxk hkey f l0 (d + 1)
          have hqn := congrArg List.length q1
          rw [List.length_append] at hqn
          generalize withP f ns l0 (d + 1) x = q at *
          have hN := fun L a c => node_vc w0 L g a c q.1 r (forkN q.2 l1) rfl hkq (by omega) rfl
          rw [hb0]
          repeat' (first | (refine go1 ?_; intros) | (refine vl_caseG rfl rfl rfl rfl ?_ ?_ <;> (intro hb; (try simp only [decide_eq_true_eq, decide_eq_false_iff_not, Bool.not_eq_true', Bool.not_eq_false', ne_eq, Decidable.not_not, Option.isNone_iff_eq_none, not_true_eq_false, not_false_eq_true] at hb); try (exfalso; omega))) | (refine v_cond rfl ?_ ?_ <;> (intro hb; (try simp only [decide_eq_true_eq, decide_eq_false_iff_not, Bool.not_eq_true', Bool.not_eq_false', ne_eq, Decidable.not_not, Option.isNone_iff_eq_none, not_true_eq_false, not_false_eq_true] at hb); try (exfalso; omega))) | fail)
          (refine v_draw0 [7] (by kernel_rfl) ?_ <;> (refine va_takeA 0 rfl rfl rfl rfl ?_) <;> (refine va_takeA 1 rfl rfl rfl rfl ?_) <;> (refine va_takeA 2 rfl rfl rfl rfl ?_) <;> (refine va_takeA 3 rfl rfl rfl rfl ?_) <;> (refine va_takeA 4 rfl rfl rfl rfl ?_) <;> (refine va_takeA 5 rfl rfl rfl rfl ?_) <;> (refine va_takeA 6 rfl rfl rfl rfl ?_))
          refine va_one 7 (by kernel_rfl) rfl rfl (vo_call rfl rfl ?_)
          refine vc_mono (vc_pre (sei w0 _ (mkB g a c ns.length r :: ownNs a c ns :: blk g10 174 [.int .i64 l0, .int .i64 l1] :: L)) (I _)) ?_
          rintro v L' ⟨a4, c4, rfl, rfl⟩
          refine ⟨.inl (by kernel_rfl), ?_⟩
          ((refine va_takePA 8 rfl rfl rfl rfl ?_) <;> (refine va_done (by kernel_rfl) ?_))
          repeat' (first | (refine go1 ?_; intros) | (refine vl_caseG rfl rfl rfl rfl ?_ ?_ <;> (intro hb; (try simp only [decide_eq_true_eq, decide_eq_false_iff_not, Bool.not_eq_true', Bool.not_eq_false', ne_eq, Decidable.not_not, Option.isNone_iff_eq_none, not_true_eq_false, not_false_eq_true] at hb); try (exfalso; omega))) | (refine v_cond rfl ?_ ?_ <;> (intro hb; (try simp only [decide_eq_true_eq, decide_eq_false_iff_not, Bool.not_eq_true', Bool.not_eq_false', ne_eq, Decidable.not_not, Option.isNone_iff_eq_none, not_true_eq_false, not_false_eq_true] at hb); try (exfalso; omega))) | fail)
          refine vl_o rfl (vo_call rfl rfl ?_)
          refine vc_mono (fork_vc w0 _ q.2 l1) ?_
          rintro v L' ⟨rfl, rfl⟩
          repeat' (first | (refine go1 ?_; intros) | (refine vl_caseG rfl rfl rfl rfl ?_ ?_ <;> (intro hb; (try simp only [decide_eq_true_eq, decide_eq_false_iff_not, Bool.not_eq_true', Bool.not_eq_false', ne_eq, Decidable.not_not, Option.isNone_iff_eq_none, not_true_eq_false, not_false_eq_true] at hb); try (exfalso; omega))) | (refine v_cond rfl ?_ ?_ <;> (intro hb; (try simp only [decide_eq_true_eq, decide_eq_false_iff_not, Bool.not_eq_true', Bool.not_eq_false', ne_eq, Decidable.not_not, Option.isNone_iff_eq_none, not_true_eq_false, not_false_eq_true] at hb); try (exfalso; omega))) | fail)
          refine vl_o rfl (vo_call rfl rfl ?_)
          refine vc_mono (vc_pre (sei w0 _ (mkB g a4 c4 q.1.length r :: ownNs a4 c4 q.1 :: L)) (hN _ _ _)) ?_
          rintro v L' ⟨a5, c5, rfl, rfl⟩
          repeat' (first | (refine go1 ?_; intros) | (refine vl_caseG rfl rfl rfl rfl ?_ ?_ <;> (intro hb; (try simp only [decide_eq_true_eq, decide_eq_false_iff_not, Bool.not_eq_true', Bool.not_eq_false', ne_eq, Decidable.not_not, Option.isNone_iff_eq_none, not_true_eq_false, not_false_eq_true] at hb); try (exfalso; omega))) | (refine v_cond rfl ?_ ?_ <;> (intro hb; (try simp only [decide_eq_true_eq, decide_eq_false_iff_not, Bool.not_eq_true', Bool.not_eq_false', ne_eq, Decidable.not_not, Option.isNone_iff_eq_none, not_true_eq_false, not_false_eq_true] at hb); try (exfalso; omega))) | fail)
          exact ⟨_, sei _ _ _, a5, c5, rfl, by rw [List.length_append]⟩
        have hb1 : bitAt x.key d = 1 := by omega
        rw [if_neg hb0]
        dsimp only at RR ⊢
        have hpre : ∀ j, j < d + 1 → bitAt x.key j = flipB β d j := fun j hj => by
          unfold flipB
          by_cases e : j = d
          · subst e; rw [if_pos rfl]; have := bitAt_lt x.key j; omega
          · rw [if_neg e]; exact hp j (by omega)
        have hKs : K32 (forP ns l1) := fun y hy => hK y (by rw [RR.sum]; exact List.mem_append.2 (.inr hy))
        have I := IH l1 (flipB β d) RR.b (zero_flip h0) hpre RR.r
        obtain ⟨⟨ms2, q1, q1l⟩, q2, q3, q4, q5⟩ := WL l1 (flipB β d) RR.b (zero_flip h0) hpre RR.r hKs
        have hkq := with_keys hxk hkey f l1 (d + 1)
        have hqn := congrArg List.length q1
        rw [List.length_append] at hqn
        generalize withP f ns l1 (d + 1) x = q at *
        have hN := fun L a c => node_vc w0 L g a c q.1 r (forkN l0 q.2) rfl hkq (by omega) rfl
        rw [hb1]
        repeat' (first | (refine go1 ?_; intros) | (refine vl_caseG rfl rfl rfl rfl ?_ ?_ <;> (intro hb; (try simp only [decide_eq_true_eq, decide_eq_false_iff_not, Bool.not_eq_true', Bool.not_eq_false', ne_eq, Decidable.not_not, Option.isNone_iff_eq_none, not_true_eq_false, not_false_eq_true] at hb); try (exfalso; omega))) | (refine v_cond rfl ?_ ?_ <;> (intro hb; (try simp only [decide_eq_true_eq, decide_eq_false_iff_not, Bool.not_eq_true', Bool.not_eq_false', ne_eq, Decidable.not_not, Option.isNone_iff_eq_none, not_true_eq_false, not_false_eq_true] at hb); try (exfalso; omega))) | fail)
        (refine v_draw0 [7] (by kernel_rfl) ?_ <;> (refine va_takeA 0 rfl rfl rfl rfl ?_) <;> (refine va_takeA 1 rfl rfl rfl rfl ?_) <;> (refine va_takeA 2 rfl rfl rfl rfl ?_) <;> (refine va_takeA 3 rfl rfl rfl rfl ?_) <;> (refine va_takeA 4 rfl rfl rfl rfl ?_) <;> (refine va_takeA 5 rfl rfl rfl rfl ?_) <;> (refine va_takeA 6 rfl rfl rfl rfl ?_))
        refine va_one 7 (by kernel_rfl) rfl rfl (vo_call rfl rfl ?_)
        refine vc_mono (vc_pre (sei w0 _ (mkB g a c ns.length r :: ownNs a c ns :: blk g10 174 [.int .i64 l0, .int .i64 l1] :: L)) (I _)) ?_
        rintro v L' ⟨a4, c4, rfl, rfl⟩
        refine ⟨.inl (by kernel_rfl), ?_⟩
        ((refine va_takePA 8 rfl rfl rfl rfl ?_) <;> (refine va_done (by kernel_rfl) ?_))
        repeat' (first | (refine go1 ?_; intros) | (refine vl_caseG rfl rfl rfl rfl ?_ ?_ <;> (intro hb; (try simp only [decide_eq_true_eq, decide_eq_false_iff_not, Bool.not_eq_true', Bool.not_eq_false', ne_eq, Decidable.not_not, Option.isNone_iff_eq_none, not_true_eq_false, not_false_eq_true] at hb); try (exfalso; omega))) | (refine v_cond rfl ?_ ?_ <;> (intro hb; (try simp only [decide_eq_true_eq, decide_eq_false_iff_not, Bool.not_eq_true', Bool.not_eq_false', ne_eq, Decidable.not_not, Option.isNone_iff_eq_none, not_true_eq_false, not_false_eq_true] at hb); try (exfalso; omega))) | fail)
        refine vl_o rfl (vo_call rfl rfl ?_)
        refine vc_mono (fork_vc w0 _ l0 q.2) ?_
        rintro v L' ⟨rfl, rfl⟩
        repeat' (first | (refine go1 ?_; intros) | (refine vl_caseG rfl rfl rfl rfl ?_ ?_ <;> (intro hb; (try simp only [decide_eq_true_eq, decide_eq_false_iff_not, Bool.not_eq_true', Bool.not_eq_false', ne_eq, Decidable.not_not, Option.isNone_iff_eq_none, not_true_eq_false, not_false_eq_true] at hb); try (exfalso; omega))) | (refine v_cond rfl ?_ ?_ <;> (intro hb; (try simp only [decide_eq_true_eq, decide_eq_false_iff_not, Bool.not_eq_true', Bool.not_eq_false', ne_eq, Decidable.not_not, Option.isNone_iff_eq_none, not_true_eq_false, not_false_eq_true] at hb); try (exfalso; omega))) | fail)
        refine vl_o rfl (vo_call rfl rfl ?_)
        refine vc_mono (vc_pre (sei w0 _ (mkB g a4 c4 q.1.length r :: ownNs a4 c4 q.1 :: L)) (hN _ _ _)) ?_
        rintro v L' ⟨a5, c5, rfl, rfl⟩
        repeat' (first | (refine go1 ?_; intros) | (refine vl_caseG rfl rfl rfl rfl ?_ ?_ <;> (intro hb; (try simp only [decide_eq_true_eq, decide_eq_false_iff_not, Bool.not_eq_true', Bool.not_eq_false', ne_eq, Decidable.not_not, Option.isNone_iff_eq_none, not_true_eq_false, not_false_eq_true] at hb); try (exfalso; omega))) | (refine v_cond rfl ?_ ?_ <;> (intro hb; (try simp only [decide_eq_true_eq, decide_eq_false_iff_not, Bool.not_eq_true', Bool.not_eq_false', ne_eq, Decidable.not_not, Option.isNone_iff_eq_none, not_true_eq_false, not_false_eq_true] at hb); try (exfalso; omega))) | fail)
        exact ⟨_, sei _ _ _, a5, c5, rfl, by rw [List.length_append]⟩
      · have ho1 : bitAt ns[m].key d = 1 := by have := bitAt_lt ns[m].key d; omega
        obtain ⟨l0, hl0⟩ : ∃ l0, l0 = 0 := ⟨_, rfl⟩
        obtain ⟨l1, hl1⟩ : ∃ l1, l1 = m + 1 := ⟨_, rfl⟩
        have hab : roadsP ns ns[m] (m + 1) d = (l0, l1) := by unfold roadsP; rw [if_pos hl, if_neg ho0, hl0, hl1]
        rw [hab] at RR ⊢
        have hsp : splice [Value.int .i64 0, .int .i64 0] (0 + 1) [.int .i64 ((m + 1 : Nat) : Int)] = [.int .i64 (l0 : Nat), .int .i64 (l1 : Nat)] := by rw [hl0, hl1]; rfl
        rw [ho1]
        repeat' (first | (refine go1 ?_; intros) | (refine vl_caseG rfl rfl rfl rfl ?_ ?_ <;> (intro hb; (try simp only [decide_eq_true_eq, decide_eq_false_iff_not, Bool.not_eq_true', Bool.not_eq_false', ne_eq, Decidable.not_not, Option.isNone_iff_eq_none, not_true_eq_false, not_false_eq_true] at hb); try (exfalso; omega))) | (refine v_cond rfl ?_ ?_ <;> (intro hb; (try simp only [decide_eq_true_eq, decide_eq_false_iff_not, Bool.not_eq_true', Bool.not_eq_false', ne_eq, Decidable.not_not, Option.isNone_iff_eq_none, not_true_eq_false, not_false_eq_true] at hb); try (exfalso; omega))) | fail)
        rw [hsp]
        repeat' (first | (refine go1 ?_; intros) | (refine vl_caseG rfl rfl rfl rfl ?_ ?_ <;> (intro hb; (try simp only [decide_eq_true_eq, decide_eq_false_iff_not, Bool.not_eq_true', Bool.not_eq_false', ne_eq, Decidable.not_not, Option.isNone_iff_eq_none, not_true_eq_false, not_false_eq_true] at hb); try (exfalso; omega))) | (refine v_cond rfl ?_ ?_ <;> (intro hb; (try simp only [decide_eq_true_eq, decide_eq_false_iff_not, Bool.not_eq_true', Bool.not_eq_false', ne_eq, Decidable.not_not, Option.isNone_iff_eq_none, not_true_eq_false, not_false_eq_true] at hb); try (exfalso; omega))) | fail)
        refine vl_o rfl (vo_call rfl rfl ?_)
        refine vc_mono (tbit_vc w0 _ x.key hxk d hd2) ?_
        rintro v L' ⟨rfl, rfl⟩
        rename_i g7 g9 g10
        have hbl := bitAt_lt x.key d
        by_cases hb0 : bitAt x.key d = 0
        · rw [if_pos hb0]
          dsimp only at RR ⊢
          have hpre : ∀ j, j < d + 1 → bitAt x.key j = β j := fun j hj => by
            skip
            by_cases e : j = d
            · subst e; rw [hb0]; exact (h0 j (Nat.le_refl _)).symm
            · exact hp j (by omega)
          have hKs : K32 (forP ns l0) := fun y hy => hK y (by rw [RR.sum]; exact List.mem_append.2 (.inl hy))
          have I := IH l0 (β) RR.a (zero_next h0) hpre RR.l
          obtain ⟨⟨ms2, q1, q1l⟩, q2, q3, q4, q5⟩ := WL l0 (β) RR.a (zero_next h0) hpre RR.l hKs
          have hkq := with_keys hxk hkey f l0 (d + 1)
          have hqn := congrArg List.length q1
          rw [List.length_append] at hqn
          generalize withP f ns l0 (d + 1) x = q at *
          have hN := fun L a c => node_vc w0 L g a c q.1 r (forkN q.2 l1) rfl hkq (by omega) rfl
          rw [hb0]
          repeat' (first | (refine go1 ?_; intros) | (refine vl_caseG rfl rfl rfl rfl ?_ ?_ <;> (intro hb; (try simp only [decide_eq_true_eq, decide_eq_false_iff_not, Bool.not_eq_true', Bool.not_eq_false', ne_eq, Decidable.not_not, Option.isNone_iff_eq_none, not_true_eq_false, not_false_eq_true] at hb); try (exfalso; omega))) | (refine v_cond rfl ?_ ?_ <;> (intro hb; (try simp only [decide_eq_true_eq, decide_eq_false_iff_not, Bool.not_eq_true', Bool.not_eq_false', ne_eq, Decidable.not_not, Option.isNone_iff_eq_none, not_true_eq_false, not_false_eq_true] at hb); try (exfalso; omega))) | fail)
          (refine v_draw0 [7] (by kernel_rfl) ?_ <;> (refine va_takeA 0 rfl rfl rfl rfl ?_) <;> (refine va_takeA 1 rfl rfl rfl rfl ?_) <;> (refine va_takeA 2 rfl rfl rfl rfl ?_) <;> (refine va_takeA 3 rfl rfl rfl rfl ?_) <;> (refine va_takeA 4 rfl rfl rfl rfl ?_) <;> (refine va_takeA 5 rfl rfl rfl rfl ?_) <;> (refine va_takeA 6 rfl rfl rfl rfl ?_))
          refine va_one 7 (by kernel_rfl) rfl rfl (vo_call rfl rfl ?_)
          refine vc_mono (vc_pre (sei w0 _ (mkB g a c ns.length r :: ownNs a c ns :: blk g10 174 [.int .i64 l0, .int .i64 l1] :: L)) (I _)) ?_
          rintro v L' ⟨a4, c4, rfl, rfl⟩
          refine ⟨.inl (by kernel_rfl), ?_⟩
          ((refine va_takePA 8 rfl rfl rfl rfl ?_) <;> (refine va_done (by kernel_rfl) ?_))
          repeat' (first | (refine go1 ?_; intros) | (refine vl_caseG rfl rfl rfl rfl ?_ ?_ <;> (intro hb; (try simp only [decide_eq_true_eq, decide_eq_false_iff_not, Bool.not_eq_true', Bool.not_eq_false', ne_eq, Decidable.not_not, Option.isNone_iff_eq_none, not_true_eq_false, not_false_eq_true] at hb); try (exfalso; omega))) | (refine v_cond rfl ?_ ?_ <;> (intro hb; (try simp only [decide_eq_true_eq, decide_eq_false_iff_not, Bool.not_eq_true', Bool.not_eq_false', ne_eq, Decidable.not_not, Option.isNone_iff_eq_none, not_true_eq_false, not_false_eq_true] at hb); try (exfalso; omega))) | fail)
          refine vl_o rfl (vo_call rfl rfl ?_)
          refine vc_mono (fork_vc w0 _ q.2 l1) ?_
          rintro v L' ⟨rfl, rfl⟩
          repeat' (first | (refine go1 ?_; intros) | (refine vl_caseG rfl rfl rfl rfl ?_ ?_ <;> (intro hb; (try simp only [decide_eq_true_eq, decide_eq_false_iff_not, Bool.not_eq_true', Bool.not_eq_false', ne_eq, Decidable.not_not, Option.isNone_iff_eq_none, not_true_eq_false, not_false_eq_true] at hb); try (exfalso; omega))) | (refine v_cond rfl ?_ ?_ <;> (intro hb; (try simp only [decide_eq_true_eq, decide_eq_false_iff_not, Bool.not_eq_true', Bool.not_eq_false', ne_eq, Decidable.not_not, Option.isNone_iff_eq_none, not_true_eq_false, not_false_eq_true] at hb); try (exfalso; omega))) | fail)
          refine vl_o rfl (vo_call rfl rfl ?_)
          refine vc_mono (vc_pre (sei w0 _ (mkB g a4 c4 q.1.length r :: ownNs a4 c4 q.1 :: L)) (hN _ _ _)) ?_
          rintro v L' ⟨a5, c5, rfl, rfl⟩
          repeat' (first | (refine go1 ?_; intros) | (refine vl_caseG rfl rfl rfl rfl ?_ ?_ <;> (intro hb; (try simp only [decide_eq_true_eq, decide_eq_false_iff_not, Bool.not_eq_true', Bool.not_eq_false', ne_eq, Decidable.not_not, Option.isNone_iff_eq_none, not_true_eq_false, not_false_eq_true] at hb); try (exfalso; omega))) | (refine v_cond rfl ?_ ?_ <;> (intro hb; (try simp only [decide_eq_true_eq, decide_eq_false_iff_not, Bool.not_eq_true', Bool.not_eq_false', ne_eq, Decidable.not_not, Option.isNone_iff_eq_none, not_true_eq_false, not_false_eq_true] at hb); try (exfalso; omega))) | fail)
          exact ⟨_, sei _ _ _, a5, c5, rfl, by rw [List.length_append]⟩
        have hb1 : bitAt x.key d = 1 := by omega
        rw [if_neg hb0]
        dsimp only at RR ⊢
        have hpre : ∀ j, j < d + 1 → bitAt x.key j = flipB β d j := fun j hj => by
          unfold flipB
          by_cases e : j = d
          · subst e; rw [if_pos rfl]; have := bitAt_lt x.key j; omega
          · rw [if_neg e]; exact hp j (by omega)
        have hKs : K32 (forP ns l1) := fun y hy => hK y (by rw [RR.sum]; exact List.mem_append.2 (.inr hy))
        have I := IH l1 (flipB β d) RR.b (zero_flip h0) hpre RR.r
        obtain ⟨⟨ms2, q1, q1l⟩, q2, q3, q4, q5⟩ := WL l1 (flipB β d) RR.b (zero_flip h0) hpre RR.r hKs
        have hkq := with_keys hxk hkey f l1 (d + 1)
        have hqn := congrArg List.length q1
        rw [List.length_append] at hqn
        generalize withP f ns l1 (d + 1) x = q at *
        have hN := fun L a c => node_vc w0 L g a c q.1 r (forkN l0 q.2) rfl hkq (by omega) rfl
        rw [hb1]
        repeat' (first | (refine go1 ?_; intros) | (refine vl_caseG rfl rfl rfl rfl ?_ ?_ <;> (intro hb; (try simp only [decide_eq_true_eq, decide_eq_false_iff_not, Bool.not_eq_true', Bool.not_eq_false', ne_eq, Decidable.not_not, Option.isNone_iff_eq_none, not_true_eq_false, not_false_eq_true] at hb); try (exfalso; omega))) | (refine v_cond rfl ?_ ?_ <;> (intro hb; (try simp only [decide_eq_true_eq, decide_eq_false_iff_not, Bool.not_eq_true', Bool.not_eq_false', ne_eq, Decidable.not_not, Option.isNone_iff_eq_none, not_true_eq_false, not_false_eq_true] at hb); try (exfalso; omega))) | fail)
        (refine v_draw0 [7] (by kernel_rfl) ?_ <;> (refine va_takeA 0 rfl rfl rfl rfl ?_) <;> (refine va_takeA 1 rfl rfl rfl rfl ?_) <;> (refine va_takeA 2 rfl rfl rfl rfl ?_) <;> (refine va_takeA 3 rfl rfl rfl rfl ?_) <;> (refine va_takeA 4 rfl rfl rfl rfl ?_) <;> (refine va_takeA 5 rfl rfl rfl rfl ?_) <;> (refine va_takeA 6 rfl rfl rfl rfl ?_))
        refine va_one 7 (by kernel_rfl) rfl rfl (vo_call rfl rfl ?_)
        refine vc_mono (vc_pre (sei w0 _ (mkB g a c ns.length r :: ownNs a c ns :: blk g10 174 [.int .i64 l0, .int .i64 l1] :: L)) (I _)) ?_
        rintro v L' ⟨a4, c4, rfl, rfl⟩
        refine ⟨.inl (by kernel_rfl), ?_⟩
        ((refine va_takePA 8 rfl rfl rfl rfl ?_) <;> (refine va_done (by kernel_rfl) ?_))
        repeat' (first | (refine go1 ?_; intros) | (refine vl_caseG rfl rfl rfl rfl ?_ ?_ <;> (intro hb; (try simp only [decide_eq_true_eq, decide_eq_false_iff_not, Bool.not_eq_true', Bool.not_eq_false', ne_eq, Decidable.not_not, Option.isNone_iff_eq_none, not_true_eq_false, not_false_eq_true] at hb); try (exfalso; omega))) | (refine v_cond rfl ?_ ?_ <;> (intro hb; (try simp only [decide_eq_true_eq, decide_eq_false_iff_not, Bool.not_eq_true', Bool.not_eq_false', ne_eq, Decidable.not_not, Option.isNone_iff_eq_none, not_true_eq_false, not_false_eq_true] at hb); try (exfalso; omega))) | fail)
        refine vl_o rfl (vo_call rfl rfl ?_)
        refine vc_mono (fork_vc w0 _ l0 q.2) ?_
        rintro v L' ⟨rfl, rfl⟩
        repeat' (first | (refine go1 ?_; intros) | (refine vl_caseG rfl rfl rfl rfl ?_ ?_ <;> (intro hb; (try simp only [decide_eq_true_eq, decide_eq_false_iff_not, Bool.not_eq_true', Bool.not_eq_false', ne_eq, Decidable.not_not, Option.isNone_iff_eq_none, not_true_eq_false, not_false_eq_true] at hb); try (exfalso; omega))) | (refine v_cond rfl ?_ ?_ <;> (intro hb; (try simp only [decide_eq_true_eq, decide_eq_false_iff_not, Bool.not_eq_true', Bool.not_eq_false', ne_eq, Decidable.not_not, Option.isNone_iff_eq_none, not_true_eq_false, not_false_eq_true] at hb); try (exfalso; omega))) | fail)
        refine vl_o rfl (vo_call rfl rfl ?_)
        refine vc_mono (vc_pre (sei w0 _ (mkB g a4 c4 q.1.length r :: ownNs a4 c4 q.1 :: L)) (hN _ _ _)) ?_
        rintro v L' ⟨a5, c5, rfl, rfl⟩
        repeat' (first | (refine go1 ?_; intros) | (refine vl_caseG rfl rfl rfl rfl ?_ ?_ <;> (intro hb; (try simp only [decide_eq_true_eq, decide_eq_false_iff_not, Bool.not_eq_true', Bool.not_eq_false', ne_eq, Decidable.not_not, Option.isNone_iff_eq_none, not_true_eq_false, not_false_eq_true] at hb); try (exfalso; omega))) | (refine v_cond rfl ?_ ?_ <;> (intro hb; (try simp only [decide_eq_true_eq, decide_eq_false_iff_not, Bool.not_eq_true', Bool.not_eq_false', ne_eq, Decidable.not_not, Option.isNone_iff_eq_none, not_true_eq_false, not_false_eq_true] at hb); try (exfalso; omega))) | fail)
        exact ⟨_, sei _ _ _, a5, c5, rfl, by rw [List.length_append]⟩
end Go.Proofs.YtnoihibaoalkaaaDoor

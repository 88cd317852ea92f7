/-
  A maker of trees: without a key.
-/
import Derived.Test.YtmaimkbppnpbnaaDoorTPtB
set_option linter.unusedVariables false
set_option linter.unusedSimpArgs false
namespace Go.Proofs.YtmaimkbppnpbnaaDoor
open Go Go.RowKit
set_option linter.unusedVariables false
set_option linter.unusedSimpArgs false
open Classical

section
variable {P : Program} {w0 : World} {n : Nat} {ds : List Deferred} {fr : Fr} {L : List Asn} {dst : Option Nat} {ty : TypeId} {pos : String} {after : Array Edge} {gd : Option (Nat × Bool)}
theorem vq_minT {ts : Array TypeId} {x y : Operand} {m k : Nat} (hx : evA fr x = some (.int .i64 m)) (hy : evA fr y = some (.int .i64 k)) : VQ P w0 n ⟨dst, .call { callee := .builtin .min, args := #[x, y], argTypes := ts }, ty, pos, after, gd⟩ (.int .i64 ((min m k : Nat) : Int)) ds fr L := vq_val (fun a w hk _ => by
  have e : (if (k : Int) < (m : Int) then (k : Int) else (m : Int)) = ((min m k : Nat) : Int) := by split <;> omega
  simp only [← e]
  simp [execOp, resolve, invoke, builtin, hk.ev hx, hk.ev hy, Builtin.min_, Builtin.min2])
end
set_option maxRecDepth 100000 in
set_option maxHeartbeats 4000000 in
theorem without_vc (w0 : World) (g : Nat) (r : Int) (k : List UInt8) (hlk : k.length = 32) (ns : List Nd) (a : Option Addr) (c : Nat) (hkey : ∀ p ∈ ns, p.key.length = 32) (ho : onesP ns) (hbig : ns.length ≤ 900000) : ∀ (n : Nat) (L : List Asn) (d : Nat) (β : Nat → Nat), n ≤ ns.length → (∀ m, d ≤ m → β m = 0) → (∀ m, m < d → bitAt k m = β m) → has (forP ns n) k = true → 0 ≤ rightP ns n d β →
    VC Tryd.prog w0 79 [.pointer (some ⟨g, 0, none⟩), .int .i64 n, .int .i64 d, .agg (bvs k).toArray] (mkB g a c ns.length r :: ownNs a c ns :: L) fun v L' => ∃ a' c', v = .int .i64 ((withoutP ns k n d).2 : Nat) ∧ L' = mkB g a' c' (withoutP ns k n d).1.length r :: ownNs a' c' (withoutP ns k n d).1 :: L := by
  intro n
  induction n using Nat.strongRecOn with
  | _ n ih =>
    intro L d β hn h0 hp hh hr
    cases n with
    | zero => rw [forP] at hh; exact absurd hh (by simp [has])
    | succ m =>
      have hm : m < ns.length := by omega
      have hx0 : ns[m]? = some ns[m] := List.getElem?_eq_getElem hm
      have hw : Wide Nd.cells 36 ns := fun p hp => Nd.len (hkey p hp)
      have he : ((ndc ns).drop (m * 36)).take 36 = ns[m].cells := hw.at m hm
      have hpos : 0 < (ndc ns).length := hw.pos (by decide) (by omega)
      have hk := hkey _ (List.getElem_mem hm)
      have g0 := Nd.f0 (x := ns[m])
      have hgc := Nd.len hk
      haveI hgo : OC ns[m].cells := oc_nd _
      have hR := fun L => roads_vc w0 L ns[m] hk
      have hfk := ho.fork hm
      have hql := ho.l hm
      have hqr := ho.r hm
      rw [withoutP_at hx0]
      have hF := right_fork (d := d) (β := β) hx0
      have hA := fun (hl : ¬ ns[m].leaf = true) (F : ForkR ns m d β ns[m]) => right_law ns (ns[m].l m) (d + 1) β (zero_next h0) F.l
      have hB := fun (hl : ¬ ns[m].leaf = true) (F : ForkR ns m d β ns[m]) => right_law ns (ns[m].r m) (d + 1) (flipB β d) (zero_flip h0) F.r
      have hfe : ¬ ns[m].leaf = true → forP ns (m + 1) = forP ns (ns[m].l m) ++ forP ns (ns[m].r m) := fun h => by rw [forP_at hx0, if_neg h]
      generalize ns[m] = x at *
      generalize x.cells = ys at *
      refine vc_ent ?_
      refine vc_in rfl rfl ?_
      cases hl : x.leaf
      · rw [hl] at g0
        rw [if_neg (by simp)]
        have hff := hfk hl
        have e1 := hql hl
        have e2 := hqr hl
        have F := hF (by simp [hl]) hr
        have A := hA (by simp [hl]) F
        have B := hB (by simp [hl]) F
        have hfe' := hfe (by simp [hl])
        obtain ⟨F1, F2, F3, F4⟩ := F
        obtain ⟨lo, el⟩ : ∃ l : Nat, x.left = l := ⟨x.left.toNat, by omega⟩
        obtain ⟨ro, eq⟩ : ∃ q : Nat, x.right = q := ⟨x.right.toNat, by omega⟩
        rw [el, Int.toNat_natCast] at e1
        rw [eq, Int.toNat_natCast] at e2
        rw [el, eq] at hR hff
        rw [e1] at F2 F4 A hfe' ⊢
        rw [e2] at F3 F4 B hfe' ⊢
        have b0 : ∀ y ∈ forP ns lo, bitAt y.1 d = 0 := fun y hy => by rw [A.pre y hy d (by omega)]; exact h0 d (Nat.le_refl _)
        have b1 : ∀ y ∈ forP ns ro, bitAt y.1 d = 1 := fun y hy => by rw [B.pre y hy d (by omega)]; unfold flipB; rw [if_pos rfl]
        repeat' (first | (refine go1 ?_; intros) | (refine vl_caseG rfl rfl rfl rfl ?_ ?_ <;> (intro hb; (try simp only [decide_eq_true_eq, decide_eq_false_iff_not, Bool.not_eq_true', Bool.not_eq_false', ne_eq, Decidable.not_not, Option.isNone_iff_eq_none, not_true_eq_false, not_false_eq_true] at hb); try (exfalso; omega))) | (refine v_cond rfl ?_ ?_ <;> (intro hb; (try simp only [decide_eq_true_eq, decide_eq_false_iff_not, Bool.not_eq_true', Bool.not_eq_false', ne_eq, Decidable.not_not, Option.isNone_iff_eq_none, not_true_eq_false, not_false_eq_true] at hb); try (exfalso; omega))) | fail)
        refine vl_o rfl (vo_call rfl rfl ?_)
        refine vc_mono (hR _) ?_
        rintro v L' ⟨rfl, rfl⟩
        repeat' (first | (refine go1 ?_; intros) | (refine vl_caseG rfl rfl rfl rfl ?_ ?_ <;> (intro hb; (try simp only [decide_eq_true_eq, decide_eq_false_iff_not, Bool.not_eq_true', Bool.not_eq_false', ne_eq, Decidable.not_not, Option.isNone_iff_eq_none, not_true_eq_false, not_false_eq_true] at hb); try (exfalso; omega))) | (refine v_cond rfl ?_ ?_ <;> (intro hb; (try simp only [decide_eq_true_eq, decide_eq_false_iff_not, Bool.not_eq_true', Bool.not_eq_false', ne_eq, Decidable.not_not, Option.isNone_iff_eq_none, not_true_eq_false, not_false_eq_true] at hb); try (exfalso; omega))) | fail)
        refine vl_o rfl (vo_call rfl rfl ?_)
        refine vc_mono (tbit_vc w0 _ k hlk d F1) ?_
        rintro v L' ⟨rfl, rfl⟩
        rename_i g7 g9 g10
        by_cases hb0 : bitAt k d = 0
        · rw [if_pos hb0, hb0]
          have nr : ∀ y ∈ forP ns ro, y.1 ≠ k := fun y hy e => by have := b1 y hy; rw [e, hb0] at this; cases this
          have hh2 : has (forP ns lo) k = true := by rw [hfe', has_app, has_not nr, Bool.or_false] at hh; exact hh
          have hpre : ∀ j, j < d + 1 → bitAt k j = β j := fun j hj => by
            by_cases e : j = d
            · subst e; rw [hb0]; exact (h0 j (Nat.le_refl _)).symm
            · exact hp j (by omega)
          have I := ih lo (by omega)
          obtain ⟨⟨ms2, q1, q1l⟩, q2, q3, q4, q5⟩ := without_law ns k lo (d + 1) β (by omega) (zero_next h0) hpre hh2 F2
          have hkq := without_keys hkey k lo (d + 1)
          have hqn := congrArg List.length q1
          rw [List.length_append] at hqn
          have I2 := fun L => I L (d + 1) β (by omega) (zero_next h0) hpre hh2 F2
          clear I ih
          generalize withoutP ns k lo (d + 1) = q at *
          repeat' (first | (refine go1 ?_; intros) | (refine vl_caseG rfl rfl rfl rfl ?_ ?_ <;> (intro hb; (try simp only [decide_eq_true_eq, decide_eq_false_iff_not, Bool.not_eq_true', Bool.not_eq_false', ne_eq, Decidable.not_not, Option.isNone_iff_eq_none, not_true_eq_false, not_false_eq_true] at hb); try (exfalso; omega))) | (refine v_cond rfl ?_ ?_ <;> (intro hb; (try simp only [decide_eq_true_eq, decide_eq_false_iff_not, Bool.not_eq_true', Bool.not_eq_false', ne_eq, Decidable.not_not, Option.isNone_iff_eq_none, not_true_eq_false, not_false_eq_true] at hb); try (exfalso; omega))) | fail)
          (refine v_draw0 [7] (by kernel_rfl) ?_ <;> (refine va_takeA 0 rfl rfl rfl rfl ?_) <;> (refine va_takeA 1 rfl rfl rfl rfl ?_) <;> (refine va_takeA 2 rfl rfl rfl rfl ?_) <;> (refine va_takeA 3 rfl rfl rfl rfl ?_) <;> (refine va_takeA 4 rfl rfl rfl rfl ?_) <;> (refine va_takeA 5 rfl rfl rfl rfl ?_) <;> (refine va_takeA 6 rfl rfl rfl rfl ?_))
          refine va_one 7 (by kernel_rfl) rfl rfl (vo_call rfl rfl ?_)
          refine vc_mono (vc_pre (sei w0 _ (mkB g a c ns.length r :: ownNs a c ns :: blk g10 96 [.int .i64 lo, .int .i64 ro] :: L)) (I2 _)) ?_
          rintro v L' ⟨a4, c4, rfl, rfl⟩
          refine ⟨.inl (by kernel_rfl), ?_⟩
          ((refine va_takePA 8 rfl rfl rfl rfl ?_) <;> (refine va_done (by kernel_rfl) ?_))
          obtain ⟨l0, hl0⟩ : ∃ l0, l0 = q.2 := ⟨_, rfl⟩
          obtain ⟨l1, hl1⟩ : ∃ l1, l1 = ro := ⟨_, rfl⟩
          rw [← hl0, ← hl1]
          have hNn : ¬ (min l0 l1 = 0 ∧ loneP q.1 (l0 + l1)) → joinP q.1 l0 l1 = (q.1 ++ [forkN l0 l1], q.1.length + 1) := fun h => by unfold joinP; rw [if_neg h]
          have hNy : min l0 l1 = 0 → loneP q.1 (l0 + l1) → joinP q.1 l0 l1 = (q.1, l0 + l1) := fun h h' => by unfold joinP; rw [if_pos ⟨h, h'⟩]
          have hN := fun L a c => node_vc w0 L g a c q.1 r (forkN l0 l1) rfl hkq (by omega) rfl
          have hwq : Wide Nd.cells 36 q.1 := fun p hp => Nd.len (hkq p hp)
          by_cases hmin : min l0 l1 = 0
          · by_cases halo : l0 + l1 = 0
            · rw [hNy hmin (.inl halo)]
              repeat' (first | (refine go1 ?_; intros) | (refine vl_caseG rfl rfl rfl rfl ?_ ?_ <;> (intro hb; (try simp only [decide_eq_true_eq, decide_eq_false_iff_not, Bool.not_eq_true', Bool.not_eq_false', ne_eq, Decidable.not_not, Option.isNone_iff_eq_none, not_true_eq_false, not_false_eq_true] at hb); try (exfalso; omega))) | (refine v_cond rfl ?_ ?_ <;> (intro hb; (try simp only [decide_eq_true_eq, decide_eq_false_iff_not, Bool.not_eq_true', Bool.not_eq_false', ne_eq, Decidable.not_not, Option.isNone_iff_eq_none, not_true_eq_false, not_false_eq_true] at hb); try (exfalso; omega))) | fail)
              refine vl_q rfl rfl rfl rfl (vq_minT rfl rfl) ?_
              repeat' (first | (refine goU ?_; intros) | (refine vl_caseG rfl rfl rfl rfl ?_ ?_ <;> (intro hb; (try simp only [decide_eq_true_eq, decide_eq_false_iff_not, Bool.not_eq_true', Bool.not_eq_false', ne_eq, Decidable.not_not, Option.isNone_iff_eq_none, not_true_eq_false, not_false_eq_true] at hb); try (exfalso; omega))) | (refine v_cond rfl ?_ ?_ <;> (intro hb; (try simp only [decide_eq_true_eq, decide_eq_false_iff_not, Bool.not_eq_true', Bool.not_eq_false', ne_eq, Decidable.not_not, Option.isNone_iff_eq_none, not_true_eq_false, not_false_eq_true] at hb); try (exfalso; omega))) | fail)
              all_goals first | (exfalso; omega) | skip
              exact ⟨_, sei _ _ _, a4, c4, rfl, rfl⟩
            · have hjl : l0 + l1 - 1 < q.1.length := by omega
              have e0 : (ndc q.1)[(l0 + l1 - 1) * 36 + 0]? = some (.bool (q.1[l0 + l1 - 1]'hjl).leaf) := by
                rw [hwq.cell _ hjl 0 (by decide)]; exact Nd.f0
              have hposq : 0 < (ndc q.1).length := hwq.pos (by decide) (by omega)
              have hxq : q.1[l0 + l1 - 1]? = some (q.1[l0 + l1 - 1]'hjl) := List.getElem?_eq_getElem hjl
              generalize (q.1[l0 + l1 - 1]'hjl) = y at *
              cases hyl : y.leaf
              · rw [hyl] at e0
                rw [hNn (fun e => by
                  rcases e.2 with h | ⟨i, z, h1, h2, h3⟩
                  · exact halo h
                  · rw [show l0 + l1 - 1 = i by omega, h2] at hxq
                    cases hxq
                    rw [hyl] at h3; cases h3)]
                repeat' (first | (refine go1 ?_; intros) | (refine vl_caseG rfl rfl rfl rfl ?_ ?_ <;> (intro hb; (try simp only [decide_eq_true_eq, decide_eq_false_iff_not, Bool.not_eq_true', Bool.not_eq_false', ne_eq, Decidable.not_not, Option.isNone_iff_eq_none, not_true_eq_false, not_false_eq_true] at hb); try (exfalso; omega))) | (refine v_cond rfl ?_ ?_ <;> (intro hb; (try simp only [decide_eq_true_eq, decide_eq_false_iff_not, Bool.not_eq_true', Bool.not_eq_false', ne_eq, Decidable.not_not, Option.isNone_iff_eq_none, not_true_eq_false, not_false_eq_true] at hb); try (exfalso; omega))) | fail)
                refine vl_q rfl rfl rfl rfl (vq_minT rfl rfl) ?_
                repeat' (first | (refine go1 ?_; intros) | (refine vl_caseG rfl rfl rfl rfl ?_ ?_ <;> (intro hb; (try simp only [decide_eq_true_eq, decide_eq_false_iff_not, Bool.not_eq_true', Bool.not_eq_false', ne_eq, Decidable.not_not, Option.isNone_iff_eq_none, not_true_eq_false, not_false_eq_true] at hb); try (exfalso; omega))) | (refine v_cond rfl ?_ ?_ <;> (intro hb; (try simp only [decide_eq_true_eq, decide_eq_false_iff_not, Bool.not_eq_true', Bool.not_eq_false', ne_eq, Decidable.not_not, Option.isNone_iff_eq_none, not_true_eq_false, not_false_eq_true] at hb); try (exfalso; omega))) | fail)
                all_goals first | (exfalso; omega) | skip
                refine vl_o rfl (vo_call rfl rfl ?_)
                refine vc_mono (fork_vc w0 _ l0 l1) ?_
                rintro v L' ⟨rfl, rfl⟩
                repeat' (first | (refine go1 ?_; intros) | (refine vl_caseG rfl rfl rfl rfl ?_ ?_ <;> (intro hb; (try simp only [decide_eq_true_eq, decide_eq_false_iff_not, Bool.not_eq_true', Bool.not_eq_false', ne_eq, Decidable.not_not, Option.isNone_iff_eq_none, not_true_eq_false, not_false_eq_true] at hb); try (exfalso; omega))) | (refine v_cond rfl ?_ ?_ <;> (intro hb; (try simp only [decide_eq_true_eq, decide_eq_false_iff_not, Bool.not_eq_true', Bool.not_eq_false', ne_eq, Decidable.not_not, Option.isNone_iff_eq_none, not_true_eq_false, not_false_eq_true] at hb); try (exfalso; omega))) | fail)
                refine vl_o rfl (vo_call rfl rfl ?_)
                refine vc_mono (vc_pre (sei w0 _ (mkB g a4 c4 q.1.length r :: ownNs a4 c4 q.1 :: L)) (hN _ _ _)) ?_
                rintro v L' ⟨a5, c5, rfl, rfl⟩
                repeat' (first | (refine go1 ?_; intros) | (refine vl_caseG rfl rfl rfl rfl ?_ ?_ <;> (intro hb; (try simp only [decide_eq_true_eq, decide_eq_false_iff_not, Bool.not_eq_true', Bool.not_eq_false', ne_eq, Decidable.not_not, Option.isNone_iff_eq_none, not_true_eq_false, not_false_eq_true] at hb); try (exfalso; omega))) | (refine v_cond rfl ?_ ?_ <;> (intro hb; (try simp only [decide_eq_true_eq, decide_eq_false_iff_not, Bool.not_eq_true', Bool.not_eq_false', ne_eq, Decidable.not_not, Option.isNone_iff_eq_none, not_true_eq_false, not_false_eq_true] at hb); try (exfalso; omega))) | fail)
                exact ⟨_, sei _ _ _, a5, c5, rfl, by rw [List.length_append]⟩
              · rw [hyl] at e0
                rw [hNy hmin (.inr ⟨l0 + l1 - 1, y, by omega, hxq, hyl⟩)]
                repeat' (first | (refine go1 ?_; intros) | (refine vl_caseG rfl rfl rfl rfl ?_ ?_ <;> (intro hb; (try simp only [decide_eq_true_eq, decide_eq_false_iff_not, Bool.not_eq_true', Bool.not_eq_false', ne_eq, Decidable.not_not, Option.isNone_iff_eq_none, not_true_eq_false, not_false_eq_true] at hb); try (exfalso; omega))) | (refine v_cond rfl ?_ ?_ <;> (intro hb; (try simp only [decide_eq_true_eq, decide_eq_false_iff_not, Bool.not_eq_true', Bool.not_eq_false', ne_eq, Decidable.not_not, Option.isNone_iff_eq_none, not_true_eq_false, not_false_eq_true] at hb); try (exfalso; omega))) | fail)
                refine vl_q rfl rfl rfl rfl (vq_minT rfl rfl) ?_
                repeat' (first | (refine go1 ?_; intros) | (refine vl_caseG rfl rfl rfl rfl ?_ ?_ <;> (intro hb; (try simp only [decide_eq_true_eq, decide_eq_false_iff_not, Bool.not_eq_true', Bool.not_eq_false', ne_eq, Decidable.not_not, Option.isNone_iff_eq_none, not_true_eq_false, not_false_eq_true] at hb); try (exfalso; omega))) | (refine v_cond rfl ?_ ?_ <;> (intro hb; (try simp only [decide_eq_true_eq, decide_eq_false_iff_not, Bool.not_eq_true', Bool.not_eq_false', ne_eq, Decidable.not_not, Option.isNone_iff_eq_none, not_true_eq_false, not_false_eq_true] at hb); try (exfalso; omega))) | fail)
                all_goals first | (exfalso; omega) | skip
                exact ⟨_, sei _ _ _, a4, c4, rfl, rfl⟩
          · rw [hNn (fun e => hmin e.1)]
            repeat' (first | (refine go1 ?_; intros) | (refine vl_caseG rfl rfl rfl rfl ?_ ?_ <;> (intro hb; (try simp only [decide_eq_true_eq, decide_eq_false_iff_not, Bool.not_eq_true', Bool.not_eq_false', ne_eq, Decidable.not_not, Option.isNone_iff_eq_none, not_true_eq_false, not_false_eq_true] at hb); try (exfalso; omega))) | (refine v_cond rfl ?_ ?_ <;> (intro hb; (try simp only [decide_eq_true_eq, decide_eq_false_iff_not, Bool.not_eq_true', Bool.not_eq_false', ne_eq, Decidable.not_not, Option.isNone_iff_eq_none, not_true_eq_false, not_false_eq_true] at hb); try (exfalso; omega))) | fail)
            refine vl_q rfl rfl rfl rfl (vq_minT rfl rfl) ?_
            repeat' (first | (refine goU ?_; intros) | (refine vl_caseG rfl rfl rfl rfl ?_ ?_ <;> (intro hb; (try simp only [decide_eq_true_eq, decide_eq_false_iff_not, Bool.not_eq_true', Bool.not_eq_false', ne_eq, Decidable.not_not, Option.isNone_iff_eq_none, not_true_eq_false, not_false_eq_true] at hb); try (exfalso; omega))) | (refine v_cond rfl ?_ ?_ <;> (intro hb; (try simp only [decide_eq_true_eq, decide_eq_false_iff_not, Bool.not_eq_true', Bool.not_eq_false', ne_eq, Decidable.not_not, Option.isNone_iff_eq_none, not_true_eq_false, not_false_eq_true] at hb); try (exfalso; omega))) | fail)
            all_goals first | (exfalso; omega) | skip
            refine vl_o rfl (vo_call rfl rfl ?_)
            refine vc_mono (fork_vc w0 _ l0 l1) ?_
            rintro v L' ⟨rfl, rfl⟩
            repeat' (first | (refine go1 ?_; intros) | (refine vl_caseG rfl rfl rfl rfl ?_ ?_ <;> (intro hb; (try simp only [decide_eq_true_eq, decide_eq_false_iff_not, Bool.not_eq_true', Bool.not_eq_false', ne_eq, Decidable.not_not, Option.isNone_iff_eq_none, not_true_eq_false, not_false_eq_true] at hb); try (exfalso; omega))) | (refine v_cond rfl ?_ ?_ <;> (intro hb; (try simp only [decide_eq_true_eq, decide_eq_false_iff_not, Bool.not_eq_true', Bool.not_eq_false', ne_eq, Decidable.not_not, Option.isNone_iff_eq_none, not_true_eq_false, not_false_eq_true] at hb); try (exfalso; omega))) | fail)
            refine vl_o rfl (vo_call rfl rfl ?_)
            refine vc_mono (vc_pre (sei w0 _ (mkB g a4 c4 q.1.length r :: ownNs a4 c4 q.1 :: L)) (hN _ _ _)) ?_
            rintro v L' ⟨a5, c5, rfl, rfl⟩
            repeat' (first | (refine go1 ?_; intros) | (refine vl_caseG rfl rfl rfl rfl ?_ ?_ <;> (intro hb; (try simp only [decide_eq_true_eq, decide_eq_false_iff_not, Bool.not_eq_true', Bool.not_eq_false', ne_eq, Decidable.not_not, Option.isNone_iff_eq_none, not_true_eq_false, not_false_eq_true] at hb); try (exfalso; omega))) | (refine v_cond rfl ?_ ?_ <;> (intro hb; (try simp only [decide_eq_true_eq, decide_eq_false_iff_not, Bool.not_eq_true', Bool.not_eq_false', ne_eq, Decidable.not_not, Option.isNone_iff_eq_none, not_true_eq_false, not_false_eq_true] at hb); try (exfalso; omega))) | fail)
            exact ⟨_, sei _ _ _, a5, c5, rfl, by rw [List.length_append]⟩
        · have hb1 : bitAt k d = 1 := by have := bitAt_lt k d; omega
          rw [if_neg hb0, hb1]
          have nl : ∀ y ∈ forP ns lo, y.1 ≠ k := fun y hy e => by have := b0 y hy; rw [e, hb1] at this; cases this
          have hh2 : has (forP ns ro) k = true := by rw [hfe', has_app, has_not nl, Bool.false_or] at hh; exact hh
          have hpre : ∀ j, j < d + 1 → bitAt k j = flipB β d j := fun j hj => by
            unfold flipB
            by_cases e : j = d
            · subst e; rw [if_pos rfl]; exact hb1
            · rw [if_neg e]; exact hp j (by omega)
          have I := ih ro (by omega)
          obtain ⟨⟨ms2, q1, q1l⟩, q2, q3, q4, q5⟩ := without_law ns k ro (d + 1) (flipB β d) (by omega) (zero_flip h0) hpre hh2 F3
          have hkq := without_keys hkey k ro (d + 1)
          have hqn := congrArg List.length q1
          rw [List.length_append] at hqn
          have I2 := fun L => I L (d + 1) (flipB β d) (by omega) (zero_flip h0) hpre hh2 F3
          clear I ih
          generalize withoutP ns k ro (d + 1) = q at *
          repeat' (first | (refine go1 ?_; intros) | (refine vl_caseG rfl rfl rfl rfl ?_ ?_ <;> (intro hb; (try simp only [decide_eq_true_eq, decide_eq_false_iff_not, Bool.not_eq_true', Bool.not_eq_false', ne_eq, Decidable.not_not, Option.isNone_iff_eq_none, not_true_eq_false, not_false_eq_true] at hb); try (exfalso; omega))) | (refine v_cond rfl ?_ ?_ <;> (intro hb; (try simp only [decide_eq_true_eq, decide_eq_false_iff_not, Bool.not_eq_true', Bool.not_eq_false', ne_eq, Decidable.not_not, Option.isNone_iff_eq_none, not_true_eq_false, not_false_eq_true] at hb); try (exfalso; omega))) | fail)
          (refine v_draw0 [7] (by kernel_rfl) ?_ <;> (refine va_takeA 0 rfl rfl rfl rfl ?_) <;> (refine va_takeA 1 rfl rfl rfl rfl ?_) <;> (refine va_takeA 2 rfl rfl rfl rfl ?_) <;> (refine va_takeA 3 rfl rfl rfl rfl ?_) <;> (refine va_takeA 4 rfl rfl rfl rfl ?_) <;> (refine va_takeA 5 rfl rfl rfl rfl ?_) <;> (refine va_takeA 6 rfl rfl rfl rfl ?_))
          refine va_one 7 (by kernel_rfl) rfl rfl (vo_call rfl rfl ?_)
          refine vc_mono (vc_pre (sei w0 _ (mkB g a c ns.length r :: ownNs a c ns :: blk g10 96 [.int .i64 lo, .int .i64 ro] :: L)) (I2 _)) ?_
          rintro v L' ⟨a4, c4, rfl, rfl⟩
          refine ⟨.inl (by kernel_rfl), ?_⟩
          ((refine va_takePA 8 rfl rfl rfl rfl ?_) <;> (refine va_done (by kernel_rfl) ?_))
          obtain ⟨l0, hl0⟩ : ∃ l0, l0 = lo := ⟨_, rfl⟩
          obtain ⟨l1, hl1⟩ : ∃ l1, l1 = q.2 := ⟨_, rfl⟩
          rw [← hl0, ← hl1]
          have hNn : ¬ (min l0 l1 = 0 ∧ loneP q.1 (l0 + l1)) → joinP q.1 l0 l1 = (q.1 ++ [forkN l0 l1], q.1.length + 1) := fun h => by unfold joinP; rw [if_neg h]
          have hNy : min l0 l1 = 0 → loneP q.1 (l0 + l1) → joinP q.1 l0 l1 = (q.1, l0 + l1) := fun h h' => by unfold joinP; rw [if_pos ⟨h, h'⟩]
          have hN := fun L a c => node_vc w0 L g a c q.1 r (forkN l0 l1) rfl hkq (by omega) rfl
          have hwq : Wide Nd.cells 36 q.1 := fun p hp => Nd.len (hkq p hp)
          by_cases hmin : min l0 l1 = 0
          · by_cases halo : l0 + l1 = 0
            · rw [hNy hmin (.inl halo)]
              repeat' (first | (refine go1 ?_; intros) | (refine vl_caseG rfl rfl rfl rfl ?_ ?_ <;> (intro hb; (try simp only [decide_eq_true_eq, decide_eq_false_iff_not, Bool.not_eq_true', Bool.not_eq_false', ne_eq, Decidable.not_not, Option.isNone_iff_eq_none, not_true_eq_false, not_false_eq_true] at hb); try (exfalso; omega))) | (refine v_cond rfl ?_ ?_ <;> (intro hb; (try simp only [decide_eq_true_eq, decide_eq_false_iff_not, Bool.not_eq_true', Bool.not_eq_false', ne_eq, Decidable.not_not, Option.isNone_iff_eq_none, not_true_eq_false, not_false_eq_true] at hb); try (exfalso; omega))) | fail)
              refine vl_q rfl rfl rfl rfl (vq_minT rfl rfl) ?_
              repeat' (first | (refine goU ?_; intros) | (refine vl_caseG rfl rfl rfl rfl ?_ ?_ <;> (intro hb; (try simp only [decide_eq_true_eq, decide_eq_false_iff_not, Bool.not_eq_true', Bool.not_eq_false', ne_eq, Decidable.not_not, Option.isNone_iff_eq_none, not_true_eq_false, not_false_eq_true] at hb); try (exfalso; omega))) | (refine v_cond rfl ?_ ?_ <;> (intro hb; (try simp only [decide_eq_true_eq, decide_eq_false_iff_not, Bool.not_eq_true', Bool.not_eq_false', ne_eq, Decidable.not_not, Option.isNone_iff_eq_none, not_true_eq_false, not_false_eq_true] at hb); try (exfalso; omega))) | fail)
              all_goals first | (exfalso; omega) | skip
              exact ⟨_, sei _ _ _, a4, c4, rfl, rfl⟩
            · have hjl : l0 + l1 - 1 < q.1.length := by omega
              have e0 : (ndc q.1)[(l0 + l1 - 1) * 36 + 0]? = some (.bool (q.1[l0 + l1 - 1]'hjl).leaf) := by
                rw [hwq.cell _ hjl 0 (by decide)]; exact Nd.f0
              have hposq : 0 < (ndc q.1).length := hwq.pos (by decide) (by omega)
              have hxq : q.1[l0 + l1 - 1]? = some (q.1[l0 + l1 - 1]'hjl) := List.getElem?_eq_getElem hjl
              generalize (q.1[l0 + l1 - 1]'hjl) = y at *
              cases hyl : y.leaf
              · rw [hyl] at e0
                rw [hNn (fun e => by
                  rcases e.2 with h | ⟨i, z, h1, h2, h3⟩
                  · exact halo h
                  · rw [show l0 + l1 - 1 = i by omega, h2] at hxq
                    cases hxq
                    rw [hyl] at h3; cases h3)]
                repeat' (first | (refine go1 ?_; intros) | (refine vl_caseG rfl rfl rfl rfl ?_ ?_ <;> (intro hb; (try simp only [decide_eq_true_eq, decide_eq_false_iff_not, Bool.not_eq_true', Bool.not_eq_false', ne_eq, Decidable.not_not, Option.isNone_iff_eq_none, not_true_eq_false, not_false_eq_true] at hb); try (exfalso; omega))) | (refine v_cond rfl ?_ ?_ <;> (intro hb; (try simp only [decide_eq_true_eq, decide_eq_false_iff_not, Bool.not_eq_true', Bool.not_eq_false', ne_eq, Decidable.not_not, Option.isNone_iff_eq_none, not_true_eq_false, not_false_eq_true] at hb); try (exfalso; omega))) | fail)
                refine vl_q rfl rfl rfl rfl (vq_minT rfl rfl) ?_
                repeat' (first | (refine go1 ?_; intros) | (refine vl_caseG rfl rfl rfl rfl ?_ ?_ <;> (intro hb; (try simp only [decide_eq_true_eq, decide_eq_false_iff_not, Bool.not_eq_true', Bool.not_eq_false', ne_eq, Decidable.not_not, Option.isNone_iff_eq_none, not_true_eq_false, not_false_eq_true] at hb); try (exfalso; omega))) | (refine v_cond rfl ?_ ?_ <;> (intro hb; (try simp only [decide_eq_true_eq, decide_eq_false_iff_not, Bool.not_eq_true', Bool.not_eq_false', ne_eq, Decidable.not_not, Option.isNone_iff_eq_none, not_true_eq_false, not_false_eq_true] at hb); try (exfalso; omega))) | fail)
                all_goals first | (exfalso; omega) | skip
                refine vl_o rfl (vo_call rfl rfl ?_)
                refine vc_mono (fork_vc w0 _ l0 l1) ?_
                rintro v L' ⟨rfl, rfl⟩
                repeat' (first | (refine go1 ?_; intros) | (refine vl_caseG rfl rfl rfl rfl ?_ ?_ <;> (intro hb; (try simp only [decide_eq_true_eq, decide_eq_false_iff_not, Bool.not_eq_true', Bool.not_eq_false', ne_eq, Decidable.not_not, Option.isNone_iff_eq_none, not_true_eq_false, not_false_eq_true] at hb); try (exfalso; omega))) | (refine v_cond rfl ?_ ?_ <;> (intro hb; (try simp only [decide_eq_true_eq, decide_eq_false_iff_not, Bool.not_eq_true', Bool.not_eq_false', ne_eq, Decidable.not_not, Option.isNone_iff_eq_none, not_true_eq_false, not_false_eq_true] at hb); try (exfalso; omega))) | fail)
                refine vl_o rfl (vo_call rfl rfl ?_)
                refine vc_mono (vc_pre (sei w0 _ (mkB g a4 c4 q.1.length r :: ownNs a4 c4 q.1 :: L)) (hN _ _ _)) ?_
                rintro v L' ⟨a5, c5, rfl, rfl⟩
                repeat' (first | (refine go1 ?_; intros) | (refine vl_caseG rfl rfl rfl rfl ?_ ?_ <;> (intro hb; (try simp only [decide_eq_true_eq, decide_eq_false_iff_not, Bool.not_eq_true', Bool.not_eq_false', ne_eq, Decidable.not_not, Option.isNone_iff_eq_none, not_true_eq_false, not_false_eq_true] at hb); try (exfalso; omega))) | (refine v_cond rfl ?_ ?_ <;> (intro hb; (try simp only [decide_eq_true_eq, decide_eq_false_iff_not, Bool.not_eq_true', Bool.not_eq_false', ne_eq, Decidable.not_not, Option.isNone_iff_eq_none, not_true_eq_false, not_false_eq_true] at hb); try (exfalso; omega))) | fail)
                exact ⟨_, sei _ _ _, a5, c5, rfl, by rw [List.length_append]⟩
              · rw [hyl] at e0
                rw [hNy hmin (.inr ⟨l0 + l1 - 1, y, by omega, hxq, hyl⟩)]
                repeat' (first | (refine go1 ?_; intros) | (refine vl_caseG rfl rfl rfl rfl ?_ ?_ <;> (intro hb; (try simp only [decide_eq_true_eq, decide_eq_false_iff_not, Bool.not_eq_true', Bool.not_eq_false', ne_eq, Decidable.not_not, Option.isNone_iff_eq_none, not_true_eq_false, not_false_eq_true] at hb); try (exfalso; omega))) | (refine v_cond rfl ?_ ?_ <;> (intro hb; (try simp only [decide_eq_true_eq, decide_eq_false_iff_not, Bool.not_eq_true', Bool.not_eq_false', ne_eq, Decidable.not_not, Option.isNone_iff_eq_none, not_true_eq_false, not_false_eq_true] at hb); try (exfalso; omega))) | fail)
                refine vl_q rfl rfl rfl rfl (vq_minT rfl rfl) ?_
                repeat' (first | (refine go1 ?_; intros) | (refine vl_caseG rfl rfl rfl rfl ?_ ?_ <;> (intro hb; (try simp only [decide_eq_true_eq, decide_eq_false_iff_not, Bool.not_eq_true', Bool.not_eq_false', ne_eq, Decidable.not_not, Option.isNone_iff_eq_none, not_true_eq_false, not_false_eq_true] at hb); try (exfalso; omega))) | (refine v_cond rfl ?_ ?_ <;> (intro hb; (try simp only [decide_eq_true_eq, decide_eq_false_iff_not, Bool.not_eq_true', Bool.not_eq_false', ne_eq, Decidable.not_not, Option.isNone_iff_eq_none, not_true_eq_false, not_false_eq_true] at hb); try (exfalso; omega))) | fail)
                all_goals first | (exfalso; omega) | skip
                exact ⟨_, sei _ _ _, a4, c4, rfl, rfl⟩
          · rw [hNn (fun e => hmin e.1)]
            repeat' (first | (refine go1 ?_; intros) | (refine vl_caseG rfl rfl rfl rfl ?_ ?_ <;> (intro hb; (try simp only [decide_eq_true_eq, decide_eq_false_iff_not, Bool.not_eq_true', Bool.not_eq_false', ne_eq, Decidable.not_not, Option.isNone_iff_eq_none, not_true_eq_false, not_false_eq_true] at hb); try (exfalso; omega))) | (refine v_cond rfl ?_ ?_ <;> (intro hb; (try simp only [decide_eq_true_eq, decide_eq_false_iff_not, Bool.not_eq_true', Bool.not_eq_false', ne_eq, Decidable.not_not, Option.isNone_iff_eq_none, not_true_eq_false, not_false_eq_true] at hb); try (exfalso; omega))) | fail)
            refine vl_q rfl rfl rfl rfl (vq_minT rfl rfl) ?_
            repeat' (first | (refine goU ?_; intros) | (refine vl_caseG rfl rfl rfl rfl ?_ ?_ <;> (intro hb; (try simp only [decide_eq_true_eq, decide_eq_false_iff_not, Bool.not_eq_true', Bool.not_eq_false', ne_eq, Decidable.not_not, Option.isNone_iff_eq_none, not_true_eq_false, not_false_eq_true] at hb); try (exfalso; omega))) | (refine v_cond rfl ?_ ?_ <;> (intro hb; (try simp only [decide_eq_true_eq, decide_eq_false_iff_not, Bool.not_eq_true', Bool.not_eq_false', ne_eq, Decidable.not_not, Option.isNone_iff_eq_none, not_true_eq_false, not_false_eq_true] at hb); try (exfalso; omega))) | fail)
            all_goals first | (exfalso; omega) | skip
            refine vl_o rfl (vo_call rfl rfl ?_)
            refine vc_mono (fork_vc w0 _ l0 l1) ?_
            rintro v L' ⟨rfl, rfl⟩
            repeat' (first | (refine go1 ?_; intros) | (refine vl_caseG rfl rfl rfl rfl ?_ ?_ <;> (intro hb; (try simp only [decide_eq_true_eq, decide_eq_false_iff_not, Bool.not_eq_true', Bool.not_eq_false', ne_eq, Decidable.not_not, Option.isNone_iff_eq_none, not_true_eq_false, not_false_eq_true] at hb); try (exfalso; omega))) | (refine v_cond rfl ?_ ?_ <;> (intro hb; (try simp only [decide_eq_true_eq, decide_eq_false_iff_not, Bool.not_eq_true', Bool.not_eq_false', ne_eq, Decidable.not_not, Option.isNone_iff_eq_none, not_true_eq_false, not_false_eq_true] at hb); try (exfalso; omega))) | fail)
            refine vl_o rfl (vo_call rfl rfl ?_)
            refine vc_mono (vc_pre (sei w0 _ (mkB g a4 c4 q.1.length r :: ownNs a4 c4 q.1 :: L)) (hN _ _ _)) ?_
            rintro v L' ⟨a5, c5, rfl, rfl⟩
            repeat' (first | (refine go1 ?_; intros) | (refine vl_caseG rfl rfl rfl rfl ?_ ?_ <;> (intro hb; (try simp only [decide_eq_true_eq, decide_eq_false_iff_not, Bool.not_eq_true', Bool.not_eq_false', ne_eq, Decidable.not_not, Option.isNone_iff_eq_none, not_true_eq_false, not_false_eq_true] at hb); try (exfalso; omega))) | (refine v_cond rfl ?_ ?_ <;> (intro hb; (try simp only [decide_eq_true_eq, decide_eq_false_iff_not, Bool.not_eq_true', Bool.not_eq_false', ne_eq, Decidable.not_not, Option.isNone_iff_eq_none, not_true_eq_false, not_false_eq_true] at hb); try (exfalso; omega))) | fail)
            exact ⟨_, sei _ _ _, a5, c5, rfl, by rw [List.length_append]⟩
      · rw [hl] at g0
        rw [if_pos rfl]
        repeat' (first | (refine go1 ?_; intros) | (refine vl_caseG rfl rfl rfl rfl ?_ ?_ <;> (intro hb; (try simp only [decide_eq_true_eq, decide_eq_false_iff_not, Bool.not_eq_true', Bool.not_eq_false', ne_eq, Decidable.not_not, Option.isNone_iff_eq_none, not_true_eq_false, not_false_eq_true] at hb); try (exfalso; omega))) | (refine v_cond rfl ?_ ?_ <;> (intro hb; (try simp only [decide_eq_true_eq, decide_eq_false_iff_not, Bool.not_eq_true', Bool.not_eq_false', ne_eq, Decidable.not_not, Option.isNone_iff_eq_none, not_true_eq_false, not_false_eq_true] at hb); try (exfalso; omega))) | fail)
        exact ⟨_, sei _ _ _, a, c, rfl, rfl⟩
end Go.Proofs.YtmaimkbppnpbnaaDoor

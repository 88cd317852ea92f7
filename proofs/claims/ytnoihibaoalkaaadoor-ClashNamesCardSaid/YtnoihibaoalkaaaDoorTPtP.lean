/-
  What is put behind a tree's nodes, in plain terms: the roads; the shape of what comes.
-/
import Derived.Test.YtnoihibaoalkaaaDoorTB
set_option linter.unusedVariables false
set_option linter.unusedSimpArgs false
namespace Go.Proofs.YtnoihibaoalkaaaDoor
open Go Go.RowKit
set_option linter.unusedVariables false
set_option linter.unusedSimpArgs false
open Classical

theorem with_roads {x : Nd} (hk : x.key.length = 32) {ns : List Nd} {m d : Nat} {β : Nat → Nat} {old : Nd} (ho : ns[m]? = some old) (hs : ¬ (old.leaf = true ∧ old.key = x.key)) (h0 : ∀ j, d ≤ j → β j = 0) (hp : ∀ j, j < d → bitAt x.key j = β j) (hK : K32 (forP ns (m + 1))) (hr : 0 ≤ rightP ns (m + 1) d β) : d < 256 ∧ RoadsR ns (m + 1) d β x (roadsP ns old (m + 1) d) := by
  have hm : m < ns.length := (List.getElem?_eq_some_iff.1 ho).1
  have hn : m + 1 ≤ ns.length := by omega
  have R0 := right_law ns (m + 1) d β h0 hr
  -- the two roads
  have RR : d < 256 ∧ RoadsR ns (m + 1) d β x (roadsP ns old (m + 1) d) := by
    by_cases hl : old.leaf = true
    · have hne : old.key ≠ x.key := fun e => hs ⟨hl, e⟩
      have hpre := right_leaf ho hl hr
      have hfl := forP_leaf ho hl
      have ok32 : old.key.length = 32 := hK (old.key, old.v) (by rw [hfl]; simp)
      have hd2 : d < 256 := by
        rcases Nat.lt_or_ge d 256 with h | h
        · exact h
        · exact absurd (bits_ext ok32 hk (fun j hj => (hpre j (by omega)).trans (hp j (by omega)).symm)) hne
      have two : 2 ≤ (putF (forP ns (m + 1)) x.key x.v).length := by
        rw [put_len R0.srt hK hk, hfl]
        have : has [(old.key, old.v)] x.key = false := by simp [has, hne]
        rw [this]
        simp
      refine ⟨hd2, ?_⟩
      unfold roadsP
      rw [if_pos hl]
      by_cases hb : bitAt old.key d = 0
      · rw [if_pos hb]
        refine ⟨hn, Nat.zero_le _, ?_, by rw [rightP]; decide, by rw [show forP ns 0 = [] by rw [forP], List.append_nil], two⟩
        rw [leaf_right ho hl (fun j hj => by
          by_cases e : j = d
          · subst e; rw [hb]; exact (h0 j (Nat.le_refl _)).symm
          · exact hpre j (by omega))]
        decide
      · rw [if_neg hb]
        have hb1 : bitAt old.key d = 1 := by have := bitAt_lt old.key d; omega
        refine ⟨Nat.zero_le _, hn, by rw [rightP]; decide, ?_, by rw [show forP ns 0 = [] by rw [forP], List.nil_append], two⟩
        rw [leaf_right ho hl (fun j hj => by
          unfold flipB
          by_cases e : j = d
          · subst e; rw [if_pos rfl]; exact hb1
          · rw [if_neg e]; exact hpre j (by omega))]
        decide
    · have F := right_fork ho hl hr
      have hfe : forP ns (m + 1) = forP ns (old.l m) ++ forP ns (old.r m) := by rw [forP_at ho, if_neg hl]
      have h2 : 2 ≤ (forP ns (m + 1)).length := by
        have A := right_law ns (old.l m) (d + 1) β (zero_next h0) F.l
        have B := right_law ns (old.r m) (d + 1) (flipB β d) (zero_flip h0) F.r
        have := F.two
        rw [A.len, B.len] at this
        rw [hfe, List.length_append]
        omega
      refine ⟨F.deep, ?_⟩
      unfold roadsP
      rw [if_neg hl, Nat.add_sub_cancel]
      exact ⟨by have := Nd.l_lt old m; dsimp only; omega, by have := Nd.r_lt old m; dsimp only; omega, F.l, F.r, hfe, Nat.le_trans h2 (put_le R0.srt hK hk)⟩
  exact RR
/-- Forks put behind: no values. -/
def Fk (y : Nd) : Prop := y.v = [] ∧ y.a = none ∧ y.c = 0 ∧ y.key.length = 32
theorem fork_fk (l r : Nat) : Fk (forkN l r) := ⟨rfl, rfl, rfl, rfl⟩
theorem with_shape (x : Nd) : ∀ (f : Nat) (ns : List Nd) (n d : Nat), ∃ (b : Bool) (fs : List Nd), (withP f ns n d x).1 = ns ++ (if b = true then x :: fs else fs) ∧ ∀ y ∈ fs, Fk y := by
  intro f
  induction f with
  | zero => intro ns n d; exact ⟨false, [], by simp [withP], by simp⟩
  | succ f ih =>
    intro ns n d
    unfold withP
    split
    · exact ⟨true, [], by simp, by simp⟩
    · split
      · exact ⟨false, [], by simp, by simp⟩
      · split
        · exact ⟨true, [], by simp, by simp⟩
        · have step : ∀ (m l r : Nat), ∃ (b : Bool) (fs : List Nd), (withP f ns m (d + 1) x).1 ++ [forkN l r] = ns ++ (if b = true then x :: fs else fs) ∧ ∀ y ∈ fs, Fk y := fun m l r => by
            obtain ⟨b, fs, h1, h2⟩ := ih ns m (d + 1)
            refine ⟨b, fs ++ [forkN l r], ?_, fun y hy => ?_⟩
            · rw [h1]; cases b <;> simp
            · rcases List.mem_append.1 hy with hy | hy
              · exact h2 y hy
              · rw [List.mem_singleton] at hy; rw [hy]; exact fork_fk l r
          split
          · exact step _ _ _
          · exact step _ _ _
theorem with_keys {x : Nd} (hx : x.key.length = 32) {ns : List Nd} (h : ∀ p ∈ ns, p.key.length = 32) (f n d : Nat) : ∀ p ∈ (withP f ns n d x).1, p.key.length = 32 := by
  obtain ⟨b, fs, h1, h2⟩ := with_shape x f ns n d
  rw [h1]
  intro p hp
  rcases List.mem_append.1 hp with hp | hp
  · exact h p hp
  · cases b with
    | true =>
      rcases List.mem_cons.1 hp with rfl | hp
      · exact hx
      · exact (h2 p hp).2.2.2
    | false => exact (h2 p hp).2.2.2
end Go.Proofs.YtnoihibaoalkaaaDoor

/-
  Trees, in plain terms: what a number stands for, whether it is right, its sum. Trees, in plain terms: children, and where a key is. Trees, in plain terms: where a key's road ends, and its sides. Trees, in plain terms: more nodes behind. Trees, in plain terms: a value for a key. Trees, in plain terms: what comes of a value for a key. Trees, in plain terms: without a key. Trees, in plain terms: the pairs of a tree that is right are at most half of its nodes. Trees, in plain terms: what comes of dropping a key.
-/
import Derived.Test.YtcpndfffdbogbaaGreatDoorGJ
import Derived.Test.YtcpndfffdbogbaaGreatDoorGM
set_option linter.unusedVariables false
set_option linter.unusedSimpArgs false
set_option linter.unusedSectionVars false

namespace Go.Proofs.YtcpndfffdbogbaaGreatDoor
open Go Go.RowKit
open Classical

/-- A node's content. -/
structure Nd where
  leaf : Bool
  key : List UInt8
  a : Option Addr
  c : Nat
  v : List UInt8
  left : Int
  right : Int
/-- The children's numbers; they fall. -/
def Nd.l (x : Nd) (n : Nat) : Nat := min x.left.toNat n
def Nd.r (x : Nd) (n : Nat) : Nat := min x.right.toNat n
theorem Nd.l_lt (x : Nd) (n : Nat) : x.l n < n + 1 := by unfold Nd.l; omega
theorem Nd.r_lt (x : Nd) (n : Nat) : x.r n < n + 1 := by unfold Nd.r; omega
/-- What a number stands for. -/
def forP (ns : List Nd) : Nat → List KV
  | 0 => []
  | n + 1 => match ns[n]? with
    | none => []
    | some x => if x.leaf = true then [(x.key, x.v)] else forP ns (x.l n) ++ forP ns (x.r n)
termination_by n => n
decreasing_by
  · exact Nd.l_lt x n
  · exact Nd.r_lt x n
def flipB (β : Nat → Nat) (d : Nat) : Nat → Nat := fun m => if m = d then 1 else β m
/-- Is what a number stands for right, at a depth, behind some bits? -/
noncomputable def rightP (ns : List Nd) : Nat → Nat → (Nat → Nat) → Int
  | 0, _, _ => 0
  | n + 1, d, β => match ns[n]? with
    | none => 0
    | some x => if x.leaf = true then (if ∀ m, m < d → bitAt x.key m = β m then 1 else -1) else
        if 256 ≤ d then -1 else
        if rightP ns (x.l n) (d + 1) β < 0 then -1 else
        if rightP ns (x.r n) (d + 1) (flipB β d) < 0 ∨ rightP ns (x.l n) (d + 1) β + rightP ns (x.r n) (d + 1) (flipB β d) < 2 then -1 else 2
termination_by n => n
decreasing_by
  all_goals first | exact Nd.l_lt x n | exact Nd.r_lt x n
theorem forP_at {ns : List Nd} {n : Nat} {x : Nd} (hx : ns[n]? = some x) : forP ns (n + 1) = if x.leaf = true then [(x.key, x.v)] else forP ns (x.l n) ++ forP ns (x.r n) := by rw [forP, hx]
theorem rightP_at {ns : List Nd} {n d : Nat} {β : Nat → Nat} {x : Nd} (hx : ns[n]? = some x) : rightP ns (n + 1) d β = if x.leaf = true then (if ∀ m, m < d → bitAt x.key m = β m then 1 else -1) else
        if 256 ≤ d then -1 else
        if rightP ns (x.l n) (d + 1) β < 0 then -1 else
        if rightP ns (x.r n) (d + 1) (flipB β d) < 0 ∨ rightP ns (x.l n) (d + 1) β + rightP ns (x.r n) (d + 1) (flipB β d) < 2 then -1 else 2 := by rw [rightP, hx]
/-- What is right says. -/
structure RightR (l : List KV) (d : Nat) (β : Nat → Nat) (r : Int) : Prop where
  pre : ∀ x ∈ l, ∀ m, m < d → bitAt x.1 m = β m
  srt : Srt l
  len : r = ((min 2 l.length : Nat) : Int)
theorem right_law (ns : List Nd) : ∀ (n d : Nat) (β : Nat → Nat), (∀ m, d ≤ m → β m = 0) → 0 ≤ rightP ns n d β → RightR (forP ns n) d β (rightP ns n d β) := by
  intro n
  induction n using Nat.strongRecOn with
  | _ n ih =>
    intro d β h0 hr
    cases n with
    | zero =>
      unfold rightP forP
      exact ⟨fun x hx => (by cases hx), List.Pairwise.nil, rfl⟩
    | succ n =>
      cases hx : ns[n]? with
      | none =>
        have e1 : rightP ns (n + 1) d β = 0 := by rw [rightP, hx]
        have e2 : forP ns (n + 1) = [] := by rw [forP, hx]
        rw [e1, e2]
        exact ⟨fun x hx => (by cases hx), List.Pairwise.nil, rfl⟩
      | some x =>
        have e1 := rightP_at (d := d) (β := β) hx
        have e2 := forP_at hx
        rw [e1] at hr ⊢
        rw [e2]
        by_cases hl : x.leaf = true
        · rw [if_pos hl] at hr ⊢
          rw [if_pos hl]
          split at hr
          · rename_i hp
            rw [if_pos hp]
            refine ⟨fun y hy => ?_, by simp [Srt], rfl⟩
            rw [List.mem_singleton] at hy
            subst hy
            exact hp
          · exact absurd hr (by decide)
        · rw [if_neg hl] at hr ⊢
          rw [if_neg hl]
          by_cases hd : 256 ≤ d
          · rw [if_pos hd] at hr; exact absurd hr (by decide)
          rw [if_neg hd] at hr ⊢
          by_cases ha : rightP ns (x.l n) (d + 1) β < 0
          · rw [if_pos ha] at hr; exact absurd hr (by decide)
          rw [if_neg ha] at hr ⊢
          by_cases hb : rightP ns (x.r n) (d + 1) (flipB β d) < 0 ∨ rightP ns (x.l n) (d + 1) β + rightP ns (x.r n) (d + 1) (flipB β d) < 2
          · rw [if_pos hb] at hr; exact absurd hr (by decide)
          rw [if_neg hb] at hr ⊢
          have A := ih (x.l n) (Nd.l_lt x n) (d + 1) β (fun m hm => h0 m (by omega)) (by omega)
          have B := ih (x.r n) (Nd.r_lt x n) (d + 1) (flipB β d) (fun m hm => by unfold flipB; rw [if_neg (by omega)]; exact h0 m (by omega)) (by omega)
          have hpl := A.len
          have hpr := B.len
          refine ⟨fun y hy m hm => ?_, ?_, ?_⟩
          · rcases List.mem_append.1 hy with hy | hy
            · exact A.pre y hy m (by omega)
            · have := B.pre y hy m (by omega)
              unfold flipB at this
              rwa [if_neg (by omega)] at this
          · unfold Srt
            refine List.pairwise_append.2 ⟨A.srt, B.srt, fun y hy z hz => ⟨d, by omega, fun m hm => ?_, ?_⟩⟩
            · have h1 := A.pre y hy m (by omega)
              have h2 := B.pre z hz m (by omega)
              unfold flipB at h2
              rw [if_neg (by omega)] at h2
              rw [h1, h2]
            · have h1 := A.pre y hy d (by omega)
              have h2 := B.pre z hz d (by omega)
              unfold flipB at h2
              rw [if_pos rfl] at h2
              rw [h1, h2, h0 d (Nat.le_refl _)]
              decide
          · rw [List.length_append]
            omega
end Go.Proofs.YtcpndfffdbogbaaGreatDoor
namespace Go.Proofs.YtcpndfffdbogbaaGreatDoor
open Go Go.RowKit
open Classical

/-- What a fork that is right says of its two. -/
structure ForkR (ns : List Nd) (n d : Nat) (β : Nat → Nat) (x : Nd) : Prop where
  deep : d < 256
  l : 0 ≤ rightP ns (x.l n) (d + 1) β
  r : 0 ≤ rightP ns (x.r n) (d + 1) (flipB β d)
  two : 2 ≤ rightP ns (x.l n) (d + 1) β + rightP ns (x.r n) (d + 1) (flipB β d)
theorem right_fork {ns : List Nd} {n d : Nat} {β : Nat → Nat} {x : Nd} (hx : ns[n]? = some x) (hl : ¬ x.leaf = true) (h : 0 ≤ rightP ns (n + 1) d β) : ForkR ns n d β x := by
  rw [rightP_at hx, if_neg hl] at h
  by_cases hd : 256 ≤ d
  · rw [if_pos hd] at h; exact absurd h (by decide)
  rw [if_neg hd] at h
  by_cases ha : rightP ns (x.l n) (d + 1) β < 0
  · rw [if_pos ha] at h; exact absurd h (by decide)
  rw [if_neg ha] at h
  by_cases hb : rightP ns (x.r n) (d + 1) (flipB β d) < 0 ∨ rightP ns (x.l n) (d + 1) β + rightP ns (x.r n) (d + 1) (flipB β d) < 2
  · rw [if_pos hb] at h; exact absurd h (by decide)
  exact ⟨by omega, by omega, by omega, by omega⟩
theorem zero_next {d : Nat} {β : Nat → Nat} (h : ∀ m, d ≤ m → β m = 0) : ∀ m, d + 1 ≤ m → β m = 0 := fun m hm => h m (by omega)
theorem zero_flip {d : Nat} {β : Nat → Nat} (h : ∀ m, d ≤ m → β m = 0) : ∀ m, d + 1 ≤ m → flipB β d m = 0 := fun m hm => by unfold flipB; rw [if_neg (by omega)]; exact h m (by omega)
/-- Where a key is: the number of its leaf, or 0. -/
noncomputable def leafP (ns : List Nd) (k : List UInt8) : Nat → Nat → Nat
  | 0, _ => 0
  | n + 1, d => match ns[n]? with
    | none => 0
    | some x => if x.leaf = true then (if x.key = k then n + 1 else 0) else if bitAt k d = 0 then leafP ns k (x.l n) (d + 1) else leafP ns k (x.r n) (d + 1)
termination_by n => n
decreasing_by
  · exact Nd.l_lt x n
  · exact Nd.r_lt x n
theorem leafP_at {ns : List Nd} {k : List UInt8} {n d : Nat} {x : Nd} (hx : ns[n]? = some x) : leafP ns k (n + 1) d = if x.leaf = true then (if x.key = k then n + 1 else 0) else if bitAt k d = 0 then leafP ns k (x.l n) (d + 1) else leafP ns k (x.r n) (d + 1) := by rw [leafP, hx]
theorem has_app (l m : List KV) (k : List UInt8) : has (l ++ m) k = (has l k || has m k) := by simp [has, List.any_append]
theorem has_not {l : List KV} {k : List UInt8} (h : ∀ x ∈ l, x.1 ≠ k) : has l k = false := by
  simp only [has, List.any_eq_false, decide_eq_true_eq]
  exact h
theorem getF_left {l m : List KV} {k : List UInt8} (h : ∀ x ∈ m, x.1 ≠ k) : getF (l ++ m) k = getF l k := by
  unfold getF
  rw [List.find?_append]
  have : m.find? (fun x => decide (x.1 = k)) = none := by
    rw [List.find?_eq_none]
    intro x hx
    simpa using h x hx
  rw [this, Option.or_none]
theorem getF_right {l m : List KV} {k : List UInt8} (h : ∀ x ∈ l, x.1 ≠ k) : getF (l ++ m) k = getF m k := by
  unfold getF
  rw [List.find?_append]
  have : l.find? (fun x => decide (x.1 = k)) = none := by
    rw [List.find?_eq_none]
    intro x hx
    simpa using h x hx
  rw [this, Option.none_or]
/-- The leaf tells whether there is a value, and which. -/
structure LeafR (ns : List Nd) (l : List KV) (k : List UInt8) (j : Nat) : Prop where
  no : j = 0 → has l k = false
  yes : ∀ i, j = i + 1 → has l k = true ∧ ∃ x, ns[i]? = some x ∧ x.leaf = true ∧ x.key = k ∧ getF l k = x.v
theorem leaf_law (ns : List Nd) (k : List UInt8) : ∀ (n d : Nat) (β : Nat → Nat), (∀ m, d ≤ m → β m = 0) → (∀ m, m < d → bitAt k m = β m) → 0 ≤ rightP ns n d β → LeafR ns (forP ns n) k (leafP ns k n d) := by
  intro n
  induction n using Nat.strongRecOn with
  | _ n ih =>
    intro d β h0 hk hr
    cases n with
    | zero =>
      rw [leafP, forP]
      exact ⟨fun _ => rfl, fun i h => by omega⟩
    | succ n =>
      cases hx : ns[n]? with
      | none =>
        rw [leafP, forP, hx]
        exact ⟨fun _ => rfl, fun i h => absurd h (by simp)⟩
      | some x =>
        rw [leafP_at hx, forP_at hx]
        by_cases hl : x.leaf = true
        · rw [if_pos hl, if_pos hl]
          by_cases e : x.key = k
          · rw [if_pos e]
            refine ⟨fun h => by omega, fun i hi => ?_⟩
            obtain rfl : i = n := by omega
            exact ⟨by simp [has, e], x, hx, hl, e, by simp [getF, e]⟩
          · rw [if_neg e]
            exact ⟨fun _ => by simp [has, e], fun i h => by omega⟩
        · rw [if_neg hl, if_neg hl]
          have F := right_fork hx hl hr
          have A := right_law ns (x.l n) (d + 1) β (zero_next h0) F.l
          have B := right_law ns (x.r n) (d + 1) (flipB β d) (zero_flip h0) F.r
          have b0 : ∀ y ∈ forP ns (x.l n), bitAt y.1 d = 0 := fun y hy => by rw [A.pre y hy d (by omega)]; exact h0 d (Nat.le_refl _)
          have b1 : ∀ y ∈ forP ns (x.r n), bitAt y.1 d = 1 := fun y hy => by rw [B.pre y hy d (by omega)]; unfold flipB; rw [if_pos rfl]
          by_cases hb : bitAt k d = 0
          · rw [if_pos hb]
            have nr : ∀ y ∈ forP ns (x.r n), y.1 ≠ k := fun y hy e => by have := b1 y hy; rw [e, hb] at this; cases this
            have I := ih (x.l n) (Nd.l_lt x n) (d + 1) β (zero_next h0) (fun m hm => by
              by_cases e : m = d
              · subst e; rw [hb]; exact (h0 m (Nat.le_refl _)).symm
              · exact hk m (by omega)) F.l
            have eh : has (forP ns (x.l n) ++ forP ns (x.r n)) k = has (forP ns (x.l n)) k := by rw [has_app, has_not nr, Bool.or_false]
            refine ⟨fun h => by rw [eh]; exact I.no h, fun i hi => ?_⟩
            obtain ⟨h1, y, h2, h3, h4, h5⟩ := I.yes i hi
            exact ⟨by rw [eh]; exact h1, y, h2, h3, h4, by rw [getF_left nr]; exact h5⟩
          · rw [if_neg hb]
            have hb1 : bitAt k d = 1 := by have := bitAt_lt k d; omega
            have nl : ∀ y ∈ forP ns (x.l n), y.1 ≠ k := fun y hy e => by have := b0 y hy; rw [e, hb1] at this; cases this
            have I := ih (x.r n) (Nd.r_lt x n) (d + 1) (flipB β d) (zero_flip h0) (fun m hm => by
              unfold flipB
              by_cases e : m = d
              · subst e; rw [if_pos rfl]; exact hb1
              · rw [if_neg e]; exact hk m (by omega)) F.r
            have eh : has (forP ns (x.l n) ++ forP ns (x.r n)) k = has (forP ns (x.r n)) k := by rw [has_app, has_not nl, Bool.false_or]
            refine ⟨fun h => by rw [eh]; exact I.no h, fun i hi => ?_⟩
            obtain ⟨h1, y, h2, h3, h4, h5⟩ := I.yes i hi
            exact ⟨by rw [eh]; exact h1, y, h2, h3, h4, by rw [getF_right nl]; exact h5⟩
end Go.Proofs.YtcpndfffdbogbaaGreatDoor
namespace Go.Proofs.YtcpndfffdbogbaaGreatDoor
open Go Go.RowKit
open Classical

end Go.Proofs.YtcpndfffdbogbaaGreatDoor
namespace Go.Proofs.YtcpndfffdbogbaaGreatDoor
open Go Go.RowKit
open Classical

/-! ### What a node may be -/
def z32T : List UInt8 := List.replicate 32 0
def oneP (x : Nd) (i : Nat) : Prop := if x.leaf = true then okVal x.v.length = true ∧ x.left = 0 ∧ x.right = 0 else 0 ≤ x.left ∧ x.left ≤ i ∧ 0 ≤ x.right ∧ x.right ≤ i ∧ ¬ (x.left = 0 ∧ x.right = 0) ∧ x.key = z32T ∧ x.v.length = 0
def onesP (ns : List Nd) : Prop := ∀ i x, ns[i]? = some x → oneP x i
theorem onesP_snoc {ns : List Nd} {x : Nd} (h : onesP ns) (hx : oneP x ns.length) : onesP (ns ++ [x]) := fun i y hy => by
  rcases Nat.lt_or_ge i ns.length with hi | hi
  · rw [List.getElem?_append_left hi] at hy; exact h i y hy
  · rw [List.getElem?_append_right hi] at hy
    have h0 : i - ns.length = 0 := by
      rcases Nat.eq_zero_or_pos (i - ns.length) with e | e
      · exact e
      · rw [List.getElem?_eq_none (by simp; omega)] at hy; cases hy
    rw [h0] at hy
    obtain rfl : i = ns.length := by omega
    cases hy; exact hx
end Go.Proofs.YtcpndfffdbogbaaGreatDoor
namespace Go.Proofs.YtcpndfffdbogbaaGreatDoor
open Go Go.RowKit
open Classical

/-- What comes of it. -/
structure WithR (ns : List Nd) (n d : Nat) (β : Nat → Nat) (x : Nd) (f : Nat) (q : List Nd × Nat) : Prop where
  ext : ∃ ms, q.1 = ns ++ ms ∧ ms.length ≤ f
  le : q.2 ≤ q.1.length
  ok : 0 ≤ rightP q.1 q.2 d β
  l : forP q.1 q.2 = putF (forP ns n) x.key x.v
  ones : onesP ns → (∀ i, oneP x i) → onesP q.1
/-- The two roads are right. -/
structure RoadsR (ns : List Nd) (n d : Nat) (β : Nat → Nat) (x : Nd) (ab : Nat × Nat) : Prop where
  a : ab.1 ≤ ns.length
  b : ab.2 ≤ ns.length
  l : 0 ≤ rightP ns ab.1 (d + 1) β
  r : 0 ≤ rightP ns ab.2 (d + 1) (flipB β d)
  sum : forP ns n = forP ns ab.1 ++ forP ns ab.2
  two : 2 ≤ (putF (forP ns n) x.key x.v).length
end Go.Proofs.YtcpndfffdbogbaaGreatDoor
namespace Go.Proofs.YtcpndfffdbogbaaGreatDoor
open Go Go.RowKit
open Classical

theorem right_leaf {ns : List Nd} {n d : Nat} {β : Nat → Nat} {x : Nd} (hx : ns[n]? = some x) (hl : x.leaf = true) (h : 0 ≤ rightP ns (n + 1) d β) : ∀ m, m < d → bitAt x.key m = β m := by
  rw [rightP_at hx, if_pos hl] at h
  split at h
  · assumption
  · exact absurd h (by decide)
theorem leaf_right {ns : List Nd} {n d : Nat} {β : Nat → Nat} {x : Nd} (hx : ns[n]? = some x) (hl : x.leaf = true) (h : ∀ m, m < d → bitAt x.key m = β m) : rightP ns (n + 1) d β = 1 := by
  rw [rightP_at hx, if_pos hl, if_pos h]
end Go.Proofs.YtcpndfffdbogbaaGreatDoor
namespace Go.Proofs.YtcpndfffdbogbaaGreatDoor
open Go Go.RowKit
open Classical

theorem right_pos {ns : List Nd} {n d : Nat} {β : Nat → Nat} (hn : 0 < n) (hl : n ≤ ns.length) (h : 0 ≤ rightP ns n d β) : 1 ≤ rightP ns n d β := by
  obtain ⟨m, rfl⟩ : ∃ m, n = m + 1 := ⟨n - 1, by omega⟩
  have hm : m < ns.length := by omega
  have ho : ns[m]? = some ns[m] := List.getElem?_eq_getElem hm
  by_cases hf : (ns[m]).leaf = true
  · rw [leaf_right ho hf (right_leaf ho hf h)]; decide
  · have F := right_fork ho hf h
    rw [rightP_at ho, if_neg hf, if_neg (by have := F.deep; omega), if_neg (by have := F.l; omega), if_neg (by have := F.r; have := F.two; omega)]
    decide
end Go.Proofs.YtcpndfffdbogbaaGreatDoor
namespace Go.Proofs.YtcpndfffdbogbaaGreatDoor
open Go Go.RowKit
open Classical

theorem nodup_sub_len : ∀ {l m : List Nat}, l.Nodup → (∀ x ∈ l, x ∈ m) → l.length ≤ m.length
  | [], m, _, _ => Nat.zero_le _
  | a :: l, m, h, hs => by
    have ha : a ∈ m := hs a (by simp)
    have h1 := List.nodup_cons.1 h
    have h2 : l.length ≤ (m.erase a).length := nodup_sub_len h1.2 (fun x hx => (List.mem_erase_of_ne (fun (e : x = a) => h1.1 (by rw [← e]; exact hx))).2 (hs x (by simp [hx])))
    have h3 := List.length_erase_of_mem ha
    have h4 := List.length_pos_of_mem ha
    rw [List.length_cons]
    omega
/-- What is reached from a number. -/
def nodesP (ns : List Nd) : Nat → List Nat
  | 0 => []
  | n + 1 => match ns[n]? with
    | none => []
    | some x => if x.leaf = true then [n + 1] else (n + 1) :: (nodesP ns (x.l n) ++ nodesP ns (x.r n))
termination_by n => n
decreasing_by
  · exact Nd.l_lt x n
  · exact Nd.r_lt x n
theorem nodesP_at {ns : List Nd} {n : Nat} {x : Nd} (hx : ns[n]? = some x) : nodesP ns (n + 1) = if x.leaf = true then [n + 1] else (n + 1) :: (nodesP ns (x.l n) ++ nodesP ns (x.r n)) := by rw [nodesP, hx]
theorem nodesP_none {ns : List Nd} {n : Nat} (hx : ns[n]? = none) : nodesP ns (n + 1) = [] := by rw [nodesP, hx]
theorem nodes_le (ns : List Nd) : ∀ n, ∀ m ∈ nodesP ns n, 1 ≤ m ∧ m ≤ n ∧ m ≤ ns.length := by
  intro n
  induction n using Nat.strongRecOn with
  | _ n ih =>
    intro m hm
    cases n with
    | zero => rw [nodesP] at hm; cases hm
    | succ n =>
      cases hx : ns[n]? with
      | none => rw [nodesP_none hx] at hm; cases hm
      | some x =>
        have hn : n < ns.length := (List.getElem?_eq_some_iff.1 hx).1
        rw [nodesP_at hx] at hm
        split at hm
        · rw [List.mem_singleton] at hm; omega
        · rcases List.mem_cons.1 hm with hm | hm
          · omega
          · rcases List.mem_append.1 hm with hm | hm
            · have := ih _ (Nd.l_lt x n) m hm; have := Nd.l_lt x n; omega
            · have := ih _ (Nd.r_lt x n) m hm; have := Nd.r_lt x n; omega
/-- What is reached stands for some of it, and is right. -/
theorem nodes_for (ns : List Nd) : ∀ n d β, (∀ j, d ≤ j → β j = 0) → 0 ≤ rightP ns n d β → ∀ m ∈ nodesP ns n, (∀ y ∈ forP ns m, y ∈ forP ns n) ∧ ∃ y, y ∈ forP ns m := by
  intro n
  induction n using Nat.strongRecOn with
  | _ n ih =>
    intro d β h0 hr m hm
    cases n with
    | zero => rw [nodesP] at hm; cases hm
    | succ n =>
      cases hx : ns[n]? with
      | none => rw [nodesP_none hx] at hm; cases hm
      | some x =>
        have hn : n < ns.length := (List.getElem?_eq_some_iff.1 hx).1
        have self : ∃ y, y ∈ forP ns (n + 1) := by
          have h1 := right_pos (by omega) (by omega) hr
          have h2 := (right_law ns (n + 1) d β h0 hr).len
          have h3 : 0 < (forP ns (n + 1)).length := by omega
          exact ⟨_, List.getElem_mem h3⟩
        rw [nodesP_at hx] at hm
        split at hm
        · rw [List.mem_singleton] at hm; subst hm
          exact ⟨fun y hy => hy, self⟩
        · rename_i hl
          rcases List.mem_cons.1 hm with hm | hm
          · subst hm; exact ⟨fun y hy => hy, self⟩
          · have F := right_fork hx hl hr
            rw [forP_at hx, if_neg hl]
            rcases List.mem_append.1 hm with hm | hm
            · have := ih _ (Nd.l_lt x n) (d + 1) β (zero_next h0) F.l m hm
              exact ⟨fun y hy => List.mem_append.2 (.inl (this.1 y hy)), this.2⟩
            · have := ih _ (Nd.r_lt x n) (d + 1) (flipB β d) (zero_flip h0) F.r m hm
              exact ⟨fun y hy => List.mem_append.2 (.inr (this.1 y hy)), this.2⟩
theorem nodes_nodup (ns : List Nd) : ∀ n d β, (∀ j, d ≤ j → β j = 0) → 0 ≤ rightP ns n d β → (nodesP ns n).Nodup := by
  intro n
  induction n using Nat.strongRecOn with
  | _ n ih =>
    intro d β h0 hr
    cases n with
    | zero => rw [nodesP]; exact List.nodup_nil
    | succ n =>
      cases hx : ns[n]? with
      | none => rw [nodesP_none hx]; exact List.nodup_nil
      | some x =>
        rw [nodesP_at hx]
        split
        · simp
        · rename_i hl
          have F := right_fork hx hl hr
          have A := right_law ns (x.l n) (d + 1) β (zero_next h0) F.l
          have B := right_law ns (x.r n) (d + 1) (flipB β d) (zero_flip h0) F.r
          refine List.nodup_cons.2 ⟨fun hm => ?_, List.nodup_append.2 ⟨ih _ (Nd.l_lt x n) (d + 1) β (zero_next h0) F.l, ih _ (Nd.r_lt x n) (d + 1) (flipB β d) (zero_flip h0) F.r, ?_⟩⟩
          · rcases List.mem_append.1 hm with hm | hm
            · have := nodes_le ns _ _ hm; have := Nd.l_lt x n; omega
            · have := nodes_le ns _ _ hm; have := Nd.r_lt x n; omega
          · rintro a ha b hb rfl
            obtain ⟨a1, y, hy⟩ := nodes_for ns _ (d + 1) β (zero_next h0) F.l a ha
            obtain ⟨b1, _⟩ := nodes_for ns _ (d + 1) (flipB β d) (zero_flip h0) F.r a hb
            have e1 := A.pre y (a1 y hy) d (by omega)
            have e2 := B.pre y (b1 y hy) d (by omega)
            unfold flipB at e2
            rw [if_pos rfl] at e2
            rw [e1, h0 d (Nat.le_refl _)] at e2
            cases e2
theorem nodes_len (ns : List Nd) : ∀ n, 2 * (forP ns n).length ≤ (nodesP ns n).length + 1 := by
  intro n
  induction n using Nat.strongRecOn with
  | _ n ih =>
    cases n with
    | zero => rw [forP, nodesP]; decide
    | succ n =>
      cases hx : ns[n]? with
      | none => rw [forP, hx]; simp
      | some x =>
        rw [nodesP_at hx, forP_at hx]
        split
        · simp
        · have a := ih _ (Nd.l_lt x n)
          have b := ih _ (Nd.r_lt x n)
          simp only [List.length_append, List.length_cons]
          omega
theorem for_half {ns : List Nd} {n d : Nat} {β : Nat → Nat} (h0 : ∀ j, d ≤ j → β j = 0) (hr : 0 ≤ rightP ns n d β) : 2 * (forP ns n).length ≤ ns.length + 1 := by
  have h1 := nodes_len ns n
  have h2 : (nodesP ns n).length ≤ (List.range (ns.length + 1)).tail.length := nodup_sub_len (nodes_nodup ns n d β h0 hr) (fun m hm => by
    have := nodes_le ns n m hm
    rw [List.range_succ_eq_map]
    simp only [List.tail_cons, List.mem_map, List.mem_range]
    exact ⟨m - 1, by omega, by omega⟩)
  simp at h2
  omega
theorem for_mem (ns : List Nd) : ∀ n, ∀ y ∈ forP ns n, ∃ x ∈ ns, x.leaf = true ∧ y = (x.key, x.v) := by
  intro n
  induction n using Nat.strongRecOn with
  | _ n ih =>
    intro y hy
    cases n with
    | zero => rw [forP] at hy; cases hy
    | succ n =>
      cases hx : ns[n]? with
      | none => rw [forP, hx] at hy; cases hy
      | some x =>
        rw [forP_at hx] at hy
        split at hy
        · rename_i hl
          rw [List.mem_singleton] at hy
          exact ⟨x, List.mem_of_getElem? hx, hl, hy⟩
        · rcases List.mem_append.1 hy with hy | hy
          · exact ih _ (Nd.l_lt x n) y hy
          · exact ih _ (Nd.r_lt x n) y hy
end Go.Proofs.YtcpndfffdbogbaaGreatDoor
namespace Go.Proofs.YtcpndfffdbogbaaGreatDoor
open Go Go.RowKit
open Classical

/-- What comes of it. -/
structure DropR (ns : List Nd) (n d : Nat) (β : Nat → Nat) (k : List UInt8) (q : List Nd × Nat) : Prop where
  ext : ∃ ms, q.1 = ns ++ ms ∧ ms.length ≤ 256 - d
  le : q.2 ≤ q.1.length
  ok : 0 ≤ rightP q.1 q.2 d β
  l : forP q.1 q.2 = dropF (forP ns n) k
  ones : onesP ns → onesP q.1
end Go.Proofs.YtcpndfffdbogbaaGreatDoor

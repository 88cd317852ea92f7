/-
  A proof hangs on the pairs alone: plain.
-/
import Derived.Test.YtmaimkbppnpbnaaDoorTE
set_option linter.unusedVariables false
set_option linter.unusedSimpArgs false
namespace Go.Proofs.YtmaimkbppnpbnaaDoor
open Go Go.RowKit
set_option linter.unusedVariables false
set_option linter.unusedSimpArgs false
open Classical

/-- A key's road, by the pairs: where it ends, and its sides. -/
noncomputable def endF : Nat → List KV → Nat → List UInt8 → Option KV × List (List UInt8)
  | 0, _, _, _ => (none, [])
  | f + 1, l, d, k => match l with
    | [] => (none, [])
    | [x] => (some x, [])
    | x :: y :: l => if bitAt k d = 0 then ((endF f (bit0 (x :: y :: l) d) (d + 1) k).1, rootF (f + 1) (bit1 (x :: y :: l) d) (d + 1) :: (endF f (bit0 (x :: y :: l) d) (d + 1) k).2)
      else ((endF f (bit1 (x :: y :: l) d) (d + 1) k).1, rootF (f + 1) (bit0 (x :: y :: l) d) (d + 1) :: (endF f (bit1 (x :: y :: l) d) (d + 1) k).2)
theorem endF_two {f : Nat} {l : List KV} {d : Nat} {k : List UInt8} (h : 2 ≤ l.length) : endF (f + 1) l d k = if bitAt k d = 0 then ((endF f (bit0 l d) (d + 1) k).1, rootF (f + 1) (bit1 l d) (d + 1) :: (endF f (bit0 l d) (d + 1) k).2)
      else ((endF f (bit1 l d) (d + 1) k).1, rootF (f + 1) (bit0 l d) (d + 1) :: (endF f (bit1 l d) (d + 1) k).2) := by
  match l, h with
  | x :: y :: l, _ => rfl
structure EndR (ns : List Nd) (m : Nat) (e : Option KV) : Prop where
  no : m = 0 → e = none
  yes : ∀ i, m = i + 1 → ∃ x, ns[i]? = some x ∧ x.leaf = true ∧ e = some (x.key, x.v)
theorem end_law (ns : List Nd) (k : List UInt8) : ∀ (n d f : Nat) (β : Nat → Nat), (∀ m, d ≤ m → β m = 0) → f + d = 256 → 0 ≤ rightP ns n d β → (roadD ns k n d).2 = (endF (f + 1) (forP ns n) d k).2 ∧ EndR ns (roadD ns k n d).1 (endF (f + 1) (forP ns n) d k).1 := by
  intro n
  induction n using Nat.strongRecOn with
  | _ n ih =>
    intro d f β h0 hf hr
    cases n with
    | zero => rw [roadD, forP]; exact ⟨rfl, fun _ => rfl, fun i h => by omega⟩
    | succ n =>
      cases hx : ns[n]? with
      | none => rw [roadD, forP, hx]; exact ⟨rfl, fun _ => rfl, fun i h => absurd h (by simp)⟩
      | some x =>
        have e0 := rightP_at (d := d) (β := β) hx
        have R := right_law ns (n + 1) d β h0 hr
        rw [roadD_at hx]
        by_cases hl : x.leaf = true
        · rw [if_pos hl, forP_at hx, if_pos hl]
          refine ⟨rfl, fun h => by simp at h, fun i h => ?_⟩
          obtain rfl : n = i := by simpa using h
          exact ⟨x, hx, hl, rfl⟩
        rw [if_neg hl]
        have F := right_fork hx hl hr
        have A := right_law ns (x.l n) (d + 1) β (zero_next h0) F.l
        have B := right_law ns (x.r n) (d + 1) (flipB β d) (zero_flip h0) F.r
        have e2 := forP_at hx
        rw [if_neg hl] at e2
        have h2 : 2 ≤ (forP ns (n + 1)).length := by
          have h3 := right_two hx hl hr
          have := R.len
          rw [h3] at this
          omega
        have b0 : ∀ y ∈ forP ns (x.l n), bitAt y.1 d = 0 := fun y hy => by rw [A.pre y hy d (by omega)]; exact h0 d (Nat.le_refl _)
        have b1 : ∀ y ∈ forP ns (x.r n), bitAt y.1 d = 1 := fun y hy => by rw [B.pre y hy d (by omega)]; unfold flipB; rw [if_pos rfl]
        have c0 : bit0 (forP ns (x.l n) ++ forP ns (x.r n)) d = forP ns (x.l n) := by
          unfold bit0
          rw [List.filter_append, List.filter_eq_self.2 (fun y hy => by simpa using b0 y hy), List.filter_eq_nil_iff.2 (fun y hy => by simp [b1 y hy]), List.append_nil]
        have c1 : bit1 (forP ns (x.l n) ++ forP ns (x.r n)) d = forP ns (x.r n) := by
          unfold bit1
          rw [List.filter_append, List.filter_eq_nil_iff.2 (fun y hy => by simp [b0 y hy]), List.filter_eq_self.2 (fun y hy => by simp [b1 y hy]), List.nil_append]
        have hd := F.deep
        obtain ⟨g, rfl⟩ : ∃ g, f = g + 1 := ⟨f - 1, by omega⟩
        have hfu : 256 - d + 1 = g + 1 + 1 := by omega
        rw [endF_two h2, e2, c0, c1, hfu]
        by_cases hb : bitAt k d = 0
        · rw [if_pos hb, if_pos hb]
          have I := ih _ (Nd.l_lt x n) (d + 1) g β (zero_next h0) (by omega) F.l
          exact ⟨by dsimp only; rw [I.1], I.2⟩
        · rw [if_neg hb, if_neg hb]
          have I := ih _ (Nd.r_lt x n) (d + 1) g (flipB β d) (zero_flip h0) (by omega) F.r
          exact ⟨by dsimp only; rw [I.1], I.2⟩
/-- The proof of a key, by the pairs. -/
noncomputable def prfG (l : List KV) (k : List UInt8) : Prf :=
  match (endF 257 l 0 k).1 with
  | none => ⟨k, 0, z32, none, 0, [], none, 0, (endF 257 l 0 k).2⟩
  | some x => if x.1 = k then ⟨k, 1, z32, none, 0, x.2, none, 0, (endF 257 l 0 k).2⟩ else ⟨k, 2, x.1, none, 0, x.2, none, 0, (endF 257 l 0 k).2⟩
theorem prfT_pairs {ns : List Nd} {r : Int} (k : List UInt8) (h : MayP ns r) : prfT ns r k = prfG (forP ns r.toNat) k := by
  obtain ⟨e1, e2, e3⟩ := end_law ns k r.toNat 0 256 zb (fun _ _ => rfl) rfl h.right
  have e0 : prfT ns r k = (prfE (roadN ns r k) (roadX ns r k) k none 0).ct := if_pos h
  have eX : roadX ns r k = (endF 257 (forP ns r.toNat) 0 k).2 := by unfold roadX; rw [if_pos h, e1]
  have eN0 : (roadD ns k r.toNat 0).1 = 0 → roadN ns r k = zN := fun e => by unfold roadN; rw [if_pos h, e]
  have eN1 : ∀ m, (roadD ns k r.toNat 0).1 = m + 1 → roadN ns r k = (ns[m]?.getD zN).pl := fun m e => by unfold roadN; rw [if_pos h, e]
  rw [e0, eX]
  unfold prfG
  cases hm : (roadD ns k r.toNat 0).1 with
  | zero =>
    rw [eN0 hm, e2 hm]
    rfl
  | succ m =>
    obtain ⟨x, hx, hl, he⟩ := e3 m hm
    rw [eN1 m hm, hx, he]
    dsimp only [Option.getD]
    by_cases hk : x.key = k
    · rw [if_pos hk]
      simp [prfE, Prf.ct, endK, endO, Nd.pl, hl, hk]
    · rw [if_neg hk]
      simp [prfE, Prf.ct, endK, endO, Nd.pl, hl, hk]
end Go.Proofs.YtmaimkbppnpbnaaDoor

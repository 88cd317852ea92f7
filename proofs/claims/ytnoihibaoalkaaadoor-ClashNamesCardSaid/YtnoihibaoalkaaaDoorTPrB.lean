/-
  What is told of a tree by a proof: plain laws.
-/
import Derived.Test.YtnoihibaoalkaaaDoorTE
import Derived.Test.YtnoihibaoalkaaaDoorGV
set_option linter.unusedVariables false
set_option linter.unusedSimpArgs false
namespace Go.Proofs.YtnoihibaoalkaaaDoor
open Go Go.RowKit
set_option linter.unusedVariables false
set_option linter.unusedSimpArgs false
open Classical

theorem may_ct (p : Prf) : p.ct.may = p.may := rfl
theorem fromB_ct (p : Prf) : ∀ j, fromB p.ct j = fromB p j
  | 0 => rfl
  | j + 1 => by
    unfold fromB
    rw [fromB_ct p j]
    rfl
/-- Where a road ends. -/
theorem road_end (ns : List Nd) (k : List UInt8) : ∀ (n d : Nat) (β : Nat → Nat), (∀ m, d ≤ m → β m = 0) → (∀ m, m < d → bitAt k m = β m) → 0 ≤ rightP ns n d β → ∀ (i : Nat) (x : Nd), (roadP ns k n d).1 = i + 1 → ns[i]? = some x → x.leaf = true ∧ ∀ j, j < d + (roadP ns k n d).2.length → bitAt x.key j = bitAt k j := by
  intro n
  induction n using Nat.strongRecOn with
  | _ n ih =>
    intro d β h0 hk hr i y hi hy
    cases n with
    | zero => rw [roadP] at hi; exact absurd hi (by simp)
    | succ n =>
      cases hx : ns[n]? with
      | none => rw [roadP, hx] at hi; exact absurd hi (by simp)
      | some x =>
        rw [roadP_at hx] at hi ⊢
        by_cases hl : x.leaf = true
        · rw [if_pos hl] at hi ⊢
          obtain rfl : n = i := by simpa using hi
          rw [hx] at hy
          cases hy
          refine ⟨hl, fun j hj => ?_⟩
          rw [right_leaf hx hl hr j (by simpa using hj), hk j (by simpa using hj)]
        rw [if_neg hl] at hi ⊢
        have F := right_fork hx hl hr
        by_cases hb : bitAt k d = 0
        · rw [if_pos hb] at hi ⊢
          have := ih _ (Nd.l_lt x n) (d + 1) β (zero_next h0) (fun m hm => by
            by_cases e : m = d
            · subst e; rw [hb]; exact (h0 m (Nat.le_refl _)).symm
            · exact hk m (by omega)) F.l i y hi hy
          refine ⟨this.1, fun j hj => this.2 j ?_⟩
          simp only [List.length_cons] at hj
          omega
        · rw [if_neg hb] at hi ⊢
          have hb1 : bitAt k d = 1 := by have := bitAt_lt k d; omega
          have := ih _ (Nd.r_lt x n) (d + 1) (flipB β d) (zero_flip h0) (fun m hm => by
            unfold flipB
            by_cases e : m = d
            · subst e; rw [if_pos rfl]; exact hb1
            · rw [if_neg e]; exact hk m (by omega)) F.r i y hi hy
          refine ⟨this.1, fun j hj => this.2 j ?_⟩
          simp only [List.length_cons] at hj
          omega
/-- The end's sum. -/
theorem endB_sum (ns : List Nd) {p : Prf} {m : Nat} (hm : m ≤ ns.length) (h0 : m = 0 → p.kind = 0) (h1 : ∀ i x, m = i + 1 → ns[i]? = some x → x.leaf = true ∧ p.vl = x.v ∧ (p.kind = 1 ∧ p.key = x.key ∨ p.kind = 2 ∧ p.other = x.key)) : sha (endB p) = sumP ns m := by
  cases m with
  | zero =>
    rw [sumP]
    unfold endB
    rw [if_neg (by rw [h0 rfl]; decide), if_neg (by rw [h0 rfl]; decide)]
    rfl
  | succ m =>
    have hx : ns[m]? = some ns[m] := List.getElem?_eq_getElem (by omega)
    obtain ⟨e1, e2, e3⟩ := h1 m _ rfl hx
    rw [sumP_at hx, if_pos e1]
    unfold endB leaf1
    rcases e3 with ⟨e3, e4⟩ | ⟨e3, e4⟩
    · rw [if_pos e3, e4, e2]
    · rw [if_neg (by omega), if_pos e3, e4, e2]
/-- The root of what is told is the sum. -/
theorem root_law (ns : List Nd) (p : Prf) : ∀ (n d : Nat), p.pl.length = d + (roadP ns p.key n d).2.length → p.pl.drop d = (roadP ns p.key n d).2 → sha (endB p) = sumP ns (roadP ns p.key n d).1 → sha ((fromB p (roadP ns p.key n d).2.length).headD []) = sumP ns n := by
  intro n
  induction n using Nat.strongRecOn with
  | _ n ih =>
    intro d hl hd he
    cases n with
    | zero =>
      have e : roadP ns p.key 0 d = (0, []) := by rw [roadP]
      rw [e] at he ⊢
      exact he
    | succ n =>
      cases hx : ns[n]? with
      | none =>
        have e : roadP ns p.key (n + 1) d = (0, []) := by rw [roadP, hx]
        rw [e] at he ⊢
        have e2 : sumP ns (n + 1) = sha0 := by rw [sumP, hx]
        rw [e2]
        rw [show sumP ns 0 = sha0 by rw [sumP]] at he
        exact he
      | some x =>
        have e := roadP_at (k := p.key) (d := d) hx
        by_cases hf : x.leaf = true
        · rw [if_pos hf] at e
          rw [e] at he ⊢
          exact he
        rw [if_neg hf] at e
        rw [sumP_at hx, if_neg hf]
        by_cases hb : bitAt p.key d = 0
        · rw [if_pos hb] at e
          rw [e] at hl hd he ⊢
          dsimp only at hl hd he ⊢
          simp only [List.length_cons] at hl
          have hdl : d < p.pl.length := by omega
          rw [List.drop_eq_getElem_cons hdl, List.cons.injEq] at hd
          have I := ih _ (Nd.l_lt x n) (d + 1) (by omega) hd.2 he
          rw [List.length_cons]
          unfold fromB
          rw [show p.pl.length - ((roadP ns p.key (x.l n) (d + 1)).2.length + 1) = d by omega, List.headD_cons]
          unfold stepB
          rw [if_pos hb, I, List.getD_eq_getElem?_getD, List.getElem?_eq_getElem hdl, Option.getD_some, hd.1]
          rfl
        · rw [if_neg hb] at e
          rw [e] at hl hd he ⊢
          dsimp only at hl hd he ⊢
          simp only [List.length_cons] at hl
          have hdl : d < p.pl.length := by omega
          rw [List.drop_eq_getElem_cons hdl, List.cons.injEq] at hd
          have I := ih _ (Nd.r_lt x n) (d + 1) (by omega) hd.2 he
          rw [List.length_cons]
          unfold fromB
          rw [show p.pl.length - ((roadP ns p.key (x.r n) (d + 1)).2.length + 1) = d by omega, List.headD_cons]
          unfold stepB
          rw [if_neg hb, I, List.getD_eq_getElem?_getD, List.getElem?_eq_getElem hdl, Option.getD_some, hd.1]
          rfl
/-- What is told of a tree that may be. -/
structure MadeR (ns : List Nd) (r : Int) (k : List UInt8) (p : Prf) : Prop where
  may : p.may = true
  root : p.root = sumP ns r.toNat
  key : p.key = k
  told : p.kind = 1 ↔ has (forP ns r.toNat) k = true
  v : p.kind = 1 → p.vl = getF (forP ns r.toNat) k
theorem sh_ge {a b : List UInt8} {n : Nat} (hn : n ≤ 256) (h : ∀ j, j < n → bitAt a j = bitAt b j) : n ≤ sh a b := by
  obtain ⟨s, hs⟩ := isSh_ex a b
  rw [hs.sh]
  exact (sh_iff hs hn).1 h
theorem roadP_le (ns : List Nd) (k : List UInt8) : ∀ n d, n ≤ ns.length → (roadP ns k n d).1 ≤ ns.length := by
  intro n
  induction n using Nat.strongRecOn with
  | _ n ih =>
    intro d hn
    cases n with
    | zero => rw [roadP]; exact Nat.zero_le _
    | succ n =>
      have hx : ns[n]? = some ns[n] := List.getElem?_eq_getElem (by omega)
      rw [roadP_at hx]
      split
      · exact hn
      · split
        · exact ih _ (Nd.l_lt _ n) _ (by have := Nd.l_lt ns[n] n; omega)
        · exact ih _ (Nd.r_lt _ n) _ (by have := Nd.r_lt ns[n] n; omega)
/-- A road ends at a key's leaf, if there is one. -/
theorem road_leaf (ns : List Nd) (k : List UInt8) : ∀ n d, leafP ns k n d = (match (roadP ns k n d).1 with | 0 => 0 | i + 1 => match ns[i]? with | none => 0 | some x => if x.leaf = true ∧ x.key = k then i + 1 else 0) := by
  intro n
  induction n using Nat.strongRecOn with
  | _ n ih =>
    intro d
    cases n with
    | zero => rw [leafP, roadP]
    | succ n =>
      cases hx : ns[n]? with
      | none => rw [leafP, roadP, hx]
      | some x =>
        rw [leafP_at hx, roadP_at hx]
        by_cases hl : x.leaf = true
        · rw [if_pos hl, if_pos hl]
          dsimp only
          rw [hx]
          simp [hl]
        · rw [if_neg hl, if_neg hl]
          by_cases hb : bitAt k d = 0
          · rw [if_pos hb, if_pos hb]; exact ih _ (Nd.l_lt x n) _
          · rw [if_neg hb, if_neg hb]; exact ih _ (Nd.r_lt x n) _
theorem made_law {ns : List Nd} {r : Int} {k : List UInt8} (hok : NsOk ns) (hk : k.length = 32) (h : MayP ns r) : MadeR ns r k (prfT ns r k) := by
  have e0 : prfT ns r k = (prfE (roadN ns r k) (roadX ns r k) k none 0).ct := if_pos h
  have z : ∀ m, 0 ≤ m → zb m = 0 := fun _ _ => rfl
  have hz : ∀ m, m < 0 → bitAt k m = zb m := fun m hm => by omega
  have RD := road_law ns k r.toNat 0 zb z h.right
  have RL := road_len ns k r.toNat 0 zb z h.right
  have RE := road_end ns k r.toNat 0 zb z hz h.right
  have LL := leaf_law ns k r.toNat 0 zb z hz h.right
  have LE := road_leaf ns k r.toNat 0
  have RLe := roadP_le ns k r.toNat 0 (by have := h.hi; have := h.lo; omega)
  have RT := fun p => root_law ns p r.toNat 0
  have eX : roadX ns r k = (roadP ns k r.toNat 0).2 := by unfold roadX; rw [if_pos h, RD]
  have eN0 : (roadP ns k r.toNat 0).1 = 0 → roadN ns r k = zN := fun e => by unfold roadN; rw [if_pos h, ← RD, e]
  have eN1 : ∀ m, (roadP ns k r.toNat 0).1 = m + 1 → roadN ns r k = (ns[m]?.getD zN).pl := fun m e => by unfold roadN; rw [if_pos h, ← RD, e]
  rw [e0, eX]
  cases hm : (roadP ns k r.toNat 0).1 with
  | zero =>
    have eN := eN0 hm
    rw [hm] at LE
    dsimp only at LE
    rw [eN]
    have hno := LL.no LE
    have hmay : (prfE zN (roadP ns k r.toNat 0).2 k none 0).ct.may = true := by
      simp [Prf.may, Prf.may1, prfE, Prf.ct, endK, endO, zN, z32, zero32]
      omega
    refine ⟨hmay, ?_, rfl, ?_, ?_⟩
    · unfold Prf.root
      rw [if_pos hmay]
      have := RT (prfE zN (roadP ns k r.toNat 0).2 k none 0).ct (by simp [prfE, Prf.ct]) (by simp [prfE, Prf.ct]) ?_
      · exact this
      · refine endB_sum ns RLe (fun _ => rfl) (fun i x hi hx => ?_)
        rw [show (prfE zN (roadP ns k r.toNat 0).2 k none 0).ct.key = k from rfl, hm] at hi
        cases hi
    · rw [hno]; simp [prfE, Prf.ct, endK, zN]
    · intro e; simp [prfE, Prf.ct, endK, zN] at e
  | succ m =>
    have eN := eN1 m hm
    rw [hm] at LE RLe
    dsimp only at LE
    have hx : ns[m]? = some ns[m] := List.getElem?_eq_getElem (by omega)
    obtain ⟨hlf, hsh⟩ := RE m _ hm hx
    rw [hx] at eN LE
    rw [eN, show (some ns[m]).getD zN = ns[m] from rfl]
    have hv := h.ones m _ hx
    unfold oneP at hv
    rw [if_pos hlf] at hv
    have hxk := hok.k32at m (by omega)
    dsimp only at LE
    generalize hxx : ns[m] = x at *
    by_cases hkk : x.key = k
    · rw [if_pos ⟨hlf, hkk⟩] at LE
      obtain ⟨h1, y, h2, h3, h4, h5⟩ := LL.yes m LE
      rw [hx] at h2
      cases h2
      have hmay : (prfE x.pl (roadP ns k r.toNat 0).2 k none 0).ct.may = true := by
        simp [Prf.may, Prf.may1, prfE, Prf.ct, endK, endO, z32, zero32, Nd.pl, hlf, hkk, hv.1]
        omega
      refine ⟨hmay, ?_, rfl, ?_, ?_⟩
      · unfold Prf.root
        rw [if_pos hmay]
        have := RT (prfE x.pl (roadP ns k r.toNat 0).2 k none 0).ct (by simp [prfE, Prf.ct]) (by simp [prfE, Prf.ct]) ?_
        · exact this
        · rw [show (prfE x.pl (roadP ns k r.toNat 0).2 k none 0).ct.key = k from rfl]
          refine endB_sum ns (by omega) (fun e => by omega) (fun i y hi hy => ?_)
          rw [hm] at hi
          obtain rfl : m = i := by omega
          rw [hx] at hy
          cases hy
          exact ⟨hlf, by simp [prfE, Prf.ct, Nd.pl, hlf], .inl ⟨by simp [prfE, Prf.ct, endK, Nd.pl, hlf, hkk], by simp [prfE, Prf.ct, hkk]⟩⟩
      · rw [h1]; simp [prfE, Prf.ct, endK, Nd.pl, hlf, hkk]
      · intro _; rw [h5]; simp [prfE, Prf.ct, Nd.pl, hlf]
    · rw [if_neg (fun e => hkk e.2)] at LE
      have hno := LL.no LE
      have hsg := sh_ge (a := x.key) (b := k) (n := (roadP ns k r.toNat 0).2.length) (by omega) (fun j hj => hsh j (by omega))
      have hmay : (prfE x.pl (roadP ns k r.toNat 0).2 k none 0).ct.may = true := by
        simp [Prf.may, Prf.may1, prfE, Prf.ct, endK, endO, z32, zero32, Nd.pl, hlf, hkk, hv.1]
        omega
      refine ⟨hmay, ?_, rfl, ?_, ?_⟩
      · unfold Prf.root
        rw [if_pos hmay]
        have := RT (prfE x.pl (roadP ns k r.toNat 0).2 k none 0).ct (by simp [prfE, Prf.ct]) (by simp [prfE, Prf.ct]) ?_
        · exact this
        · rw [show (prfE x.pl (roadP ns k r.toNat 0).2 k none 0).ct.key = k from rfl]
          refine endB_sum ns (by omega) (fun e => by omega) (fun i y hi hy => ?_)
          rw [hm] at hi
          obtain rfl : m = i := by omega
          rw [hx] at hy
          cases hy
          exact ⟨hlf, by simp [prfE, Prf.ct, Nd.pl, hlf], .inr ⟨by simp [prfE, Prf.ct, endK, Nd.pl, hlf, hkk], by simp [prfE, Prf.ct, endO, Nd.pl, hlf, hkk]⟩⟩
      · rw [hno]; simp [prfE, Prf.ct, endK, Nd.pl, hlf, hkk]
      · intro e; simp [prfE, Prf.ct, endK, Nd.pl, hlf, hkk] at e
end Go.Proofs.YtnoihibaoalkaaaDoor

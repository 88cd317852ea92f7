/-
  Two proofs of one key that tell unlike things: the first unlike inputs. The lesser of two numbers; whether two proofs tell unlike things. The first unlike inputs of two proofs. Of two proofs of one key that tell unlike things two unlike texts are found: the law.
-/
import Derived.Test.YtnoihibaoalkaaaDoorGV
import Derived.Test.YtnoihibaoalkaaaDoorTagH
import Derived.Test.YtnoihibaoalkaaaDoorGN
import Derived.Test.YtnoihibaoalkaaaDoorGK
import Derived.Test.YtnoihibaoalkaaaDoorGF
set_option linter.unusedVariables false
set_option linter.unusedSimpArgs false
namespace Go.Proofs.YtnoihibaoalkaaaDoor
open Go Go.RowKit
set_option linter.unusedVariables false
set_option linter.unusedSimpArgs false
open Classical

/-- The first two that are unlike. -/
noncomputable def firstU : List (List UInt8) → List (List UInt8) → Option (List UInt8 × List UInt8)
  | x :: xs, y :: ys => if x = y then firstU xs ys else some (x, y)
  | _, _ => none
/-- What is digested from a place on. -/
def fromP (p : Prf) (i : Nat) : List (List UInt8) := fromB p (p.pl.length - i)
def headP (p : Prf) (i : Nat) : List UInt8 := (fromP p i).headD []
theorem fromP_step {p : Prf} {i : Nat} (h : i < p.pl.length) : fromP p i = stepB p.key i (p.pl.getD i []) (headP p (i + 1)) :: fromP p (i + 1) := by
  obtain ⟨m, hm⟩ : ∃ m, p.pl.length - i = m + 1 := ⟨p.pl.length - i - 1, by omega⟩
  have e1 : p.pl.length - (i + 1) = m := by omega
  unfold headP fromP
  rw [hm, e1, fromB, show p.pl.length - (m + 1) = i by omega]
theorem fromP_end {p : Prf} {i : Nat} (h : p.pl.length ≤ i) : fromP p i = [endB p] := by
  unfold fromP
  rw [show p.pl.length - i = 0 by omega]
  rfl
theorem headP_step {p : Prf} {i : Nat} (h : i < p.pl.length) : headP p i = stepB p.key i (p.pl.getD i []) (headP p (i + 1)) := by
  rw [headP, fromP_step h]; rfl
theorem headP_end {p : Prf} {i : Nat} (h : p.pl.length ≤ i) : headP p i = endB p := by
  rw [headP, fromP_end h]; rfl
theorem fromP_cons (p : Prf) (i : Nat) : ∃ t, fromP p i = headP p i :: t := by
  obtain ⟨r, rs, e⟩ := fromB_head p (p.pl.length - i)
  exact ⟨rs, by rw [headP, fromP, e]; rfl⟩
theorem side_len {p : Prf} (h : p.ok) {i : Nat} (hi : i < p.pl.length) : (p.pl.getD i []).length = 32 := by
  rw [show p.pl.getD i [] = p.pl[i] by simp [List.getD, hi]]
  exact h.dg _ (List.getElem_mem hi)
theorem le300 {a b : List UInt8} (ha : a.length ≤ 300) (hb : b.length ≤ 300) : ∀ x ∈ [a, b], x.length ≤ 300 := fun x hx => by
  simp only [List.mem_cons, List.not_mem_nil, or_false] at hx
  rcases hx with rfl | rfl <;> assumption
theorem stepB_inj {K : List UInt8} {i : Nat} {s t r u : List UInt8} (hs : s.length = 32) (ht : t.length = 32) (e : stepB K i s r = stepB K i t u) : sha r = sha u := by
  have h1 := sha_length r
  have h2 := sha_length u
  unfold stepB at e
  split at e
  · have := ((tagB_inj (by decide) (by decide) (le300 (by omega) (by omega)) (le300 (by omega) (by omega))).1 e).2
    simp only [List.cons.injEq] at this
    exact this.1
  · have := ((tagB_inj (by decide) (by decide) (le300 (by omega) (by omega)) (le300 (by omega) (by omega))).1 e).2
    simp only [List.cons.injEq] at this
    exact this.2.1
theorem tagB_head (k : Nat) (xs : List (List UInt8)) : (tagB k xs).head? = some (UInt8.ofNat k) := rfl
theorem stepB_head (K : List UInt8) (i : Nat) (s r : List UInt8) : (stepB K i s r).head? = some 2 := by
  unfold stepB
  split <;> rfl
theorem endB_head (p : Prf) : (endB p).head? = some 0 ∨ (endB p).head? = some 1 := by
  unfold endB
  split
  · exact .inr rfl
  split
  · exact .inr rfl
  · exact .inl rfl
theorem end_step {p : Prf} {K : List UInt8} {i : Nat} {s r : List UInt8} (e : endB p = stepB K i s r) : False := by
  have h := stepB_head K i s r
  rw [← e] at h
  rcases endB_head p with h2 | h2 <;> rw [h2] at h <;> exact absurd h (by decide)
/-- What a proof tells. -/
theorem may_kind {p : Prf} (h : p.may = true) : p.kind = 0 ∨ p.kind = 1 ∨ (p.kind = 2 ∧ p.other ≠ p.key) := by
  unfold Prf.may Prf.may1 at h
  simp only [Bool.and_eq_true, decide_eq_true_eq] at h
  have h2 := h.2
  by_cases h0 : p.kind = 0
  · exact .inl h0
  by_cases h1 : p.kind = 1
  · exact .inr (.inl h1)
  by_cases h3 : p.kind = 2
  · rw [if_neg h0, if_neg h1, if_pos h3] at h2
    simp only [Bool.and_eq_true, decide_eq_true_eq] at h2
    exact .inr (.inr ⟨h3, h2.2.1⟩)
  · rw [if_neg h0, if_neg h1, if_neg h3] at h2
    cases h2
theorem head_ne {k k' : Nat} {xs ys : List (List UInt8)} (e : tagB k xs = tagB k' ys) (h : UInt8.ofNat k ≠ UInt8.ofNat k') : False := by
  have := congrArg List.head? e
  rw [tagB_head, tagB_head] at this
  exact h (Option.some.inj this)
theorem end_told {a b : Prf} (ha : a.ok) (hb : b.ok) (hma : a.may = true) (hmb : b.may = true) (hk : a.key = b.key) (e : endB a = endB b) : (a.kind = 1 ↔ b.kind = 1) ∧ (a.kind = 1 → a.vl = b.vl) := by
  have va := Prf.may_vl hma
  have vb := Prf.may_vl hmb
  have hka := ha.key
  have hkb := hb.key
  have hoa := ha.other
  have hob := hb.other
  have inj : ∀ {x y u v : List UInt8}, x.length ≤ 300 → y.length ≤ 300 → u.length ≤ 300 → v.length ≤ 300 → tagB 1 [x, y] = tagB 1 [u, v] → x = u ∧ y = v := fun h1 h2 h3 h4 e => by
    have := ((tagB_inj (by decide) (by decide) (le300 h1 h2) (le300 h3 h4)).1 e).2
    simp only [List.cons.injEq] at this
    exact ⟨this.1, this.2.1⟩
  have E0 : ∀ p : Prf, p.kind = 0 → endB p = tagB 0 [] := fun p h => by unfold endB; rw [if_neg (by omega), if_neg (by omega)]
  have E1 : ∀ p : Prf, p.kind = 1 → endB p = tagB 1 [p.key, p.vl] := fun p h => by unfold endB; rw [if_pos h]
  have E2 : ∀ p : Prf, p.kind = 2 → endB p = tagB 1 [p.other, p.vl] := fun p h => by unfold endB; rw [if_neg (by omega), if_pos h]
  rcases may_kind hma with h0 | h0 | ⟨h0, n0⟩ <;> rcases may_kind hmb with h1 | h1 | ⟨h1, n1⟩
  · exact ⟨by omega, fun h => by omega⟩
  · rw [E0 a h0, E1 b h1] at e; exact (head_ne e (by decide)).elim
  · rw [E0 a h0, E2 b h1] at e; exact (head_ne e (by decide)).elim
  · rw [E1 a h0, E0 b h1] at e; exact (head_ne e (by decide)).elim
  · rw [E1 a h0, E1 b h1] at e
    exact ⟨by omega, fun _ => (inj (by omega) (by omega) (by omega) (by omega) e).2⟩
  · rw [E1 a h0, E2 b h1] at e
    exact absurd ((inj (by omega) (by omega) (by omega) (by omega) e).1.symm.trans hk) n1
  · rw [E2 a h0, E0 b h1] at e; exact (head_ne e (by decide)).elim
  · rw [E2 a h0, E1 b h1] at e
    exact absurd ((inj (by omega) (by omega) (by omega) (by omega) e).1.trans hk.symm) n0
  · exact ⟨by omega, fun h => by omega⟩
/-- Two proofs of one key that tell unlike things. -/
structure Unl (a b : Prf) : Prop where
  key : a.key = b.key
  ne : ¬ ((a.kind = 1 ↔ b.kind = 1) ∧ (a.kind = 1 → a.vl = b.vl))
theorem seek_from {a b : Prf} (ha : a.ok) (hb : b.ok) (hma : a.may = true) (hmb : b.may = true) (hu : Unl a b) : ∀ (d i : Nat), a.pl.length - i = d → i ≤ a.pl.length → i ≤ b.pl.length → ∃ x y, firstU (fromP a i) (fromP b i) = some (x, y) ∧ x ≠ y ∧ (sha (headP a i) = sha (headP b i) → sha x = sha y) := by
  intro d
  induction d with
  | zero =>
    intro i hd h1 h2
    obtain ⟨t, et⟩ := fromP_cons b i
    have ea := fromP_end (p := a) (i := i) (by omega)
    have eha := headP_end (p := a) (i := i) (by omega)
    by_cases e : headP a i = headP b i
    · exfalso
      rw [eha] at e
      by_cases hb2 : i < b.pl.length
      · rw [headP_step hb2] at e; exact end_step e
      · rw [headP_end (by omega)] at e
        exact hu.ne (end_told ha hb hma hmb hu.key e)
    · rw [eha] at e
      refine ⟨endB a, headP b i, ?_, e, fun h => by rw [eha] at h; exact h⟩
      rw [ea, et]
      unfold firstU
      rw [if_neg e]
  | succ d ih =>
    intro i hd h1 h2
    have hia : i < a.pl.length := by omega
    obtain ⟨t, et⟩ := fromP_cons b i
    by_cases e : headP a i = headP b i
    · by_cases hb2 : i < b.pl.length
      · have e2 := e
        rw [headP_step hia, headP_step hb2, hu.key] at e2
        have hs := stepB_inj (side_len ha hia) (side_len hb hb2) e2
        obtain ⟨x, y, h3, h4, h5⟩ := ih (i + 1) (by omega) (by omega) (by omega)
        refine ⟨x, y, ?_, h4, fun _ => h5 hs⟩
        rw [fromP_step hia, fromP_step hb2, ← headP_step hia, ← headP_step hb2]
        unfold firstU
        rw [if_pos e]
        exact h3
      · exfalso
        rw [headP_end (p := b) (by omega), headP_step hia] at e
        exact end_step e.symm
    · refine ⟨headP a i, headP b i, ?_, e, fun h => h⟩
      rw [fromP_step hia, ← headP_step hia, et]
      unfold firstU
      rw [if_neg e]
/-- The inputs. -/
theorem ins_fromP {p : Prf} (h : p.may = true) : p.ins = fromP p 0 := by
  rw [Prf.ins, if_pos h, fromP, Nat.sub_zero]
theorem root_headP {p : Prf} (h : p.may = true) : p.root = sha (headP p 0) := by
  rw [Prf.root, if_pos h, headP, fromP, Nat.sub_zero]
theorem seek_law {a b : Prf} (ha : a.ok) (hb : b.ok) (hma : a.may = true) (hmb : b.may = true) (hu : Unl a b) : ∃ x y, firstU a.ins b.ins = some (x, y) ∧ x ≠ y ∧ (a.root = b.root → sha x = sha y) := by
  obtain ⟨x, y, h1, h2, h3⟩ := seek_from ha hb hma hmb hu _ 0 rfl (Nat.zero_le _) (Nat.zero_le _)
  rw [ins_fromP hma, ins_fromP hmb, root_headP hma, root_headP hmb]
  exact ⟨x, y, h1, h2, h3⟩
theorem firstU_at {xs ys : List (List UInt8)} {i : Nat} (hx : i < xs.length) (hy : i < ys.length) (he : xs.take i = ys.take i) (hn : xs[i] ≠ ys[i]) : firstU xs ys = some (xs[i], ys[i]) := by
  induction i generalizing xs ys with
  | zero =>
    match xs, ys, hx, hy with
    | x :: xs, y :: ys, _, _ =>
      unfold firstU
      exact if_neg hn
  | succ i ih =>
    match xs, ys, hx, hy with
    | x :: xs, y :: ys, hx, hy =>
      simp only [List.take_succ_cons, List.cons.injEq] at he
      unfold firstU
      rw [if_pos he.1]
      exact ih (by simpa using hx) (by simpa using hy) he.2 (by simpa using hn)
theorem firstU_none {xs ys : List (List UInt8)} (he : xs.take (min xs.length ys.length) = ys.take (min xs.length ys.length)) : firstU xs ys = none := by
  induction xs generalizing ys with
  | nil => unfold firstU; rfl
  | cons x xs ih =>
    cases ys with
    | nil => unfold firstU; rfl
    | cons y ys =>
      simp only [List.length_cons, Nat.add_min_add_right, List.take_succ_cons, List.cons.injEq] at he
      unfold firstU
      rw [if_pos he.1]
      exact ih he.2
end Go.Proofs.YtnoihibaoalkaaaDoor
namespace Go.Proofs.YtnoihibaoalkaaaDoor
open Go Go.RowKit
set_option linter.unusedVariables false
set_option linter.unusedSimpArgs false
open Classical

section
variable {P : Program} {w0 : World} {n : Nat} {ds : List Deferred} {fr : Fr} {L : List Asn} {dst : Option Nat} {ty : TypeId} {pos : String} {after : Array Edge} {gd : Option (Nat × Bool)}
theorem vq_min {ts : Array TypeId} {x y : Operand} {m k : Nat} (hx : evA fr x = some (.int .i64 m)) (hy : evA fr y = some (.int .i64 k)) : VQ P w0 n ⟨dst, .call { callee := .builtin .min, args := #[x, y], argTypes := ts }, ty, pos, after, gd⟩ (.int .i64 ((min m k : Nat) : Int)) ds fr L := vq_val (fun a w hk _ => by
  have e : (if (k : Int) < (m : Int) then (k : Int) else (m : Int)) = ((min m k : Nat) : Int) := by split <;> omega
  simp only [← e]
  simp [execOp, resolve, invoke, builtin, hk.ev hx, hk.ev hy, Builtin.min_, Builtin.min2])
end
/-- Two proofs tell unlike things. -/
noncomputable def unB (a b : Prf) : Bool := !(decide (a.isT = b.isT) && decide (a.tl = b.tl))
theorem unB_unl {a b : Prf} (hma : a.may = true) (hmb : b.may = true) (hk : a.key = b.key) (h : unB a b = true) : Unl a b := by
  refine ⟨hk, fun ⟨h1, h2⟩ => ?_⟩
  have e1 : a.isT = b.isT := by unfold Prf.isT; rw [hma, hmb]; simp [h1]
  have e2 : a.tl = b.tl := by
    unfold Prf.tl
    rw [e1]
    split
    · rename_i hb
      have : b.kind = 1 := by
        unfold Prf.isT at hb
        simp at hb
        exact hb.2
      exact h2 (h1.2 this)
    · rfl
  unfold unB at h
  rw [decide_eq_true e1, decide_eq_true e2] at h
  cases h
theorem tl_len {p : Prf} (h : p.ok) : p.tl.length ≤ 1000000000000 := by
  unfold Prf.tl
  split
  · exact h.vl
  · simp
set_option maxRecDepth 100000 in
set_option maxHeartbeats 1000000 in
theorem cunlike_vc (w0 : World) (L : List Asn) (a b : Prf) (h : a.ok) (k : b.ok) (hkey : a.key = b.key) [hr : RdC w0 L a.va (bvs a.vl)] [hs : RdC w0 L b.va (bvs b.vl)] :
    VC Tryd.prog w0 54 [.agg a.cells.toArray, .agg b.cells.toArray] L fun v L' => v = .bool (unB a b) ∧ L' = L := by
  have f0 := Prf.f0 h
  have g0 := Prf.f0 k
  rw [← hkey] at g0
  have ho := h.key
  have hcl := Prf.len h
  have kcl := Prf.len k
  have htl := tl_len h
  have hul := tl_len k
  refine vc_ent ?_
  refine vc_in rfl rfl ?_
  unfold unB
  repeat' (first | (refine go1 ?_; intros) | (refine vl_caseG rfl rfl rfl rfl ?_ ?_ <;> (intro hb; (try simp only [decide_eq_true_eq, decide_eq_false_iff_not, Bool.not_eq_true', Bool.not_eq_false', ne_eq, Decidable.not_not, Option.isNone_iff_eq_none, not_true_eq_false, not_false_eq_true] at hb); try (exfalso; omega))) | (refine v_cond rfl ?_ ?_ <;> (intro hb; (try simp only [decide_eq_true_eq, decide_eq_false_iff_not, Bool.not_eq_true', Bool.not_eq_false', ne_eq, Decidable.not_not, Option.isNone_iff_eq_none, not_true_eq_false, not_false_eq_true] at hb); try (exfalso; omega))) | fail)
  refine vl_o rfl (vo_call rfl rfl ?_)
  refine vc_mono (told_vc w0 _ a h) ?_
  rintro v L' ⟨a1, c1, rfl, rfl⟩
  repeat' (first | (refine go1 ?_; intros) | (refine vl_caseG rfl rfl rfl rfl ?_ ?_ <;> (intro hb; (try simp only [decide_eq_true_eq, decide_eq_false_iff_not, Bool.not_eq_true', Bool.not_eq_false', ne_eq, Decidable.not_not, Option.isNone_iff_eq_none, not_true_eq_false, not_false_eq_true] at hb); try (exfalso; omega))) | (refine v_cond rfl ?_ ?_ <;> (intro hb; (try simp only [decide_eq_true_eq, decide_eq_false_iff_not, Bool.not_eq_true', Bool.not_eq_false', ne_eq, Decidable.not_not, Option.isNone_iff_eq_none, not_true_eq_false, not_false_eq_true] at hb); try (exfalso; omega))) | fail)
  refine vl_o rfl (vo_call rfl rfl ?_)
  refine vc_mono (told_vc w0 _ b k) ?_
  rintro v L' ⟨a2, c2, rfl, rfl⟩
  by_cases e : a.isT = b.isT
  · rw [decide_eq_true e, Bool.true_and]
    rw [e]
    generalize b.isT = t
    cases t
    all_goals
      repeat' (first | (refine goE ?_; intros) | (refine vl_caseG rfl rfl rfl rfl ?_ ?_ <;> (intro hb; (try simp only [decide_eq_true_eq, decide_eq_false_iff_not, Bool.not_eq_true', Bool.not_eq_false', ne_eq, Decidable.not_not, Option.isNone_iff_eq_none, not_true_eq_false, not_false_eq_true] at hb); try (exfalso; omega))) | (refine v_cond rfl ?_ ?_ <;> (intro hb; (try simp only [decide_eq_true_eq, decide_eq_false_iff_not, Bool.not_eq_true', Bool.not_eq_false', ne_eq, Decidable.not_not, Option.isNone_iff_eq_none, not_true_eq_false, not_false_eq_true] at hb); try (exfalso; omega))) | fail)
      refine vl_o rfl (vo_call rfl rfl ?_)
      refine vc_mono (eqB_vc w0 _ a1 c1 a.tl a2 c2 b.tl rfl rfl htl) ?_
      rintro v L' ⟨rfl, rfl⟩
      repeat' (first | (refine goE ?_; intros) | (refine vl_caseG rfl rfl rfl rfl ?_ ?_ <;> (intro hb; (try simp only [decide_eq_true_eq, decide_eq_false_iff_not, Bool.not_eq_true', Bool.not_eq_false', ne_eq, Decidable.not_not, Option.isNone_iff_eq_none, not_true_eq_false, not_false_eq_true] at hb); try (exfalso; omega))) | (refine v_cond rfl ?_ ?_ <;> (intro hb; (try simp only [decide_eq_true_eq, decide_eq_false_iff_not, Bool.not_eq_true', Bool.not_eq_false', ne_eq, Decidable.not_not, Option.isNone_iff_eq_none, not_true_eq_false, not_false_eq_true] at hb); try (exfalso; omega))) | fail)
      exact ⟨L, sei _ _ _, rfl, rfl⟩
  · rw [decide_eq_false e, Bool.false_and]
    revert e
    generalize a.isT = s
    generalize b.isT = t
    cases s <;> cases t <;> intro e
    · exact absurd rfl e
    · repeat' (first | (refine goE ?_; intros) | (refine vl_caseG rfl rfl rfl rfl ?_ ?_ <;> (intro hb; (try simp only [decide_eq_true_eq, decide_eq_false_iff_not, Bool.not_eq_true', Bool.not_eq_false', ne_eq, Decidable.not_not, Option.isNone_iff_eq_none, not_true_eq_false, not_false_eq_true] at hb); try (exfalso; omega))) | (refine v_cond rfl ?_ ?_ <;> (intro hb; (try simp only [decide_eq_true_eq, decide_eq_false_iff_not, Bool.not_eq_true', Bool.not_eq_false', ne_eq, Decidable.not_not, Option.isNone_iff_eq_none, not_true_eq_false, not_false_eq_true] at hb); try (exfalso; omega))) | fail)
      exact ⟨L, sei _ _ _, rfl, rfl⟩
    · repeat' (first | (refine goE ?_; intros) | (refine vl_caseG rfl rfl rfl rfl ?_ ?_ <;> (intro hb; (try simp only [decide_eq_true_eq, decide_eq_false_iff_not, Bool.not_eq_true', Bool.not_eq_false', ne_eq, Decidable.not_not, Option.isNone_iff_eq_none, not_true_eq_false, not_false_eq_true] at hb); try (exfalso; omega))) | (refine v_cond rfl ?_ ?_ <;> (intro hb; (try simp only [decide_eq_true_eq, decide_eq_false_iff_not, Bool.not_eq_true', Bool.not_eq_false', ne_eq, Decidable.not_not, Option.isNone_iff_eq_none, not_true_eq_false, not_false_eq_true] at hb); try (exfalso; omega))) | fail)
      exact ⟨L, sei _ _ _, rfl, rfl⟩
    · exact absurd rfl e
end Go.Proofs.YtnoihibaoalkaaaDoor
namespace Go.Proofs.YtnoihibaoalkaaaDoor
open Go Go.RowKit
set_option linter.unusedVariables false
set_option linter.unusedSimpArgs false
open Classical

noncomputable def seekQ (a b : Prf) : List UInt8 × List UInt8 × Int := if (a.may && b.may) = true then (if unB a b = true then (match firstU a.ins b.ins with | some (x, y) => (x, y, 0) | none => ([], [], 2)) else ([], [], 2)) else ([], [], 8)
theorem cboth_vc (w0 : World) (L : List Asn) (a : Option Addr) (n c : Nat) (b : Option Addr) (m d : Nat) :
    VC Tryd.prog w0 57 [.slice a n c, .slice b m d] L fun v L' => ∃ g g', v = .func (.func 107) #[] #[.pointer (some ⟨g, 0, none⟩), .pointer (some ⟨g', 0, none⟩)] ∧ L' = blk g' 109 [.slice b m d] :: blk g 109 [.slice a n c] :: L := by
  refine vc_in rfl rfl ?_
  repeat' (first | (refine go1 ?_; intros) | (refine vl_caseG rfl rfl rfl rfl ?_ ?_ <;> (intro hb; (try simp only [decide_eq_true_eq, decide_eq_false_iff_not, Bool.not_eq_true', Bool.not_eq_false', ne_eq, Decidable.not_not, Option.isNone_iff_eq_none, not_true_eq_false, not_false_eq_true] at hb); try (exfalso; omega))) | (refine v_cond rfl ?_ ?_ <;> (intro hb; (try simp only [decide_eq_true_eq, decide_eq_false_iff_not, Bool.not_eq_true', Bool.not_eq_false', ne_eq, Decidable.not_not, Option.isNone_iff_eq_none, not_true_eq_false, not_false_eq_true] at hb); try (exfalso; omega))) | fail)
  exact ⟨_, _, rfl, rfl⟩
set_option maxRecDepth 100000 in
set_option maxHeartbeats 4000000 in
theorem cseek_vc (w0 : World) (L : List Asn) [hK : RdA w0 (some ⟨0, 0, none⟩) (wds K64)] (a b : Prf) (h : a.ok) (k : b.ok) (hkey : a.key = b.key) [hr : RdC w0 L a.va (bvs a.vl)] [hr2 : RdC w0 L a.pa (bvs a.pl.flatten)] [hs : RdC w0 L b.va (bvs b.vl)] [hs2 : RdC w0 L b.pa (bvs b.pl.flatten)] :
    VC Tryd.prog w0 20 [.agg a.cells.toArray, .agg b.cells.toArray] L fun v L' => ∃ ax cx ay cy, v = .tuple #[.slice ax (seekQ a b).1.length cx, .slice ay (seekQ a b).2.1.length cy, .int .i64 (seekQ a b).2.2] ∧ L' = ownB ax cx (seekQ a b).1 :: ownB ay cy (seekQ a b).2.1 :: L := by
  have hcl := Prf.len h
  have kcl := Prf.len k
  have bad : ∀ M, SE M L → SE M (ownB none 0 [] :: ownB none 0 [] :: L) := fun M hM => hM.trans ((se_own_nil _ 1 _).trans (se_own_nil _ 1 _))
  refine vc_ent ?_
  refine vc_in rfl rfl ?_
  unfold seekQ
  repeat' (first | (refine go1 ?_; intros) | (refine vl_caseG rfl rfl rfl rfl ?_ ?_ <;> (intro hb; (try simp only [decide_eq_true_eq, decide_eq_false_iff_not, Bool.not_eq_true', Bool.not_eq_false', ne_eq, Decidable.not_not, Option.isNone_iff_eq_none, not_true_eq_false, not_false_eq_true] at hb); try (exfalso; omega))) | (refine v_cond rfl ?_ ?_ <;> (intro hb; (try simp only [decide_eq_true_eq, decide_eq_false_iff_not, Bool.not_eq_true', Bool.not_eq_false', ne_eq, Decidable.not_not, Option.isNone_iff_eq_none, not_true_eq_false, not_false_eq_true] at hb); try (exfalso; omega))) | fail)
  refine vl_o rfl (vo_call rfl rfl ?_)
  refine vc_mono (vins_vc w0 _ a h) ?_
  rintro v L' ⟨a1, c1, qs, rfl, hq, rfl⟩
  repeat' (first | (refine go1 ?_; intros) | (refine vl_caseG rfl rfl rfl rfl ?_ ?_ <;> (intro hb; (try simp only [decide_eq_true_eq, decide_eq_false_iff_not, Bool.not_eq_true', Bool.not_eq_false', ne_eq, Decidable.not_not, Option.isNone_iff_eq_none, not_true_eq_false, not_false_eq_true] at hb); try (exfalso; omega))) | (refine v_cond rfl ?_ ?_ <;> (intro hb; (try simp only [decide_eq_true_eq, decide_eq_false_iff_not, Bool.not_eq_true', Bool.not_eq_false', ne_eq, Decidable.not_not, Option.isNone_iff_eq_none, not_true_eq_false, not_false_eq_true] at hb); try (exfalso; omega))) | fail)
  refine vl_o rfl (vo_call rfl rfl ?_)
  refine vc_mono (vins_vc w0 _ b k) ?_
  rintro v L' ⟨a2, c2, rs, rfl, hrs, rfl⟩
  by_cases hm : (a.may && b.may) = true
  rotate_left
  · rw [if_neg hm]
    cases hma : a.may
    · rw [if_neg (show ¬ (false = true) by decide)]
      repeat' (first | (refine goE ?_; intros) | (refine vl_caseG rfl rfl rfl rfl ?_ ?_ <;> (intro hb; (try simp only [decide_eq_true_eq, decide_eq_false_iff_not, Bool.not_eq_true', Bool.not_eq_false', ne_eq, Decidable.not_not, Option.isNone_iff_eq_none, not_true_eq_false, not_false_eq_true] at hb); try (exfalso; omega))) | (refine v_cond rfl ?_ ?_ <;> (intro hb; (try simp only [decide_eq_true_eq, decide_eq_false_iff_not, Bool.not_eq_true', Bool.not_eq_false', ne_eq, Decidable.not_not, Option.isNone_iff_eq_none, not_true_eq_false, not_false_eq_true] at hb); try (exfalso; omega))) | fail)
      refine ⟨ownB none 0 [] :: ownB none 0 [] :: L, SE.ent (bad _ ?_) w0, none, 0, none, 0, rfl, rfl⟩
      exact SEI.out
    · have hmb : b.may = false := by rw [hma] at hm; simpa using hm
      rw [hmb, if_pos rfl, if_neg (show ¬ (false = true) by decide)]
      repeat' (first | (refine goE ?_; intros) | (refine vl_caseG rfl rfl rfl rfl ?_ ?_ <;> (intro hb; (try simp only [decide_eq_true_eq, decide_eq_false_iff_not, Bool.not_eq_true', Bool.not_eq_false', ne_eq, Decidable.not_not, Option.isNone_iff_eq_none, not_true_eq_false, not_false_eq_true] at hb); try (exfalso; omega))) | (refine v_cond rfl ?_ ?_ <;> (intro hb; (try simp only [decide_eq_true_eq, decide_eq_false_iff_not, Bool.not_eq_true', Bool.not_eq_false', ne_eq, Decidable.not_not, Option.isNone_iff_eq_none, not_true_eq_false, not_false_eq_true] at hb); try (exfalso; omega))) | fail)
      refine ⟨ownB none 0 [] :: ownB none 0 [] :: L, SE.ent (bad _ ?_) w0, none, 0, none, 0, rfl, rfl⟩
      exact SEI.out
  rw [if_pos hm]
  obtain ⟨hma, hmb⟩ : a.may = true ∧ b.may = true := by simpa using hm
  rw [hma, hmb, if_pos rfl]
  repeat' (first | (refine go1 ?_; intros) | (refine vl_caseG rfl rfl rfl rfl ?_ ?_ <;> (intro hb; (try simp only [decide_eq_true_eq, decide_eq_false_iff_not, Bool.not_eq_true', Bool.not_eq_false', ne_eq, Decidable.not_not, Option.isNone_iff_eq_none, not_true_eq_false, not_false_eq_true] at hb); try (exfalso; omega))) | (refine v_cond rfl ?_ ?_ <;> (intro hb; (try simp only [decide_eq_true_eq, decide_eq_false_iff_not, Bool.not_eq_true', Bool.not_eq_false', ne_eq, Decidable.not_not, Option.isNone_iff_eq_none, not_true_eq_false, not_false_eq_true] at hb); try (exfalso; omega))) | fail)
  refine vl_o rfl (vo_call rfl rfl ?_)
  refine vc_mono (cunlike_vc w0 _ a b h k hkey) ?_
  rintro v L' ⟨rfl, rfl⟩
  by_cases hun : unB a b = true
  rotate_left
  · rw [if_neg hun]
    simp only [Bool.not_eq_true] at hun
    rw [hun]
    repeat' (first | (refine go1 ?_; intros) | (refine vl_caseG rfl rfl rfl rfl ?_ ?_ <;> (intro hb; (try simp only [decide_eq_true_eq, decide_eq_false_iff_not, Bool.not_eq_true', Bool.not_eq_false', ne_eq, Decidable.not_not, Option.isNone_iff_eq_none, not_true_eq_false, not_false_eq_true] at hb); try (exfalso; omega))) | (refine v_cond rfl ?_ ?_ <;> (intro hb; (try simp only [decide_eq_true_eq, decide_eq_false_iff_not, Bool.not_eq_true', Bool.not_eq_false', ne_eq, Decidable.not_not, Option.isNone_iff_eq_none, not_true_eq_false, not_false_eq_true] at hb); try (exfalso; omega))) | fail)
    refine ⟨ownB none 0 [] :: ownB none 0 [] :: L, SE.ent (bad _ ?_) w0, none, 0, none, 0, rfl, rfl⟩
    exact SEI.out
  rw [if_pos hun, hun]
  have hlq : qs.length = a.pl.length + 1 := by
    have := congrArg List.length hq
    rw [Prf.ins, if_pos hma, fromB_len] at this
    simpa [ls] using this
  have hlr : rs.length = b.pl.length + 1 := by
    have := congrArg List.length hrs
    rw [Prf.ins, if_pos hmb, fromB_len] at this
    simpa [ls] using this
  have ha256 := Prf.may_pl hma
  have hb256 := Prf.may_pl hmb
  repeat' (first | (refine go1 ?_; intros) | (refine vl_caseG rfl rfl rfl rfl ?_ ?_ <;> (intro hb; (try simp only [decide_eq_true_eq, decide_eq_false_iff_not, Bool.not_eq_true', Bool.not_eq_false', ne_eq, Decidable.not_not, Option.isNone_iff_eq_none, not_true_eq_false, not_false_eq_true] at hb); try (exfalso; omega))) | (refine v_cond rfl ?_ ?_ <;> (intro hb; (try simp only [decide_eq_true_eq, decide_eq_false_iff_not, Bool.not_eq_true', Bool.not_eq_false', ne_eq, Decidable.not_not, Option.isNone_iff_eq_none, not_true_eq_false, not_false_eq_true] at hb); try (exfalso; omega))) | fail)
  refine vl_o rfl (vo_call rfl rfl ?_)
  refine vc_mono (cboth_vc w0 _ a1 _ c1 a2 _ c2) ?_
  rintro v L' ⟨g1, g2, rfl, rfl⟩
  repeat' (first | (refine go1 ?_; intros) | (refine vl_caseG rfl rfl rfl rfl ?_ ?_ <;> (intro hb; (try simp only [decide_eq_true_eq, decide_eq_false_iff_not, Bool.not_eq_true', Bool.not_eq_false', ne_eq, Decidable.not_not, Option.isNone_iff_eq_none, not_true_eq_false, not_false_eq_true] at hb); try (exfalso; omega))) | (refine v_cond rfl ?_ ?_ <;> (intro hb; (try simp only [decide_eq_true_eq, decide_eq_false_iff_not, Bool.not_eq_true', Bool.not_eq_false', ne_eq, Decidable.not_not, Option.isNone_iff_eq_none, not_true_eq_false, not_false_eq_true] at hb); try (exfalso; omega))) | fail)
  rename_i ga gb gt gu ge
  refine v_sub (selE_sub [4, 5, 6, 36] _ rfl) ?_
  refine v_range rfl (fun lp D => ?_)
  refine vc_in rfl rfl ?_
  repeat' (first | (refine go1 ?_; intros) | (refine vl_caseG rfl rfl rfl rfl ?_ ?_ <;> (intro hb; (try simp only [decide_eq_true_eq, decide_eq_false_iff_not, Bool.not_eq_true', Bool.not_eq_false', ne_eq, Decidable.not_not, Option.isNone_iff_eq_none, not_true_eq_false, not_false_eq_true] at hb); try (exfalso; omega))) | (refine v_cond rfl ?_ ?_ <;> (intro hb; (try simp only [decide_eq_true_eq, decide_eq_false_iff_not, Bool.not_eq_true', Bool.not_eq_false', ne_eq, Decidable.not_not, Option.isNone_iff_eq_none, not_true_eq_false, not_false_eq_true] at hb); try (exfalso; omega))) | fail)
  refine vl_q rfl rfl rfl rfl (vq_min rfl rfl) ?_
  repeat' (first | (refine go1 ?_; intros) | (refine vl_caseG rfl rfl rfl rfl ?_ ?_ <;> (intro hb; (try simp only [decide_eq_true_eq, decide_eq_false_iff_not, Bool.not_eq_true', Bool.not_eq_false', ne_eq, Decidable.not_not, Option.isNone_iff_eq_none, not_true_eq_false, not_false_eq_true] at hb); try (exfalso; omega))) | (refine v_cond rfl ?_ ?_ <;> (intro hb; (try simp only [decide_eq_true_eq, decide_eq_false_iff_not, Bool.not_eq_true', Bool.not_eq_false', ne_eq, Decidable.not_not, Option.isNone_iff_eq_none, not_true_eq_false, not_false_eq_true] at hb); try (exfalso; omega))) | fail)
  refine v_loopS Nat [0, 1, 2, 9] rfl (fun i => [(10, .int .i64 i)]) (fun i => i ≤ min qs.length rs.length ∧ (ls qs).take i = (ls rs).take i) (fun i => min qs.length rs.length - i) 0 ⟨Nat.zero_le _, rfl⟩ (by (repeat' (first | exact Sub.nil _ | refine Sub.cons rfl rfl ?_ | refine Sub.cons rfl ?_ ?_))) (fun i ⟨hi, he⟩ => ?_)
  by_cases hlt : i < min qs.length rs.length
  rotate_left
  · exfalso
    obtain ⟨x, y, h1, _⟩ := seek_law h k hma hmb (unB_unl hma hmb hkey hun)
    have e1 : (ls qs).length = qs.length := by simp [ls]
    have e2 : (ls rs).length = rs.length := by simp [ls]
    have := firstU_none (xs := ls qs) (ys := ls rs) (by rw [e1, e2, show min qs.length rs.length = i by omega]; exact he)
    rw [hq, hrs, h1] at this
    cases this
  have hqi : i < qs.length := by omega
  have hri : i < rs.length := by omega
  have hg1 : (pbs qs)[i]? = some (.slice (qs[i]).a (qs[i]).l.length (qs[i]).cap) := by simp [pbs, PB.v, hqi]
  have hg2 : (pbs rs)[i]? = some (.slice (rs[i]).a (rs[i]).l.length (rs[i]).cap) := by simp [pbs, PB.v, hri]
  have hp1 : 0 < (pbs qs).length := by simp [pbs]; omega
  have hp2 : 0 < (pbs rs).length := by simp [pbs]; omega
  have eq1 : (ls qs)[i]'(by simpa [ls] using hqi) = (qs[i]).l := by simp [ls]
  have er1 : (ls rs)[i]'(by simpa [ls] using hri) = (rs[i]).l := by simp [ls]
  have hb200 : (qs[i]).l.length ≤ 1000000000000 := by
    have hmem : (qs[i]).l ∈ ls qs := by rw [← eq1]; exact List.getElem_mem _
    rw [hq, Prf.ins, if_pos hma] at hmem
    have := fromB_bound h (Prf.may_vl hma) _ (Nat.le_refl _) _ hmem
    omega
  haveI hpa : ∀ N [HasPs N qs], RdC w0 N (qs[i]).a (bvs (qs[i]).l) := fun N _ => (inferInstance : RdPs w0 N qs).out _ (List.getElem_mem hqi)
  haveI hpb : ∀ N [HasPs N rs], RdC w0 N (rs[i]).a (bvs (rs[i]).l) := fun N _ => (inferInstance : RdPs w0 N rs).out _ (List.getElem_mem hri)
  repeat' (first | (refine go1 ?_; intros) | (refine vl_caseG rfl rfl rfl rfl ?_ ?_ <;> (intro hb; (try simp only [decide_eq_true_eq, decide_eq_false_iff_not, Bool.not_eq_true', Bool.not_eq_false', ne_eq, Decidable.not_not, Option.isNone_iff_eq_none, not_true_eq_false, not_false_eq_true] at hb); try (exfalso; omega))) | (refine v_cond rfl ?_ ?_ <;> (intro hb; (try simp only [decide_eq_true_eq, decide_eq_false_iff_not, Bool.not_eq_true', Bool.not_eq_false', ne_eq, Decidable.not_not, Option.isNone_iff_eq_none, not_true_eq_false, not_false_eq_true] at hb); try (exfalso; omega))) | fail)
  (refine v_draw0 [9] (by kernel_rfl) ?_ <;> (refine va_takeA 0 rfl rfl rfl rfl ?_) <;> (refine va_takeA 1 rfl rfl rfl rfl ?_) <;> (refine va_takeA 2 rfl rfl rfl rfl ?_) <;> (refine va_takeA 3 rfl rfl rfl rfl ?_) <;> (refine va_takeA 4 rfl rfl rfl rfl ?_) <;> (refine va_takeA 5 rfl rfl rfl rfl ?_) <;> (refine va_takeA 6 rfl rfl rfl rfl ?_) <;> (refine va_takeA 7 rfl rfl rfl rfl ?_) <;> (refine va_takeA 8 rfl rfl rfl rfl ?_))
  refine va_one 9 (by kernel_rfl) rfl rfl (vo_yield rfl rfl rfl rfl rfl ?_)
  repeat' (first | (refine go1 ?_; intros) | (refine vl_caseG rfl rfl rfl rfl ?_ ?_ <;> (intro hb; (try simp only [decide_eq_true_eq, decide_eq_false_iff_not, Bool.not_eq_true', Bool.not_eq_false', ne_eq, Decidable.not_not, Option.isNone_iff_eq_none, not_true_eq_false, not_false_eq_true] at hb); try (exfalso; omega))) | (refine v_cond rfl ?_ ?_ <;> (intro hb; (try simp only [decide_eq_true_eq, decide_eq_false_iff_not, Bool.not_eq_true', Bool.not_eq_false', ne_eq, Decidable.not_not, Option.isNone_iff_eq_none, not_true_eq_false, not_false_eq_true] at hb); try (exfalso; omega))) | fail)
  refine vl_o rfl (vo_call rfl rfl ?_)
  refine vc_mono (eqB_vc w0 _ (qs[i]).a (qs[i]).cap (qs[i]).l (rs[i]).a (rs[i]).cap (rs[i]).l rfl rfl hb200) ?_
  rintro v L' ⟨rfl, rfl⟩
  by_cases e : (qs[i]).l = (rs[i]).l
  · rw [decide_eq_true e]
    have hst := take_eq_step (ls := ls qs) (ms := ls rs) (by simpa [ls] using hqi) (by simpa [ls] using hri) he (by rw [eq1, er1]; exact e)
    repeat' (first | (refine go1 ?_; intros) | (refine vl_caseG rfl rfl rfl rfl ?_ ?_ <;> (intro hb; (try simp only [decide_eq_true_eq, decide_eq_false_iff_not, Bool.not_eq_true', Bool.not_eq_false', ne_eq, Decidable.not_not, Option.isNone_iff_eq_none, not_true_eq_false, not_false_eq_true] at hb); try (exfalso; omega))) | (refine v_cond rfl ?_ ?_ <;> (intro hb; (try simp only [decide_eq_true_eq, decide_eq_false_iff_not, Bool.not_eq_true', Bool.not_eq_false', ne_eq, Decidable.not_not, Option.isNone_iff_eq_none, not_true_eq_false, not_false_eq_true] at hb); try (exfalso; omega))) | fail)
    refine ⟨.inl (by kernel_rfl), ?_⟩
    ((refine va_takePA 10 rfl rfl rfl rfl ?_) <;> (refine va_done (by kernel_rfl) ?_))
    repeat' (first | (refine go1 ?_; intros) | (refine vl_caseG rfl rfl rfl rfl ?_ ?_ <;> (intro hb; (try simp only [decide_eq_true_eq, decide_eq_false_iff_not, Bool.not_eq_true', Bool.not_eq_false', ne_eq, Decidable.not_not, Option.isNone_iff_eq_none, not_true_eq_false, not_false_eq_true] at hb); try (exfalso; omega))) | (refine v_cond rfl ?_ ?_ <;> (intro hb; (try simp only [decide_eq_true_eq, decide_eq_false_iff_not, Bool.not_eq_true', Bool.not_eq_false', ne_eq, Decidable.not_not, Option.isNone_iff_eq_none, not_true_eq_false, not_false_eq_true] at hb); try (exfalso; omega))) | fail)
    refine ⟨rfl, i + 1, ⟨by omega, hst⟩, by omega, by (repeat' (first | exact Sub.nil _ | refine Sub.cons rfl rfl ?_ | refine Sub.cons rfl ?_ ?_)), sei _ _ _⟩
  · rw [decide_eq_false e]
    have hfu := firstU_at (xs := ls qs) (ys := ls rs) (by simpa [ls] using hqi) (by simpa [ls] using hri) he (by rw [eq1, er1]; exact e)
    rw [eq1, er1, hq, hrs] at hfu
    rw [hfu]
    dsimp only
    repeat' (first | (refine go1 ?_; intros) | (refine vl_caseG rfl rfl rfl rfl ?_ ?_ <;> (intro hb; (try simp only [decide_eq_true_eq, decide_eq_false_iff_not, Bool.not_eq_true', Bool.not_eq_false', ne_eq, Decidable.not_not, Option.isNone_iff_eq_none, not_true_eq_false, not_false_eq_true] at hb); try (exfalso; omega))) | (refine v_cond rfl ?_ ?_ <;> (intro hb; (try simp only [decide_eq_true_eq, decide_eq_false_iff_not, Bool.not_eq_true', Bool.not_eq_false', ne_eq, Decidable.not_not, Option.isNone_iff_eq_none, not_true_eq_false, not_false_eq_true] at hb); try (exfalso; omega))) | fail)
    refine ⟨.inl (by kernel_rfl), ?_⟩
    ((refine va_takePA 10 rfl rfl rfl rfl ?_) <;> (refine va_done (by kernel_rfl) ?_))
    repeat' (first | (refine go1 ?_; intros) | (refine vl_caseG rfl rfl rfl rfl ?_ ?_ <;> (intro hb; (try simp only [decide_eq_true_eq, decide_eq_false_iff_not, Bool.not_eq_true', Bool.not_eq_false', ne_eq, Decidable.not_not, Option.isNone_iff_eq_none, not_true_eq_false, not_false_eq_true] at hb); try (exfalso; omega))) | (refine v_cond rfl ?_ ?_ <;> (intro hb; (try simp only [decide_eq_true_eq, decide_eq_false_iff_not, Bool.not_eq_true', Bool.not_eq_false', ne_eq, Decidable.not_not, Option.isNone_iff_eq_none, not_true_eq_false, not_false_eq_true] at hb); try (exfalso; omega))) | fail)
    refine ⟨ownB (qs[i]).a (qs[i]).cap (qs[i]).l :: ownB (rs[i]).a (rs[i]).cap (rs[i]).l :: L, ?_, _, _, _, _, rfl, rfl⟩
    exact Ent.trans (sei _ _ (psA qs :: psA rs :: L)) (SE.ent ((se_psA_pull qs _ i hqi).trans (SE.cons _ ((se_drop _ _).trans ((se_psA_pull rs _ i hri).trans (SE.cons _ (se_drop _ _)))))) w0)
end Go.Proofs.YtnoihibaoalkaaaDoor
namespace Go.Proofs.YtnoihibaoalkaaaDoor
open Go Go.RowKit
set_option linter.unusedVariables false
set_option linter.unusedSimpArgs false
open Classical

def prfA (b : Nat) : Prf := ⟨List.replicate 32 0, 1, List.replicate 32 0, some ⟨b, 0, none⟩, 1, [97], none, 0, []⟩
theorem prfA_ok (b : Nat) : (prfA b).ok := ⟨rfl, (show (1 : Nat) < 256 by decide), rfl, by simp [Dg, prfA], by simp [prfA], by simp [prfA]⟩
theorem prfA_may (b : Nat) : (prfA b).may = true := by simp [Prf.may, Prf.may1, prfA, zero32, okVal]
instance oc_prfC (p : Prf) : OC p.cells := (inferInstance : OC (bvs p.key ++ (.int .u8 p.kind :: (bvs p.other ++ [.slice p.va p.vl.length p.vc, .slice p.pa p.pl.length p.pc]))))
def keyA : List UInt8 := tagB 1 [List.replicate 32 0, [97]]
theorem prfA_ins (b : Nat) : (prfA b).ins = [keyA] := by
  unfold Prf.ins
  rw [prfA_may, if_pos rfl]
  rfl
theorem seek_ex (b : Nat) : seekQ prf0 (prfA b) = ([0], keyA, 0) := by
  have h1 : prf0.isT = false := by simp [Prf.isT, prf0]
  have h2 : (prfA b).isT = true := by unfold Prf.isT; rw [prfA_may]; simp [prfA]
  have h3 : unB prf0 (prfA b) = true := by unfold unB; rw [h1, h2]; rfl
  have h4 : [0] ≠ keyA := by decide
  unfold seekQ
  rw [prf0_may, prfA_may, h3, prf0_ins, prfA_ins, if_pos (show (true && true) = true from rfl), if_pos rfl]
  unfold firstU
  rw [if_neg h4]
set_option maxRecDepth 100000 in
theorem lown9_vc (w0 : World) (L : List Asn) :
    VC Tryd.prog w0 21 [] L fun v L' => ∃ b, v = .agg (prfA b).cells.toArray ∧ L' = rd (some ⟨b, 0, none⟩) [.int .u8 97] :: L := by
  refine vc_ent ?_
  refine vc_in rfl rfl ?_
  repeat' (first | (refine goB ?_; intros) | (refine vl_caseG rfl rfl rfl rfl ?_ ?_ <;> (intro hb; (try simp only [decide_eq_true_eq, decide_eq_false_iff_not, Bool.not_eq_true', Bool.not_eq_false', ne_eq, Decidable.not_not, Option.isNone_iff_eq_none, not_true_eq_false, not_false_eq_true] at hb); try (exfalso; omega))) | (refine v_cond rfl ?_ ?_ <;> (intro hb; (try simp only [decide_eq_true_eq, decide_eq_false_iff_not, Bool.not_eq_true', Bool.not_eq_false', ne_eq, Decidable.not_not, Option.isNone_iff_eq_none, not_true_eq_false, not_false_eq_true] at hb); try (exfalso; omega))) | fail)
  rename_i g b
  refine vl_q rfl rfl rfl rfl (vq_buildP (cs := (prfA b).cells) rfl (by simp [okS, Value.cells]) rfl) ?_
  have hl := Prf.len (prfA_ok b)
  repeat' (first | (refine go1 ?_; intros) | (refine vl_caseG rfl rfl rfl rfl ?_ ?_ <;> (intro hb; (try simp only [decide_eq_true_eq, decide_eq_false_iff_not, Bool.not_eq_true', Bool.not_eq_false', ne_eq, Decidable.not_not, Option.isNone_iff_eq_none, not_true_eq_false, not_false_eq_true] at hb); try (exfalso; omega))) | (refine v_cond rfl ?_ ?_ <;> (intro hb; (try simp only [decide_eq_true_eq, decide_eq_false_iff_not, Bool.not_eq_true', Bool.not_eq_false', ne_eq, Decidable.not_not, Option.isNone_iff_eq_none, not_true_eq_false, not_false_eq_true] at hb); try (exfalso; omega))) | fail)
  exact ⟨rd (some ⟨b, 0, none⟩) [.int .u8 97] :: L, sei _ _ _, b, rfl, rfl⟩
set_option maxRecDepth 100000 in
set_option maxHeartbeats 1000000 in
theorem lalive9_vc (w0 : World) (L : List Asn) [hK : RdA w0 (some ⟨0, 0, none⟩) (wds K64)] :
    VC Tryd.prog w0 10 [] L fun v L' => v = .bool true ∧ L' = L := by
  refine vc_ent ?_
  refine vc_in rfl rfl ?_
  repeat' (first | (refine go1 ?_; intros) | (refine vl_caseG rfl rfl rfl rfl ?_ ?_ <;> (intro hb; (try simp only [decide_eq_true_eq, decide_eq_false_iff_not, Bool.not_eq_true', Bool.not_eq_false', ne_eq, Decidable.not_not, Option.isNone_iff_eq_none, not_true_eq_false, not_false_eq_true] at hb); try (exfalso; omega))) | (refine v_cond rfl ?_ ?_ <;> (intro hb; (try simp only [decide_eq_true_eq, decide_eq_false_iff_not, Bool.not_eq_true', Bool.not_eq_false', ne_eq, Decidable.not_not, Option.isNone_iff_eq_none, not_true_eq_false, not_false_eq_true] at hb); try (exfalso; omega))) | fail)
  refine vl_o rfl (vo_call rfl rfl ?_)
  refine vc_mono (lown9_vc w0 _) ?_
  rintro v L' ⟨b, rfl, rfl⟩
  repeat' (first | (refine go1 ?_; intros) | (refine vl_caseG rfl rfl rfl rfl ?_ ?_ <;> (intro hb; (try simp only [decide_eq_true_eq, decide_eq_false_iff_not, Bool.not_eq_true', Bool.not_eq_false', ne_eq, Decidable.not_not, Option.isNone_iff_eq_none, not_true_eq_false, not_false_eq_true] at hb); try (exfalso; omega))) | (refine v_cond rfl ?_ ?_ <;> (intro hb; (try simp only [decide_eq_true_eq, decide_eq_false_iff_not, Bool.not_eq_true', Bool.not_eq_false', ne_eq, Decidable.not_not, Option.isNone_iff_eq_none, not_true_eq_false, not_false_eq_true] at hb); try (exfalso; omega))) | fail)
  refine vl_o rfl (vo_call rfl rfl ?_)
  show VC _ _ _ [.agg prf0.cells.toArray, .agg (prfA b).cells.toArray] _ _
  haveI : ∀ M, RdC w0 (rd (some ⟨b, 0, none⟩) [.int .u8 97] :: M) (prfA b).va (bvs (prfA b).vl) := fun M => (inferInstance : RdC w0 (rd (some ⟨b, 0, none⟩) [.int .u8 97] :: M) (some ⟨b, 0, none⟩) [.int .u8 97])
  refine vc_mono (cseek_vc (hr := rdC_nil _ _ _) (hr2 := rdC_nil _ _ _) (hs2 := rdC_nil _ _ _) w0 _ prf0 (prfA b) prf0_ok (prfA_ok b) rfl) ?_
  rintro v L' ⟨ax, cx, ay, cy, rfl, rfl⟩
  rw [seek_ex]
  dsimp only
  have hkl : keyA.length ≤ 1000000000 := by decide
  have hkd : tagB 1 [List.replicate 32 0, [97]] = keyA := rfl
  repeat' (first | (refine goE ?_; intros) | (refine vl_caseG rfl rfl rfl rfl ?_ ?_ <;> (intro hb; (try simp only [decide_eq_true_eq, decide_eq_false_iff_not, Bool.not_eq_true', Bool.not_eq_false', ne_eq, Decidable.not_not, Option.isNone_iff_eq_none, not_true_eq_false, not_false_eq_true] at hb); try (exfalso; omega))) | (refine v_cond rfl ?_ ?_ <;> (intro hb; (try simp only [decide_eq_true_eq, decide_eq_false_iff_not, Bool.not_eq_true', Bool.not_eq_false', ne_eq, Decidable.not_not, Option.isNone_iff_eq_none, not_true_eq_false, not_false_eq_true] at hb); try (exfalso; omega))) | fail)
  refine vl_o rfl (vo_call rfl rfl ?_)
  rename_i g1 g2
  refine vc_mono (same_vc w0 _ ax cx [0] (some ⟨g2, 0, none⟩) 1 [0] rfl rfl (hq := (inferInstance : RdC w0 _ _ [.int .u8 0]))) ?_
  rintro v L' ⟨rfl, rfl⟩
  rw [decide_eq_true rfl]
  repeat' (first | (refine goE ?_; intros) | (refine vl_caseG rfl rfl rfl rfl ?_ ?_ <;> (intro hb; (try simp only [decide_eq_true_eq, decide_eq_false_iff_not, Bool.not_eq_true', Bool.not_eq_false', ne_eq, Decidable.not_not, Option.isNone_iff_eq_none, not_true_eq_false, not_false_eq_true] at hb); try (exfalso; omega))) | (refine v_cond rfl ?_ ?_ <;> (intro hb; (try simp only [decide_eq_true_eq, decide_eq_false_iff_not, Bool.not_eq_true', Bool.not_eq_false', ne_eq, Decidable.not_not, Option.isNone_iff_eq_none, not_true_eq_false, not_false_eq_true] at hb); try (exfalso; omega))) | fail)
  refine vl_o rfl (vo_call rfl rfl ?_)
  rename_i g3 g4
  refine vc_mono (tb2_vc w0 _ 1 (by decide) g4 (some ⟨g1, 0, none⟩) 32 (List.replicate 32 0) (some ⟨g3, 0, none⟩) 1 [97] rfl rfl hkl (h2 := (inferInstance : RdC w0 _ (some ⟨g3, 0, none⟩) [.int .u8 97]))) ?_
  rintro v L' ⟨a9, c9, rfl, hc9, rfl⟩
  rw [hkd]
  generalize keyA = KA at *
  repeat' (first | (refine goE ?_; intros) | (refine vl_caseG rfl rfl rfl rfl ?_ ?_ <;> (intro hb; (try simp only [decide_eq_true_eq, decide_eq_false_iff_not, Bool.not_eq_true', Bool.not_eq_false', ne_eq, Decidable.not_not, Option.isNone_iff_eq_none, not_true_eq_false, not_false_eq_true] at hb); try (exfalso; omega))) | (refine v_cond rfl ?_ ?_ <;> (intro hb; (try simp only [decide_eq_true_eq, decide_eq_false_iff_not, Bool.not_eq_true', Bool.not_eq_false', ne_eq, Decidable.not_not, Option.isNone_iff_eq_none, not_true_eq_false, not_false_eq_true] at hb); try (exfalso; omega))) | fail)
  refine vl_o rfl (vo_call rfl rfl ?_)
  refine vc_mono (same_vc w0 _ ay cy KA a9 c9 KA rfl rfl) ?_
  rintro v L' ⟨rfl, rfl⟩
  rw [decide_eq_true rfl]
  repeat' (first | (refine goE ?_; intros) | (refine vl_caseG rfl rfl rfl rfl ?_ ?_ <;> (intro hb; (try simp only [decide_eq_true_eq, decide_eq_false_iff_not, Bool.not_eq_true', Bool.not_eq_false', ne_eq, Decidable.not_not, Option.isNone_iff_eq_none, not_true_eq_false, not_false_eq_true] at hb); try (exfalso; omega))) | (refine v_cond rfl ?_ ?_ <;> (intro hb; (try simp only [decide_eq_true_eq, decide_eq_false_iff_not, Bool.not_eq_true', Bool.not_eq_false', ne_eq, Decidable.not_not, Option.isNone_iff_eq_none, not_true_eq_false, not_false_eq_true] at hb); try (exfalso; omega))) | fail)
  exact ⟨L, sei _ _ _, rfl, rfl⟩
end Go.Proofs.YtnoihibaoalkaaaDoor

/-
  '==' between plain structs and arrays (of whole numbers and bools): it asks whether all cells are the same.
-/
import Derived.Test.YtpnhgmmijkjmlaaDoorLawsB
namespace Go.Proofs.YtpnhgmmijkjmlaaDoor
open Go Go.RowKit

/-- The cells of a plain type: whole numbers of some kind, or bools. -/
abbrev Shape := List (Option IntKind)

def sized (P : Program) (t : TypeId) (sh : Shape) : Option Shape := if (P.info? t).map (·.size) = some sh.length then some sh else none

mutual
def shapeOf (P : Program) : Nat → TypeId → Option Shape
  | 0, _ => none
  | f + 1, t => match P.underlying t with
    | some .bool => sized P t [none]
    | some (.int k) => sized P t [some k]
    | some (.array n e) => match shapeOf P f e with
      | some sh => sized P t (List.replicate n sh).flatten
      | none => none
    | some (.struct fs) => if P.stoodInHeld t then none else match shapesOf P f fs.toList 0 with
      | some sh => sized P t sh
      | none => none
    | _ => none
def shapesOf (P : Program) : Nat → List Field → Nat → Option Shape
  | 0, _, _ => none
  | _ + 1, [], _ => some []
  | f + 1, x :: fs, off => if x.name = "_" ∨ x.offset ≠ off then none else match shapeOf P f x.type with
    | some sh => match shapesOf P f fs (off + sh.length) with
      | some r => some (sh ++ r)
      | none => none
    | none => none
end

/-- These cells are of that shape. -/
def Fits : Shape → List Value → Prop
  | [], [] => True
  | some k :: sh, v :: vs => (∃ a, v = .int k a) ∧ Fits sh vs
  | none :: sh, v :: vs => (∃ b, v = .bool b) ∧ Fits sh vs
  | _, _ => False

theorem Fits.len : ∀ {sh : Shape} {vs : List Value}, Fits sh vs → vs.length = sh.length
  | [], [], _ => rfl
  | some _ :: _, _ :: _, h => by simp [Fits.len h.2]
  | none :: _, _ :: _, h => by simp [Fits.len h.2]
  | [], _ :: _, h => h.elim
  | some _ :: _, [], h => h.elim
  | none :: _, [], h => h.elim

theorem Fits.append : ∀ {sh sh' : Shape} {vs vs' : List Value}, Fits sh vs → Fits sh' vs' → Fits (sh ++ sh') (vs ++ vs')
  | [], _, [], _, _, h' => h'
  | some _ :: _, _, _ :: _, _, h, h' => ⟨h.1, Fits.append h.2 h'⟩
  | none :: _, _, _ :: _, _, h, h' => ⟨h.1, Fits.append h.2 h'⟩
  | [], _, _ :: _, _, h, _ => h.elim
  | some _ :: _, _, [], _, h, _ => h.elim
  | none :: _, _, [], _, h, _ => h.elim

theorem Fits.split : ∀ {sh sh' : Shape} {vs : List Value}, Fits (sh ++ sh') vs → Fits sh (vs.take sh.length) ∧ Fits sh' (vs.drop sh.length)
  | [], _, vs, h => ⟨by simp [Fits], by simpa using h⟩
  | some _ :: _, _, _ :: _, h => ⟨⟨h.1, (Fits.split h.2).1⟩, (Fits.split h.2).2⟩
  | none :: _, _, _ :: _, h => ⟨⟨h.1, (Fits.split h.2).1⟩, (Fits.split h.2).2⟩
  | some _ :: _, _, [], h => h.elim
  | none :: _, _, [], h => h.elim

/-- A value of these cells. -/
def mkV (agg : Bool) (xs : List Value) : Value := if agg then .agg xs.toArray else xs.headD undef

section
variable {P : Program}

theorem sized_spec {t : TypeId} {sh sh' : Shape} (h : sized P t sh = some sh') : sh' = sh ∧ (P.info? t).map (·.size) = some sh.length := by
  unfold sized at h
  split at h
  · exact ⟨(Option.some.inj h).symm, by assumption⟩
  · cases h

theorem shapeOf_und {f : Nat} {t : TypeId} {sh : Shape} (h : shapeOf P f t = some sh) : ∃ d, P.underlying t = some d ∧ (P.info? t).map (·.size) = some sh.length ∧ (aggB d = false → sh.length = 1) := by
  cases f with
  | zero => simp [shapeOf] at h
  | succ f =>
    simp only [shapeOf] at h
    split at h
    · rename_i hu
      have := sized_spec h
      exact ⟨_, hu, by rw [this.1]; exact this.2, fun _ => by rw [this.1]; rfl⟩
    · rename_i k hu
      have := sized_spec h
      exact ⟨_, hu, by rw [this.1]; exact this.2, fun _ => by rw [this.1]; rfl⟩
    · rename_i n e hu
      split at h
      · have := sized_spec h
        exact ⟨_, hu, by rw [this.1]; exact this.2, fun hh => by simp [aggB] at hh⟩
      · cases h
    · rename_i fs hu
      split at h
      · cases h
      · split at h
        · have := sized_spec h
          exact ⟨_, hu, by rw [this.1]; exact this.2, fun hh => by simp [aggB] at hh⟩
        · cases h
    · cases h

/-- A part of an aggregate's cells. -/
theorem run_part {t : TypeId} {d : TypeDesc} {n : Nat} (hu : P.underlying t = some d) (hi : (P.info? t).map (·.size) = some n) (h1 : aggB d = false → n = 1) (pre xs post : List Value) (hl : xs.length = n) (w : World) :
    (part t (pre ++ xs ++ post).toArray pre.length).run P w = .ok (mkV (aggB d) xs) w := by
  have hagg : (isAgg t).run P w = .ok (aggB d) w := by
    unfold isAgg
    rw [Sem.run_bind, run_underlying hu w]
    cases d <;> rfl
  obtain ⟨i, hi1, hi2⟩ := Option.map_eq_some_iff.1 hi
  simp only [part, Sem.run_bind, hagg, Result.andThen_ok]
  cases hd : aggB d with
  | true =>
    simp only [if_true, sizeOf, typeInfo, Sem.run_bind, run_program, Result.andThen_ok, hi1, hi2, Sem.run_pure, mkV]
    congr 2
    apply Array.ext'
    simp only [Array.toList_extract, List.extract_eq_take_drop]
    rw [List.append_assoc, List.drop_left, ← hl, Nat.add_sub_cancel_left, List.take_left]
  | false =>
    have h1' := h1 hd
    have : ∃ x, xs = [x] := by
      match xs, hl with
      | [x], _ => exact ⟨x, rfl⟩
      | [], hl => simp at hl; omega
      | _ :: _ :: _, hl => simp at hl; omega
    obtain ⟨x, rfl⟩ := this
    simp [mkV]

theorem run_eqFields_nil (d : Nat) (xs ys : Array Value) (w : World) : (Op.eqFields d xs ys []).run P w = .ok true w := rfl

mutual
theorem eq_of_shape : ∀ (f : Nat) {t : TypeId} {sh : Shape} {dsc : TypeDesc}, shapeOf P f t = some sh → P.underlying t = some dsc → ∀ (d : Nat), f ≤ d → ∀ (xs ys : List Value), Fits sh xs → Fits sh ys → ∀ w,
    ∃ b, (Op.equalIn d t (mkV (aggB dsc) xs) (mkV (aggB dsc) ys)).run P w = .ok b w ∧ (b = true ↔ xs = ys)
  | 0, t, sh, dsc, h, _, _, _, _, _, _, _, _ => by simp [shapeOf] at h
  | f + 1, t, sh, dsc, h, hd, 0, hle, _, _, _, _, _ => by omega
  | f + 1, t, sh, dsc, h, hd, d + 1, hle, xs, ys, hx, hy, w => by
    simp only [shapeOf, hd] at h
    cases dsc with
    | bool =>
      obtain ⟨rfl, _⟩ := sized_spec h
      match xs, ys, hx, hy with
      | [x], [y], hx, hy =>
        obtain ⟨⟨a, rfl⟩, _⟩ := hx
        obtain ⟨⟨b, rfl⟩, _⟩ := hy
        exact ⟨a == b, by simp [mkV, aggB, run_equalIn_bool' w d t a b hd], by simp⟩
    | int k =>
      obtain ⟨rfl, _⟩ := sized_spec h
      match xs, ys, hx, hy with
      | [x], [y], hx, hy =>
        obtain ⟨⟨a, rfl⟩, _⟩ := hx
        obtain ⟨⟨b, rfl⟩, _⟩ := hy
        exact ⟨a == b, by simp [mkV, aggB, run_equalIn_int w d t k k a b hd], by simp⟩
    | array n e =>
      simp only at h
      split at h
      case h_2 => cases h
      rename_i she hshe
      obtain ⟨rfl, hsz⟩ := sized_spec h
      obtain ⟨de, hde, hie, h1e⟩ := shapeOf_und hshe
      have hsize : ∀ w, (sizeOf e).run P w = .ok she.length w := fun w => by
        obtain ⟨i, hi1, hi2⟩ := Option.map_eq_some_iff.1 hie
        simp [sizeOf, typeInfo, hi1, hi2]
      -- the loop, from some element on
      have loop : ∀ (m : Nat) (k : Nat) (pre pre' xs ys : List Value), pre.length = k * she.length → pre'.length = k * she.length → Fits (List.replicate m she).flatten xs → Fits (List.replicate m she).flatten ys → ∀ w,
          ∃ r, (forIn (List.range' k m) ((none : Option Bool), ()) (fun i (_ : Option Bool × Unit) => do
            let x ← part e (pre ++ xs).toArray (i * she.length)
            let y ← part e (pre' ++ ys).toArray (i * she.length)
            let q ← Op.equalIn d e x y
            if (!q) = true then pure (ForInStep.done (some false, ())) else pure (ForInStep.yield ((none : Option Bool), ())))).run P w = .ok (r, ()) w ∧ (r = none ∧ xs = ys ∨ r = some false ∧ xs ≠ ys) := by
        intro m
        induction m with
        | zero =>
          intro k pre pre' xs ys _ _ hx hy w
          simp only [List.replicate_zero, List.flatten_nil] at hx hy
          have e1 := hx.len
          have e2 := hy.len
          simp at e1 e2
          subst e1; subst e2
          exact ⟨none, by simp, .inl ⟨rfl, rfl⟩⟩
        | succ m ih =>
          intro k pre pre' xs ys hp hp' hx hy w
          simp only [List.replicate_succ, List.flatten_cons] at hx hy
          have fx := hx.split
          have fy := hy.split
          have lx := fx.1.len
          have ly := fy.1.len
          have ex : xs = xs.take she.length ++ xs.drop she.length := (List.take_append_drop _ _).symm
          have ey : ys = ys.take she.length ++ ys.drop she.length := (List.take_append_drop _ _).symm
          have px : (part e (pre ++ xs).toArray (k * she.length)).run P w = .ok (mkV (aggB de) (xs.take she.length)) w := by
            have := run_part hde hie h1e pre (xs.take she.length) (xs.drop she.length) lx w
            rwa [List.append_assoc, List.take_append_drop, hp] at this
          have py : (part e (pre' ++ ys).toArray (k * she.length)).run P w = .ok (mkV (aggB de) (ys.take she.length)) w := by
            have := run_part hde hie h1e pre' (ys.take she.length) (ys.drop she.length) ly w
            rwa [List.append_assoc, List.take_append_drop, hp'] at this
          obtain ⟨b, hb, hbe⟩ := eq_of_shape f hshe hde d (by omega) _ _ fx.1 fy.1 w
          cases b with
          | false =>
            refine ⟨some false, by simp [List.range'_succ, px, py, hb], .inr ⟨rfl, fun e => ?_⟩⟩
            subst e
            simp at hbe
          | true =>
            have he := hbe.1 rfl
            obtain ⟨r, hr, hre⟩ := ih (k + 1) (pre ++ xs.take she.length) (pre' ++ ys.take she.length) (xs.drop she.length) (ys.drop she.length) (by rw [List.length_append, hp, lx, Nat.add_mul]; omega) (by rw [List.length_append, hp', ly, Nat.add_mul]; omega) fx.2 fy.2 w
            rw [List.append_assoc, List.append_assoc, List.take_append_drop, List.take_append_drop] at hr
            refine ⟨r, by simp only [List.range'_succ, List.forIn_cons, Sem.run_bind, px, py, hb, Result.andThen_ok]; simpa using hr, ?_⟩
            rcases hre with ⟨h1, h2⟩ | ⟨h1, h2⟩
            · exact .inl ⟨h1, by rw [ex, ey, he, h2]⟩
            · exact .inr ⟨h1, fun e => h2 (by rw [e])⟩
      obtain ⟨r, hr, hre⟩ := loop n 0 [] [] xs ys (by simp) (by simp) hx hy w
      simp only [List.nil_append] at hr
      refine ⟨r.getD true, ?_, ?_⟩
      · simp only [mkV, aggB, if_true, Op.equalIn, Sem.run_bind, run_underlying hd, Result.andThen_ok, hsize]
        rw [Std.Legacy.Range.forIn_eq_forIn_range']
        simp only [Std.Legacy.Range.size, Nat.sub_zero, Nat.add_sub_cancel, Nat.div_one]
        rw [hr]
        cases r <;> rfl
      · rcases hre with ⟨rfl, e⟩ | ⟨rfl, e⟩
        · simpa using e
        · simpa using e
    | struct fs =>
      simp only at h
      split at h
      · cases h
      rename_i hst
      split at h
      case h_2 => cases h
      rename_i shf hshf
      obtain ⟨rfl, hsz⟩ := sized_spec h
      have hfo : P.fieldsOf t = fs := by simp [Program.fieldsOf, hd]
      have hr := run_equalIn_struct (P := P) w d t xs.toArray ys.toArray (by rw [hfo]; exact hd) (by simpa using hst)
      rw [hfo] at hr
      obtain ⟨b, hb, hbe⟩ := eq_of_shapes f hshf d (by omega) [] [] xs ys rfl rfl hx hy w
      exact ⟨b, by simp only [mkV, aggB, if_true]; rw [hr]; simpa using hb, hbe⟩
    | _ => simp at h
theorem eq_of_shapes : ∀ (f : Nat) {fs : List Field} {off : Nat} {sh : Shape}, shapesOf P f fs off = some sh → ∀ (d : Nat), f ≤ d → ∀ (pre pre' xs ys : List Value), pre.length = off → pre'.length = off → Fits sh xs → Fits sh ys → ∀ w,
    ∃ b, (Op.eqFields d (pre ++ xs).toArray (pre' ++ ys).toArray fs).run P w = .ok b w ∧ (b = true ↔ xs = ys)
  | 0, fs, off, sh, h, _, _, _, _, _, _, _, _, _, _, _ => by simp [shapesOf] at h
  | f + 1, [], off, sh, h, d, hle, pre, pre', xs, ys, hp, hp', hx, hy, w => by
    simp only [shapesOf, Option.some.injEq] at h
    subst h
    have e1 := hx.len
    have e2 := hy.len
    simp at e1 e2
    subst e1; subst e2
    exact ⟨true, rfl, by simp⟩
  | f + 1, x :: fs, off, sh, h, d, hle, pre, pre', xs, ys, hp, hp', hx, hy, w => by
    simp only [shapesOf] at h
    split at h
    · cases h
    rename_i hno
    split at h
    case h_2 => cases h
    rename_i she hshe
    split at h
    case h_2 => cases h
    rename_i r hshr
    obtain rfl := Option.some.inj h
    have hname : x.name ≠ "_" := fun e => hno (.inl e)
    have hoff : x.offset = off := by
      rcases Nat.decEq x.offset off with h | h
      · exact absurd (.inr h) hno
      · exact h
    obtain ⟨de, hde, hie, h1e⟩ := shapeOf_und hshe
    have fx := hx.split
    have fy := hy.split
    have lx := fx.1.len
    have ly := fy.1.len
    have ex : xs = xs.take she.length ++ xs.drop she.length := (List.take_append_drop _ _).symm
    have ey : ys = ys.take she.length ++ ys.drop she.length := (List.take_append_drop _ _).symm
    have px : (part x.type (pre ++ xs).toArray x.offset).run P w = .ok (mkV (aggB de) (xs.take she.length)) w := by
      have := run_part hde hie h1e pre (xs.take she.length) (xs.drop she.length) lx w
      rwa [List.append_assoc, List.take_append_drop, hp, ← hoff] at this
    have py : (part x.type (pre' ++ ys).toArray x.offset).run P w = .ok (mkV (aggB de) (ys.take she.length)) w := by
      have := run_part hde hie h1e pre' (ys.take she.length) (ys.drop she.length) ly w
      rwa [List.append_assoc, List.take_append_drop, hp', ← hoff] at this
    obtain ⟨b, hb, hbe⟩ := eq_of_shape f hshe hde d (by omega) _ _ fx.1 fy.1 w
    cases b with
    | false =>
      refine ⟨false, by simp [Op.eqFields, hname, px, py, hb], ?_⟩
      constructor
      · intro e; cases e
      · intro e; subst e; simp at hbe
    | true =>
      have he := hbe.1 rfl
      obtain ⟨b, hb2, hbe2⟩ := eq_of_shapes f hshr d (by omega) (pre ++ xs.take she.length) (pre' ++ ys.take she.length) (xs.drop she.length) (ys.drop she.length) (by rw [List.length_append, hp, lx]) (by rw [List.length_append, hp', ly]) fx.2 fy.2 w
      rw [List.append_assoc, List.append_assoc, List.take_append_drop, List.take_append_drop] at hb2
      refine ⟨b, by simp [Op.eqFields, hname, px, py, hb, hb2], ?_⟩
      rw [hbe2]
      constructor
      · intro e; rw [ex, ey, he, e]
      · intro e; rw [e]
end

/-- A plain aggregate type. -/
class EqI (P : Program) (t : TypeId) (sh : outParam Shape) : Prop where
  shape : ∃ f, f ≤ 10000 ∧ shapeOf P f t = some sh
  agg : (P.underlying t).map aggB = some true
  guard : P.eqGuardType P.depth t = false

theorem EqI.run {t : TypeId} {sh : Shape} (h : EqI P t sh) {xs ys : List Value} (hx : Fits sh xs) (hy : Fits sh ys) (w : World) : ∃ b, (Op.equalIn 10000 t (.agg xs.toArray) (.agg ys.toArray)).run P w = .ok b w ∧ (b = true ↔ xs = ys) := by
  obtain ⟨f, hf, hs⟩ := h.shape
  obtain ⟨d, hd, _⟩ := shapeOf_und hs
  have ha : aggB d = true := by have := h.agg; simpa [hd] using this
  have := eq_of_shape f hs hd 10000 hf xs ys hx hy w
  simpa [mkV, ha] using this

variable {w : World} {o : Oper} {a : Act} {K : Act → World → Prop} {Q : Exit → Act → World → Prop}

theorem run_eqAgg (t ty : TypeId) (x y : Operand) (ho : o.op = .binOp .eql t x y ty) {sh : Shape} (ht : EqI P t sh) (xs ys : List Value) (hx : a.eval x = .agg xs.toArray) (hy : a.eval y = .agg ys.toArray) (fx : Fits sh xs) (fy : Fits sh ys) (φ : Prop) [Decidable φ] (hφ : xs = ys ↔ φ)
    : (execOp a.eval o).run P w = .ok (.value (.bool (decide φ))) w := by
  obtain ⟨b, hb, hbe⟩ := ht.run fx fy w
  have hbd : b = decide φ := by rw [Bool.eq_iff_iff, hbe, hφ]; simp
  simp [execOp, ho, hx, hy, run_eqGuard_agg _ _ _ _ _ _ _ ht.guard, run_eql_struct, hb, hbd]
theorem wp_eqAgg (t ty : TypeId) (x y : Operand) (ho : o.op = .binOp .eql t x y ty) {sh : Shape} (ht : EqI P t sh) (xs ys : List Value) (hx : a.eval x = .agg xs.toArray) (hy : a.eval y = .agg ys.toArray) (fx : Fits sh xs) (fy : Fits sh ys) (φ : Prop) [Decidable φ] (hφ : xs = ys ↔ φ)
    (h : K (a.put o.dst (.bool (decide φ))) w) : Runs P o a w K Q :=
  wp_val (run_eqAgg t ty x y ho ht xs ys hx hy fx fy φ hφ) h

theorem run_neAgg (t ty : TypeId) (x y : Operand) (ho : o.op = .binOp .neq t x y ty) {sh : Shape} (ht : EqI P t sh) (xs ys : List Value) (hx : a.eval x = .agg xs.toArray) (hy : a.eval y = .agg ys.toArray) (fx : Fits sh xs) (fy : Fits sh ys) (φ : Prop) [Decidable φ] (hφ : xs = ys ↔ φ)
    : (execOp a.eval o).run P w = .ok (.value (.bool (!decide φ))) w := by
  obtain ⟨b, hb, hbe⟩ := ht.run fx fy w
  have hbd : b = decide φ := by rw [Bool.eq_iff_iff, hbe, hφ]; simp
  simp [execOp, ho, hx, hy, run_eqGuard_agg _ _ _ _ _ _ _ ht.guard, run_neq_struct, hb, hbd]
theorem wp_neAgg (t ty : TypeId) (x y : Operand) (ho : o.op = .binOp .neq t x y ty) {sh : Shape} (ht : EqI P t sh) (xs ys : List Value) (hx : a.eval x = .agg xs.toArray) (hy : a.eval y = .agg ys.toArray) (fx : Fits sh xs) (fy : Fits sh ys) (φ : Prop) [Decidable φ] (hφ : xs = ys ↔ φ)
    (h : K (a.put o.dst (.bool (!decide φ))) w) : Runs P o a w K Q :=
  wp_val (run_neAgg t ty x y ho ht xs ys hx hy fx fy φ hφ) h
end

end Go.Proofs.YtpnhgmmijkjmlaaDoor

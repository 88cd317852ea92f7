/-
  Parts that are well: what they take of bytes, in plain terms. Replies in bytes, in plain terms: what the program reads, and what it means. Replies in bytes, in plain terms: the reply of bytes, and the bytes of a reply. Replies in bytes, in plain terms: a reply's bytes tell it.
-/
import Derived.Test.YtgffejpcldeklaaWirR
import Derived.Test.YtgffejpcldeklaaGP
set_option linter.unusedVariables false
set_option linter.unusedSimpArgs false
set_option linter.unusedSectionVars false

namespace Go.Proofs.Ytgffejpcldeklaa
open Go Go.RowKit
open Classical

theorem takeX_of {n : Nat} {X : List UInt8} (h : n ≤ X.length) : takeX n X = X.take n := if_neg (by omega)
theorem dropX_of {n : Nat} {X : List UInt8} (h : n ≤ X.length) : dropX n X = X.drop n := if_neg (by omega)
namespace PK
variable {S : Type}
/-- What a well part takes: what is left, and what is told. -/
def good (p : PK S) (X : List UInt8) (a : S) : Option (List UInt8 × S) :=
  if p.size ≤ X.length ∧ (p.get a (X.take p.size)).2 = true then some (X.drop p.size, (p.get a (X.take p.size)).1) else none
def goods : List (PK S) → List UInt8 → S → Option (List UInt8 × S)
  | [], X, a => some (X, a)
  | p :: ps, X, a => (p.good X a).bind fun q => goods ps q.1 q.2
theorem step_bad (p : PK S) (X : List UInt8) (a : S) : (p.step ⟨X, true, a⟩).bad = true := by
  cases p with
  | num => rfl
  | dig => rfl
  | flg => rfl
  | byt fto fread c size rd =>
    unfold step
    dsimp only
    rw [if_pos (by simp)]
theorem step_short (p : PK S) {X : List UInt8} (a : S) (h : X.length < p.size) : (p.step ⟨X, false, a⟩).bad = true := by
  cases p with
  | num g off size most set => show (false || decide (X.length < size) || _) = true; rw [decide_eq_true (show X.length < size from h)]; rfl
  | dig g off set => show (false || decide (X.length < 32) || _) = true; rw [decide_eq_true (show X.length < 32 from h)]; rfl
  | flg g off set => show (false || decide (X.length < 1) || _) = true; rw [decide_eq_true (show X.length < 1 from h)]; rfl
  | byt fto fread c size rd =>
    unfold step
    dsimp only
    rw [if_pos (by rw [decide_eq_true (show X.length < size from h)]; rfl)]
theorem step_long (p : PK S) {X : List UInt8} (a : S) (h : p.size ≤ X.length) : p.step ⟨X, false, a⟩ = ⟨X.drop p.size, !(p.get a (X.take p.size)).2, (p.get a (X.take p.size)).1⟩ := by
  cases p with
  | num g off size most set =>
    have e1 : takeX size X = X.take size := takeX_of h
    have e2 : dropX size X = X.drop size := dropX_of h
    have e3 : decide (X.length < size) = false := decide_eq_false (Nat.not_lt.2 h)
    show (⟨dropX size X, false || decide (X.length < size) || !((PK.num g off size most set).get a (takeX size X)).2, ((PK.num g off size most set).get a (takeX size X)).1⟩ : RG S) = ⟨X.drop size, !((PK.num g off size most set).get a (X.take size)).2, ((PK.num g off size most set).get a (X.take size)).1⟩
    rw [e1, e2, e3]
    rfl
  | dig g off set =>
    have e1 : takeX 32 X = X.take 32 := takeX_of h
    have e2 : dropX 32 X = X.drop 32 := dropX_of h
    have e3 : decide (X.length < 32) = false := decide_eq_false (Nat.not_lt.2 h)
    show (⟨dropX 32 X, false || decide (X.length < 32) || !((PK.dig g off set).get a (takeX 32 X)).2, ((PK.dig g off set).get a (takeX 32 X)).1⟩ : RG S) = ⟨X.drop 32, !((PK.dig g off set).get a (X.take 32)).2, ((PK.dig g off set).get a (X.take 32)).1⟩
    rw [e1, e2, e3]
    rfl
  | flg g off set =>
    have e1 : takeX 1 X = X.take 1 := takeX_of h
    have e2 : dropX 1 X = X.drop 1 := dropX_of h
    have e3 : decide (X.length < 1) = false := decide_eq_false (Nat.not_lt.2 h)
    show (⟨dropX 1 X, false || decide (X.length < 1) || !((PK.flg g off set).get a (takeX 1 X)).2, ((PK.flg g off set).get a (takeX 1 X)).1⟩ : RG S) = ⟨X.drop 1, !((PK.flg g off set).get a (X.take 1)).2, ((PK.flg g off set).get a (X.take 1)).1⟩
    rw [e1, e2, e3]
    rfl
  | byt fto fread c size rd =>
    unfold step
    dsimp only
    rw [if_neg (by rw [decide_eq_false (show ¬ X.length < size from Nat.not_lt.2 h)]; decide), takeX_of (show size ≤ X.length from h), dropX_of (show size ≤ X.length from h)]
    rfl
theorem step_good (p : PK S) (X : List UInt8) (a : S) : (∃ q, p.good X a = some q ∧ p.step ⟨X, false, a⟩ = ⟨q.1, false, q.2⟩) ∨ (p.good X a = none ∧ (p.step ⟨X, false, a⟩).bad = true) := by
  unfold good
  by_cases h1 : p.size ≤ X.length
  · rw [step_long p a h1]
    cases h2 : (p.get a (X.take p.size)).2
    · exact .inr ⟨if_neg (fun e => absurd e.2 (by decide)), rfl⟩
    · exact .inl ⟨_, if_pos ⟨h1, rfl⟩, rfl⟩
  · exact .inr ⟨if_neg (fun e => h1 e.1), step_short p a (by omega)⟩
theorem fold_bad : ∀ (ps : List (PK S)) (X : List UInt8) (a : S), (fold ps ⟨X, true, a⟩).bad = true
  | [], _, _ => rfl
  | p :: ps, X, a => by
    have h := step_bad p X a
    show (fold ps (p.step ⟨X, true, a⟩)).bad = true
    generalize p.step ⟨X, true, a⟩ = s at h
    obtain ⟨Y, b, c⟩ := s
    dsimp only at h
    subst h
    exact fold_bad ps Y c
theorem fold_good : ∀ (ps : List (PK S)) (X : List UInt8) (a : S), (∃ q, goods ps X a = some q ∧ fold ps ⟨X, false, a⟩ = ⟨q.1, false, q.2⟩) ∨ (goods ps X a = none ∧ (fold ps ⟨X, false, a⟩).bad = true)
  | [], X, a => .inl ⟨(X, a), rfl, rfl⟩
  | p :: ps, X, a => by
    have e1 : fold (p :: ps) ⟨X, false, a⟩ = fold ps (p.step ⟨X, false, a⟩) := rfl
    have e2 : goods (p :: ps) X a = (p.good X a).bind fun q => goods ps q.1 q.2 := rfl
    rw [e1, e2]
    rcases step_good p X a with ⟨q, h1, h2⟩ | ⟨h1, h2⟩
    · rw [h1, h2]
      exact fold_good ps q.1 q.2
    · refine .inr ⟨by rw [h1]; rfl, ?_⟩
      generalize p.step ⟨X, false, a⟩ = s at h2
      obtain ⟨Y, b, c⟩ := s
      dsimp only at h2
      subst h2
      exact fold_bad ps Y c
theorem good_num {g off size most : Nat} {set : S → Nat → S} (h8 : size ≤ 8) {X R : List UInt8} {a a' : S} : (PK.num g off size most set).good X a = some (R, a') ↔ ∃ v, v ≤ most ∧ v < 256 ^ size ∧ X = digs v size ++ R ∧ a' = set a v := by
  unfold good
  constructor
  · intro h
    split at h
    · rename_i h1
      obtain ⟨h1, h2⟩ := h1
      have h1 : size ≤ X.length := h1
      have h2 : (!decide (most < numOf (X.take size))) = true := h2
      simp only [Bool.not_eq_true', decide_eq_false_iff_not] at h2
      obtain ⟨e1, e2⟩ := Prod.mk.inj (Option.some.inj h)
      have e1 : X.drop size = R := e1
      have e2 : set a (min (numOf (X.take size)) most) = a' := e2
      obtain ⟨d1, d2⟩ := digs_numOf size (X.take size) (by rw [List.length_take]; omega) h8
      refine ⟨numOf (X.take size), by omega, d2, ?_, ?_⟩
      · rw [d1, ← e1, List.take_append_drop]
      · rw [← e2, Nat.min_eq_left (by omega)]
    · cases h
  · rintro ⟨v, h1, h2, rfl, rfl⟩
    have hl := digs_length v size
    have e1 : (digs v size ++ R).take size = digs v size := List.take_left' hl
    have e2 : (digs v size ++ R).drop size = R := List.drop_left' hl
    have e3 := numOf_digs size v h8 h2
    rw [if_pos]
    · show some ((digs v size ++ R).drop size, set a (min (numOf ((digs v size ++ R).take size)) most)) = _
      rw [e1, e2, e3, Nat.min_eq_left h1]
    · refine ⟨by show size ≤ _; rw [List.length_append, hl]; omega, ?_⟩
      show (!decide (most < numOf ((digs v size ++ R).take size))) = true
      rw [e1, e3, decide_eq_false (by omega)]
      rfl
theorem good_dig {g off : Nat} {set : S → List UInt8 → S} {X R : List UInt8} {a a' : S} : (PK.dig g off set).good X a = some (R, a') ↔ ∃ d : List UInt8, d.length = 32 ∧ X = d ++ R ∧ a' = set a d := by
  unfold good
  constructor
  · intro h
    split at h
    · rename_i h1
      have h1 : 32 ≤ X.length := h1.1
      obtain ⟨e1, e2⟩ := Prod.mk.inj (Option.some.inj h)
      have e1 : X.drop 32 = R := e1
      have e2 : set a (X.take 32) = a' := e2
      exact ⟨X.take 32, by rw [List.length_take]; omega, by rw [← e1, List.take_append_drop], e2.symm⟩
    · cases h
  · rintro ⟨d, h1, rfl, rfl⟩
    have e1 : (d ++ R).take 32 = d := List.take_left' h1
    have e2 : (d ++ R).drop 32 = R := List.drop_left' h1
    rw [if_pos ⟨by show 32 ≤ _; rw [List.length_append, h1]; omega, rfl⟩]
    show some ((d ++ R).drop 32, set a ((d ++ R).take 32)) = _
    rw [e1, e2]
theorem good_flg {g off : Nat} {set : S → Bool → S} {X R : List UInt8} {a a' : S} : (PK.flg g off set).good X a = some (R, a') ↔ ∃ b : Bool, X = (if b = true then 1 else 0) :: R ∧ a' = set a b := by
  unfold good
  constructor
  · intro h
    split at h
    · rename_i h1
      have h2 := h1.2
      have h1 : 1 ≤ X.length := h1.1
      obtain ⟨e1, e2⟩ := Prod.mk.inj (Option.some.inj h)
      have e1 : X.drop 1 = R := e1
      have e2 : set a (decide ((X.take 1).getD 0 0 = 1)) = a' := e2
      have h2 : (!decide (1 < ((X.take 1).getD 0 0).toNat)) = true := h2
      cases X with
      | nil => simp at h1
      | cons x Y =>
        simp only [List.take_succ_cons, List.take_zero, List.getD_cons_zero, Bool.not_eq_true', decide_eq_false_iff_not, List.drop_succ_cons, List.drop_zero] at h2 e1 e2
        subst e1
        refine ⟨decide (x = 1), ?_, e2.symm⟩
        by_cases hx : x = 1
        · rw [if_pos (decide_eq_true hx), hx]
        · rw [if_neg (by simpa using hx)]
          have h3 : x.toNat ≠ 1 := fun e => hx (UInt8.toNat_inj.1 e)
          have : x = 0 := UInt8.toNat_inj.1 (by show x.toNat = 0; omega)
          rw [this]
    · cases h
  · rintro ⟨b, rfl, rfl⟩
    have e0 : (((if b = true then 1 else 0) :: R : List UInt8).take 1).getD 0 0 = (if b = true then 1 else 0) := rfl
    rw [if_pos]
    · show some (R, set a (decide ((if b = true then (1 : UInt8) else 0) = 1))) = _
      cases b <;> rfl
    · refine ⟨by show 1 ≤ _; simp, ?_⟩
      show (!decide (1 < (((if b = true then (1 : UInt8) else 0) :: R).take 1 |>.getD 0 0).toNat)) = true
      cases b <;> rfl
theorem good_byt {fto fread : FuncId} {c : Value} {size : Nat} {rd : S → List UInt8 → S × Bool} {X R : List UInt8} {a a' : S} : (PK.byt fto fread c size rd).good X a = some (R, a') ↔ ∃ Y : List UInt8, Y.length = size ∧ X = Y ++ R ∧ (rd a Y).2 = true ∧ a' = (rd a Y).1 := by
  unfold good
  constructor
  · intro h
    split at h
    · rename_i h1
      have h2 : (rd a (X.take size)).2 = true := h1.2
      have h1 : size ≤ X.length := h1.1
      obtain ⟨e1, e2⟩ := Prod.mk.inj (Option.some.inj h)
      have e1 : X.drop size = R := e1
      exact ⟨X.take size, by rw [List.length_take]; omega, by rw [← e1, List.take_append_drop], h2, e2.symm⟩
    · cases h
  · rintro ⟨Y, h1, rfl, h2, rfl⟩
    have e1 : (Y ++ R).take size = Y := List.take_left' h1
    have e2 : (Y ++ R).drop size = R := List.drop_left' h1
    rw [if_pos]
    · show some ((Y ++ R).drop size, (rd a ((Y ++ R).take size)).1) = _
      rw [e1, e2]
    · refine ⟨by show size ≤ _; rw [List.length_append, h1]; omega, ?_⟩
      show (rd a ((Y ++ R).take size)).2 = true
      rw [e1]
      exact h2
theorem goods_cons {p : PK S} {ps : List (PK S)} {X R : List UInt8} {a a' : S} : goods (p :: ps) X a = some (R, a') ↔ ∃ Y b, p.good X a = some (Y, b) ∧ goods ps Y b = some (R, a') := by
  show ((p.good X a).bind fun q => goods ps q.1 q.2) = some (R, a') ↔ _
  cases h : p.good X a with
  | none => exact ⟨fun e => (by cases e), fun ⟨_, _, e, _⟩ => (by cases e)⟩
  | some q => exact ⟨fun e => ⟨q.1, q.2, rfl, e⟩, fun ⟨Y, b, e1, e2⟩ => by obtain rfl := Option.some.inj e1; exact e2⟩
theorem goods_nil {X R : List UInt8} {a a' : S} : goods ([] : List (PK S)) X a = some (R, a') ↔ X = R ∧ a' = a := by
  show some (X, a) = some (R, a') ↔ _
  rw [Option.some.injEq, Prod.mk.injEq]
  exact ⟨fun e => ⟨e.1, e.2.symm⟩, fun e => ⟨e.1, e.2.symm⟩⟩
/-- A fold that is well. -/
theorem fold_iff {ps : List (PK S)} {X R : List UInt8} {a a' : S} : fold ps ⟨X, false, a⟩ = ⟨R, false, a'⟩ ↔ goods ps X a = some (R, a') := by
  rcases fold_good ps X a with ⟨q, h1, h2⟩ | ⟨h1, h2⟩
  · rw [h1, h2, Option.some.injEq, RG.mk.injEq]
    obtain ⟨q1, q2⟩ := q
    simp
  · rw [h1]
    exact ⟨fun e => (by rw [e] at h2; cases h2), fun e => (by cases e)⟩
end PK
end Go.Proofs.Ytgffejpcldeklaa
namespace Go.Proofs.Ytgffejpcldeklaa
open Go Go.RowKit
open Classical

/-- The header of bytes, and the error. -/
def hdOf (l : List UInt8) : Hd := ⟨(numOf (l.take 8) : Int), (l.drop 8).take 32, (l.drop 40).take 32, (l.drop 72).take 32, (numOf (l.drop 104) : Int)⟩
def hdRead (l : List UInt8) : Hd × Int := if l.length < 108 then (hd0, 10) else if 108 < l.length then (hd0, 11) else if (hdOf l).may = true then (hdOf l, 0) else (hd0, 8)
theorem hdOf_ok {l : List UInt8} (h : l.length = 108) : (hdOf l).ok := ⟨by simp [hdOf, h], by simp [hdOf, h], by simp [hdOf, h]⟩
theorem hdRead_ok (l : List UInt8) : (hdRead l).1.ok := by
  unfold hdRead
  split
  · exact hd0_ok
  split
  · exact hd0_ok
  split
  · exact hdOf_ok (by omega)
  · exact hd0_ok
theorem hdRead_i64 (l : List UInt8) : I64 (hdRead l).1.height ∧ I64 (hdRead l).1.many := by
  unfold hdRead
  split
  · exact ⟨I64_0, I64_0⟩
  split
  · exact ⟨I64_0, I64_0⟩
  split
  · rename_i h
    have := of_decide_eq_true h
    constructor
    · unfold I64; dsimp only; omega
    · unfold I64; dsimp only; omega
  · exact ⟨I64_0, I64_0⟩
theorem recRead_i64 (l : List UInt8) : I64 (recRead l).1.code := by
  unfold recRead
  split
  · exact I64_0
  split
  · exact I64_0
  split
  · rename_i h
    have := of_decide_eq_true h
    unfold I64
    dsimp only
    omega
  · exact I64_0
theorem hBytes_len {h : Hd} (o : h.ok) : (hBytes h).length = 108 := by simp [hBytes, digs_length, o.parent, o.state, o.rows]
theorem hdOf_bytes {l : List UInt8} (h : l.length = 108) : hBytes (hdOf l) = l := by
  have e1 := (digs_numOf 8 (l.take 8) (by simp; omega) (by decide)).1
  have e2 := (digs_numOf 4 (l.drop 104) (by simp; omega) (by decide)).1
  show digs ((numOf (l.take 8) : Int).toNat) 8 ++ ((l.drop 8).take 32 ++ ((l.drop 40).take 32 ++ ((l.drop 72).take 32 ++ digs ((numOf (l.drop 104) : Int).toNat) 4))) = l
  rw [Int.toNat_natCast, Int.toNat_natCast, e1, e2]
  have a1 : (l.drop 72).take 32 ++ l.drop 104 = l.drop 72 := by
    have := List.take_append_drop 32 (l.drop 72)
    rwa [List.drop_drop] at this
  have a2 : (l.drop 40).take 32 ++ l.drop 72 = l.drop 40 := by
    have := List.take_append_drop 32 (l.drop 40)
    rwa [List.drop_drop] at this
  have a3 : (l.drop 8).take 32 ++ l.drop 40 = l.drop 8 := by
    have := List.take_append_drop 32 (l.drop 8)
    rwa [List.drop_drop] at this
  rw [a1, a2, a3, List.take_append_drop]
theorem hdOf_of {h : Hd} (o : h.ok) (hm : h.may = true) : hdOf (hBytes h) = h := by
  have hr := of_decide_eq_true hm
  obtain ⟨H, hH⟩ : ∃ H : Nat, h.height = H := ⟨h.height.toNat, by omega⟩
  obtain ⟨M, hM⟩ : ∃ M : Nat, h.many = M := ⟨h.many.toNat, by omega⟩
  have l1 := digs_length H 8
  have l2 := digs_length M 4
  have n1 := numOf_digs 8 H (by decide) (by rw [show (256 : Nat) ^ 8 = 18446744073709551616 from by decide]; omega)
  have n2 := numOf_digs 4 M (by decide) (by rw [show (256 : Nat) ^ 4 = 4294967296 from by decide]; omega)
  have e : hBytes h = digs H 8 ++ (h.parent ++ (h.state ++ (h.rows ++ digs M 4))) := by
    unfold hBytes
    rw [hH, hM]
    rfl
  have d8 : (hBytes h).drop 8 = h.parent ++ (h.state ++ (h.rows ++ digs M 4)) := by rw [e, List.drop_left' l1]
  have d40 : (hBytes h).drop 40 = h.state ++ (h.rows ++ digs M 4) := by
    rw [show 40 = 8 + 32 from rfl, ← List.drop_drop, d8, List.drop_left' o.parent]
  have d72 : (hBytes h).drop 72 = h.rows ++ digs M 4 := by
    rw [show 72 = 40 + 32 from rfl, ← List.drop_drop, d40, List.drop_left' o.state]
  have d104 : (hBytes h).drop 104 = digs M 4 := by
    rw [show 104 = 72 + 32 from rfl, ← List.drop_drop, d72, List.drop_left' o.rows]
  have t8 : (hBytes h).take 8 = digs H 8 := by rw [e, List.take_left' l1]
  unfold hdOf
  rw [t8, d8, d40, d72, d104, n1, n2, List.take_left' o.parent, List.take_left' o.state, List.take_left' o.rows, ← hH, ← hM]
theorem hdRead_iff {Y : List UInt8} {x : Hd} (hY : Y.length = 108) (o : x.ok) : (hdRead Y = (x, 0)) ↔ x.may = true ∧ Y = hBytes x := by
  unfold hdRead
  rw [if_neg (by omega), if_neg (by omega)]
  constructor
  · intro h
    split at h
    · rename_i hm
      obtain ⟨rfl, _⟩ := Prod.mk.inj h
      exact ⟨hm, (hdOf_bytes hY).symm⟩
    · have := (Prod.mk.inj h).2
      cases this
  · rintro ⟨hm, rfl⟩
    rw [hdOf_of o hm, if_pos hm]
theorem recBytes_of {l : List UInt8} (h : l.length = 35) : recBytes (recOf l) = l := by
  have e2 := (digs_numOf 2 (l.drop 33) (by simp; omega) (by decide)).1
  show UInt8.ofNat (l.getD 0 0).toNat :: ((l.drop 1).take 32 ++ digs ((numOf (l.drop 33) : Int).toNat) 2) = l
  rw [Int.toNat_natCast, e2]
  cases l with
  | nil => simp at h
  | cons x t =>
    have a1 : t.take 32 ++ t.drop 32 = t := List.take_append_drop _ _
    show UInt8.ofNat x.toNat :: (t.take 32 ++ t.drop 32) = x :: t
    rw [a1]
    simp
theorem recOf_of {x : Rec} (o : x.ok) (hm : x.may = true) : recOf (recBytes x) = x := by
  have hr := of_decide_eq_true hm
  obtain ⟨C, hC⟩ : ∃ C : Nat, x.code = C := ⟨x.code.toNat, by omega⟩
  have hk : x.kind < 256 := o.kind
  have n1 := numOf_digs 2 C (by decide) (by omega)
  have l1 := digs_length C 2
  unfold recOf recBytes
  have e1 : ((UInt8.ofNat x.kind :: (x.id ++ digs x.code.toNat 2)).drop 1).take 32 = x.id := by
    show (x.id ++ digs x.code.toNat 2).take 32 = x.id
    exact List.take_left' o.id
  have e2 : (UInt8.ofNat x.kind :: (x.id ++ digs x.code.toNat 2)).drop 33 = digs x.code.toNat 2 := by
    show (x.id ++ digs x.code.toNat 2).drop 32 = _
    exact List.drop_left' o.id
  rw [e1, e2, hC, Int.toNat_natCast, n1]
  have e3 : ((UInt8.ofNat x.kind :: (x.id ++ digs C 2)).getD 0 0).toNat = x.kind := by
    show (UInt8.ofNat x.kind).toNat = x.kind
    simp
    omega
  rw [e3, ← hC]
theorem recBytes_len {x : Rec} (o : x.ok) : (recBytes x).length = 35 := by simp [recBytes, o.id, digs_length]
theorem recRead_iff {Y : List UInt8} {x : Rec} (hY : Y.length = 35) (o : x.ok) : (recRead Y = (x, 0)) ↔ x.may = true ∧ Y = recBytes x := by
  unfold recRead
  rw [if_neg (by omega), if_neg (by omega)]
  constructor
  · intro h
    split at h
    · rename_i hm
      obtain ⟨rfl, _⟩ := Prod.mk.inj h
      exact ⟨hm, (recBytes_of hY).symm⟩
    · have := (Prod.mk.inj h).2
      cases this
  · rintro ⟨hm, rfl⟩
    rw [recOf_of o hm, if_pos hm]
/-- An account's bytes. -/
def accB (n b : Nat) : List UInt8 := digs n 8 ++ digs b 8
theorem accB_len (n b : Nat) : (accB n b).length = 16 := by simp [accB, digs_length]
theorem accR_16 {Y : List UInt8} (h : Y.length = 16) : (accR Y).1 = numOf (Y.take 8) ∧ (accR Y).2.1 = numOf (Y.drop 8) ∧ ((accR Y).2.2 = 0 ∨ (accR Y).2.2 = 8) := by
  unfold accR
  rw [if_neg (by omega), if_neg (by omega)]
  split
  · rename_i hz
    exact ⟨hz.1.symm, hz.2.symm, .inr rfl⟩
  · exact ⟨rfl, rfl, .inl rfl⟩
theorem accB_of {Y : List UInt8} (h : Y.length = 16) : accB (accR Y).1 (accR Y).2.1 = Y := by
  obtain ⟨e1, e2, _⟩ := accR_16 h
  unfold accB
  rw [e1, e2, (digs_numOf 8 (Y.take 8) (by simp; omega) (by decide)).1, (digs_numOf 8 (Y.drop 8) (by simp; omega) (by decide)).1, List.take_append_drop]
theorem accR_of {n b : Nat} (hn : n < 18446744073709551616) (hb : b < 18446744073709551616) : (accR (accB n b)).1 = n ∧ (accR (accB n b)).2.1 = b ∧ ((accR (accB n b)).2.2 = 0 ∨ (accR (accB n b)).2.2 = 8) := by
  have hp : (256 : Nat) ^ 8 = 18446744073709551616 := by decide
  obtain ⟨e1, e2, e3⟩ := accR_16 (accB_len n b)
  have t : (accB n b).take 8 = digs n 8 := List.take_left' (digs_length n 8)
  have d : (accB n b).drop 8 = digs b 8 := List.drop_left' (digs_length n 8)
  rw [t, numOf_digs 8 n (by decide) (by omega)] at e1
  rw [d, numOf_digs 8 b (by decide) (by omega)] at e2
  exact ⟨e1, e2, e3⟩
/-! ### A proof among bytes -/
def Prf.wKey (p : Prf) (d : List UInt8) : Prf := ⟨d, p.kind, p.other, p.va, p.vc, p.vl, p.pa, p.pc, p.pl⟩
def Prf.wKind (p : Prf) (k : Nat) : Prf := ⟨p.key, k, p.other, p.va, p.vc, p.vl, p.pa, p.pc, p.pl⟩
def Prf.wOther (p : Prf) (d : List UInt8) : Prf := ⟨p.key, p.kind, d, p.va, p.vc, p.vl, p.pa, p.pc, p.pl⟩
def Prf.wVl (p : Prf) (v : List UInt8) : Prf := ⟨p.key, p.kind, p.other, p.va, p.vc, v, p.pa, p.pc, p.pl⟩
def Prf.wPl (p : Prf) (l : List (List UInt8)) : Prf := ⟨p.key, p.kind, p.other, p.va, p.vc, p.vl, p.pa, p.pc, l⟩
def prfB (p : Prf) : List UInt8 := p.key ++ (UInt8.ofNat p.kind :: ((if p.kind = 2 then p.other else []) ++ ((if p.kind ≠ 0 then digs p.vl.length 2 ++ p.vl else []) ++ (digs p.pl.length 2 ++ p.pl.flatten))))
/-- A proof's key and kind. -/
def sK (s : Prf × Nat) (d : List UInt8) : Prf × Nat := ((s.1.wKey d), s.2)
def sE (s : Prf × Nat) (v : Nat) : Prf × Nat := (s.1, v)
def sO (p : Prf) (d : List UInt8) : Prf := (p.wOther d)
/-- A part with its length ahead of it. -/
def takeP (X : List UInt8) : List UInt8 × List UInt8 × Int :=
  if X.length < 2 then ([], [], 10) else if 4096 < numOf (X.take 2) then ([], [], 4) else if X.length - 2 < numOf (X.take 2) then ([], [], 10)
  else ((X.drop 2).take (numOf (X.take 2)), (X.drop 2).drop (numOf (X.take 2)), 0)
/-- Sides, one after another. -/
def sideG (d : List UInt8) : List (PK (List UInt8)) := [.dig 0 0 (fun _ e => e)]
def sidesS : Nat → RG (List (List UInt8)) → RG (List (List UInt8))
  | 0, s => s
  | m + 1, s => if s.bad = true then s else sidesS m ⟨(PK.fold (sideG []) ⟨s.r, s.bad, zero32⟩).r, (PK.fold (sideG []) ⟨s.r, s.bad, zero32⟩).bad, s.a ++ [(PK.fold (sideG []) ⟨s.r, s.bad, zero32⟩).a]⟩
def keyP (g e : Nat) : List (PK (Prf × Nat)) := [.dig g 71 sK, .num e 0 1 2 sE]
def kpR (X : List UInt8) (bad : Bool) (p : Prf) : RG (Prf × Nat) := PK.fold (keyP 0 0) ⟨X, bad, (p, 0)⟩
def othP (g : Nat) : List (PK Prf) := [.dig g 104 sO]
def manyP (g : Nat) : List (PK Nat) := [.num g 0 2 256 (fun _ v => v)]
def withK (s : Prf × Nat) : Prf := (s.1.wKind s.2)
/-- The value of a proof. -/
def valS (s : RG Prf) : RG Prf := if s.a.kind = 0 then s else ⟨(takeP s.r).2.1, s.bad || decide ((takeP s.r).2.2 ≠ 0), (s.a.wVl ((takeP s.r).1))⟩
def othS (s : RG Prf) : RG Prf := if s.a.kind = 2 then PK.fold (othP 0) s else s
def endS (s : RG Prf) : RG Prf :=
  let m : RG Nat := PK.fold (manyP 0) ⟨s.r, s.bad, 0⟩
  let q : RG (List (List UInt8)) := sidesS m.a ⟨m.r, m.bad, []⟩
  ⟨q.r, q.bad, (s.a.wPl q.a)⟩
def prfS (X : List UInt8) (bad : Bool) (p : Prf) : RG Prf :=
  endS (valS (othS ⟨(kpR X bad p).r, (kpR X bad p).bad, withK (kpR X bad p).a⟩))

/-! ### What a well proof among bytes is -/
theorem bad_true {S : Type} {ps : List (PK S)} {X : List UInt8} {a : S} (h : (PK.fold ps ⟨X, true, a⟩).bad = false) : False := by
  rw [PK.fold_bad] at h
  cases h
theorem fold_eta {S : Type} {ps : List (PK S)} {X : List UInt8} {bad : Bool} {a : S} (h : (PK.fold ps ⟨X, bad, a⟩).bad = false) : bad = false ∧ PK.goods ps X a = some ((PK.fold ps ⟨X, bad, a⟩).r, (PK.fold ps ⟨X, bad, a⟩).a) := by
  cases bad with
  | true => exact absurd h (fun e => bad_true e)
  | false =>
    refine ⟨rfl, PK.fold_iff.1 ?_⟩
    generalize PK.fold ps ⟨X, false, a⟩ = s at h
    obtain ⟨R, b, c⟩ := s
    dsimp only at h
    rw [h]
theorem digs_one (v : Nat) : digs v 1 = [UInt8.ofNat v] := by
  show UInt8.ofNat (v / 256 ^ 0) :: digs v 0 = _
  rw [Nat.pow_zero, Nat.div_one]
  rfl
theorem kp_good {X R : List UInt8} {p : Prf} {s : Prf × Nat} : PK.goods (keyP 0 0) X (p, 0) = some (R, s) ↔ ∃ d : List UInt8, d.length = 32 ∧ ∃ v : Nat, v ≤ 2 ∧ X = d ++ (UInt8.ofNat v :: R) ∧ s = ((p.wKey d), v) := by
  unfold keyP
  simp only [PK.goods_cons, PK.goods_nil]
  constructor
  · rintro ⟨Y, b, h1, Z, c, h2, rfl, rfl⟩
    obtain ⟨d, hd, rfl, rfl⟩ := PK.good_dig.1 h1
    obtain ⟨v, hv, _, rfl, rfl⟩ := (PK.good_num (by decide)).1 h2
    exact ⟨d, hd, v, hv, by rw [digs_one]; rfl, rfl⟩
  · rintro ⟨d, hd, v, hv, rfl, rfl⟩
    refine ⟨_, _, PK.good_dig.2 ⟨d, hd, rfl, rfl⟩, _, _, (PK.good_num (by decide)).2 ⟨v, hv, by omega, by rw [digs_one]; rfl, rfl⟩, rfl, rfl⟩
theorem oth_good {X R : List UInt8} {p q : Prf} : PK.goods (othP 0) X p = some (R, q) ↔ ∃ d : List UInt8, d.length = 32 ∧ X = d ++ R ∧ q = (p.wOther d) := by
  unfold othP
  simp only [PK.goods_cons, PK.goods_nil]
  constructor
  · rintro ⟨Y, b, h1, rfl, rfl⟩
    exact PK.good_dig.1 h1
  · rintro ⟨d, hd, rfl, rfl⟩
    exact ⟨_, _, PK.good_dig.2 ⟨d, hd, rfl, rfl⟩, rfl, rfl⟩
theorem many_good {X R : List UInt8} {m : Nat} : PK.goods (manyP 0) X 0 = some (R, m) ↔ m ≤ 256 ∧ X = digs m 2 ++ R := by
  unfold manyP
  simp only [PK.goods_cons, PK.goods_nil]
  constructor
  · rintro ⟨Y, b, h1, rfl, rfl⟩
    obtain ⟨v, hv, _, rfl, rfl⟩ := (PK.good_num (by decide)).1 h1
    exact ⟨hv, rfl⟩
  · rintro ⟨hm, rfl⟩
    exact ⟨_, _, (PK.good_num (by decide)).2 ⟨m, hm, by omega, rfl, rfl⟩, rfl, rfl⟩
theorem side_good {X R : List UInt8} {z d : List UInt8} : PK.goods (sideG []) X z = some (R, d) ↔ d.length = 32 ∧ X = d ++ R := by
  unfold sideG
  simp only [PK.goods_cons, PK.goods_nil]
  constructor
  · rintro ⟨Y, b, h1, rfl, rfl⟩
    obtain ⟨e, he, rfl, rfl⟩ := PK.good_dig.1 h1
    exact ⟨he, rfl⟩
  · rintro ⟨hd, rfl⟩
    exact ⟨_, _, PK.good_dig.2 ⟨d, hd, rfl, rfl⟩, rfl, rfl⟩
theorem takeP_good {X R v : List UInt8} : takeP X = (v, R, 0) ↔ v.length ≤ 4096 ∧ X = digs v.length 2 ++ (v ++ R) := by
  unfold takeP
  constructor
  · intro h
    split at h
    · exact absurd (Prod.mk.inj (Prod.mk.inj h).2).2 (by decide)
    split at h
    · exact absurd (Prod.mk.inj (Prod.mk.inj h).2).2 (by decide)
    split at h
    · exact absurd (Prod.mk.inj (Prod.mk.inj h).2).2 (by decide)
    rename_i h1 h2 h3
    obtain ⟨e1, e2⟩ := Prod.mk.inj h
    obtain ⟨e2, _⟩ := Prod.mk.inj e2
    have hl : v.length = numOf (X.take 2) := by
      rw [← e1, List.length_take, List.length_drop]
      omega
    have hd := (digs_numOf 2 (X.take 2) (by simp; omega) (by decide)).1
    refine ⟨by omega, ?_⟩
    rw [hl, hd, ← e1, ← e2, List.take_append_drop, List.take_append_drop]
  · rintro ⟨h1, rfl⟩
    have hl := digs_length v.length 2
    have t : (digs v.length 2 ++ (v ++ R)).take 2 = digs v.length 2 := List.take_left' hl
    have d : (digs v.length 2 ++ (v ++ R)).drop 2 = v ++ R := List.drop_left' hl
    have n := numOf_digs 2 v.length (by decide) (by omega)
    rw [t, d, n]
    have hL : (digs v.length 2 ++ (v ++ R)).length = 2 + (v.length + R.length) := by simp [hl]
    rw [if_neg (by omega), if_neg (by omega), if_neg (by omega), List.take_left, List.drop_left]
theorem sides_bad : ∀ (m : Nat) (X : List UInt8) (a : List (List UInt8)), (sidesS m ⟨X, true, a⟩).bad = true
  | 0, _, _ => rfl
  | m + 1, X, a => by
    unfold sidesS
    rw [if_pos rfl]
theorem sides_good : ∀ (m : Nat) (X R : List UInt8) (a b : List (List UInt8)), sidesS m ⟨X, false, a⟩ = ⟨R, false, b⟩ ↔ ∃ l : List (List UInt8), l.length = m ∧ Dg l ∧ X = l.flatten ++ R ∧ b = a ++ l
  | 0, X, R, a, b => by
    show (⟨X, false, a⟩ : RG _) = ⟨R, false, b⟩ ↔ _
    constructor
    · intro h
      injection h with h1 h2 h3
      exact ⟨[], rfl, fun x hx => (by cases hx), by simp [h1], by simp [h3]⟩
    · rintro ⟨l, hl, _, rfl, rfl⟩
      obtain rfl := List.eq_nil_of_length_eq_zero hl
      simp
  | m + 1, X, R, a, b => by
    unfold sidesS
    rw [if_neg (show ¬ false = true by decide)]
    dsimp only
    rcases PK.fold_good (sideG []) X zero32 with ⟨⟨Y, d⟩, h1, h2⟩ | ⟨h1, h2⟩
    · rw [h2]
      obtain ⟨hd, rfl⟩ := side_good.1 h1
      rw [sides_good m Y R (a ++ [d]) b]
      constructor
      · rintro ⟨l, hl, hg, rfl, rfl⟩
        refine ⟨d :: l, by simp [hl], fun x hx => ?_, by simp, by simp⟩
        rcases List.mem_cons.1 hx with rfl | hx
        · exact hd
        · exact hg x hx
      · rintro ⟨l, hl, hg, he, rfl⟩
        cases l with
        | nil => simp at hl
        | cons e l =>
          rw [List.flatten_cons, List.append_assoc] at he
          obtain ⟨e1, e2⟩ := List.append_inj he (by rw [hd, hg e (by simp)])
          subst e1
          exact ⟨l, by simpa using hl, fun x hx => hg x (by simp [hx]), e2, by simp⟩
    · rw [h2]
      constructor
      · intro h
        have := sides_bad m (PK.fold (sideG []) ⟨X, false, zero32⟩).r (a ++ [(PK.fold (sideG []) ⟨X, false, zero32⟩).a])
        rw [h] at this
        cases this
      · rintro ⟨l, hl, hg, rfl, rfl⟩
        cases l with
        | nil => simp at hl
        | cons e l =>
          have := (side_good (X := e ++ (l.flatten ++ R)) (R := l.flatten ++ R) (z := zero32) (d := e)).2 ⟨hg e (by simp), rfl⟩
          rw [List.flatten_cons, List.append_assoc] at h1
          rw [h1] at this
          cases this
/-- What is read as a proof. -/
structure PrfIs (q : Prf) : Prop where
  key : q.key.length = 32
  kind : q.kind ≤ 2
  other : q.other.length = 32
  bare : q.kind ≠ 2 → q.other = zero32
  none' : q.kind = 0 → q.vl = []
  vl : q.vl.length ≤ 4096
  pl : q.pl.length ≤ 256
  dg : Dg q.pl
theorem end_good {X R : List UInt8} {bad : Bool} {p q : Prf} : endS ⟨X, bad, p⟩ = ⟨R, false, q⟩ ↔ bad = false ∧ ∃ l : List (List UInt8), l.length ≤ 256 ∧ Dg l ∧ X = digs l.length 2 ++ (l.flatten ++ R) ∧ q = (p.wPl l) := by
  unfold endS
  dsimp only
  cases bad with
  | true =>
    have h1 := PK.fold_bad (manyP 0) X 0
    generalize PK.fold (manyP 0) ⟨X, true, 0⟩ = m at h1
    obtain ⟨Y, b, v⟩ := m
    dsimp only at h1 ⊢
    subst h1
    have h2 := sides_bad v Y []
    constructor
    · intro h
      injection h with a1 a2 a3
      rw [h2] at a2
      cases a2
    · rintro ⟨h, _⟩
      cases h
  | false =>
    rcases PK.fold_good (manyP 0) X 0 with ⟨⟨Y, v⟩, h1, h2⟩ | ⟨h1, h2⟩
    · rw [h2]
      dsimp only
      obtain ⟨hv, rfl⟩ := many_good.1 h1
      constructor
      · intro h
        injection h with a1 a2 a3
        have : sidesS v ⟨Y, false, []⟩ = ⟨R, false, (sidesS v ⟨Y, false, []⟩).a⟩ := by
          have e : sidesS v ⟨Y, false, []⟩ = ⟨(sidesS v ⟨Y, false, []⟩).r, (sidesS v ⟨Y, false, []⟩).bad, (sidesS v ⟨Y, false, []⟩).a⟩ := rfl
          rw [a1, a2] at e
          exact e
        obtain ⟨l, hl, hg, rfl, hb⟩ := (sides_good v Y R [] _).1 this
        rw [List.nil_append] at hb
        exact ⟨rfl, l, by omega, hg, by rw [hl], by rw [← a3, hb]⟩
      · rintro ⟨_, l, hl, hg, he, rfl⟩
        obtain ⟨e1, e2⟩ := List.append_inj he (by simp [digs_length])
        have hlv : l.length = v := by
          have := congrArg numOf e1
          rw [numOf_digs 2 v (by decide) (by omega), numOf_digs 2 l.length (by decide) (by omega)] at this
          exact this.symm
        rw [(sides_good v Y R [] l).2 ⟨l, hlv, hg, e2, rfl⟩]
    · constructor
      · intro h
        generalize PK.fold (manyP 0) ⟨X, false, 0⟩ = m at h2 h
        obtain ⟨Y, b, v⟩ := m
        dsimp only at h2 h
        subst h2
        have := sides_bad v Y []
        injection h with a1 a2 a3
        rw [this] at a2
        cases a2
      · rintro ⟨_, l, hl, hg, rfl, rfl⟩
        rw [many_good.2 ⟨hl, rfl⟩] at h1
        cases h1
theorem val_good {X R : List UInt8} {bad : Bool} {p q : Prf} : valS ⟨X, bad, p⟩ = ⟨R, false, q⟩ ↔ bad = false ∧ ((p.kind = 0 ∧ X = R ∧ q = p) ∨ (p.kind ≠ 0 ∧ ∃ v : List UInt8, v.length ≤ 4096 ∧ X = digs v.length 2 ++ (v ++ R) ∧ q = (p.wVl v))) := by
  unfold valS
  dsimp only
  by_cases hk : p.kind = 0
  · rw [if_pos hk, RG.mk.injEq]
    constructor
    · rintro ⟨rfl, rfl, rfl⟩
      exact ⟨rfl, .inl ⟨hk, rfl, rfl⟩⟩
    · rintro ⟨rfl, ⟨_, rfl, rfl⟩ | ⟨h, _⟩⟩
      · exact ⟨rfl, rfl, rfl⟩
      · exact absurd hk h
  · rw [if_neg hk, RG.mk.injEq]
    constructor
    · rintro ⟨h1, h2, h3⟩
      rw [Bool.or_eq_false_iff] at h2
      have h4 : (takeP X).2.2 = 0 := by simpa using h2.2
      obtain ⟨e1, e2⟩ := takeP_good.1 (show takeP X = ((takeP X).1, R, 0) from by rw [← h1, ← h4])
      exact ⟨h2.1, .inr ⟨hk, _, e1, e2, h3.symm⟩⟩
    · rintro ⟨rfl, ⟨h, _⟩ | ⟨_, v, hv, hX, rfl⟩⟩
      · exact absurd h hk
      · have := takeP_good.2 ⟨hv, hX⟩
        rw [this]
        exact ⟨rfl, rfl, rfl⟩
theorem oth_goodS {X R : List UInt8} {bad : Bool} {p q : Prf} : othS ⟨X, bad, p⟩ = ⟨R, false, q⟩ ↔ bad = false ∧ ((p.kind ≠ 2 ∧ X = R ∧ q = p) ∨ (p.kind = 2 ∧ ∃ d : List UInt8, d.length = 32 ∧ X = d ++ R ∧ q = (p.wOther d))) := by
  unfold othS
  dsimp only
  by_cases hk : p.kind = 2
  · rw [if_pos hk]
    constructor
    · intro h
      cases bad with
      | true =>
        have := PK.fold_bad (othP 0) X p
        rw [h] at this
        cases this
      | false => exact ⟨rfl, .inr ⟨hk, oth_good.1 (PK.fold_iff.1 h)⟩⟩
    · rintro ⟨rfl, ⟨h, _⟩ | ⟨_, h⟩⟩
      · exact absurd hk h
      · exact PK.fold_iff.2 (oth_good.2 h)
  · rw [if_neg hk, RG.mk.injEq]
    constructor
    · rintro ⟨rfl, rfl, rfl⟩
      exact ⟨rfl, .inl ⟨hk, rfl, rfl⟩⟩
    · rintro ⟨rfl, ⟨_, rfl, rfl⟩ | ⟨h, _⟩⟩
      · exact ⟨rfl, rfl, rfl⟩
      · exact absurd h hk
/-- A proof without its places. -/
def Prf.at0 (p : Prf) : Prf := ⟨p.key, p.kind, p.other, none, 0, p.vl, none, 0, p.pl⟩
theorem prfB_mk (key : List UInt8) (kind : Nat) (other : List UInt8) (va : Option Addr) (vc : Nat) (vl : List UInt8) (pa : Option Addr) (pc : Nat) (pl : List (List UInt8)) : prfB ⟨key, kind, other, va, vc, vl, pa, pc, pl⟩ = key ++ (UInt8.ofNat kind :: ((if kind = 2 then other else []) ++ ((if kind ≠ 0 then digs vl.length 2 ++ vl else []) ++ (digs pl.length 2 ++ pl.flatten)))) := rfl
theorem kpR_good {X X1 : List UInt8} {bad : Bool} {s : Prf × Nat} : kpR X bad prf0 = ⟨X1, false, s⟩ ↔ bad = false ∧ ∃ d : List UInt8, d.length = 32 ∧ ∃ v : Nat, v ≤ 2 ∧ X = d ++ (UInt8.ofNat v :: X1) ∧ s = ((prf0.wKey d), v) := by
  constructor
  · intro h
    have h0 : PK.fold (keyP 0 0) ⟨X, bad, (prf0, 0)⟩ = ⟨X1, false, s⟩ := h
    have h1 : (PK.fold (keyP 0 0) ⟨X, bad, (prf0, 0)⟩).bad = false := by rw [h0]
    obtain ⟨rfl, h2⟩ := fold_eta h1
    rw [h0] at h2
    exact ⟨rfl, kp_good.1 h2⟩
  · rintro ⟨rfl, h⟩
    exact PK.fold_iff.2 (kp_good.2 h)
theorem prfS_good {X R : List UInt8} {bad : Bool} {q : Prf} : prfS X bad prf0 = ⟨R, false, q⟩ ↔ bad = false ∧ PrfIs q ∧ q = q.at0 ∧ X = prfB q ++ R := by
  unfold prfS
  constructor
  · intro h
    rcases e1 : kpR X bad prf0 with ⟨X1, b1, s1⟩
    rw [e1] at h
    dsimp only at h
    rcases e2 : othS ⟨X1, b1, withK s1⟩ with ⟨X2, b2, p2⟩
    rw [e2] at h
    rcases e3 : valS ⟨X2, b2, p2⟩ with ⟨X3, b3, p3⟩
    rw [e3] at h
    obtain ⟨rfl, l, hl, hg, rfl, rfl⟩ := end_good.1 h
    obtain ⟨rfl, hv⟩ := val_good.1 e3
    obtain ⟨rfl, ho⟩ := oth_goodS.1 e2
    obtain ⟨rfl, d, hd, v, hv2, rfl, rfl⟩ := kpR_good.1 e1
    refine ⟨rfl, ?_⟩
    have hz : zero32.length = 32 := by simp [zero32]
    have hk1 : (withK ((prf0.wKey d), v)).kind = v := rfl
    rcases ho with ⟨hk, rfl, rfl⟩ | ⟨hk, o, hol, rfl, rfl⟩
    · rcases hv with ⟨hk0, rfl, rfl⟩ | ⟨hk0, w, hw, rfl, rfl⟩
      · have hv0 : v = 0 := hk0
        subst hv0
        refine ⟨⟨hd, show (0 : Nat) ≤ 2 by decide, hz, fun _ => rfl, fun _ => rfl, show ([] : List UInt8).length ≤ 4096 by decide, hl, hg⟩, rfl, ?_⟩
        show _ = prfB ⟨d, 0, zero32, none, 0, [], none, 0, l⟩ ++ R
        rw [prfB_mk, if_neg (by decide), if_neg (by decide)]
        simp
      · have hv0 : v ≠ 0 := hk0
        have hv2' : v ≠ 2 := hk
        refine ⟨⟨hd, hv2, hz, fun _ => rfl, fun e => absurd e hv0, hw, hl, hg⟩, rfl, ?_⟩
        show _ = prfB ⟨d, v, zero32, none, 0, w, none, 0, l⟩ ++ R
        rw [prfB_mk, if_neg hv2', if_pos hv0]
        simp
    · rcases hv with ⟨hk0, rfl, rfl⟩ | ⟨hk0, w, hw, rfl, rfl⟩
      · have hv0 : v = 0 := hk0
        have hv2' : v = 2 := hk
        omega
      · have hv2' : v = 2 := hk
        subst hv2'
        refine ⟨⟨hd, show (2 : Nat) ≤ 2 by decide, hol, fun e => absurd rfl e, fun e => absurd e (show ¬ (2 : Nat) = 0 by decide), hw, hl, hg⟩, rfl, ?_⟩
        show _ = prfB ⟨d, 2, o, none, 0, w, none, 0, l⟩ ++ R
        rw [prfB_mk, if_pos rfl, if_pos (by decide)]
        simp
  · rintro ⟨rfl, h, he, rfl⟩
    obtain ⟨key, kind, other, va, vc, vl, pa, pc, pl⟩ := q
    unfold Prf.at0 at he
    simp only [Prf.mk.injEq, true_and] at he
    obtain ⟨rfl, rfl, rfl, rfl⟩ : va = none ∧ vc = 0 ∧ pa = none ∧ pc = 0 := by simpa using he
    obtain ⟨hd, hv2, hol, hbare, hnone, hw, hl, hg⟩ := h
    dsimp only at hd hv2 hol hbare hnone hw hl hg
    have hX : prfB ⟨key, kind, other, none, 0, vl, none, 0, pl⟩ ++ R = key ++ (UInt8.ofNat kind :: ((if kind = 2 then other else []) ++ ((if kind ≠ 0 then digs vl.length 2 ++ vl else []) ++ (digs pl.length 2 ++ (pl.flatten ++ R))))) := by
      unfold prfB
      simp
    rw [hX, kpR_good.2 ⟨rfl, key, hd, kind, hv2, rfl, rfl⟩]
    dsimp only
    have e2 : othS ⟨(if kind = 2 then other else []) ++ ((if kind ≠ 0 then digs vl.length 2 ++ vl else []) ++ (digs pl.length 2 ++ (pl.flatten ++ R))), false, withK ((prf0.wKey key), kind)⟩ = ⟨(if kind ≠ 0 then digs vl.length 2 ++ vl else []) ++ (digs pl.length 2 ++ (pl.flatten ++ R)), false, ⟨key, kind, other, none, 0, [], none, 0, []⟩⟩ := by
      refine oth_goodS.2 ⟨rfl, ?_⟩
      by_cases hk : kind = 2
      · exact .inr ⟨hk, other, hol, by rw [if_pos hk], rfl⟩
      · refine .inl ⟨hk, by rw [if_neg hk]; rfl, ?_⟩
        rw [hbare hk]
        rfl
    rw [e2]
    have e3 : valS ⟨(if kind ≠ 0 then digs vl.length 2 ++ vl else []) ++ (digs pl.length 2 ++ (pl.flatten ++ R)), false, ⟨key, kind, other, none, 0, [], none, 0, []⟩⟩ = ⟨digs pl.length 2 ++ (pl.flatten ++ R), false, ⟨key, kind, other, none, 0, vl, none, 0, []⟩⟩ := by
      refine val_good.2 ⟨rfl, ?_⟩
      by_cases hk : kind = 0
      · refine .inl ⟨hk, by rw [if_neg (fun e => e hk)]; rfl, ?_⟩
        rw [hnone hk]
      · exact .inr ⟨hk, vl, hw, by rw [if_pos hk, List.append_assoc], rfl⟩
    rw [e3]
    exact end_good.2 ⟨rfl, pl, hl, hg, rfl, rfl⟩
end Go.Proofs.Ytgffejpcldeklaa
namespace Go.Proofs.Ytgffejpcldeklaa
open Go Go.RowKit
open Classical

def Rp.at0 (r : Rp) : Rp := ⟨r.kind, r.code, r.height, r.dig, r.nonce, r.bal, r.rc, r.prf.at0, r.sub, r.gap, r.ev⟩
/-- A reply of which but the kind and the code are told. -/
def rpK (k : UInt8) (c : Int) : Rp := ⟨k, c, 0, d32, 0, 0, recZero, prf0, 0, false, ev0⟩
def fl (b : Bool) : UInt8 := if b = true then 1 else 0
def sxH (r : Rp) (v : Nat) : Rp := ⟨r.kind, r.code, (v : Int), r.dig, r.nonce, r.bal, r.rc, r.prf, r.sub, r.gap, r.ev⟩
def sxD (r : Rp) (d : List UInt8) : Rp := ⟨r.kind, r.code, r.height, d, r.nonce, r.bal, r.rc, r.prf, r.sub, r.gap, r.ev⟩
def sxA (r : Rp) (n b : Nat) : Rp := ⟨r.kind, r.code, r.height, r.dig, n, b, r.rc, r.prf, r.sub, r.gap, r.ev⟩
def sxR (r : Rp) (x : Rec) : Rp := ⟨r.kind, r.code, r.height, r.dig, r.nonce, r.bal, x, r.prf, r.sub, r.gap, r.ev⟩
def sxP (r : Rp) (p : Prf) : Rp := ⟨r.kind, r.code, r.height, r.dig, r.nonce, r.bal, r.rc, p, r.sub, r.gap, r.ev⟩
def sxS (r : Rp) (v : Nat) : Rp := ⟨r.kind, r.code, r.height, r.dig, r.nonce, r.bal, r.rc, r.prf, (v : Int), r.gap, r.ev⟩
def sxG (r : Rp) (b : Bool) : Rp := ⟨r.kind, r.code, r.height, r.dig, r.nonce, r.bal, r.rc, r.prf, r.sub, b, r.ev⟩
def sxE (r : Rp) (e : Evt) : Rp := ⟨r.kind, r.code, r.height, r.dig, r.nonce, r.bal, r.rc, r.prf, r.sub, r.gap, e⟩
def sxN (r : Rp) (v : Nat) : Rp := sxE r ⟨(v : Int), r.ev.roll, r.ev.hd⟩
def sxL (r : Rp) (b : Bool) : Rp := sxE r ⟨r.ev.num, b, r.ev.hd⟩
def sxHd (r : Rp) (x : Hd) : Rp := sxE r ⟨r.ev.num, r.ev.roll, x⟩
noncomputable def rdAcc (r : Rp) (X : List UInt8) : Rp × Bool := (sxA r (accR X).1 (accR X).2.1, decide ((accR X).2.2 = 0 ∨ (accR X).2.2 = 8))
def rdRec (r : Rp) (X : List UInt8) : Rp × Bool := (sxR r (recRead X).1, decide ((recRead X).2 = 0))
def rdHd (r : Rp) (X : List UInt8) : Rp × Bool := (sxHd r (hdRead X).1, decide ((hdRead X).2 = 0))
/-- The closures that write and read. -/
structure RpF where
  ta : FuncId
  ra : FuncId
  tc : FuncId
  rc : FuncId
  th : FuncId
  rh : FuncId
/-- A reply's parts, by its kind. -/
noncomputable def rpP (F : RpF) (g gp ge : Nat) (k : Nat) : List (PK Rp) :=
  if k = 2 then [.byt F.ta F.ra (.pointer (some ⟨gp, 0, none⟩)) 16 rdAcc]
  else if k = 3 then [.num g (0 + 2) 8 1073741824 sxH, .byt F.tc F.rc (.pointer (some ⟨gp, 0, none⟩)) 35 rdRec]
  else if k = 4 ∨ k = 5 then [.num g (0 + 2) 8 1073741824 sxH, .dig g (0 + 3) sxD]
  else if k = 6 then [.num g (0 + 138) 4 1073741823 sxS]
  else if k = 7 then [.flg g (0 + 139 + 0) sxG, .num g (0 + 139 + 1 + 0) 8 1073741823 sxN, .flg g (0 + 139 + 1 + 1) sxL, .byt F.th F.rh (.pointer (some ⟨ge, 0, none⟩)) 108 rdHd]
  else []
theorem rpP_fold (F F' : RpF) (g gp ge g' gp' ge' k : Nat) (s : RG Rp) : PK.fold (rpP F g gp ge k) s = PK.fold (rpP F' g' gp' ge' k) s := by
  unfold rpP
  by_cases h2 : k = 2
  · rw [if_pos h2, if_pos h2]; rfl
  rw [if_neg h2, if_neg h2]
  by_cases h3 : k = 3
  · rw [if_pos h3, if_pos h3]; rfl
  rw [if_neg h3, if_neg h3]
  by_cases h4 : k = 4 ∨ k = 5
  · rw [if_pos h4, if_pos h4]; rfl
  rw [if_neg h4, if_neg h4]
  by_cases h6 : k = 6
  · rw [if_pos h6, if_pos h6]; rfl
  rw [if_neg h6, if_neg h6]
  by_cases h7 : k = 7
  · rw [if_pos h7, if_pos h7]; rfl
  rw [if_neg h7, if_neg h7]
/-- What a reply's well parts are. -/
def RpIs (k : Nat) (X R : List UInt8) (r r' : Rp) : Prop :=
  if k = 2 then ∃ n b : Nat, n < 18446744073709551616 ∧ b < 18446744073709551616 ∧ X = accB n b ++ R ∧ r' = sxA r n b
  else if k = 3 then ∃ h : Nat, h ≤ 1073741824 ∧ ∃ x : Rec, x.ok ∧ x.may = true ∧ X = digs h 8 ++ (recBytes x ++ R) ∧ r' = sxR (sxH r h) x
  else if k = 4 ∨ k = 5 then ∃ h : Nat, h ≤ 1073741824 ∧ ∃ d : List UInt8, d.length = 32 ∧ X = digs h 8 ++ (d ++ R) ∧ r' = sxD (sxH r h) d
  else if k = 6 then ∃ s : Nat, s ≤ 1073741823 ∧ X = digs s 4 ++ R ∧ r' = sxS r s
  else if k = 7 then ∃ (g : Bool) (m : Nat) (l : Bool) (x : Hd), m ≤ 1073741823 ∧ x.ok ∧ x.may = true ∧ X = fl g :: (digs m 8 ++ (fl l :: (hBytes x ++ R))) ∧ r' = sxE (sxG r g) ⟨(m : Int), l, x⟩
  else X = R ∧ r' = r
theorem p8 : (256 : Nat) ^ 8 = 18446744073709551616 := by decide
theorem p4 : (256 : Nat) ^ 4 = 4294967296 := by decide
theorem rdAcc_iff {r r' : Rp} {Y : List UInt8} (hY : Y.length = 16) : ((rdAcc r Y).2 = true ∧ r' = (rdAcc r Y).1) ↔ ∃ n b : Nat, n < 18446744073709551616 ∧ b < 18446744073709551616 ∧ Y = accB n b ∧ r' = sxA r n b := by
  constructor
  · rintro ⟨_, rfl⟩
    obtain ⟨e1, e2, _⟩ := accR_16 hY
    have l1 := numOf_lt (Y.take 8)
    have l2 := numOf_lt (Y.drop 8)
    exact ⟨(accR Y).1, (accR Y).2.1, by omega, by omega, (accB_of hY).symm, rfl⟩
  · rintro ⟨n, b, hn, hb, rfl, rfl⟩
    obtain ⟨e1, e2, e3⟩ := accR_of hn hb
    refine ⟨decide_eq_true e3, ?_⟩
    show _ = sxA r (accR (accB n b)).1 (accR (accB n b)).2.1
    rw [e1, e2]
theorem rdRec_iff {r r' : Rp} {Y : List UInt8} (hY : Y.length = 35) : ((rdRec r Y).2 = true ∧ r' = (rdRec r Y).1) ↔ ∃ x : Rec, x.ok ∧ x.may = true ∧ Y = recBytes x ∧ r' = sxR r x := by
  constructor
  · rintro ⟨h, rfl⟩
    have h2 : (recRead Y).2 = 0 := of_decide_eq_true h
    have ho := recRead_ok Y
    have := (recRead_iff hY ho).1 (by rw [← h2])
    exact ⟨(recRead Y).1, ho, this.1, this.2, rfl⟩
  · rintro ⟨x, ho, hm, rfl, rfl⟩
    have := (recRead_iff hY ho).2 ⟨hm, rfl⟩
    refine ⟨decide_eq_true (by rw [this]), ?_⟩
    show _ = sxR r (recRead (recBytes x)).1
    rw [this]
theorem rdHd_iff {r r' : Rp} {Y : List UInt8} (hY : Y.length = 108) : ((rdHd r Y).2 = true ∧ r' = (rdHd r Y).1) ↔ ∃ x : Hd, x.ok ∧ x.may = true ∧ Y = hBytes x ∧ r' = sxHd r x := by
  constructor
  · rintro ⟨h, rfl⟩
    have h2 : (hdRead Y).2 = 0 := of_decide_eq_true h
    have ho := hdRead_ok Y
    have := (hdRead_iff hY ho).1 (by rw [← h2])
    exact ⟨(hdRead Y).1, ho, this.1, this.2, rfl⟩
  · rintro ⟨x, ho, hm, rfl, rfl⟩
    have := (hdRead_iff hY ho).2 ⟨hm, rfl⟩
    refine ⟨decide_eq_true (by rw [this]), ?_⟩
    show _ = sxHd r (hdRead (hBytes x)).1
    rw [this]
theorem good_accP {F : RpF} {gp : Nat} {X R : List UInt8} {r r' : Rp} : (PK.byt F.ta F.ra (.pointer (some ⟨gp, 0, none⟩)) 16 rdAcc).good X r = some (R, r') ↔ ∃ n b : Nat, n < 18446744073709551616 ∧ b < 18446744073709551616 ∧ X = accB n b ++ R ∧ r' = sxA r n b := by
  rw [PK.good_byt]
  constructor
  · rintro ⟨Y, hY, rfl, h⟩
    obtain ⟨n, b, hn, hb, rfl, rfl⟩ := (rdAcc_iff hY).1 h
    exact ⟨n, b, hn, hb, rfl, rfl⟩
  · rintro ⟨n, b, hn, hb, rfl, rfl⟩
    exact ⟨_, accB_len n b, rfl, (rdAcc_iff (accB_len n b)).2 ⟨n, b, hn, hb, rfl, rfl⟩⟩
theorem good_recP {F : RpF} {gp : Nat} {X R : List UInt8} {r r' : Rp} : (PK.byt F.tc F.rc (.pointer (some ⟨gp, 0, none⟩)) 35 rdRec).good X r = some (R, r') ↔ ∃ x : Rec, x.ok ∧ x.may = true ∧ X = recBytes x ++ R ∧ r' = sxR r x := by
  rw [PK.good_byt]
  constructor
  · rintro ⟨Y, hY, rfl, h⟩
    obtain ⟨x, ho, hm, rfl, rfl⟩ := (rdRec_iff hY).1 h
    exact ⟨x, ho, hm, rfl, rfl⟩
  · rintro ⟨x, ho, hm, rfl, rfl⟩
    exact ⟨_, recBytes_len ho, rfl, (rdRec_iff (recBytes_len ho)).2 ⟨x, ho, hm, rfl, rfl⟩⟩
theorem good_hdP {F : RpF} {ge : Nat} {X R : List UInt8} {r r' : Rp} : (PK.byt F.th F.rh (.pointer (some ⟨ge, 0, none⟩)) 108 rdHd).good X r = some (R, r') ↔ ∃ x : Hd, x.ok ∧ x.may = true ∧ X = hBytes x ++ R ∧ r' = sxHd r x := by
  rw [PK.good_byt]
  constructor
  · rintro ⟨Y, hY, rfl, h⟩
    obtain ⟨x, ho, hm, rfl, rfl⟩ := (rdHd_iff hY).1 h
    exact ⟨x, ho, hm, rfl, rfl⟩
  · rintro ⟨x, ho, hm, rfl, rfl⟩
    exact ⟨_, hBytes_len ho, rfl, (rdHd_iff (hBytes_len ho)).2 ⟨x, ho, hm, rfl, rfl⟩⟩
theorem rpP_good (F : RpF) (g gp ge : Nat) {k : Nat} {X R : List UInt8} {r r' : Rp} : PK.goods (rpP F g gp ge k) X r = some (R, r') ↔ RpIs k X R r r' := by
  unfold rpP RpIs
  by_cases h2 : k = 2
  · rw [if_pos h2, if_pos h2]
    simp only [PK.goods_cons, PK.goods_nil]
    constructor
    · rintro ⟨Y, b, h, rfl, rfl⟩
      exact good_accP.1 h
    · intro h
      exact ⟨_, _, good_accP.2 h, rfl, rfl⟩
  rw [if_neg h2, if_neg h2]
  by_cases h3 : k = 3
  · rw [if_pos h3, if_pos h3]
    simp only [PK.goods_cons, PK.goods_nil]
    constructor
    · rintro ⟨Y, b, h, Z, c, h', rfl, rfl⟩
      obtain ⟨v, hv, _, rfl, rfl⟩ := (PK.good_num (by decide)).1 h
      obtain ⟨x, ho, hm, rfl, rfl⟩ := good_recP.1 h'
      exact ⟨v, hv, x, ho, hm, rfl, rfl⟩
    · rintro ⟨v, hv, x, ho, hm, rfl, rfl⟩
      exact ⟨_, _, (PK.good_num (by decide)).2 ⟨v, hv, by rw [p8]; omega, rfl, rfl⟩, _, _, good_recP.2 ⟨x, ho, hm, rfl, rfl⟩, rfl, rfl⟩
  rw [if_neg h3, if_neg h3]
  by_cases h4 : k = 4 ∨ k = 5
  · rw [if_pos h4, if_pos h4]
    simp only [PK.goods_cons, PK.goods_nil]
    constructor
    · rintro ⟨Y, b, h, Z, c, h', rfl, rfl⟩
      obtain ⟨v, hv, _, rfl, rfl⟩ := (PK.good_num (by decide)).1 h
      obtain ⟨d, hd, rfl, rfl⟩ := PK.good_dig.1 h'
      exact ⟨v, hv, d, hd, rfl, rfl⟩
    · rintro ⟨v, hv, d, hd, rfl, rfl⟩
      exact ⟨_, _, (PK.good_num (by decide)).2 ⟨v, hv, by rw [p8]; omega, rfl, rfl⟩, _, _, PK.good_dig.2 ⟨d, hd, rfl, rfl⟩, rfl, rfl⟩
  rw [if_neg h4, if_neg h4]
  by_cases h6 : k = 6
  · rw [if_pos h6, if_pos h6]
    simp only [PK.goods_cons, PK.goods_nil]
    constructor
    · rintro ⟨Y, b, h, rfl, rfl⟩
      obtain ⟨v, hv, _, rfl, rfl⟩ := (PK.good_num (by decide)).1 h
      exact ⟨v, hv, rfl, rfl⟩
    · rintro ⟨v, hv, rfl, rfl⟩
      exact ⟨_, _, (PK.good_num (by decide)).2 ⟨v, hv, by rw [p4]; omega, rfl, rfl⟩, rfl, rfl⟩
  rw [if_neg h6, if_neg h6]
  by_cases h7 : k = 7
  · rw [if_pos h7, if_pos h7]
    simp only [PK.goods_cons, PK.goods_nil]
    constructor
    · rintro ⟨Y, b, h, Z, c, h', U, d, h'', W, e, h''', rfl, rfl⟩
      obtain ⟨q, rfl, rfl⟩ := PK.good_flg.1 h
      obtain ⟨v, hv, _, rfl, rfl⟩ := (PK.good_num (by decide)).1 h'
      obtain ⟨l, rfl, rfl⟩ := PK.good_flg.1 h''
      obtain ⟨x, ho, hm, rfl, rfl⟩ := good_hdP.1 h'''
      exact ⟨q, v, l, x, hv, ho, hm, rfl, rfl⟩
    · rintro ⟨q, v, l, x, hv, ho, hm, rfl, rfl⟩
      exact ⟨_, _, PK.good_flg.2 ⟨q, rfl, rfl⟩, _, _, (PK.good_num (by decide)).2 ⟨v, hv, by rw [p8]; omega, rfl, rfl⟩, _, _, PK.good_flg.2 ⟨l, rfl, rfl⟩, _, _, good_hdP.2 ⟨x, ho, hm, rfl, rfl⟩, rfl, rfl⟩
  rw [if_neg h7, if_neg h7]
  exact PK.goods_nil
/-- The kind and the code. -/
def wkP (g1 g2 : Nat) : List (PK (Nat × Nat)) := [.num g1 0 1 8 (fun s v => (v, s.2)), .num g2 0 2 999 (fun s v => (s.1, v))]
theorem kc_good (g1 g2 : Nat) {X R : List UInt8} {s : Nat × Nat} : PK.goods (wkP g1 g2) X (0, 0) = some (R, s) ↔ ∃ v c : Nat, v ≤ 8 ∧ c ≤ 999 ∧ X = UInt8.ofNat v :: (digs c 2 ++ R) ∧ s = (v, c) := by
  unfold wkP
  simp only [PK.goods_cons, PK.goods_nil]
  constructor
  · rintro ⟨Y, b, h, Z, c, h', rfl, rfl⟩
    obtain ⟨v, hv, _, rfl, rfl⟩ := (PK.good_num (by decide)).1 h
    obtain ⟨u, hu, _, rfl, rfl⟩ := (PK.good_num (by decide)).1 h'
    exact ⟨v, u, hv, hu, by rw [digs_one]; rfl, rfl⟩
  · rintro ⟨v, c, hv, hc, rfl, rfl⟩
    exact ⟨_, _, (PK.good_num (by decide)).2 ⟨v, hv, by omega, by rw [digs_one]; rfl, rfl⟩, _, _, (PK.good_num (by decide)).2 ⟨c, hc, by omega, rfl, rfl⟩, rfl, rfl⟩
/-- What the program reads of bytes. -/
noncomputable def rdS (F : RpF) (B : List UInt8) : RG Rp :=
  let s0 := PK.fold (wkP 0 0) ⟨B, false, (0, 0)⟩
  if s0.a.2 = 0 then
    let s1 := PK.fold (rpP F 0 0 0 s0.a.1) ⟨s0.r, s0.bad, rpK (UInt8.ofNat s0.a.1) 0⟩
    if s0.a.1 = 4 then ⟨(prfS s1.r s1.bad prf0).r, (prfS s1.r s1.bad prf0).bad || !(prfS s1.r s1.bad prf0).a.may, sxP s1.a (prfS s1.r s1.bad prf0).a⟩ else s1
  else ⟨s0.r, s0.bad, rpK (UInt8.ofNat s0.a.1) (s0.a.2 : Int)⟩
noncomputable def readR (F : RpF) (B : List UInt8) : Rp × Int := if (rdS F B).bad = false ∧ (rdS F B).r = [] ∧ (rdS F B).a.inR = true then ((rdS F B).a, 0) else (rp0, 220)
theorem rg_eq {S : Type} {s : RG S} (h : s.bad = false) : s = ⟨s.r, false, s.a⟩ := by
  obtain ⟨r, b, a⟩ := s
  dsimp only at h
  rw [h]
/-- What is read well. -/
def RdIs (B R : List UInt8) (r : Rp) : Prop := ∃ v c : Nat, v ≤ 8 ∧ c ≤ 999 ∧ ((c ≠ 0 ∧ B = UInt8.ofNat v :: (digs c 2 ++ R) ∧ r = rpK (UInt8.ofNat v) (c : Int)) ∨ (c = 0 ∧ ∃ X Y r1, B = UInt8.ofNat v :: (digs 0 2 ++ X) ∧ RpIs v X Y (rpK (UInt8.ofNat v) 0) r1 ∧ ((v ≠ 4 ∧ Y = R ∧ r = r1) ∨ (v = 4 ∧ ∃ q : Prf, PrfIs q ∧ q = q.at0 ∧ q.may = true ∧ Y = prfB q ++ R ∧ r = sxP r1 q))))
theorem rdS_good (F : RpF) {B R : List UInt8} {r : Rp} : rdS F B = ⟨R, false, r⟩ ↔ RdIs B R r := by
  unfold rdS RdIs
  dsimp only
  constructor
  · intro h
    rcases e0 : PK.fold (wkP 0 0) ⟨B, false, (0, 0)⟩ with ⟨X, b0, ⟨v, c⟩⟩
    rw [e0] at h
    dsimp only at h
    by_cases hc : c = 0
    · subst hc
      rw [if_pos rfl] at h
      rcases e1 : PK.fold (rpP F 0 0 0 v) ⟨X, b0, rpK (UInt8.ofNat v) 0⟩ with ⟨Y, b1, r1⟩
      rw [e1] at h
      dsimp only at h
      have key : b1 = false → RpIs v X Y (rpK (UInt8.ofNat v) 0) r1 ∧ v ≤ 8 ∧ B = UInt8.ofNat v :: (digs 0 2 ++ X) := fun hb => by
        have hb1 : (PK.fold (rpP F 0 0 0 v) ⟨X, b0, rpK (UInt8.ofNat v) 0⟩).bad = false := by rw [e1]; exact hb
        obtain ⟨rfl, hg⟩ := fold_eta hb1
        rw [e1] at hg
        have h0 := fold_eta (show (PK.fold (wkP 0 0) ⟨B, false, (0, 0)⟩).bad = false by rw [e0])
        rw [e0] at h0
        obtain ⟨v', c', hv, _, hB, hs⟩ := (kc_good 0 0).1 h0.2
        obtain ⟨rfl, rfl⟩ := Prod.mk.inj hs
        exact ⟨(rpP_good F 0 0 0).1 hg, hv, hB⟩
      by_cases h4 : v = 4
      · rw [if_pos h4] at h
        injection h with a1 a2 a3
        rw [Bool.or_eq_false_iff] at a2
        have hp := rg_eq a2.1
        rw [a1] at hp
        obtain ⟨hb, hi, ha, hY⟩ := prfS_good.1 hp
        obtain ⟨k1, k2, k3⟩ := key hb
        exact ⟨v, 0, k2, by decide, .inr ⟨rfl, X, Y, r1, k3, k1, .inr ⟨h4, _, hi, ha, by simpa using a2.2, hY, a3.symm⟩⟩⟩
      · rw [if_neg h4] at h
        injection h with a1 a2 a3
        obtain ⟨k1, k2, k3⟩ := key a2
        exact ⟨v, 0, k2, by decide, .inr ⟨rfl, X, Y, r1, k3, k1, .inl ⟨h4, a1, a3.symm⟩⟩⟩
    · rw [if_neg hc] at h
      injection h with a1 a2 a3
      subst a1 a2 a3
      have h0 := fold_eta (show (PK.fold (wkP 0 0) ⟨B, false, (0, 0)⟩).bad = false by rw [e0])
      rw [e0] at h0
      obtain ⟨v', c', hv, hc', hB, hs⟩ := (kc_good 0 0).1 h0.2
      obtain ⟨rfl, rfl⟩ := Prod.mk.inj hs
      exact ⟨v, c, hv, hc', .inl ⟨hc, hB, rfl⟩⟩
  · rintro ⟨v, c, hv, hc, h⟩
    rcases h with ⟨hc0, rfl, rfl⟩ | ⟨rfl, X, Y, r1, rfl, h1, h2⟩
    · have e0 : PK.fold (wkP 0 0) ⟨UInt8.ofNat v :: (digs c 2 ++ R), false, (0, 0)⟩ = ⟨R, false, (v, c)⟩ := PK.fold_iff.2 ((kc_good 0 0).2 ⟨v, c, hv, hc, rfl, rfl⟩)
      rw [e0]
      dsimp only
      rw [if_neg hc0]
    · have e0 : PK.fold (wkP 0 0) ⟨UInt8.ofNat v :: (digs 0 2 ++ X), false, (0, 0)⟩ = ⟨X, false, (v, 0)⟩ := PK.fold_iff.2 ((kc_good 0 0).2 ⟨v, 0, hv, hc, rfl, rfl⟩)
      have e1 : PK.fold (rpP F 0 0 0 v) ⟨X, false, rpK (UInt8.ofNat v) 0⟩ = ⟨Y, false, r1⟩ := PK.fold_iff.2 ((rpP_good F 0 0 0).2 h1)
      rw [e0]
      dsimp only
      rw [if_pos rfl, e1]
      dsimp only
      rcases h2 with ⟨h4, rfl, rfl⟩ | ⟨h4, q, hi, ha, hm, rfl, rfl⟩
      · rw [if_neg h4]
      · rw [if_pos h4, prfS_good.2 ⟨rfl, hi, ha, rfl⟩]
        dsimp only
        rw [hm]
        rfl
/-- A reply with what is told of it alone. -/
def bareR (r : Rp) : Rp :=
  if r.code ≠ 0 then rpK r.kind r.code
  else if r.kind.toNat = 2 then sxA (rpK r.kind 0) r.nonce r.bal
  else if r.kind.toNat = 3 then sxR (⟨r.kind, 0, r.height, d32, 0, 0, recZero, prf0, 0, false, ev0⟩) r.rc
  else if r.kind.toNat = 4 then ⟨r.kind, 0, r.height, r.dig, 0, 0, recZero, r.prf.at0, 0, false, ev0⟩
  else if r.kind.toNat = 5 then ⟨r.kind, 0, r.height, r.dig, 0, 0, recZero, prf0, 0, false, ev0⟩
  else if r.kind.toNat = 6 then ⟨r.kind, 0, 0, d32, 0, 0, recZero, prf0, r.sub, false, ev0⟩
  else if r.kind.toNat = 7 then ⟨r.kind, 0, 0, d32, 0, 0, recZero, prf0, 0, r.gap, r.ev⟩
  else rpK r.kind 0
structure MayR (r : Rp) : Prop where
  kind : r.kind.toNat ≤ 8
  some' : ¬ (r.kind.toNat = 0 ∧ r.code = 0)
  c0 : 0 ≤ r.code
  c1 : r.code ≤ 999
  bare : r.at0 = bareR r
  h0 : 0 ≤ r.height
  h1 : r.height ≤ 1073741824
  s0 : 0 ≤ r.sub
  s1 : r.sub < 1073741824
  rc : r.code = 0 → r.kind.toNat = 3 → r.rc.may = true
  prf : r.code = 0 → r.kind.toNat = 4 → r.prf.may = true
  n0 : 0 ≤ r.ev.num
  n1 : r.ev.num < 1073741824
  hd : r.ev.hd.may = true
  gap : r.gap = true → r.ev = ev0
/-- What is behind the kind and the code. -/
def restR (r : Rp) : List UInt8 :=
  if r.kind.toNat = 2 then accB r.nonce r.bal
  else if r.kind.toNat = 3 then digs r.height.toNat 8 ++ recBytes r.rc
  else if r.kind.toNat = 4 then digs r.height.toNat 8 ++ (r.dig ++ prfB r.prf)
  else if r.kind.toNat = 5 then digs r.height.toNat 8 ++ r.dig
  else if r.kind.toNat = 6 then digs r.sub.toNat 4
  else if r.kind.toNat = 7 then fl r.gap :: (digs r.ev.num.toNat 8 ++ (fl r.ev.roll :: hBytes r.ev.hd))
  else []
def ofR (r : Rp) : List UInt8 := r.kind :: (digs r.code.toNat 2 ++ (if r.code ≠ 0 then [] else restR r))
end Go.Proofs.Ytgffejpcldeklaa
namespace Go.Proofs.Ytgffejpcldeklaa
open Go Go.RowKit
open Classical

theorem inR_iff {r : Rp} : r.inR = true ↔ (r.kind.toNat ≤ 8 ∧ (0 < r.kind.toNat ∨ r.code ≠ 0) ∧ 0 ≤ r.code ∧ r.code ≤ 999 ∧ 0 ≤ r.height ∧ 0 ≤ r.sub ∧ 0 ≤ r.ev.num) ∧ r.ev.hd.may = true ∧ (r.gap = true → r.ev = ev0) := by
  unfold Rp.inR
  rw [Bool.and_eq_true, Bool.and_eq_true, decide_eq_true_iff]
  constructor
  · rintro ⟨⟨h1, h2⟩, h3⟩
    refine ⟨h1, h2, fun hg => ?_⟩
    rw [hg] at h3
    simpa using h3
  · rintro ⟨h1, h2, h3⟩
    refine ⟨⟨h1, h2⟩, ?_⟩
    cases hg : r.gap
    · rfl
    · rw [decide_eq_true (h3 hg)]
      rfl
theorem MayR.of {r : Rp} (h : r.inR = true) (bare : r.at0 = bareR r) (h1 : r.height ≤ 1073741824) (s1 : r.sub < 1073741824) (rc : r.code = 0 → r.kind.toNat = 3 → r.rc.may = true) (prf : r.code = 0 → r.kind.toNat = 4 → r.prf.may = true) (n1 : r.ev.num < 1073741824) : MayR r := by
  obtain ⟨⟨a1, a2, a3, a4, a5, a6, a7⟩, a8, a9⟩ := inR_iff.1 h
  exact ⟨a1, by omega, a3, a4, bare, a5, h1, a6, s1, rc, prf, a7, n1, a8, a9⟩
theorem MayR.inR {r : Rp} (h : MayR r) : r.inR = true := inR_iff.2 ⟨⟨h.kind, by have := h.some'; omega, h.c0, h.c1, h.h0, h.s0, h.n0⟩, h.hd, h.gap⟩
theorem of_toNat {v : Nat} (h : v ≤ 8) : (UInt8.ofNat v).toNat = v := by simp; omega
/-- What is read may be, and has these bytes. -/
theorem rdIs_may {B : List UInt8} {r : Rp} (h : RdIs B [] r) (hin : r.inR = true) : MayR r ∧ ofR r = B ∧ r.at0 = r := by
  obtain ⟨v, c, hv, hc, h⟩ := h
  have hk := of_toNat hv
  rcases h with ⟨hc0, rfl, rfl⟩ | ⟨rfl, X, Y, r1, rfl, h1, h2⟩
  · have hcz : ((c : Nat) : Int) ≠ 0 := by omega
    refine ⟨MayR.of hin ?_ (show (0 : Int) ≤ _ by decide) (show (0 : Int) < _ by decide) (fun e => absurd e hcz) (fun e => absurd e hcz) (show (0 : Int) < _ by decide), ?_, rfl⟩
    · unfold bareR
      rw [if_pos (show (rpK (UInt8.ofNat v) (c : Int)).code ≠ 0 from hcz)]
      rfl
    · unfold ofR
      rw [if_pos (show (rpK (UInt8.ofNat v) (c : Int)).code ≠ 0 from hcz)]
      show UInt8.ofNat v :: (digs ((c : Int)).toNat 2 ++ []) = _
      rw [Int.toNat_natCast]
  · unfold RpIs at h1
    by_cases k2 : v = 2
    · subst k2
      rw [if_pos rfl] at h1
      obtain ⟨n, b, hn, hb, rfl, rfl⟩ := h1
      rcases h2 with ⟨_, rfl, rfl⟩ | ⟨e, _⟩
      rotate_left
      · exact absurd e (by decide)
      refine ⟨MayR.of hin rfl (show (0 : Int) ≤ _ by decide) (show (0 : Int) < _ by decide) (fun _ e => absurd (show (UInt8.ofNat 2).toNat = 3 from e) (by decide)) (fun _ e => absurd (show (UInt8.ofNat 2).toNat = 4 from e) (by decide)) (show (0 : Int) < _ by decide), ?_, rfl⟩
      show _ :: (digs 0 2 ++ accB n b) = _
      rw [List.append_nil]
      rfl
    rw [if_neg k2] at h1
    by_cases k3 : v = 3
    · subst k3
      rw [if_pos rfl] at h1
      obtain ⟨n, hn, x, ho, hm, rfl, rfl⟩ := h1
      rcases h2 with ⟨_, rfl, rfl⟩ | ⟨e, _⟩
      rotate_left
      · exact absurd e (by decide)
      refine ⟨MayR.of hin rfl (show (n : Int) ≤ _ by omega) (show (0 : Int) < _ by decide) (fun _ _ => hm) (fun _ e => absurd (show (UInt8.ofNat 3).toNat = 4 from e) (by decide)) (show (0 : Int) < _ by decide), ?_, rfl⟩
      show _ :: (digs 0 2 ++ (digs (n : Int).toNat 8 ++ recBytes x)) = _
      rw [List.append_nil, Int.toNat_natCast]
      rfl
    rw [if_neg k3] at h1
    by_cases k4 : v = 4 ∨ v = 5
    · rw [if_pos k4] at h1
      obtain ⟨n, hn, d, hd, rfl, rfl⟩ := h1
      rcases k4 with rfl | rfl
      · rcases h2 with ⟨e, _⟩ | ⟨_, q, hi, ha, hm, hY, rfl⟩
        · exact absurd rfl e
        have hq : q.at0 = q := ha.symm
        refine ⟨MayR.of hin ?_ (show (n : Int) ≤ _ by omega) (show (0 : Int) < _ by decide) (fun _ e => absurd (show (UInt8.ofNat 4).toNat = 3 from e) (by decide)) (fun _ _ => hm) (show (0 : Int) < _ by decide), ?_, ?_⟩
        · rfl
        · show _ :: (digs 0 2 ++ (digs (n : Int).toNat 8 ++ (d ++ prfB q))) = _
          rw [hY, List.append_nil, Int.toNat_natCast]
          rfl
        · show (⟨_, _, _, _, _, _, _, q.at0, _, _, _⟩ : Rp) = ⟨_, _, _, _, _, _, _, q, _, _, _⟩
          rw [hq]
          rfl
      · rcases h2 with ⟨_, rfl, rfl⟩ | ⟨e, _⟩
        rotate_left
        · exact absurd e (by decide)
        refine ⟨MayR.of hin rfl (show (n : Int) ≤ _ by omega) (show (0 : Int) < _ by decide) (fun _ e => absurd (show (UInt8.ofNat 5).toNat = 3 from e) (by decide)) (fun _ e => absurd (show (UInt8.ofNat 5).toNat = 4 from e) (by decide)) (show (0 : Int) < _ by decide), ?_, rfl⟩
        show _ :: (digs 0 2 ++ (digs (n : Int).toNat 8 ++ d)) = _
        rw [List.append_nil, Int.toNat_natCast]
        rfl
    rw [if_neg k4] at h1
    by_cases k6 : v = 6
    · subst k6
      rw [if_pos rfl] at h1
      obtain ⟨n, hn, rfl, rfl⟩ := h1
      rcases h2 with ⟨_, rfl, rfl⟩ | ⟨e, _⟩
      rotate_left
      · exact absurd e (by decide)
      refine ⟨MayR.of hin rfl (show (0 : Int) ≤ _ by decide) (show (n : Int) < _ by omega) (fun _ e => absurd (show (UInt8.ofNat 6).toNat = 3 from e) (by decide)) (fun _ e => absurd (show (UInt8.ofNat 6).toNat = 4 from e) (by decide)) (show (0 : Int) < _ by decide), ?_, rfl⟩
      show _ :: (digs 0 2 ++ digs (n : Int).toNat 4) = _
      rw [List.append_nil, Int.toNat_natCast]
      rfl
    rw [if_neg k6] at h1
    by_cases k7 : v = 7
    · subst k7
      rw [if_pos rfl] at h1
      obtain ⟨q, n, l, x, hn, ho, hm, rfl, rfl⟩ := h1
      rcases h2 with ⟨_, rfl, rfl⟩ | ⟨e, _⟩
      rotate_left
      · exact absurd e (by decide)
      refine ⟨MayR.of hin rfl (show (0 : Int) ≤ _ by decide) (show (0 : Int) < _ by decide) (fun _ e => absurd (show (UInt8.ofNat 7).toNat = 3 from e) (by decide)) (fun _ e => absurd (show (UInt8.ofNat 7).toNat = 4 from e) (by decide)) (show (n : Int) < _ by omega), ?_, rfl⟩
      show _ :: (digs 0 2 ++ (fl q :: (digs (n : Int).toNat 8 ++ (fl l :: hBytes x)))) = _
      rw [List.append_nil, Int.toNat_natCast]
      rfl
    rw [if_neg k7] at h1
    obtain ⟨rfl, rfl⟩ := h1
    rcases h2 with ⟨h4, rfl, rfl⟩ | ⟨e, _⟩
    rotate_left
    · exact absurd (.inl e) k4
    have hkn : ∀ m : Nat, v ≠ m → (rpK (UInt8.ofNat v) 0).kind.toNat ≠ m := fun m hm e => hm (by rw [← e]; exact hk.symm)
    have k5 : v ≠ 5 := fun e => k4 (.inr e)
    refine ⟨MayR.of hin ?_ (show (0 : Int) ≤ _ by decide) (show (0 : Int) < _ by decide) (fun _ e => absurd e (hkn 3 k3)) (fun _ e => absurd e (hkn 4 h4)) (show (0 : Int) < _ by decide), ?_, rfl⟩
    · unfold bareR
      rw [if_neg (show ¬ (rpK (UInt8.ofNat v) 0).code ≠ 0 from fun e => e rfl), if_neg (hkn 2 k2), if_neg (hkn 3 k3), if_neg (hkn 4 h4), if_neg (hkn 5 k5), if_neg (hkn 6 k6), if_neg (hkn 7 k7)]
      rfl
    · unfold ofR restR
      rw [if_neg (show ¬ (rpK (UInt8.ofNat v) 0).code ≠ 0 from fun e => e rfl), if_neg (hkn 2 k2), if_neg (hkn 3 k3), if_neg (hkn 4 h4), if_neg (hkn 5 k5), if_neg (hkn 6 k6), if_neg (hkn 7 k7)]
      rfl
theorem okVal_le {n : Nat} (h : okVal n = true) : n ≤ 4096 := by
  have := of_decide_eq_true (show decide (1 ≤ n ∧ n ≤ 64) = true from h)
  omega
theorem prfIs_may {p : Prf} (h : p.ok) (hm : p.may = true) : PrfIs p := by
  unfold Prf.may at hm
  rw [Bool.and_eq_true, decide_eq_true_iff] at hm
  obtain ⟨hl, hm⟩ := hm
  unfold Prf.may1 at hm
  by_cases k0 : p.kind = 0
  · rw [if_pos k0, Bool.and_eq_true, decide_eq_true_iff, decide_eq_true_iff] at hm
    exact ⟨h.key, by omega, h.other, fun _ => hm.1, fun _ => List.eq_nil_of_length_eq_zero hm.2, by omega, hl, h.dg⟩
  rw [if_neg k0] at hm
  by_cases k1 : p.kind = 1
  · rw [if_pos k1, Bool.and_eq_true, decide_eq_true_iff] at hm
    have hv := okVal_le hm.2
    exact ⟨h.key, by omega, h.other, fun _ => hm.1, fun e => absurd e k0, hv, hl, h.dg⟩
  rw [if_neg k1] at hm
  by_cases k2 : p.kind = 2
  · rw [if_pos k2, Bool.and_eq_true] at hm
    have hv := okVal_le hm.1
    exact ⟨h.key, by omega, h.other, fun e => absurd k2 e, fun e => absurd e k0, hv, hl, h.dg⟩
  · rw [if_neg k2] at hm
    cases hm
theorem PrfIs.at0 {p : Prf} (h : PrfIs p) : PrfIs p.at0 := ⟨h.key, h.kind, h.other, h.bare, h.none', h.vl, h.pl, h.dg⟩
/-- A reply that may be is read of its bytes. -/
theorem rdIs_of {r : Rp} (h : r.ok) (hm : MayR r) : RdIs (ofR r) [] r.at0 := by
  obtain ⟨c, hc⟩ : ∃ c : Nat, r.code = c := ⟨r.code.toNat, by have := hm.c0; omega⟩
  have hb := hm.bare
  have hku : UInt8.ofNat r.kind.toNat = r.kind := by simp
  have hc1 := hm.c1
  refine ⟨r.kind.toNat, c, hm.kind, by omega, ?_⟩
  rw [hku]
  unfold ofR
  rw [hc, Int.toNat_natCast]
  unfold bareR at hb
  by_cases hc0 : c = 0
  rotate_left
  · left
    have hcz : ((c : Nat) : Int) ≠ 0 := by omega
    rw [if_pos hcz]
    rw [if_pos (by rw [hc]; exact hcz), hc] at hb
    exact ⟨hc0, rfl, hb⟩
  right
  subst hc0
  have hz : ¬ r.code ≠ 0 := fun e => e hc
  rw [if_neg (by decide)]
  rw [if_neg hz] at hb
  obtain ⟨H, hH⟩ : ∃ H : Nat, r.height = H := ⟨r.height.toNat, by have := hm.h0; omega⟩
  obtain ⟨S, hS⟩ : ∃ S : Nat, r.sub = S := ⟨r.sub.toNat, by have := hm.s0; omega⟩
  obtain ⟨M, hM⟩ : ∃ M : Nat, r.ev.num = M := ⟨r.ev.num.toNat, by have := hm.n0; omega⟩
  have hh1 := hm.h1
  have hs1 := hm.s1
  have hn1 := hm.n1
  unfold restR RpIs
  refine ⟨rfl, ?_⟩
  by_cases k2 : r.kind.toNat = 2
  · simp only [if_pos k2] at hb ⊢
    exact ⟨_, [], sxA (rpK r.kind 0) r.nonce r.bal, rfl, ⟨r.nonce, r.bal, h.nonce, h.bal, (List.append_nil _).symm, rfl⟩, .inl ⟨by omega, rfl, hb⟩⟩
  simp only [if_neg k2] at hb ⊢
  by_cases k3 : r.kind.toNat = 3
  · simp only [if_pos k3] at hb ⊢
    refine ⟨_, [], sxR (sxH (rpK r.kind 0) H) r.rc, rfl, ⟨H, by omega, r.rc, h.rc, hm.rc hc k3, ?_, rfl⟩, .inl ⟨by omega, rfl, ?_⟩⟩
    · rw [hH, Int.toNat_natCast, List.append_nil]
    · rw [hb, hH]
      rfl
  simp only [if_neg k3] at hb ⊢
  by_cases k4 : r.kind.toNat = 4
  · simp only [if_pos k4] at hb ⊢
    have hq := (prfIs_may h.prf (hm.prf hc k4)).at0
    refine ⟨_, prfB r.prf, sxD (sxH (rpK r.kind 0) H) r.dig, rfl, ?_, .inr ⟨k4, r.prf.at0, hq, rfl, hm.prf hc k4, (List.append_nil _).symm, ?_⟩⟩
    · rw [if_pos (.inl k4)]
      exact ⟨H, by omega, r.dig, h.dig, by rw [hH, Int.toNat_natCast], rfl⟩
    · rw [hb, hH]
      rfl
  simp only [if_neg k4] at hb ⊢
  by_cases k5 : r.kind.toNat = 5
  · simp only [if_pos k5] at hb ⊢
    refine ⟨_, [], sxD (sxH (rpK r.kind 0) H) r.dig, rfl, ?_, .inl ⟨by omega, rfl, ?_⟩⟩
    · rw [if_pos (.inr k5)]
      exact ⟨H, by omega, r.dig, h.dig, by rw [hH, Int.toNat_natCast, List.append_nil], rfl⟩
    · rw [hb, hH]
      rfl
  simp only [if_neg k5] at hb ⊢
  have k45 : ¬ (r.kind.toNat = 4 ∨ r.kind.toNat = 5) := by omega
  by_cases k6 : r.kind.toNat = 6
  · simp only [if_pos k6] at hb ⊢
    refine ⟨_, [], sxS (rpK r.kind 0) S, rfl, ?_, .inl ⟨by omega, rfl, ?_⟩⟩
    · rw [if_neg k45]
      exact ⟨S, by omega, by rw [hS, Int.toNat_natCast, List.append_nil], rfl⟩
    · rw [hb, hS]
      rfl
  simp only [if_neg k6] at hb ⊢
  by_cases k7 : r.kind.toNat = 7
  · simp only [if_pos k7] at hb ⊢
    refine ⟨_, [], sxE (sxG (rpK r.kind 0) r.gap) ⟨(M : Int), r.ev.roll, r.ev.hd⟩, rfl, ?_, .inl ⟨by omega, rfl, ?_⟩⟩
    · rw [if_neg k45]
      exact ⟨r.gap, M, r.ev.roll, r.ev.hd, by omega, h.hd, hm.hd, by rw [hM, Int.toNat_natCast, List.append_nil], rfl⟩
    · rw [hb, ← hM]
      rfl
  simp only [if_neg k7] at hb ⊢
  refine ⟨[], [], rpK r.kind 0, rfl, ?_, .inl ⟨k4, rfl, hb⟩⟩
  rw [if_neg k45]
  exact ⟨rfl, rfl⟩
theorem readR_may (F : RpF) {B : List UInt8} {r : Rp} (h : readR F B = (r, 0)) : MayR r ∧ ofR r = B ∧ r.at0 = r := by
  unfold readR at h
  split at h
  · rename_i hc
    obtain ⟨rfl, _⟩ := Prod.mk.inj h
    have := rg_eq hc.1
    rw [hc.2.1] at this
    exact rdIs_may ((rdS_good F).1 this) hc.2.2
  · exact absurd (Prod.mk.inj h).2 (by decide)
theorem readR_of (F : RpF) {r : Rp} (h : r.ok) (hm : MayR r) : readR F (ofR r) = (r.at0, 0) := by
  have := (rdS_good F).2 (rdIs_of h hm)
  unfold readR
  rw [this]
  exact if_pos ⟨rfl, rfl, hm.inR⟩
theorem readR_cases (F : RpF) (B : List UInt8) : (∃ r, readR F B = (r, 0)) ∨ readR F B = (rp0, 220) := by
  unfold readR
  split
  · exact .inl ⟨_, rfl⟩
  · exact .inr rfl
end Go.Proofs.Ytgffejpcldeklaa

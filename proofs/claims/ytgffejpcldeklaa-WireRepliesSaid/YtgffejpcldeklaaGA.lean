/-
  What the call itself has made, block by block: assertions on blocks, apart from one another, and the rules by which they are handed on. The operations on memory as laws for a walk over assertions: worlds and block numbers stay variables; what is known is said by St. Laws for slices of the call's own: made, appended to, copied into, cut. '==' between plain structs and arrays (of whole numbers and bools): it asks whether all cells are the same. Structs and arrays built out of parts; fields and elements of values. A region that draws its order: what only reads is taken first; the rest comes up in its order. The program's types, as the laws take them. Slices written out; bytes that the library has made (they can be read). Numbers of bytes; bytes copied, cut and compared. num.Take and num.Put.
-/
import Derived.WalkKit
import Derived.WalkSpells
import Derived.Laws.CopyOwn
import Derived.Deep.QuietTactic
import Derived.BigQuiet
import Derived.Deep.RegionHeld3
import Derived.Laws.BytesArg
import Derived.Test.YtgffejpcldeklaaProg
set_option linter.unusedVariables false
set_option linter.unusedSimpArgs false
set_option linter.unusedSectionVars false
set_option maxRecDepth 100000
set_option maxHeartbeats 800000
namespace Go.Proofs.Ytgffejpcldeklaa
open Go Go.RowKit
theorem hq1 {p : Prop} [Decidable p] : (decide p = true) = p := decide_eq_true_eq
theorem hq2 {p : Prop} [Decidable p] : decide p = false ↔ ¬ p := decide_eq_false_iff_not
theorem hq3 (b : Bool) : ((!b) = true) = (b = false) := Bool.not_eq_true' b
theorem hq4 (b : Bool) : ((!b) = false) = (b = true) := Bool.not_eq_false' b
theorem hq5 {p : Prop} [Decidable p] : ¬ ¬ p ↔ p := Decidable.not_not
theorem hq6 {α : Type} {o : Option α} : o.isNone = true ↔ o = none := Option.isNone_iff_eq_none
theorem hq7 : (¬ True) = False := not_true_eq_false
theorem hq8 : (¬ False) = True := not_false_eq_true
theorem hSQ : (∀ (p : Prop) [Decidable p], (decide p = true) = p) ∧ (∀ (p : Prop) [Decidable p], decide p = false ↔ ¬ p) ∧ (∀ b : Bool, ((!b) = true) = (b = false)) ∧ (∀ b : Bool, ((!b) = false) = (b = true)) ∧ (∀ (α : Type) (a b : α), (a ≠ b) = ¬ a = b) ∧ (∀ (p : Prop) [Decidable p], ¬ ¬ p ↔ p) ∧ (∀ (α : Type) (o : Option α), o.isNone = true ↔ o = none) ∧ ((¬ True) = False) ∧ ((¬ False) = True) := ⟨fun _ _ => decide_eq_true_eq, fun _ _ => decide_eq_false_iff_not, Bool.not_eq_true', Bool.not_eq_false', fun _ _ _ => rfl, fun _ _ => Decidable.not_not, fun _ _ => Option.isNone_iff_eq_none, not_true_eq_false, not_false_eq_true⟩

/-- An assertion on the blocks of a set. -/
structure Asn where
  holds : World → (Nat → Prop) → Prop
  loc : ∀ {w w' : World} {F : Nat → Prop}, holds w F → (∀ k, F k → w'.heap[k]? = w.heap[k]?) → holds w' F
  mono : ∀ {w : World} {F G : Nat → Prop}, holds w F → (∀ k, F k → G k) → holds w G

/-- Assertions that hold on sets of blocks from B on, apart from one another and from A. -/
def SL (B : Nat) (w : World) : List Asn → (Nat → Prop) → Prop
  | [], _ => True
  | P :: L, A => ∃ F, P.holds w F ∧ (∀ k, F k → B ≤ k ∧ k < w.heap.size ∧ ¬ A k) ∧ SL B w L (fun k => A k ∨ F k)

/-- What was there when the call began (w0) is as it was; on blocks of its own the assertions hold, apart. -/
def St (w0 w : World) (L : List Asn) : Prop := Below w0.heap.size w0 w ∧ SL w0.heap.size w L (fun _ => False)

theorem SL.sub {B : Nat} {w : World} : ∀ {L : List Asn} {A A' : Nat → Prop}, SL B w L A → (∀ k, A' k → A k) → SL B w L A'
  | [], _, _, _, _ => trivial
  | _ :: _, _, _, ⟨F, h1, h2, h3⟩, hs => ⟨F, h1, fun k hk => ⟨(h2 k hk).1, (h2 k hk).2.1, fun ha => (h2 k hk).2.2 (hs k ha)⟩, SL.sub h3 (fun k hk => hk.imp (hs k) id)⟩

/-- A change outside the sets. -/
theorem SL.same {B : Nat} {w w' : World} (hz : w.heap.size ≤ w'.heap.size) : ∀ {L : List Asn} {A : Nat → Prop}, SL B w L A → (∀ k, B ≤ k → k < w.heap.size → ¬ A k → w'.heap[k]? = w.heap[k]?) → SL B w' L A
  | [], _, _, _ => trivial
  | P :: _, _, ⟨F, h1, h2, h3⟩, hs => ⟨F, P.loc h1 (fun k hk => hs k (h2 k hk).1 (h2 k hk).2.1 (h2 k hk).2.2), fun k hk => ⟨(h2 k hk).1, Nat.lt_of_lt_of_le (h2 k hk).2.1 hz, (h2 k hk).2.2⟩,
      SL.same hz h3 (fun k hB hk hA => hs k hB hk (fun a => hA (.inl a)))⟩

/-- The sets of L lie below w's size: whatever lies from there on is apart from them. -/
theorem SL.more {B n : Nat} {w : World} : ∀ {L : List Asn} {A A' : Nat → Prop}, SL B w L A → (∀ k, A' k → A k ∨ w.heap.size ≤ k) → SL B w L A'
  | [], _, _, _, _ => trivial
  | _ :: _, _, _, ⟨F, h1, h2, h3⟩, hs => ⟨F, h1, fun k hk => ⟨(h2 k hk).1, (h2 k hk).2.1, fun ha => (hs k ha).elim (h2 k hk).2.2 (fun hle => absurd (h2 k hk).2.1 (by omega))⟩,
      SL.more (n := n) h3 (fun k hk => hk.elim (fun a => (hs k a).imp .inl id) (fun f => .inl (.inr f)))⟩

theorem SL.bound {B : Nat} {w : World} : ∀ {L : List Asn} {A : Nat → Prop}, SL B w L A → SL B w L (fun k => A k ∨ w.heap.size ≤ k) :=
  fun h => SL.more (n := 0) h (fun _ hk => hk)

/-- Two lists of assertions, the second one's blocks all from n on, the first one's all below. -/
theorem SL.append {B n : Nat} {w : World} (hB : B ≤ n) : ∀ {M L : List Asn} {A : Nat → Prop}, SL n w M A → SL B w L (fun k => A k ∨ n ≤ k) → SL B w (M ++ L) A
  | [], _, _, _, hL => hL.sub (fun _ h => .inl h)
  | _ :: _, _, _, ⟨F, h1, h2, h3⟩, hL => ⟨F, h1, fun k hk => ⟨Nat.le_trans hB (h2 k hk).1, (h2 k hk).2⟩,
      SL.append hB h3 (hL.sub (fun k hk => hk.elim (fun a => a.elim .inl (fun f => .inr (h2 k f).1)) .inr))⟩

theorem St.start (w : World) : St w w [] := ⟨Below.refl _ _, trivial⟩
theorem St.below {w0 w : World} {L : List Asn} (h : St w0 w L) : Below w0.heap.size w0 w := h.1
theorem St.size {w0 w : World} {L : List Asn} (h : St w0 w L) : w0.heap.size ≤ w.heap.size := h.1.size

/-- Behind a call that made blocks of its own: its assertions stand in front. -/
theorem St.comp {w0 w w' : World} {L M : List Asn} (h : St w0 w L) (hc : St w w' M) : St w0 w' (M ++ L) := by
  refine ⟨h.1.trans (hc.1.mono h.size), SL.append h.size hc.2 ?_⟩
  have h1 : SL w0.heap.size w L (fun k => False ∨ w.heap.size ≤ k) := SL.more (n := 0) h.2 (fun k hk => hk.elim (fun f => f.elim) .inr)
  exact SL.same hc.1.size h1 (fun k _ hk _ => hc.1.block k hk)

/-- One of them, to be read. -/
theorem SL.get {B : Nat} {w : World} : ∀ {L : List Asn} {A : Nat → Prop} (i : Nat) {P : Asn}, SL B w L A → L[i]? = some P → ∃ F, P.holds w F ∧ ∀ k, F k → B ≤ k ∧ k < w.heap.size
  | _ :: _, _, 0, _, ⟨F, h1, h2, _⟩, hi => by
    cases hi; exact ⟨F, h1, fun k hk => ⟨(h2 k hk).1, (h2 k hk).2.1⟩⟩
  | _ :: _, _, i + 1, _, ⟨_, _, _, h3⟩, hi => SL.get i h3 (by simpa using hi)

theorem St.get {w0 w : World} {L : List Asn} (h : St w0 w L) (i : Nat) {P : Asn} (hi : L[i]? = some P) : ∃ F, P.holds w F ∧ ∀ k, F k → w0.heap.size ≤ k ∧ k < w.heap.size := SL.get i h.2 hi

/-- One of them, turned: only blocks of its set, and new ones, have turned. -/
theorem SL.upd {B : Nat} {w w' : World} {P' : Asn} (hz : w.heap.size ≤ w'.heap.size) : ∀ {L : List Asn} {A : Nat → Prop} (i : Nat) {P : Asn}, SL B w L A → L[i]? = some P →
    (∀ F, P.holds w F → (∀ k, F k → B ≤ k ∧ k < w.heap.size) → (∀ k, B ≤ k → k < w.heap.size → ¬ F k → w'.heap[k]? = w.heap[k]?) ∧ P'.holds w' (fun k => F k ∨ w.heap.size ≤ k ∧ k < w'.heap.size)) → (∀ k, A k → k < w.heap.size) → B ≤ w.heap.size → SL B w' (L.set i P') A
  | P :: L, A, 0, _, ⟨F, h1, h2, h3⟩, hi, hu, hA, hB => by
    cases hi
    obtain ⟨hs, hp⟩ := hu F h1 (fun k hk => ⟨(h2 k hk).1, (h2 k hk).2.1⟩)
    refine ⟨_, hp, fun k hk => ?_, ?_⟩
    · rcases hk with hk | hk
      · exact ⟨(h2 k hk).1, Nat.lt_of_lt_of_le (h2 k hk).2.1 hz, (h2 k hk).2.2⟩
      · exact ⟨by omega, hk.2, fun a => absurd (hA k a) (by omega)⟩
    · have h4 : SL B w' L (fun k => A k ∨ F k) := SL.same hz h3 (fun k hB' hk hn => hs k hB' hk (fun f => hn (.inr f)))
      have h5 : SL B w L (fun k => (A k ∨ F k) ∨ w.heap.size ≤ k) := SL.bound h3
      have h6 : SL B w' L (fun k => (A k ∨ F k) ∨ w.heap.size ≤ k) := SL.same hz h5 (fun k hB' hk hn => hs k hB' hk (fun f => hn (.inl (.inr f))))
      exact h6.sub (fun k hk => hk.elim (fun a => .inl (.inl a)) (fun f => f.elim (fun f => .inl (.inr f)) (fun g => .inr g.1)))
  | P :: L, A, i + 1, P0, ⟨F, h1, h2, h3⟩, hi, hu, hA, hB => by
    have hi' : L[i]? = some P0 := by simpa using hi
    obtain ⟨G, g1, g2⟩ := SL.get i h3 hi'
    refine ⟨F, ?_, fun k hk => ⟨(h2 k hk).1, Nat.lt_of_lt_of_le (h2 k hk).2.1 hz, (h2 k hk).2.2⟩, SL.upd hz i h3 hi' hu (fun k hk => hk.elim (hA k) (fun f => (h2 k f).2.1)) hB⟩
    -- F is apart from the i-th one's set
    refine P.loc h1 (fun k hk => ?_)
    have : ∀ {L : List Asn} {A : Nat → Prop} (i : Nat) {Q : Asn}, SL B w L A → L[i]? = some Q → ∃ G, Q.holds w G ∧ (∀ k, G k → B ≤ k ∧ k < w.heap.size ∧ ¬ A k) := by
      intro L
      induction L with
      | nil => intro A i Q _ h; simp at h
      | cons x L ih =>
        intro A i Q hh h
        obtain ⟨F, a1, a2, a3⟩ := hh
        cases i with
        | zero => cases h; exact ⟨F, a1, a2⟩
        | succ i =>
          obtain ⟨G, b1, b2⟩ := ih i a3 (by simpa using h)
          exact ⟨G, b1, fun k hk => ⟨(b2 k hk).1, (b2 k hk).2.1, fun a => (b2 k hk).2.2 (.inl a)⟩⟩
    obtain ⟨G, b1, b2⟩ := this i h3 hi'
    exact (hu G b1 (fun k hk => ⟨(b2 k hk).1, (b2 k hk).2.1⟩)).1 k (h2 k hk).1 (h2 k hk).2.1 (fun g => (b2 k g).2.2 (.inr hk))

theorem St.upd {w0 w w' : World} {L : List Asn} (h : St w0 w L) (i : Nat) {P P' : Asn} (hi : L[i]? = some P) (hz : w.heap.size ≤ w'.heap.size) (h0 : w'.os = w.os) (h1 : w'.tape = w.tape) (h2 : w'.output = w.output)
    (hlow : ∀ k, k < w0.heap.size → w'.heap[k]? = w.heap[k]?)
    (hu : ∀ F, P.holds w F → (∀ k, F k → w0.heap.size ≤ k ∧ k < w.heap.size) → (∀ k, w0.heap.size ≤ k → k < w.heap.size → ¬ F k → w'.heap[k]? = w.heap[k]?) ∧ P'.holds w' (fun k => F k ∨ w.heap.size ≤ k ∧ k < w'.heap.size)) : St w0 w' (L.set i P') :=
  ⟨h.1.trans ⟨h0, h1, h2, hz, hlow⟩, SL.upd hz i h.2 hi hu (fun _ f => f.elim) h.size⟩

/-- One of them, said otherwise. -/
theorem St.turn {w0 w : World} {L : List Asn} (h : St w0 w L) (i : Nat) {P P' : Asn} (hi : L[i]? = some P) (hu : ∀ F, P.holds w F → P'.holds w F) : St w0 w (L.set i P') :=
  h.upd i hi (Nat.le_refl _) rfl rfl rfl (fun _ _ => rfl) (fun F hF _ => ⟨fun _ _ _ _ => rfl, P'.mono (hu F hF) (fun _ hk => .inl hk)⟩)

theorem SL.tail {B : Nat} {w : World} {P : Asn} {L : List Asn} {A : Nat → Prop} (h : SL B w (P :: L) A) : SL B w L A := by
  obtain ⟨F, _, _, h3⟩ := h
  exact h3.sub (fun k hk => .inl hk)

theorem SL.swap {B : Nat} {w : World} {P Q : Asn} {L : List Asn} {A : Nat → Prop} (h : SL B w (P :: Q :: L) A) : SL B w (Q :: P :: L) A := by
  obtain ⟨F, h1, h2, G, g1, g2, h3⟩ := h
  exact ⟨G, g1, fun k hk => ⟨(g2 k hk).1, (g2 k hk).2.1, fun a => (g2 k hk).2.2 (.inl a)⟩, F, h1, fun k hk => ⟨(h2 k hk).1, (h2 k hk).2.1, fun a => a.elim (h2 k hk).2.2 (fun g => (g2 k g).2.2 (.inr hk))⟩,
    h3.sub (fun k hk => hk.elim (fun a => a.elim (fun a => .inl (.inl a)) .inr) (fun f => .inl (.inr f)))⟩

theorem SL.cons_mono {B : Nat} {w : World} {P : Asn} {L M : List Asn} (hm : ∀ A, SL B w L A → SL B w M A) {A : Nat → Prop} (h : SL B w (P :: L) A) : SL B w (P :: M) A := by
  obtain ⟨F, h1, h2, h3⟩ := h
  exact ⟨F, h1, h2, hm _ h3⟩

theorem SL.perm {B : Nat} {w : World} {L M : List Asn} (hp : L.Perm M) : ∀ {A : Nat → Prop}, SL B w L A → SL B w M A := by
  induction hp with
  | nil => exact fun h => h
  | cons x _ ih => exact fun h => SL.cons_mono (fun _ => ih) h
  | swap x y l => exact fun h => SL.swap h
  | trans _ _ ih1 ih2 => exact fun h => ih2 (ih1 h)

theorem St.perm {w0 w : World} {L M : List Asn} (h : St w0 w L) (hp : L.Perm M) : St w0 w M := ⟨h.1, SL.perm hp h.2⟩

/-- Two in front made one. -/
theorem St.join {w0 w : World} {P Q R : Asn} {L : List Asn} (h : St w0 w (P :: Q :: L)) (hj : ∀ F G, P.holds w F → Q.holds w G → R.holds w (fun k => F k ∨ G k)) : St w0 w (R :: L) := by
  obtain ⟨hb, F, h1, h2, G, g1, g2, h3⟩ := h
  refine ⟨hb, _, hj F G h1 g1, fun k hk => ?_, h3.sub (fun k hk => hk.elim (fun a => .inl (.inl a)) (fun f => f.elim (fun f => .inl (.inr f)) .inr))⟩
  rcases hk with hk | hk
  · exact h2 k hk
  · exact ⟨(g2 k hk).1, (g2 k hk).2.1, fun a => a.elim⟩

/-- The head's assertion lets a fact be known. -/
theorem St.know {w0 w : World} {L : List Asn} (h : St w0 w L) (i : Nat) {P : Asn} (hi : L[i]? = some P) {φ : Prop} (hφ : ∀ F, P.holds w F → φ) : φ := by
  obtain ⟨F, hF, _⟩ := h.get i hi
  exact hφ F hF

end Go.Proofs.Ytgffejpcldeklaa
namespace Go.Proofs.Ytgffejpcldeklaa
open Go Go.RowKit

theorem addr_add (b o n : Nat) : (⟨b, o, none⟩ : Addr).add n = ⟨b, o + n, none⟩ := Addr.add_lit b o n

/-! ### Types, out of the program's table -/
def aggB : TypeDesc → Bool | .struct _ | .array _ _ => true | _ => false

/-- An element or variable type: its cells, its bytes, its zero's cells. -/
class TyI (P : Program) (e : TypeId) (agg : outParam Bool) (size bytes : outParam Nat) (z : outParam (List Value)) : Prop where
  und : (P.underlying e).map aggB = some agg
  info : ∃ i zv, P.info? e = some i ∧ i.zero = some zv ∧ zv.cells.toList = z ∧ i.size = size ∧ i.bytes = bytes
  len : z.length = size
  pos : 0 < size

theorem TyI.of {P : Program} {e : TypeId} {agg : Bool} {size bytes : Nat} {zv : Value} (hu : (P.underlying e).map aggB = some agg) (h : (P.info? e).map (fun i => (i.zero, i.size, i.bytes)) = some (some zv, size, bytes)) {z : List Value} (hz : zv.cells.toList = z) (hl : z.length = size)
    (hp : 0 < size) : TyI P e agg size bytes z := by
  obtain ⟨i, h1, h2, h3, h4⟩ := info_parts h
  exact ⟨hu, ⟨i, zv, h1, h2, hz, h3, h4⟩, hl, hp⟩

theorem TyI.run_isAgg {P : Program} {e : TypeId} {agg : Bool} {size bytes : Nat} {z : List Value} (h : TyI P e agg size bytes z) (w : World) : (isAgg e).run P w = .ok agg w := by
  have hu := h.und
  cases hd : P.underlying e with
  | none => simp [hd] at hu
  | some d =>
    have ha : aggB d = agg := by simpa [hd] using hu
    unfold isAgg
    rw [Sem.run_bind, run_underlying hd w]
    cases d <;> simp_all [aggB]

theorem TyI.run_size {P : Program} {e : TypeId} {agg : Bool} {size bytes : Nat} {z : List Value} (h : TyI P e agg size bytes z) (w : World) : (sizeOf e).run P w = .ok size w := by
  obtain ⟨i, zv, h1, h2, h3, h4, h5⟩ := h.info
  simp [sizeOf, typeInfo, h1, h4]

theorem TyI.run_zero {P : Program} {e : TypeId} {agg : Bool} {size bytes : Nat} {z : List Value} (h : TyI P e agg size bytes z) (w : World) : ∃ zv, (zeroValue e).run P w = .ok zv w ∧ zv.cells.toList = z := by
  obtain ⟨i, zv, h1, h2, h3, h4, h5⟩ := h.info
  exact ⟨zv, by simp [zeroValue, typeInfo, h1, h2], h3⟩

/-! ### Assertions on rows of cells -/
/-- Block g holds just these cells. -/
def blk (g : Nat) (t : TypeId) (cs : List Value) : Asn where
  holds w F := F g ∧ w.heap[g]? = some (.cells cs.toArray t (0, 0))
  loc h hs := ⟨h.1, (hs g h.1).trans h.2⟩
  mono h hF := ⟨hF _ h.1, h.2⟩

/-- A slice of n elements (of 'size' cells), its cells xs, in memory of the call's own. -/
def own (e : TypeId) (size : Nat) (a : Option Addr) (n cap : Nat) (xs : List Value) : Asn where
  holds w F := xs.length = n * size ∧ ((a = none ∧ n = 0 ∧ cap = 0) ∨ ∃ g off cs, a = some ⟨g, off, none⟩ ∧ F g ∧ w.heap[g]? = some (.cells (List.toArray cs) e (0, 0)) ∧ n ≤ cap ∧ cap ≤ maxLen ∧ off + cap * size ≤ cs.length ∧ (cs.drop off).take (n * size) = xs)
  loc := by
    rintro w w' F ⟨h0, h⟩ hs
    refine ⟨h0, h.imp id ?_⟩
    rintro ⟨g, off, cs, h1, h2, h3, h4⟩
    exact ⟨g, off, cs, h1, h2, (hs g h2).trans h3, h4⟩
  mono := by
    rintro w F G ⟨h0, h⟩ hs
    refine ⟨h0, h.imp id ?_⟩
    rintro ⟨g, off, cs, h1, h2, h4⟩
    exact ⟨g, off, cs, h1, hs g h2, h4⟩

/-- Where a slice's address leads the cells vs can be read. -/
def Rc (w : World) (a : Option Addr) (vs : List Value) : Prop := vs = [] ∨ ∃ b off, a = some ⟨b, off, none⟩ ∧ ∀ j u, vs[j]? = some u → w.cell? ⟨b, off + j, none⟩ = some u

theorem Rc.nil (w : World) (a : Option Addr) : Rc w a [] := .inl rfl

theorem Rc.read {w : World} {a : Option Addr} {vs : List Value} (h : Rc w a vs) (hp : vs ≠ []) : ∃ b off, a = some ⟨b, off, none⟩ ∧ ∀ j u, vs[j]? = some u → w.cell? ⟨b, off + j, none⟩ = some u := h.resolve_left hp

theorem Rc.at {w : World} {a : Option Addr} {vs : List Value} (h : Rc w a vs) (k : Nat) (hk : k < vs.length) : ∃ b off, a = some ⟨b, off, none⟩ ∧ w.cell? ⟨b, off + k, none⟩ = some vs[k] := by
  rcases h with rfl | ⟨b, off, h1, h2⟩
  · simp at hk
  · exact ⟨b, off, h1, h2 k _ (by simp [hk])⟩

theorem Rc.below {w w' : World} {a : Option Addr} {vs : List Value} (h : Rc w a vs) (hb : Below w.heap.size w w') : Rc w' a vs := by
  rcases h with rfl | ⟨b, off, rfl, h2⟩
  · exact .inl rfl
  · exact .inr ⟨b, off, rfl, fun j u hu => by
      have hc := h2 j u hu
      rw [hb.cell (p := ⟨b, off + j, none⟩) (World.block_lt_of_cell? _ _ hc)]
      exact hc⟩

theorem Rc.st {w0 w : World} {L : List Asn} {a : Option Addr} {vs : List Value} (h : Rc w0 a vs) (hs : St w0 w L) : Rc w a vs := h.below hs.below

theorem Rc.drew {w : World} {a : Option Addr} {vs : List Value} (h : Rc w a vs) : Rc w.drew a vs := h

/-- Where the cut's address leads. -/
def subA (a : Option Addr) (l m s : Nat) : Option Addr := if m = l then a else a.map (·.add (l * s))

theorem Rc.sub {w : World} {a : Option Addr} {vs : List Value} (h : Rc w a vs) (l m s : Nat) (us : List Value) (hu : ∀ j u, us[j]? = some u → vs[l * s + j]? = some u) (hm : m = l → us = []) : Rc w (subA a l m s) us := by
  by_cases h0 : us = []
  · exact .inl h0
  · have hml : ¬ m = l := fun e => h0 (hm e)
    have : vs ≠ [] := by
      rintro rfl
      obtain ⟨x, us', rfl⟩ := List.exists_cons_of_ne_nil h0
      simpa using hu 0 x rfl
    obtain ⟨b, off, rfl, h2⟩ := h.read this
    refine .inr ⟨b, off + l * s, by simp [subA, hml, addr_add], fun j u hj => ?_⟩
    rw [Nat.add_assoc]
    exact h2 _ _ (hu j u hj)

/-- The part of the cells from k on. -/
theorem Rc.part {w : World} {b off : Nat} {vs : List Value} (h : Rc w (some ⟨b, off, none⟩) vs) (k : Nat) (us : List Value) (hu : ∀ j u, us[j]? = some u → vs[k + j]? = some u) : Rc w (some ⟨b, off + k, none⟩) us := by
  by_cases h0 : us = []
  · exact .inl h0
  · have : vs ≠ [] := by
      rintro rfl
      obtain ⟨x, us', rfl⟩ := List.exists_cons_of_ne_nil h0
      simpa using hu 0 x rfl
    obtain ⟨b', off', e, h2⟩ := h.read this
    cases e
    exact .inr ⟨b, off + k, rfl, fun j u hj => by rw [Nat.add_assoc]; exact h2 _ _ (hu j u hj)⟩

theorem blk.rc {g : Nat} {t : TypeId} {cs : List Value} {w : World} {F : Nat → Prop} (h : (blk g t cs).holds w F) : Rc w (some ⟨g, 0, none⟩) cs :=
  .inr ⟨g, 0, rfl, fun j u hj => by
    rw [cell_of_row w g (0 + j) cs.toArray t (0, 0) h.2]
    simpa using hj⟩

theorem St.rcBlk {w0 w : World} {L : List Asn} (h : St w0 w L) (i : Nat) {g : Nat} {t : TypeId} {cs : List Value} (hi : L[i]? = some (blk g t cs)) : Rc w (some ⟨g, 0, none⟩) cs := h.know i hi (fun _ hF => blk.rc hF)

/-- A cell of a block of the call's own. -/
theorem St.cellBlk {w0 w : World} {L : List Asn} (h : St w0 w L) (i : Nat) {g : Nat} {t : TypeId} {cs : List Value} (hi : L[i]? = some (blk g t cs)) (k : Nat) {v : Value} (hk : cs[k]? = some v) : w.cell? ⟨g, k, none⟩ = some v := by
  have hg : w.heap[g]? = some (.cells cs.toArray t (0, 0)) := h.know i hi (fun _ hF => hF.2)
  rw [cell_of_row w g k cs.toArray t (0, 0) hg]
  simpa using hk

theorem own.rc {e : TypeId} {size : Nat} {a : Option Addr} {n cap : Nat} {xs : List Value} {w : World} {F : Nat → Prop} (h : (own e size a n cap xs).holds w F) : Rc w a xs := by
  obtain ⟨h0, h⟩ := h
  rcases h with ⟨_, rfl, _⟩ | ⟨g, off, cs, rfl, _, hg, _, _, _, hx⟩
  · exact .inl (List.eq_nil_of_length_eq_zero (by simpa using h0))
  · refine .inr ⟨g, off, rfl, fun j u hj => ?_⟩
    rw [cell_of_row w g (off + j) cs.toArray e (0, 0) hg]
    rw [← hx, List.getElem?_take] at hj
    split at hj
    · simpa using hj
    · cases hj

theorem St.rcOwn {w0 w : World} {L : List Asn} (h : St w0 w L) (i : Nat) {e : TypeId} {size : Nat} {a : Option Addr} {n cap : Nat} {xs : List Value} (hi : L[i]? = some (own e size a n cap xs)) : Rc w a xs := h.know i hi (fun _ hF => own.rc hF)

theorem St.ownLen {w0 w : World} {L : List Asn} (h : St w0 w L) (i : Nat) {e : TypeId} {size : Nat} {a : Option Addr} {n cap : Nat} {xs : List Value} (hi : L[i]? = some (own e size a n cap xs)) : xs.length = n * size ∧ n ≤ cap ∧ cap ≤ maxLen := h.know i hi (fun _ hF => by
  obtain ⟨h0, h⟩ := hF
  rcases h with ⟨_, rfl, rfl⟩ | ⟨g, off, cs, rfl, _, hg, h1, h2, _⟩
  · exact ⟨h0, Nat.le_refl _, Nat.zero_le _⟩
  · exact ⟨h0, h1, h2⟩)

/-- A nil slice owns nothing: it can always be listed. -/
theorem St.nil {w0 w : World} {L : List Asn} (h : St w0 w L) (e : TypeId) (size : Nat) : St w0 w (own e size none 0 0 [] :: L) :=
  ⟨h.1, fun _ => False, ⟨by simp, .inl ⟨rfl, rfl, rfl⟩⟩, fun _ hk => hk.elim, h.2.sub (fun _ hk => hk.elim id id)⟩

/-- A new block. -/
theorem St.alloc {w0 w : World} {L : List Asn} (h : St w0 w L) (cs : Array Value) (t : TypeId) : St w0 (w.alloc (.cells cs t)) (blk w.heap.size t cs.toList :: L) := by
  refine h.comp (M := [_]) ⟨(Below.refl _ _).alloc (Nat.le_refl _) _, fun k => k = w.heap.size, ⟨rfl, by simpa using heap_alloc_new w _⟩, fun k hk => ?_, trivial⟩
  subst hk
  exact ⟨Nat.le_refl _, by simp, fun f => f⟩

theorem St.drew {w0 w : World} {L : List Asn} (h : St w0 w L) : St w0 w.drew L := ⟨h.1.drew, SL.same (w := w) (w' := w.drew) (Nat.le_refl _) h.2 (fun _ _ _ _ => rfl)⟩
/-- A block as an own slice of all of its cells. -/
theorem blk.own {g : Nat} {t : TypeId} {cs : List Value} {size n : Nat} (hn : cs.length = n * size) (hm : n ≤ maxLen) : ∀ w F, (blk g t cs).holds w F → (own t size (some ⟨g, 0, none⟩) n n cs).holds w F := by
  rintro w F ⟨h1, h2⟩
  exact ⟨hn, .inr ⟨g, 0, cs, rfl, h1, h2, Nat.le_refl _, hm, by omega, by rw [← hn]; simp⟩⟩

/-- Cells of a block of the call's own turned. -/
theorem St.setRow {w0 w : World} {L : List Asn} (h : St w0 w L) (i : Nat) {P P' : Asn} (hi : L[i]? = some P) (g : Nat) (cs : Array Value) (hg : ∀ F, P.holds w F → F g) (hp : ∀ F, P.holds w F → P'.holds (w.setRow g cs) F) : St w0 (w.setRow g cs) (L.set i P') := by
  obtain ⟨F0, hF0, hF0b⟩ := h.get i hi
  have hgb := hF0b g (hg F0 hF0)
  exact h.upd i hi (by simp) rfl rfl rfl (fun k hk => setRow_other w g k cs (by omega))
    (fun F hF _ => ⟨fun k _ _ hn => setRow_other w g k cs (fun e => hn (e ▸ hg F hF)), P'.mono (hp F hF) (fun _ hk => .inl hk)⟩)

theorem splice_all {α : Type} (cs vs : List α) (h : vs.length = cs.length) : splice cs 0 vs = vs := by
  simp [splice, h]
theorem splice_mid {α : Type} (x y z v : List α) (k : Nat) (hk : x.length = k) (h : v.length = y.length) : splice (x ++ (y ++ z)) k v = x ++ (v ++ z) := by
  subst hk
  rw [splice, List.take_left, List.drop_append, h]
  simp
/-! ### The laws -/
section
variable {P : Program} {w0 w : World} {L : List Asn} {o : Oper} {a : Act} {K : Act → World → Prop} {Q : Exit → Act → World → Prop}

/-- One operation, carried out (a structure: so that nobody looks into it). -/
structure Runs (P : Program) (o : Oper) (a : Act) (w : World) (K : Act → World → Prop) (Q : Exit → Act → World → Prop) : Prop where
  out : o.wp P a w K Q

/-- The laws speak of one operation; here they meet a list of operations, and a region in whatever order. -/
theorem lg {ops : Array Oper} {rest : List Oper} (h : Runs P o a w (wpList P ops Q rest) Q) (hw : Region.wanted o (yielded ops a.tmps) = true := by rfl) : wpList P ops Q (o :: rest) a w :=
  BigFrame.wpList_want hw fun _ hK => Oper.wp_mono (fun _ _ h => hK _ _ h) h.out

theorem wp_val {v : Value} {w' : World} (hr : (execOp a.eval o).run P w = .ok (.value v) w') (h : K (a.put o.dst v) w') : Runs P o a w K Q := by
  constructor
  unfold Oper.wp
  rw [hr]
  exact h

theorem wp_unit {w' : World} (hr : (execOp a.eval o).run P w = .ok .skip w') (h : K (a.put o.dst undef) w') : Runs P o a w K Q := by
  constructor
  unfold Oper.wp
  rw [hr]
  exact h

/-- A new variable, zero. -/
theorem wp_alloc (e : TypeId) (ho : o.op = .alloc e) {agg : Bool} {size bytes : Nat} {z : List Value} (ht : TyI P e agg size bytes z) (hs : St w0 w L)
    (h : ∀ g w', St w0 w' (blk g e z :: L) → K (a.put o.dst (.pointer (some ⟨g, 0, none⟩))) w') : Runs P o a w K Q := by
  obtain ⟨zv, hz, hzl⟩ := ht.run_zero w
  refine wp_val (v := .pointer (some ⟨w.heap.size, 0, none⟩)) (w' := w.alloc (.cells zv.cells e)) ?_ (h _ _ ?_)
  · simp [execOp, ho, Instr.alloc, hz, newVar, newRow]
  · have := hs.alloc zv.cells e
    rwa [hzl] at this

/-- A new variable that holds a value. -/
theorem wp_box (e : TypeId) (x : Operand) (ho : o.op = .box e x) (cs : List Value) (hx : (a.eval x).cells.toList = cs) (hs : St w0 w L)
    (h : ∀ g w', St w0 w' (blk g e cs :: L) → K (a.put o.dst (.pointer (some ⟨g, 0, none⟩))) w') : Runs P o a w K Q := by
  refine wp_val (v := .pointer (some ⟨w.heap.size, 0, none⟩)) (w' := w.alloc (.cells (a.eval x).cells e)) ?_ (h _ _ ?_)
  · simp [execOp, ho, Instr.box, newVar, newRow]
  · have := hs.alloc (a.eval x).cells e
    rwa [hx] at this

/-- Cells of a block of the call's own written. -/
theorem run_store_row {e : TypeId} {agg : Bool} {size bytes : Nat} {z : List Value} (ht : TyI P e agg size bytes z) (g off : Nat) (t : TypeId) (cs : List Value) (hg : w.heap[g]? = some (.cells cs.toArray t (0, 0))) (v : Value) (vs : List Value) (hv : v.cells.toList = vs)
    (hl : vs.length = size) (h1 : ∀ u ∈ vs, u.oneCell' = true) (hfit : off + vs.length ≤ cs.length) : (storeVar e ⟨g, off, none⟩ v).run P w = .ok () (w.setRow g (splice cs off vs).toArray) := by
  have hst := run_storeCells_at P g off t vs 0 cs.toArray w hg (by simpa using hfit) h1
  have hz : v.cells.size = size := by rw [← hl, ← hv]; simp
  simp only [storeVar, Sem.run_bind, ht.run_size, Result.andThen_ok, hz, ne_eq, not_true_eq_false, if_false, hv]
  simpa [splice] using hst

theorem wp_storeBlk (e : TypeId) (p x : Operand) (ho : o.op = .store e p x) (g off : Nat) (hp : a.eval p = .pointer (some ⟨g, off, none⟩)) {agg : Bool} {size bytes : Nat} {z : List Value} (ht : TyI P e agg size bytes z)
    (hs : St w0 w L) (i : Nat) {t : TypeId} {cs : List Value} (hi : L[i]? = some (blk g t cs)) (vs : List Value) (hx : (a.eval x).cells.toList = vs) (hl : vs.length = size) (h1 : ∀ u ∈ vs, u.oneCell' = true) (cs' : List Value) (hcs : splice cs off vs = cs') (hfit : off + vs.length ≤ cs.length)
    (h : ∀ w', St w0 w' (L.set i (blk g t cs')) → K (a.put o.dst undef) w') : Runs P o a w K Q := by
  have hg : w.heap[g]? = some (.cells cs.toArray t (0, 0)) := hs.know i hi (fun _ hF => hF.2)
  have hr := run_store_row ht g off t cs hg (a.eval x) vs hx hl h1 hfit
  rw [hcs] at hr
  refine wp_unit (w' := w.setRow g cs'.toArray) ?_ (h _ (hs.setRow i hi g _ (fun F hF => hF.1) (fun F hF => ⟨hF.1, setRow_heap w g _ _ t _ hg⟩)))
  simp [execOp, ho, Instr.storeAt, Instr.sureAddr, hp, hr]

/-- Cells of an own slice written. -/
theorem wp_storeOwn (e : TypeId) (p x : Operand) (ho : o.op = .store e p x) (g off k : Nat) (hp : a.eval p = .pointer (some ⟨g, off + k, none⟩)) {agg : Bool} {size bytes : Nat} {z : List Value} (ht : TyI P e agg size bytes z)
    (hs : St w0 w L) (i : Nat) {t : TypeId} {sz n cap : Nat} {xs : List Value} (hi : L[i]? = some (own t sz (some ⟨g, off, none⟩) n cap xs)) (vs : List Value) (hx : (a.eval x).cells.toList = vs) (hl : vs.length = size) (h1 : ∀ u ∈ vs, u.oneCell' = true) (xs' : List Value) (hcs : splice xs k vs = xs') (hfit : k + vs.length ≤ xs.length)
    (h : ∀ w', St w0 w' (L.set i (own t sz (some ⟨g, off, none⟩) n cap xs')) → K (a.put o.dst undef) w') : Runs P o a w K Q := by
  have hk : ∃ cs, w.heap[g]? = some (.cells (List.toArray cs) t (0, 0)) ∧ n ≤ cap ∧ cap ≤ maxLen ∧ off + cap * sz ≤ cs.length ∧ (cs.drop off).take (n * sz) = xs ∧ xs.length = n * sz := hs.know i hi (fun F hF => by
    obtain ⟨h0, hF⟩ := hF
    rcases hF with ⟨e, _⟩ | ⟨g', off', cs, e, _, hg, r1, r2, r3, r4⟩
    · cases e
    · cases e; exact ⟨cs, hg, r1, r2, r3, r4, h0⟩)
  obtain ⟨cs, hg, r1, r2, r3, r4, r5⟩ := hk
  have hle : n * sz ≤ cap * sz := Nat.mul_le_mul_right _ r1
  have hr := run_store_row ht g (off + k) t cs hg (a.eval x) vs hx hl h1 (by omega)
  refine wp_unit (w' := w.setRow g (splice cs (off + k) vs).toArray) (by simp [execOp, ho, Instr.storeAt, Instr.sureAddr, hp, hr]) (h _ (hs.setRow i hi g _ (fun F hF => ?_) (fun F hF => ?_)))
  · obtain ⟨_, hF⟩ := hF
    rcases hF with ⟨e, _⟩ | ⟨g', off', cs, e, f, _⟩
    · cases e
    · cases e; exact f
  · have hFg : F g := by
      obtain ⟨_, hF⟩ := hF
      rcases hF with ⟨e, _⟩ | ⟨g', off', cs, e, f, _⟩
      · cases e
      · cases e; exact f
    have hxl : xs'.length = xs.length := by rw [← hcs]; exact length_splice _ _ _ hfit
    refine ⟨by omega, .inr ⟨g, off, splice cs (off + k) vs, rfl, hFg, setRow_heap w g _ _ t _ hg, r1, r2, by rw [length_splice _ _ _ (by omega)]; exact r3, ?_⟩⟩
    have hcl := length_splice cs (off + k) vs (by omega)
    rw [← hcs, ← r4]
    apply List.ext_getElem?
    intro j
    have hk2 : k + vs.length ≤ ((cs.drop off).take (n * sz)).length := by rw [r4]; exact hfit
    simp only [List.getElem?_take, List.getElem?_drop, splice, List.getElem?_append, List.length_take, List.length_drop]
    simp only [List.length_take, List.length_drop] at hk2
    repeat' split
    all_goals first | rfl | omega | skip
    all_goals first | (congr 1; omega) | (rw [List.getElem?_eq_none (by omega)]; done) | (exfalso; omega) | skip
end

end Go.Proofs.Ytgffejpcldeklaa
namespace Go.Proofs.Ytgffejpcldeklaa
open Go Go.RowKit

/-- A slice type and its element's row of the table. -/
class SlI (P : Program) (t : TypeId) (e : outParam TypeId) (agg : outParam Bool) (size bytes : outParam Nat) (z : outParam (List Value)) : Prop where
  sl : P.underlying t = some (.slice e)
  el : TyI P e agg size bytes z

theorem growSL {w w' : World} {P : Asn} (hz : w.heap.size ≤ w'.heap.size) (h0 : w'.os = w.os) (h1 : w'.tape = w.tape) (h2 : w'.output = w.output) (hb : ∀ k, k < w.heap.size → w'.heap[k]? = w.heap[k]?) (hp : P.holds w' (fun k => w.heap.size ≤ k ∧ k < w'.heap.size)) :
    St w w' [P] := ⟨⟨h0, h1, h2, hz, hb⟩, _, hp, fun _ hk => ⟨hk.1, hk.2, fun f => f⟩, trivial⟩

theorem take_append_eq {α : Type} (xs news tail : List α) : ((xs ++ news ++ tail).drop 0).take (xs.length + news.length) = xs ++ news := by
  rw [List.drop_zero, ← List.length_append]
  exact List.take_left

/-- What append does to an own slice: in its spare room, or in a new block. -/
theorem run_append {P : Program} {w0 w : World} {L : List Asn} (hs : St w0 w L) (i : Nat) {t ty e : TypeId} {agg : Bool} {size bytes : Nat} {z : List Value} (ht : SlI P t e agg size bytes z)
    {a0 : Option Addr} {n cap : Nat} {xs : List Value} (hi : L[i]? = some (own e size a0 n cap xs)) {ao : Option Addr} {m c : Nat} {news : List Value} (hl : news.length = m * size) (hrc : Rc w ao news) (h1 : ∀ u ∈ news, u.oneCell' = true)
    (h63 : n + m ≤ maxLen) (hbytes : (n + m) * bytes ≤ 140737488355328) :
    ∃ a' cap' w', (Builtin.append_ #[t, t] ty #[.slice a0 n cap, .slice ao m c]).run P w = .ok (.slice a' (n + m) cap') w' ∧ St w0 w' (L.set i (own e size a' (n + m) cap' (xs ++ news))) ∧ (n + m = 0 ∨ a' ≠ none) := by
  obtain ⟨inf, zv, hi1, hi2, hi3, hi4, hi5⟩ := ht.el.info
  have hpos := ht.el.pos
  have hzz := ht.el.len
  have hfirst : (Builtin.firstCells size m (.slice ao m c)).run P w = .ok news.toArray w := by
    rcases hrc with rfl | ⟨b, off, rfl, hc⟩
    · have hm : m = 0 := by
        rcases Nat.mul_eq_zero.1 hl.symm with h | h
        · exact h
        · omega
      subst hm
      cases ao <;> simp [Builtin.firstCells, loadCells, loadCellsFrom]
    · exact run_firstCells_some w size m ⟨b, off, none⟩ m c news hl (fun j v hv => by rw [addr_add]; exact hc j v hv)
  have hlen := hs.ownLen i hi
  have hzcells : zv.cells.size = size := by rw [← hzz, ← hi3]; simp
  by_cases hroom : n + m ≤ cap
  · -- in place
    rcases hs.know i hi (φ := (a0 = none ∧ n = 0 ∧ cap = 0) ∨ ∃ g off cs, a0 = some ⟨g, off, none⟩ ∧ w.heap[g]? = some (.cells (List.toArray cs) e (0, 0)) ∧ off + cap * size ≤ cs.length ∧ (cs.drop off).take (n * size) = xs)
      (fun F hF => hF.2.imp id (fun ⟨g, off, cs, q1, _, q3, _, _, q6, q7⟩ => ⟨g, off, cs, q1, q3, q6, q7⟩)) with ⟨rfl, rfl, rfl⟩ | ⟨g, off, cs, rfl, hg, hcap, hx⟩
    · have hm : m = 0 := by omega
      subst hm
      have hn : news = [] := List.eq_nil_of_length_eq_zero (by simpa using hl)
      subst hn
      have hxs : xs = [] := List.eq_nil_of_length_eq_zero (by simpa using hlen.1)
      subst hxs
      refine ⟨none, 0, w, ?_, ?_, .inl rfl⟩
      · simp [Builtin.append_, run_underlying ht.sl, sizeOf, typeInfo, hi1, hi4, Builtin.lenOf, hfirst]
      · have : L.set i (own e size none (0 + 0) 0 ([] ++ [])) = L := by
          simp only [Nat.add_zero, List.append_nil]
          apply List.ext_getElem?
          intro j
          rw [List.getElem?_set]
          split
          · rename_i h; subst h; split
            · exact hi.symm
            · rename_i h; rw [List.getElem?_eq_none (by omega)]
          · rfl
        rw [this]; exact hs
    · have hle : n * size + m * size ≤ cap * size := by rw [← Nat.add_mul]; exact Nat.mul_le_mul_right _ hroom
      have hst := run_storeCells_at P g (off + n * size) e news 0 cs.toArray w hg (by simp; omega) h1
      refine ⟨some ⟨g, off, none⟩, cap, w.setRow g (splice cs (off + n * size) news).toArray, ?_, hs.setRow i hi g _ (fun F hF => ?_) (fun F hF => ?_), .inr (by simp)⟩
      · simp only [Nat.add_zero] at hst
        simp [Builtin.append_, run_underlying ht.sl, sizeOf, typeInfo, hi1, hi4, Builtin.lenOf, hroom, hfirst, Addr.add_lit, hst, splice]
      · obtain ⟨_, ⟨e, _⟩ | ⟨g', off', cs, e, f, _⟩⟩ := hF
        · cases e
        · cases e; exact f
      · have hFg : F g := by
          obtain ⟨_, ⟨e, _⟩ | ⟨g', off', cs, e, f, _⟩⟩ := hF
          · cases e
          · cases e; exact f
        have hfit : off + n * size + news.length ≤ cs.length := by omega
        refine ⟨by rw [List.length_append, hlen.1, hl, Nat.add_mul], .inr ⟨g, off, _, rfl, hFg, setRow_heap w g _ _ e _ hg, hroom, hlen.2.2, by rw [length_splice _ _ _ hfit]; exact hcap, ?_⟩⟩
        apply List.ext_getElem?
        intro j
        rw [← hx, Nat.add_mul]
        have hln : ((cs.drop off).take (n * size)).length = n * size := by rw [hx]; exact hlen.1
        simp only [List.getElem?_take, List.getElem?_drop, splice, List.getElem?_append, List.length_take, List.length_drop]
        simp only [List.length_take, List.length_drop] at hln
        repeat' split
        all_goals first | rfl | (exfalso; omega) | (congr 1; omega) | (rw [List.getElem?_eq_none (by omega)]; done) | (symm; rw [List.getElem?_eq_none (by omega)]; done) | skip
  · -- a new block
    have hcut : ∀ (old : Nat), old < n + m → n + m ≤ grownCap w (n + m) old e ∧ grownCap w (n + m) old e ≤ maxLen := fun old _ => ⟨grownCap_ge w (n + m) old e, grownCap_le_maxLen w (n + m) old e h63⟩
    have hn0 : news.length = 0 → m = 0 := fun h => by
      rw [hl] at h
      rcases Nat.mul_eq_zero.1 h with h | h <;> omega
    have hsmall : ((n + m : Nat) : Int) ≤ 9223372036854775807 := by simp only [maxLen] at h63; omega
    -- the world behind, whatever the old capacity
    have fin : ∀ gc, n + m ≤ gc → gc ≤ maxLen → St w (w.drew.alloc (.cells (xs.toArray ++ news.toArray ++ Builtin.zeroCells zv.cells (gc - (n + m))) e)) [own e size (some ⟨w.heap.size, 0, none⟩) (n + m) gc (xs ++ news)] := by
      intro gc g1 g2
      refine growSL (by simp) rfl rfl rfl (fun k hk => Below.heap_alloc w.drew _ k hk) ⟨by rw [List.length_append, hlen.1, hl, Nat.add_mul], .inr ⟨w.heap.size, 0, xs ++ news ++ (Builtin.zeroCells zv.cells (gc - (n + m))).toList, rfl, ⟨Nat.le_refl _, by simp⟩, ?_, g1, g2, ?_, ?_⟩⟩
      · have := heap_alloc_new w.drew (.cells (xs.toArray ++ news.toArray ++ Builtin.zeroCells zv.cells (gc - (n + m))) e)
        rw [heap_drew] at this
        rw [this]
        simp
      · simp only [List.length_append, Array.length_toList, size_zeroCells, hzcells, hlen.1, hl, ← Nat.add_mul, Nat.zero_add]
        have : n + m + (gc - (n + m)) = gc := by omega
        rw [this]; exact Nat.le_refl _
      · have : (n + m) * size = xs.length + news.length := by rw [hlen.1, hl, Nat.add_mul]
        rw [this]; exact take_append_eq _ _ _
    have back : ∀ gc, n + m ≤ gc → gc ≤ maxLen → St w0 (w.drew.alloc (.cells (xs.toArray ++ news.toArray ++ Builtin.zeroCells zv.cells (gc - (n + m))) e)) (L.set i (own e size (some ⟨w.heap.size, 0, none⟩) (n + m) gc (xs ++ news))) := by
      intro gc g1 g2
      obtain ⟨hb, F, hF, hFb, _⟩ := fin gc g1 g2
      refine hs.upd i hi hb.size rfl rfl rfl (fun k hk => hb.block k (Nat.lt_of_lt_of_le hk hs.size)) (fun F' _ _ => ⟨fun k _ hk _ => hb.block k hk, Asn.mono _ hF (fun k hk => .inr ⟨(hFb k hk).1, (hFb k hk).2.1⟩)⟩)
    rcases hs.know i hi (φ := (a0 = none ∧ n = 0 ∧ cap = 0) ∨ ∃ g off cs, a0 = some ⟨g, off, none⟩ ∧ w.heap[g]? = some (.cells (List.toArray cs) e (0, 0)) ∧ off + cap * size ≤ cs.length ∧ (cs.drop off).take (n * size) = xs)
      (fun F hF => hF.2.imp id (fun ⟨g, off, cs, q1, _, q3, _, _, q6, q7⟩ => ⟨g, off, cs, q1, q3, q6, q7⟩)) with ⟨rfl, rfl, rfl⟩ | ⟨g, off, cs, rfl, hg, hcap, hx⟩
    · have hxs : xs = [] := List.eq_nil_of_length_eq_zero (by simpa using hlen.1)
      subst hxs
      have hm : 0 < m := by omega
      have hne : news ≠ [] := by rintro rfl; have := hn0 rfl; omega
      obtain ⟨b, off, rfl, hc⟩ := hrc.read hne
      have hr := run_append_nil (P := P) w t ty e inf zv ht.sl hi1 hi2 ⟨b, off, none⟩ m c news (by rw [hi4]; exact hl) (fun j v hv => by rw [addr_add]; exact hc j v hv) hm (by omega) (by rw [hi5]; exact Nat.le_trans (by simpa using hbytes) (by decide))
      have hq := hcut 0 (by omega)
      simp only [Nat.zero_add] at hq
      refine ⟨some ⟨w.heap.size, 0, none⟩, grownCap w m 0 e, _, by rw [hr, Nat.zero_add], ?_, .inr (by simp)⟩
      have := back (grownCap w m 0 e) (by omega) hq.2
      simpa using this
    · have hq := hcut cap (by omega)
      have hrx := hs.rcOwn i hi
      by_cases hm : m = 0
      · have := hlen.2.1; omega
      have hne : news ≠ [] := by
        rintro rfl
        rcases Nat.mul_eq_zero.1 hl.symm with h | h <;> omega
      obtain ⟨b, boff, rfl, hc⟩ := hrc.read hne
      have hold : ∀ j v, xs[j]? = some v → w.cell? ((⟨g, off, none⟩ : Addr).add j) = some v := by
        intro j v hv
        rw [addr_add]
        rcases hrx with rfl | ⟨b', off', e', hc'⟩
        · simp at hv
        · cases e'; exact hc' j v hv
      have hr := run_append_grow (P := P) w t ty e inf zv ht.sl hi1 hi2 ⟨g, off, none⟩ n cap xs (by rw [hi4]; exact hlen.1) hold ⟨b, boff, none⟩ m c news (by rw [hi4]; exact hl) (fun j v hv => by rw [addr_add]; exact hc j v hv) (by omega) hsmall (by rw [hi5]; exact growslice_fits (by omega) hbytes)
      exact ⟨_, _, _, hr, back _ hq.1 hq.2, .inr (by simp)⟩

section
variable {P : Program} {w0 w : World} {L : List Asn} {o : Oper} {a : Act} {K : Act → World → Prop} {Q : Exit → Act → World → Prop}

/-- append onto an own slice. -/
theorem wp_append (s x : Operand) (t : TypeId) (ho : o.op = .call { callee := .builtin .append, args := #[s, x], argTypes := #[t, t] }) {e : TypeId} {agg : Bool} {size bytes : Nat} {z : List Value} (ht : SlI P t e agg size bytes z)
    (hs : St w0 w L) (i : Nat) {a0 : Option Addr} {n cap : Nat} {xs : List Value} (ha : a.eval s = .slice a0 n cap) (hi : L[i]? = some (own e size a0 n cap xs)) {ao : Option Addr} {m c : Nat} (hx : a.eval x = .slice ao m c) (news : List Value) (hl : news.length = m * size) (hrc : Rc w ao news) (h1 : ∀ u ∈ news, u.oneCell' = true)
    (h63 : n + m ≤ maxLen) (hbytes : (n + m) * bytes ≤ 140737488355328)
    (h : ∀ a' cap' w', St w0 w' (L.set i (own e size a' (n + m) cap' (xs ++ news))) → (n + m = 0 ∨ a' ≠ none) → K (a.put o.dst (.slice a' (n + m) cap')) w') : Runs P o a w K Q := by
  obtain ⟨a', cap', w', hr, h2, h3⟩ := run_append (ty := o.type) (c := c) hs i ht hi hl hrc h1 h63 hbytes
  refine wp_val ?_ (h a' cap' w' h2 h3)
  simp [execOp, ho, resolve, invoke, builtin, ha, hx, hr, Result.andThen]

/-- append onto nil. -/
theorem wp_append0 (s x : Operand) (t : TypeId) (ho : o.op = .call { callee := .builtin .append, args := #[s, x], argTypes := #[t, t] }) {e : TypeId} {agg : Bool} {size bytes : Nat} {z : List Value} (ht : SlI P t e agg size bytes z)
    (hs : St w0 w L) (ha : a.eval s = .slice none 0 0) {ao : Option Addr} {m c : Nat} (hx : a.eval x = .slice ao m c) (news : List Value) (hl : news.length = m * size) (hrc : Rc w ao news) (h1 : ∀ u ∈ news, u.oneCell' = true)
    (h63 : m ≤ maxLen) (hbytes : m * bytes ≤ 140737488355328)
    (h : ∀ a' cap' w', St w0 w' (own e size a' m cap' news :: L) → (m = 0 ∨ a' ≠ none) → K (a.put o.dst (.slice a' m cap')) w') : Runs P o a w K Q := by
  refine wp_append s x t ho ht (hs.nil e size) 0 ha rfl hx news hl hrc h1 (by simpa using h63) (by simpa using hbytes) (fun a' cap' w' h2 h3 => ?_)
  simp only [Nat.zero_add, List.nil_append, List.set_cons_zero] at h2 h3 ⊢
  exact h a' cap' w' h2 h3

/-- A slice held against nil. -/
theorem run_eqNil (t ty : TypeId) (x y : Operand) (ho : o.op = .binOp .eql t x y ty) {e : TypeId} {agg : Bool} {size bytes : Nat} {z : List Value} (ht : SlI P t e agg size bytes z) {a0 : Option Addr} {n c : Nat} (hx : a.eval x = .slice a0 n c) (hy : a.eval y = .slice none 0 0)
    : (execOp a.eval o).run P w = .ok (.value (.bool a0.isNone)) w := by
  have h1 : (eqGuard .eql t x y (.slice a0 n c) (.slice none 0 0)).run P w = .ok () w := by simp [eqGuard]
  have h2 : (binOp .eql t (.slice a0 n c) (.slice none 0 0)).run P w = .ok (.bool a0.isNone) w := by
    have hu := run_underlying ht.sl w
    cases a0 with
    | none => show ((Op.equal t (.slice none n c) (.slice none 0 0)).bind _).run P w = _; rw [Sem.run_bind']; simp only [Op.equal, Op.maxDepth]; rw [show (10000 : Nat) = 9999 + 1 from rfl]; unfold Op.equalIn; rw [Sem.run_bind, hu]; rfl
    | some ad => show ((Op.equal t (.slice (some ad) n c) (.slice none 0 0)).bind _).run P w = _; rw [Sem.run_bind']; simp only [Op.equal, Op.maxDepth]; rw [show (10000 : Nat) = 9999 + 1 from rfl]; unfold Op.equalIn; rw [Sem.run_bind, hu]; rfl
  simp only [execOp, ho, hx, hy, Sem.run_bind, h1, h2, Result.andThen_ok, Sem.run_pure]
theorem wp_eqNil (t ty : TypeId) (x y : Operand) (ho : o.op = .binOp .eql t x y ty) {e : TypeId} {agg : Bool} {size bytes : Nat} {z : List Value} (ht : SlI P t e agg size bytes z) {a0 : Option Addr} {n c : Nat} (hx : a.eval x = .slice a0 n c) (hy : a.eval y = .slice none 0 0)
    (h : K (a.put o.dst (.bool a0.isNone)) w) : Runs P o a w K Q :=
  wp_val (run_eqNil t ty x y ho ht hx hy) h

/-- An empty slice, not nil. -/
theorem wp_buildSlice0 (t : TypeId) (ho : o.op = .buildSlice t 0 #[]) {e : TypeId} {agg : Bool} {size bytes : Nat} {z : List Value} (ht : SlI P t e agg size bytes z) (hs : St w0 w L)
    (h : ∀ g w', St w0 w' (own e size (some ⟨g, 0, none⟩) 0 0 [] :: L) → K (a.put o.dst (.slice (some ⟨g, 0, none⟩) 0 0)) w') : Runs P o a w K Q := by
  refine wp_val (v := .slice (some ⟨w.heap.size, 0, none⟩) 0 0) (w' := w.alloc (.cells #[] e)) ?_ (h _ _ ?_)
  · simp [execOp, ho, Instr.buildSlice, run_underlying ht.sl, ht.el.run_size, Instr.fill, newRow]
    congr 2
    exact Array.map_empty
  · have := hs.alloc #[] e
    exact this.turn 0 (P' := own e size (some ⟨w.heap.size, 0, none⟩) 0 0 []) rfl (fun F => blk.own (size := size) (n := 0) (by simp) (by simp [maxLen]) _ F)

/-- make([]T, n): n zero elements. -/
theorem wp_make (l c : Operand) (t : TypeId) (ho : o.op = .makeSlice t l c) {e : TypeId} {agg : Bool} {size bytes : Nat} {z : List Value} (ht : SlI P t e agg size bytes z)
    (hs : St w0 w L) (n : Nat) {kl kc : IntKind} {I J : Int} (hl : a.eval l = .int kl I) (hI : I = (n : Int)) (hc : a.eval c = .int kc J) (hJ : J = (n : Int)) (hb : bytes * n ≤ 281474976710656) (hm : n ≤ maxLen)
    (h : ∀ g w', St w0 w' (own e size (some ⟨g, 0, none⟩) n n (madeCells z.toArray (n * size)).toList :: L) → K (a.put o.dst (.slice (some ⟨g, 0, none⟩) n n)) w') : Runs P o a w K Q := by
  obtain ⟨inf, zv, hi1, hi2, hi3, hi4, hi5⟩ := ht.el.info
  subst hI; subst hJ
  obtain ⟨w', hr, h2, h3⟩ := run_make_full (P := P) w w.heap.size t e inf zv size ht.sl hi1 hi2 hi4 kl kc n (by rw [hi5]; exact hb) hm (Nat.le_refl _)
  have hzc : zv.cells = z.toArray := by rw [← hi3]
  rw [hzc] at h2
  refine wp_val (v := .slice (some ⟨w.heap.size, 0, none⟩) n n) (w' := w') (by simp [execOp, ho, hl, hc, hr, Result.andThen]) (h _ _ ?_)
  refine hs.comp (M := [_]) ?_
  obtain ⟨q1, ⟨q, _⟩ | ⟨g, cap, cur, q2, q3, q4, q5, q6, q7, q8⟩⟩ := h2
  · cases q
  · cases q2
    have hlt : w.heap.size < w'.heap.size := (Array.getElem?_eq_some_iff.1 q4).1
    refine growSL h3.size h3.os h3.tape h3.output (fun k hk => h3.block k hk (by simp)) ⟨q1, .inr ⟨w.heap.size, 0, cur.toList, rfl, ⟨Nat.le_refl _, hlt⟩, by simpa using q4, Nat.le_refl _, hm, by simp [q7], by simpa using q8⟩⟩

/-- copy into a block of the call's own (elements of one cell). -/
theorem wp_copyBlk (d s : Operand) (dT sT : TypeId) (ho : o.op = .call { callee := .builtin .copy, args := #[d, s], argTypes := #[dT, sT] }) {e : TypeId} {agg : Bool} {bytes : Nat} {z : List Value} (ht : SlI P dT e agg 1 bytes z)
    (hs : St w0 w L) (i : Nat) {g off dLen dCap : Nat} (hd : a.eval d = .slice (some ⟨g, off, none⟩) dLen dCap) {ao : Option Addr} {sLen sCap : Nat} (hx : a.eval s = .slice ao sLen sCap) {t : TypeId} {cs : List Value} (hi : L[i]? = some (blk g t cs))
    (vs : List Value) (hl : vs.length = min sLen dLen) (hrc : Rc w ao vs) (h1 : ∀ u ∈ vs, u.oneCell' = true) (cs' : List Value) (hcs : splice cs off vs = cs') (hfit : off + vs.length ≤ cs.length)
    (h : ∀ w', St w0 w' (L.set i (blk g t cs')) → K (a.put o.dst (.int .i64 (min sLen dLen : Nat))) w') : Runs P o a w K Q := by
  obtain ⟨inf, zv, hi1, hi2, hi3, hi4, hi5⟩ := ht.el.info
  have hg : w.heap[g]? = some (.cells cs.toArray t (0, 0)) := hs.know i hi (fun _ hF => hF.2)
  have hfirst : (Builtin.firstCells 1 (min sLen dLen) (.slice ao sLen sCap)).run P w = .ok vs.toArray w := by
    rcases hrc with rfl | ⟨b, boff, rfl, hc⟩
    · have hm : min sLen dLen = 0 := by simpa using hl.symm
      rw [hm]
      cases ao <;> simp [Builtin.firstCells, loadCells, loadCellsFrom]
    · exact run_firstCells_some w 1 _ ⟨b, boff, none⟩ sLen sCap vs (by omega) (fun j v hv => by rw [addr_add]; exact hc j v hv)
  have hst := run_storeCells_at P g off t vs 0 cs.toArray w hg (by simpa using hfit) h1
  have hst2 : (storeCells ⟨g, off, none⟩ vs).run P w = .ok () (w.setRow g cs'.toArray) := by rw [← hcs]; simpa [splice] using hst
  refine wp_val (v := .int .i64 (min sLen dLen : Nat)) (w' := w.setRow g cs'.toArray) ?_ (h _ (hs.setRow i hi g _ (fun F hF => hF.1) (fun F hF => ⟨hF.1, setRow_heap w g _ _ t _ hg⟩)))
  have hmin : Nat.min sLen dLen = min sLen dLen := rfl
  simp [execOp, ho, resolve, invoke, builtin, hd, hx, Builtin.copy_, run_underlying ht.sl, Builtin.lenOf, sizeOf, typeInfo, hi1, hi4, hmin, hfirst, hst2, goInt]

/-- A cut of a slice. -/
def bnd (a : Act) (x : Option Operand) (d n : Nat) : Prop := match x with
  | none => n = d
  | some x => ∃ k I, a.eval x = .int k I ∧ I = (n : Int)

theorem run_sliceSl (t : TypeId) (x : Operand) (lo hi mx : Option Operand) (ho : o.op = .slice t x lo hi mx) {e : TypeId} {agg : Bool} {size bytes : Nat} {z : List Value} (ht : SlI P t e agg size bytes z)
    {a0 : Option Addr} {n cap : Nat} (hx : a.eval x = .slice a0 n cap) (l h m : Nat) (hl : bnd a lo 0 l) (hh : bnd a hi n h) (hm : bnd a mx cap m) (hmh : mx.isSome = true → hi.isSome = true) (h1 : l ≤ h) (h2 : h ≤ m) (h3 : m ≤ cap) :
    (execOp a.eval o).run P w = .ok (.value (.slice (subA a0 l m size) (h - l) (m - l))) w := by
  have hu : P.underlying t = some (.slice (P.elem t)) := by
    have := ht.sl
    simp [Program.elem, this]
  have he : P.elem t = e := by
    have := ht.sl
    simp [Program.elem, this]
  have b0 : ∀ (k : IntKind) (i y : Nat) (code : BoundsCode), i ≤ y → (Instr.sliceBound (.int k (i : Int)) y code).run P w = .ok i w := fun k i y code hh => by
    have := run_sliceBound (P := P) w k (i : Int) y code (by omega) (by omega)
    simpa using this
  simp only [execOp, ho, hx, Sem.run_bind]
  rw [run_sliceAt_slice _ _ _ _ _ _ hu, run_slice_any w t a0 n cap hu]
  have hb : (Instr.sliceBounds true n cap (lo.map a.eval) (hi.map a.eval) (mx.map a.eval)).run P w = .ok (l, h, m) w := by
    cases lo <;> cases hi <;> cases mx <;> simp only [bnd] at hl hh hm <;> (try (simp at hmh; done))
    all_goals
      (try obtain ⟨k1, I1, e1, rfl⟩ := hl)
      (try obtain ⟨k2, I2, e2, rfl⟩ := hh)
      (try obtain ⟨k3, I3, e3, rfl⟩ := hm)
      (try subst hl)
      (try subst hh)
      (try subst hm)
      simp [Instr.sliceBounds, *]
  rw [hb]
  simp [he, ht.el.run_size, sliced, subA]

theorem wp_slice (t : TypeId) (x : Operand) (lo hi mx : Option Operand) (ho : o.op = .slice t x lo hi mx) {e : TypeId} {agg : Bool} {size bytes : Nat} {z : List Value} (ht : SlI P t e agg size bytes z)
    {a0 : Option Addr} {n cap : Nat} (hx : a.eval x = .slice a0 n cap) (l h m : Nat) (hl : bnd a lo 0 l) (hh : bnd a hi n h) (hm : bnd a mx cap m) (hmh : mx.isSome = true → hi.isSome = true) (h1 : l ≤ h) (h2 : h ≤ m) (h3 : m ≤ cap)
    (hk : K (a.put o.dst (.slice (subA a0 l m size) (h - l) (m - l))) w) : Runs P o a w K Q :=
  wp_val (run_sliceSl t x lo hi mx ho ht hx l h m hl hh hm hmh h1 h2 h3) hk

/-- The address of an element. -/
theorem run_indexSl (t : TypeId) (x i : Operand) (ho : o.op = .indexAddr t x i) {e : TypeId} {agg : Bool} {size bytes : Nat} {z : List Value} (ht : SlI P t e agg size bytes z)
    {b off n cap : Nat} (hx : a.eval x = .slice (some ⟨b, off, none⟩) n cap) (j : Nat) {k : IntKind} {I : Int} (hi : a.eval i = .int k I) (hI : I = (j : Int)) (hj : j < n)
    : (execOp a.eval o).run P w = .ok (.value (.pointer (some ⟨b, off + j * size, none⟩))) w := by
  subst hI
  simp [execOp, ho, hx, hi, Instr.indexAt, asIntOf, run_underlying ht.sl, ht.el.run_size, hj, addr_add]
theorem wp_indexSl (t : TypeId) (x i : Operand) (ho : o.op = .indexAddr t x i) {e : TypeId} {agg : Bool} {size bytes : Nat} {z : List Value} (ht : SlI P t e agg size bytes z)
    {b off n cap : Nat} (hx : a.eval x = .slice (some ⟨b, off, none⟩) n cap) (j : Nat) {k : IntKind} {I : Int} (hi : a.eval i = .int k I) (hI : I = (j : Int)) (hj : j < n)
    (h : K (a.put o.dst (.pointer (some ⟨b, off + j * size, none⟩))) w) : Runs P o a w K Q :=
  wp_val (run_indexSl t x i ho ht hx j hi hI hj) h

end

/-! ### What a function answers -/
def rvRun (P : Program) (tmps : Array Value) (w : World) (r : ResultVar) (v : Value) : Prop := match r with
  | .tmp t => tmps.getD t undef = v
  | .cell a t => ∃ ad, tmps.getD a undef = .pointer (some ad) ∧ (loadVar t ad).run P w = .ok v w

section
variable {P : Program} {w0 w : World} {L : List Asn} {tmps : Array Value} {fn : Func}
def rvVal (tmps : Array Value) (r : ResultVar) : Sem Value := match r with
  | .tmp t => pure (tmps.getD t undef)
  | .cell a t => do loadVar t (← asAddr (tmps.getD a undef))
theorem results_eq : results fn tmps = (do let vs ← fn.results.mapM (rvVal tmps); pure (if h : vs.size = 1 then vs[0] else .tuple vs)) := rfl
theorem rv_run {r : ResultVar} {v : Value} (h : rvRun P tmps w r v) : (rvVal tmps r).run P w = .ok v w := by
  cases r with
  | tmp t => have h : tmps.getD t undef = v := h; subst h; rfl
  | cell a t => obtain ⟨ad, h1, h2⟩ := h; simp only [rvVal, Sem.run_bind, h1, asAddr, Sem.run_pure, Result.andThen_ok, h2]

theorem results1 {r : ResultVar} {v : Value} (h : fn.results = #[r]) (h1 : rvRun P tmps w r v) : (results fn tmps).run P w = .ok v w := by
  have e1 := rv_run h1
  rw [results_eq, h]
  simp [Sem.run_bind, e1]
theorem results2 {r1 r2 : ResultVar} {v1 v2 : Value} (h : fn.results = #[r1, r2]) (h1 : rvRun P tmps w r1 v1) (h2 : rvRun P tmps w r2 v2) : (results fn tmps).run P w = .ok (.tuple #[v1, v2]) w := by
  have e1 := rv_run h1
  have e2 := rv_run h2
  rw [results_eq, h]
  simp [Sem.run_bind, e1, e2]
theorem results3 {r1 r2 r3 : ResultVar} {v1 v2 v3 : Value} (h : fn.results = #[r1, r2, r3]) (h1 : rvRun P tmps w r1 v1) (h2 : rvRun P tmps w r2 v2) (h3 : rvRun P tmps w r3 v3) : (results fn tmps).run P w = .ok (.tuple #[v1, v2, v3]) w := by
  have e1 := rv_run h1
  have e2 := rv_run h2
  have e3 := rv_run h3
  rw [results_eq, h]
  simp [Sem.run_bind, e1, e2, e3]

theorem loadAgg_run {ty : TypeId} {size bytes : Nat} {z : List Value} (ht : TyI P ty true size bytes z) {b off : Nat} {vs : List Value} (hl : vs.length = size) (hc : Rc w (some ⟨b, off, none⟩) vs) : (loadVar ty ⟨b, off, none⟩).run P w = .ok (.agg vs.toArray) w := by
  obtain ⟨b', off', e', hc⟩ := hc.read (by intro e; subst e; have := ht.pos; simp at hl; omega)
  cases e'
  have hr := run_loadCells_list (P := P) w ⟨b, off, none⟩ vs (fun j v hv => by rw [addr_add]; exact hc j v hv)
  simp [loadVar, ht.run_isAgg, ht.run_size, ← hl, hr]

theorem rvBlk (hs : St w0 w L) (i : Nat) {p : Tmp} {ty : TypeId} {g : Nat} {t : TypeId} {cs : List Value} (hp : tmps.getD p undef = .pointer (some ⟨g, 0, none⟩)) (hi : L[i]? = some (blk g t cs)) {size bytes : Nat} {z : List Value} (ht : TyI P ty true size bytes z) (hl : cs.length = size) :
    rvRun P tmps w (.cell p ty) (.agg cs.toArray) := ⟨_, hp, loadAgg_run ht hl (hs.rcBlk i hi)⟩
theorem rvBlk1 (hs : St w0 w L) (i : Nat) {p : Tmp} {ty : TypeId} {g : Nat} {t : TypeId} {v : Value} (hp : tmps.getD p undef = .pointer (some ⟨g, 0, none⟩)) (hi : L[i]? = some (blk g t [v])) {size bytes : Nat} {z : List Value} (ht : TyI P ty false size bytes z) :
    rvRun P tmps w (.cell p ty) v := by
  refine ⟨_, hp, ?_⟩
  have hc := (hs.rcBlk i hi).at 0 (by simp)
  obtain ⟨b, off, e, hc⟩ := hc
  cases e
  have hc' : w.cell? ⟨g, 0, none⟩ = some v := hc
  simp [loadVar, ht.run_isAgg, hc']
end
end Go.Proofs.Ytgffejpcldeklaa
namespace Go.Proofs.Ytgffejpcldeklaa
open Go Go.RowKit

/-- The cells of a plain type: whole numbers of some kind, or bools. -/
abbrev Shape := List (Option IntKind)

def sized (P : Program) (t : TypeId) (sh : Shape) : Option Shape := if (P.info? t).map (·.size) = some sh.length then some sh else none

mutual
def shapeOf (P : Program) : Nat → TypeId → Option Shape
  | 0, _ => none
  | f + 1, t => match P.underlying t with
    | some .bool => sized P t [none]
    | some (.int k) => sized P t [some k]
    | some (.array n e) => match shapeOf P f e with
      | some sh => sized P t (List.replicate n sh).flatten
      | none => none
    | some (.struct fs) => if P.stoodInHeld t then none else match shapesOf P f fs.toList 0 with
      | some sh => sized P t sh
      | none => none
    | _ => none
def shapesOf (P : Program) : Nat → List Field → Nat → Option Shape
  | 0, _, _ => none
  | _ + 1, [], _ => some []
  | f + 1, x :: fs, off => if x.name = "_" ∨ x.offset ≠ off then none else match shapeOf P f x.type with
    | some sh => match shapesOf P f fs (off + sh.length) with
      | some r => some (sh ++ r)
      | none => none
    | none => none
end

/-- These cells are of that shape. -/
def Fits : Shape → List Value → Prop
  | [], [] => True
  | some k :: sh, v :: vs => (∃ a, v = .int k a) ∧ Fits sh vs
  | none :: sh, v :: vs => (∃ b, v = .bool b) ∧ Fits sh vs
  | _, _ => False

theorem Fits.len : ∀ {sh : Shape} {vs : List Value}, Fits sh vs → vs.length = sh.length
  | [], [], _ => rfl
  | some _ :: _, _ :: _, h => by simp [Fits.len h.2]
  | none :: _, _ :: _, h => by simp [Fits.len h.2]
  | [], _ :: _, h => h.elim
  | some _ :: _, [], h => h.elim
  | none :: _, [], h => h.elim

theorem Fits.append : ∀ {sh sh' : Shape} {vs vs' : List Value}, Fits sh vs → Fits sh' vs' → Fits (sh ++ sh') (vs ++ vs')
  | [], _, [], _, _, h' => h'
  | some _ :: _, _, _ :: _, _, h, h' => ⟨h.1, Fits.append h.2 h'⟩
  | none :: _, _, _ :: _, _, h, h' => ⟨h.1, Fits.append h.2 h'⟩
  | [], _, _ :: _, _, h, _ => h.elim
  | some _ :: _, _, [], _, h, _ => h.elim
  | none :: _, _, [], _, h, _ => h.elim

theorem Fits.split : ∀ {sh sh' : Shape} {vs : List Value}, Fits (sh ++ sh') vs → Fits sh (vs.take sh.length) ∧ Fits sh' (vs.drop sh.length)
  | [], _, vs, h => ⟨by simp [Fits], by simpa using h⟩
  | some _ :: _, _, _ :: _, h => ⟨⟨h.1, (Fits.split h.2).1⟩, (Fits.split h.2).2⟩
  | none :: _, _, _ :: _, h => ⟨⟨h.1, (Fits.split h.2).1⟩, (Fits.split h.2).2⟩
  | some _ :: _, _, [], h => h.elim
  | none :: _, _, [], h => h.elim

/-- A value of these cells. -/
def mkV (agg : Bool) (xs : List Value) : Value := if agg then .agg xs.toArray else xs.headD undef

section
variable {P : Program}

theorem sized_spec {t : TypeId} {sh sh' : Shape} (h : sized P t sh = some sh') : sh' = sh ∧ (P.info? t).map (·.size) = some sh.length := by
  unfold sized at h
  split at h
  · exact ⟨(Option.some.inj h).symm, by assumption⟩
  · cases h

theorem shapeOf_und {f : Nat} {t : TypeId} {sh : Shape} (h : shapeOf P f t = some sh) : ∃ d, P.underlying t = some d ∧ (P.info? t).map (·.size) = some sh.length ∧ (aggB d = false → sh.length = 1) := by
  cases f with
  | zero => simp [shapeOf] at h
  | succ f =>
    simp only [shapeOf] at h
    split at h
    · rename_i hu
      have := sized_spec h
      exact ⟨_, hu, by rw [this.1]; exact this.2, fun _ => by rw [this.1]; rfl⟩
    · rename_i k hu
      have := sized_spec h
      exact ⟨_, hu, by rw [this.1]; exact this.2, fun _ => by rw [this.1]; rfl⟩
    · rename_i n e hu
      split at h
      · have := sized_spec h
        exact ⟨_, hu, by rw [this.1]; exact this.2, fun hh => by simp [aggB] at hh⟩
      · cases h
    · rename_i fs hu
      split at h
      · cases h
      · split at h
        · have := sized_spec h
          exact ⟨_, hu, by rw [this.1]; exact this.2, fun hh => by simp [aggB] at hh⟩
        · cases h
    · cases h

/-- A part of an aggregate's cells. -/
theorem run_part {t : TypeId} {d : TypeDesc} {n : Nat} (hu : P.underlying t = some d) (hi : (P.info? t).map (·.size) = some n) (h1 : aggB d = false → n = 1) (pre xs post : List Value) (hl : xs.length = n) (w : World) :
    (part t (pre ++ xs ++ post).toArray pre.length).run P w = .ok (mkV (aggB d) xs) w := by
  have hagg : (isAgg t).run P w = .ok (aggB d) w := by
    unfold isAgg
    rw [Sem.run_bind, run_underlying hu w]
    cases d <;> rfl
  obtain ⟨i, hi1, hi2⟩ := Option.map_eq_some_iff.1 hi
  simp only [part, Sem.run_bind, hagg, Result.andThen_ok]
  cases hd : aggB d with
  | true =>
    simp only [if_true, sizeOf, typeInfo, Sem.run_bind, run_program, Result.andThen_ok, hi1, hi2, Sem.run_pure, mkV]
    congr 2
    apply Array.ext'
    simp only [Array.toList_extract, List.extract_eq_take_drop]
    rw [List.append_assoc, List.drop_left, ← hl, Nat.add_sub_cancel_left, List.take_left]
  | false =>
    have h1' := h1 hd
    have : ∃ x, xs = [x] := by
      match xs, hl with
      | [x], _ => exact ⟨x, rfl⟩
      | [], hl => simp at hl; omega
      | _ :: _ :: _, hl => simp at hl; omega
    obtain ⟨x, rfl⟩ := this
    simp [mkV]

theorem run_eqFields_nil (d : Nat) (xs ys : Array Value) (w : World) : (Op.eqFields d xs ys []).run P w = .ok true w := rfl

mutual
theorem eq_of_shape : ∀ (f : Nat) {t : TypeId} {sh : Shape} {dsc : TypeDesc}, shapeOf P f t = some sh → P.underlying t = some dsc → ∀ (d : Nat), f ≤ d → ∀ (xs ys : List Value), Fits sh xs → Fits sh ys → ∀ w,
    ∃ b, (Op.equalIn d t (mkV (aggB dsc) xs) (mkV (aggB dsc) ys)).run P w = .ok b w ∧ (b = true ↔ xs = ys)
  | 0, t, sh, dsc, h, _, _, _, _, _, _, _, _ => by simp [shapeOf] at h
  | f + 1, t, sh, dsc, h, hd, 0, hle, _, _, _, _, _ => by omega
  | f + 1, t, sh, dsc, h, hd, d + 1, hle, xs, ys, hx, hy, w => by
    simp only [shapeOf, hd] at h
    cases dsc with
    | bool =>
      obtain ⟨rfl, _⟩ := sized_spec h
      match xs, ys, hx, hy with
      | [x], [y], hx, hy =>
        obtain ⟨⟨a, rfl⟩, _⟩ := hx
        obtain ⟨⟨b, rfl⟩, _⟩ := hy
        exact ⟨a == b, by simp [mkV, aggB, run_equalIn_bool' w d t a b hd], by simp⟩
    | int k =>
      obtain ⟨rfl, _⟩ := sized_spec h
      match xs, ys, hx, hy with
      | [x], [y], hx, hy =>
        obtain ⟨⟨a, rfl⟩, _⟩ := hx
        obtain ⟨⟨b, rfl⟩, _⟩ := hy
        exact ⟨a == b, by simp [mkV, aggB, run_equalIn_int w d t k k a b hd], by simp⟩
    | array n e =>
      simp only at h
      split at h
      case h_2 => cases h
      rename_i she hshe
      obtain ⟨rfl, hsz⟩ := sized_spec h
      obtain ⟨de, hde, hie, h1e⟩ := shapeOf_und hshe
      have hsize : ∀ w, (sizeOf e).run P w = .ok she.length w := fun w => by
        obtain ⟨i, hi1, hi2⟩ := Option.map_eq_some_iff.1 hie
        simp [sizeOf, typeInfo, hi1, hi2]
      -- the loop, from some element on
      have loop : ∀ (m : Nat) (k : Nat) (pre pre' xs ys : List Value), pre.length = k * she.length → pre'.length = k * she.length → Fits (List.replicate m she).flatten xs → Fits (List.replicate m she).flatten ys → ∀ w,
          ∃ r, (forIn (List.range' k m) ((none : Option Bool), ()) (fun i (_ : Option Bool × Unit) => do
            let x ← part e (pre ++ xs).toArray (i * she.length)
            let y ← part e (pre' ++ ys).toArray (i * she.length)
            let q ← Op.equalIn d e x y
            if (!q) = true then pure (ForInStep.done (some false, ())) else pure (ForInStep.yield ((none : Option Bool), ())))).run P w = .ok (r, ()) w ∧ (r = none ∧ xs = ys ∨ r = some false ∧ xs ≠ ys) := by
        intro m
        induction m with
        | zero =>
          intro k pre pre' xs ys _ _ hx hy w
          simp only [List.replicate_zero, List.flatten_nil] at hx hy
          have e1 := hx.len
          have e2 := hy.len
          simp at e1 e2
          subst e1; subst e2
          exact ⟨none, by simp, .inl ⟨rfl, rfl⟩⟩
        | succ m ih =>
          intro k pre pre' xs ys hp hp' hx hy w
          simp only [List.replicate_succ, List.flatten_cons] at hx hy
          have fx := hx.split
          have fy := hy.split
          have lx := fx.1.len
          have ly := fy.1.len
          have ex : xs = xs.take she.length ++ xs.drop she.length := (List.take_append_drop _ _).symm
          have ey : ys = ys.take she.length ++ ys.drop she.length := (List.take_append_drop _ _).symm
          have px : (part e (pre ++ xs).toArray (k * she.length)).run P w = .ok (mkV (aggB de) (xs.take she.length)) w := by
            have := run_part hde hie h1e pre (xs.take she.length) (xs.drop she.length) lx w
            rwa [List.append_assoc, List.take_append_drop, hp] at this
          have py : (part e (pre' ++ ys).toArray (k * she.length)).run P w = .ok (mkV (aggB de) (ys.take she.length)) w := by
            have := run_part hde hie h1e pre' (ys.take she.length) (ys.drop she.length) ly w
            rwa [List.append_assoc, List.take_append_drop, hp'] at this
          obtain ⟨b, hb, hbe⟩ := eq_of_shape f hshe hde d (by omega) _ _ fx.1 fy.1 w
          cases b with
          | false =>
            refine ⟨some false, by simp [List.range'_succ, px, py, hb], .inr ⟨rfl, fun e => ?_⟩⟩
            subst e
            simp at hbe
          | true =>
            have he := hbe.1 rfl
            obtain ⟨r, hr, hre⟩ := ih (k + 1) (pre ++ xs.take she.length) (pre' ++ ys.take she.length) (xs.drop she.length) (ys.drop she.length) (by rw [List.length_append, hp, lx, Nat.add_mul]; omega) (by rw [List.length_append, hp', ly, Nat.add_mul]; omega) fx.2 fy.2 w
            rw [List.append_assoc, List.append_assoc, List.take_append_drop, List.take_append_drop] at hr
            refine ⟨r, by simp only [List.range'_succ, List.forIn_cons, Sem.run_bind, px, py, hb, Result.andThen_ok]; simpa using hr, ?_⟩
            rcases hre with ⟨h1, h2⟩ | ⟨h1, h2⟩
            · exact .inl ⟨h1, by rw [ex, ey, he, h2]⟩
            · exact .inr ⟨h1, fun e => h2 (by rw [e])⟩
      obtain ⟨r, hr, hre⟩ := loop n 0 [] [] xs ys (by simp) (by simp) hx hy w
      simp only [List.nil_append] at hr
      refine ⟨r.getD true, ?_, ?_⟩
      · simp only [mkV, aggB, if_true, Op.equalIn, Sem.run_bind, run_underlying hd, Result.andThen_ok, hsize]
        rw [Std.Legacy.Range.forIn_eq_forIn_range']
        simp only [Std.Legacy.Range.size, Nat.sub_zero, Nat.add_sub_cancel, Nat.div_one]
        rw [hr]
        cases r <;> rfl
      · rcases hre with ⟨rfl, e⟩ | ⟨rfl, e⟩
        · simpa using e
        · simpa using e
    | struct fs =>
      simp only at h
      split at h
      · cases h
      rename_i hst
      split at h
      case h_2 => cases h
      rename_i shf hshf
      obtain ⟨rfl, hsz⟩ := sized_spec h
      have hfo : P.fieldsOf t = fs := by simp [Program.fieldsOf, hd]
      have hr := run_equalIn_struct (P := P) w d t xs.toArray ys.toArray (by rw [hfo]; exact hd) (by simpa using hst)
      rw [hfo] at hr
      obtain ⟨b, hb, hbe⟩ := eq_of_shapes f hshf d (by omega) [] [] xs ys rfl rfl hx hy w
      exact ⟨b, by simp only [mkV, aggB, if_true]; rw [hr]; simpa using hb, hbe⟩
    | _ => simp at h
theorem eq_of_shapes : ∀ (f : Nat) {fs : List Field} {off : Nat} {sh : Shape}, shapesOf P f fs off = some sh → ∀ (d : Nat), f ≤ d → ∀ (pre pre' xs ys : List Value), pre.length = off → pre'.length = off → Fits sh xs → Fits sh ys → ∀ w,
    ∃ b, (Op.eqFields d (pre ++ xs).toArray (pre' ++ ys).toArray fs).run P w = .ok b w ∧ (b = true ↔ xs = ys)
  | 0, fs, off, sh, h, _, _, _, _, _, _, _, _, _, _, _ => by simp [shapesOf] at h
  | f + 1, [], off, sh, h, d, hle, pre, pre', xs, ys, hp, hp', hx, hy, w => by
    simp only [shapesOf, Option.some.injEq] at h
    subst h
    have e1 := hx.len
    have e2 := hy.len
    simp at e1 e2
    subst e1; subst e2
    exact ⟨true, rfl, by simp⟩
  | f + 1, x :: fs, off, sh, h, d, hle, pre, pre', xs, ys, hp, hp', hx, hy, w => by
    simp only [shapesOf] at h
    split at h
    · cases h
    rename_i hno
    split at h
    case h_2 => cases h
    rename_i she hshe
    split at h
    case h_2 => cases h
    rename_i r hshr
    obtain rfl := Option.some.inj h
    have hname : x.name ≠ "_" := fun e => hno (.inl e)
    have hoff : x.offset = off := by
      rcases Nat.decEq x.offset off with h | h
      · exact absurd (.inr h) hno
      · exact h
    obtain ⟨de, hde, hie, h1e⟩ := shapeOf_und hshe
    have fx := hx.split
    have fy := hy.split
    have lx := fx.1.len
    have ly := fy.1.len
    have ex : xs = xs.take she.length ++ xs.drop she.length := (List.take_append_drop _ _).symm
    have ey : ys = ys.take she.length ++ ys.drop she.length := (List.take_append_drop _ _).symm
    have px : (part x.type (pre ++ xs).toArray x.offset).run P w = .ok (mkV (aggB de) (xs.take she.length)) w := by
      have := run_part hde hie h1e pre (xs.take she.length) (xs.drop she.length) lx w
      rwa [List.append_assoc, List.take_append_drop, hp, ← hoff] at this
    have py : (part x.type (pre' ++ ys).toArray x.offset).run P w = .ok (mkV (aggB de) (ys.take she.length)) w := by
      have := run_part hde hie h1e pre' (ys.take she.length) (ys.drop she.length) ly w
      rwa [List.append_assoc, List.take_append_drop, hp', ← hoff] at this
    obtain ⟨b, hb, hbe⟩ := eq_of_shape f hshe hde d (by omega) _ _ fx.1 fy.1 w
    cases b with
    | false =>
      refine ⟨false, by simp [Op.eqFields, hname, px, py, hb], ?_⟩
      constructor
      · intro e; cases e
      · intro e; subst e; simp at hbe
    | true =>
      have he := hbe.1 rfl
      obtain ⟨b, hb2, hbe2⟩ := eq_of_shapes f hshr d (by omega) (pre ++ xs.take she.length) (pre' ++ ys.take she.length) (xs.drop she.length) (ys.drop she.length) (by rw [List.length_append, hp, lx]) (by rw [List.length_append, hp', ly]) fx.2 fy.2 w
      rw [List.append_assoc, List.append_assoc, List.take_append_drop, List.take_append_drop] at hb2
      refine ⟨b, by simp [Op.eqFields, hname, px, py, hb, hb2], ?_⟩
      rw [hbe2]
      constructor
      · intro e; rw [ex, ey, he, e]
      · intro e; rw [e]
end

/-- A plain aggregate type. -/
class EqI (P : Program) (t : TypeId) (sh : outParam Shape) : Prop where
  shape : ∃ f, f ≤ 10000 ∧ shapeOf P f t = some sh
  agg : (P.underlying t).map aggB = some true
  guard : P.eqGuardType P.depth t = false

theorem EqI.run {t : TypeId} {sh : Shape} (h : EqI P t sh) {xs ys : List Value} (hx : Fits sh xs) (hy : Fits sh ys) (w : World) : ∃ b, (Op.equalIn 10000 t (.agg xs.toArray) (.agg ys.toArray)).run P w = .ok b w ∧ (b = true ↔ xs = ys) := by
  obtain ⟨f, hf, hs⟩ := h.shape
  obtain ⟨d, hd, _⟩ := shapeOf_und hs
  have ha : aggB d = true := by have := h.agg; simpa [hd] using this
  have := eq_of_shape f hs hd 10000 hf xs ys hx hy w
  simpa [mkV, ha] using this

variable {w : World} {o : Oper} {a : Act} {K : Act → World → Prop} {Q : Exit → Act → World → Prop}

theorem run_eqAgg (t ty : TypeId) (x y : Operand) (ho : o.op = .binOp .eql t x y ty) {sh : Shape} (ht : EqI P t sh) (xs ys : List Value) (hx : a.eval x = .agg xs.toArray) (hy : a.eval y = .agg ys.toArray) (fx : Fits sh xs) (fy : Fits sh ys) (φ : Prop) [Decidable φ] (hφ : xs = ys ↔ φ)
    : (execOp a.eval o).run P w = .ok (.value (.bool (decide φ))) w := by
  obtain ⟨b, hb, hbe⟩ := ht.run fx fy w
  have hbd : b = decide φ := by rw [Bool.eq_iff_iff, hbe, hφ]; simp
  simp [execOp, ho, hx, hy, run_eqGuard_agg _ _ _ _ _ _ _ ht.guard, run_eql_struct, hb, hbd]
theorem run_neAgg (t ty : TypeId) (x y : Operand) (ho : o.op = .binOp .neq t x y ty) {sh : Shape} (ht : EqI P t sh) (xs ys : List Value) (hx : a.eval x = .agg xs.toArray) (hy : a.eval y = .agg ys.toArray) (fx : Fits sh xs) (fy : Fits sh ys) (φ : Prop) [Decidable φ] (hφ : xs = ys ↔ φ)
    : (execOp a.eval o).run P w = .ok (.value (.bool (!decide φ))) w := by
  obtain ⟨b, hb, hbe⟩ := ht.run fx fy w
  have hbd : b = decide φ := by rw [Bool.eq_iff_iff, hbe, hφ]; simp
  simp [execOp, ho, hx, hy, run_eqGuard_agg _ _ _ _ _ _ _ ht.guard, run_neq_struct, hb, hbd]
end

end Go.Proofs.Ytgffejpcldeklaa
namespace Go.Proofs.Ytgffejpcldeklaa
open Go Go.RowKit

theorem foldl_set_splice : ∀ (vs : List Value) (off k : Nat) (cells : Array Value), off + k + vs.length ≤ cells.size →
    (vs.zipIdx k).foldl (fun (cs : Array Value) (x : Value × Nat) => cs.setIfInBounds (off + x.2) x.1) cells = (splice cells.toList (off + k) vs).toArray
  | [], off, k, cells, h => by simp [splice]
  | v :: vs, off, k, cells, h => by
    simp only [List.length_cons] at h
    rw [List.zipIdx_cons, List.foldl_cons, foldl_set_splice vs off (k + 1) _ (by simp; omega)]
    have := list_seg_step cells.toList (off + k) v vs (by simp; omega)
    simpa [splice, Array.toList_setIfInBounds, Nat.add_assoc] using this

/-- Places of fields: their first cell, and how many. -/
def fillS (pl : List (Nat × Nat)) : List Value → List (Nat × List Value) → List Value
  | z, [] => z
  | z, (i, vs) :: r => fillS pl (splice z (pl.getD i (0, 0)).1 vs) r

def okS (pl : List (Nat × Nat)) (size : Nat) (p : Nat × List Value) : Prop := p.1 < pl.length ∧ p.2.length = (pl.getD p.1 (0, 0)).2 ∧ (pl.getD p.1 (0, 0)).1 + p.2.length ≤ size

theorem fill_run (place : Nat → Option (Nat × Nat)) (pl : List (Nat × Nat)) (hpl : ∀ i, i < pl.length → place i = some (pl.getD i (0, 0))) : ∀ (parts : List (Nat × Value)) (cells : Array Value),
    (∀ p ∈ parts.map (fun p => (p.1, p.2.cells.toList)), okS pl cells.size p) → Instr.fill place cells parts = some (fillS pl cells.toList (parts.map (fun p => (p.1, p.2.cells.toList)))).toArray
  | [], cells, _ => by simp [Instr.fill, fillS]
  | (i, v) :: rest, cells, h => by
    have h0 := h (i, v.cells.toList) (by simp)
    obtain ⟨h1, h2, h3⟩ := h0
    simp only at h1 h2 h3
    have hp := hpl i h1
    have hz : v.cells.size = v.cells.toList.length := by simp
    obtain ⟨off, n, hon⟩ : ∃ off n, pl.getD i (0, 0) = (off, n) := ⟨_, _, rfl⟩
    rw [hon] at h2 h3 hp
    simp only at h2 h3
    have hf : Array.foldl (fun (cs : Array Value) (x : Value × Nat) => cs.setIfInBounds (off + x.2) x.1) cells v.cells.zipIdx = (splice cells.toList off v.cells.toList).toArray := by
      rw [← Array.foldl_toList, Array.toList_zipIdx]
      exact foldl_set_splice v.cells.toList off 0 cells (by omega)
    have ih := fill_run place pl hpl rest (splice cells.toList off v.cells.toList).toArray (fun p hm => by
      have := h p (by simp only [List.map_cons, List.mem_cons]; exact .inr hm)
      refine ⟨this.1, this.2.1, ?_⟩
      have hl := length_splice cells.toList off v.cells.toList (by simpa using h3)
      simpa [hl] using this.2.2)
    simp only [Instr.fill, hp]
    rw [if_neg (by simp; omega)]
    have hmatch : (Array.foldl (fun (cs : Array Value) (x : Value × Nat) => match x with | (c, j) => cs.setIfInBounds (off + j) c) cells v.cells.zipIdx) = (splice cells.toList off v.cells.toList).toArray := hf
    rw [hmatch, ih]
    simp only [List.map_cons, fillS, hon]

/-- A struct type's fields: where each one's cells lie. -/
class FlI (P : Program) (t : TypeId) (pl : outParam (List (Nat × Nat))) : Prop where
  str : (P.underlying t).map (fun d => match d with | .struct _ => true | _ => false) = some true
  places : (P.fieldsOf t).toList.map (fun f => (P.info? f.type).map fun i => (f.offset, i.size)) = pl.map some

theorem mapM_places {P : Program} (w : World) : ∀ (fs : List Field) (pl : List (Nat × Nat)), fs.map (fun f => (P.info? f.type).map fun i => (f.offset, i.size)) = pl.map some →
    (fs.mapM (fun f => do pure (f.offset, ← sizeOf f.type) : Field → Sem (Nat × Nat))).run P w = .ok pl w
  | [], [], _ => by simp
  | [], _ :: _, h => by simp at h
  | _ :: _, [], h => by simp at h
  | f :: fs, p :: pl, h => by
    simp only [List.map_cons, List.cons.injEq] at h
    obtain ⟨i, hi, hp⟩ := Option.map_eq_some_iff.1 h.1
    have ih := mapM_places w fs pl h.2
    simp only [List.mapM_cons, Sem.run_bind, sizeOf, typeInfo, run_program, Result.andThen_ok, hi, Sem.run_pure]
    simp only [sizeOf, typeInfo] at ih
    rw [ih]
    simp [hp]

section
variable {P : Program} {w : World} {o : Oper} {a : Act} {K : Act → World → Prop} {Q : Exit → Act → World → Prop}

theorem run_build (t : TypeId) (parts : Array (Nat × Operand)) (ho : o.op = .build t parts) {size bytes : Nat} {z : List Value} (ht : TyI P t true size bytes z) {pl : List (Nat × Nat)} (hf : FlI P t pl)
    (vals : List (Nat × List Value)) (hv : parts.toList.map (fun p => (p.1, (a.eval p.2).cells.toList)) = vals) (hok : ∀ p ∈ vals, okS pl size p) (cs : List Value) (hcs : fillS pl z vals = cs) : (execOp a.eval o).run P w = .ok (.value (.agg cs.toArray)) w := by
  obtain ⟨zv, hz, hzl⟩ := ht.run_zero w
  have hzs : zv.cells.size = size := by rw [← ht.len, ← hzl]; simp
  obtain ⟨fs, hfs⟩ : ∃ fs, P.underlying t = some (.struct fs) := by
    have := hf.str
    cases hd : P.underlying t with
    | none => simp [hd] at this
    | some d => cases d <;> simp [hd] at this; exact ⟨_, rfl⟩
  have hfo : P.fieldsOf t = fs := by simp [Program.fieldsOf, hfs]
  have hpl := hf.places
  rw [hfo] at hpl
  have hm : (fs.mapM (fun f => do pure (f.offset, ← sizeOf f.type) : Field → Sem (Nat × Nat))).run P w = .ok pl.toArray w := by
    rw [Array.mapM_eq_mapM_toList, Sem.run_map, mapM_places w fs.toList pl hpl]
    rfl
  have hmap : (parts.map (fun x => match x with | (i, x) => (i, a.eval x))).toList.map (fun p => (p.1, p.2.cells.toList)) = vals := by
    rw [← hv]
    simp
  have hr := fill_run (fun x => pl.toArray[x]?) pl (fun i hi => by simp [List.getD, hi]) (parts.map (fun x => match x with | (i, x) => (i, a.eval x))).toList zv.cells (by rw [hmap, hzs]; exact hok)
  rw [hmap, hzl, hcs] at hr
  simp only [execOp, ho, Instr.build, Sem.run_bind, hz, Result.andThen_ok, run_underlying hfs, hm, hr, Sem.run_pure]
/-- An array's elements: their type, their cells. -/
class ArI (P : Program) (t : TypeId) (e : outParam TypeId) (n : outParam Nat) (agg : outParam Bool) (size bytes : outParam Nat) (z : outParam (List Value)) : Prop where
  arr : P.underlying t = some (.array n e)
  el : TyI P e agg size bytes z

theorem run_buildArr (t : TypeId) (parts : Array (Nat × Operand)) (ho : o.op = .build t parts) {size bytes : Nat} {z : List Value} (ht : TyI P t true size bytes z) {e : TypeId} {n : Nat} {agg : Bool} {esize ebytes : Nat} {ez : List Value} (hf : ArI P t e n agg esize ebytes ez)
    (vals : List (Nat × List Value)) (hv : parts.toList.map (fun p => (p.1, (a.eval p.2).cells.toList)) = vals) (hok : ∀ p ∈ vals, okS ((List.range n).map fun i => (i * esize, esize)) size p) (cs : List Value) (hcs : fillS ((List.range n).map fun i => (i * esize, esize)) z vals = cs) : (execOp a.eval o).run P w = .ok (.value (.agg cs.toArray)) w := by
  obtain ⟨zv, hz, hzl⟩ := ht.run_zero w
  have hzs : zv.cells.size = size := by rw [← ht.len, ← hzl]; simp
  have hmap : (parts.map (fun x => match x with | (i, x) => (i, a.eval x))).toList.map (fun p => (p.1, p.2.cells.toList)) = vals := by
    rw [← hv]
    simp
  have hr := fill_run (fun i => some (i * esize, esize)) ((List.range n).map fun i => (i * esize, esize)) (fun i hi => by simp at hi; simp [List.getD, hi]) (parts.map (fun x => match x with | (i, x) => (i, a.eval x))).toList zv.cells (by rw [hmap, hzs]; exact hok)
  rw [hmap, hzl, hcs] at hr
  simp only [execOp, ho, Instr.build, Sem.run_bind, hz, Result.andThen_ok, run_underlying hf.arr, hf.el.run_size, hr, Sem.run_pure]
/-- All parts, in their order. -/
def enumS : Nat → List (List Value) → List (Nat × List Value)
  | _, [] => []
  | k, v :: r => (k, v) :: enumS (k + 1) r
def plOf : Nat → List Nat → List (Nat × Nat)
  | _, [] => []
  | off, n :: r => (off, n) :: plOf (off + n) r

theorem fillS_all : ∀ (vs : List (List Value)) (pl0 : List (Nat × Nat)) (pre rest : List Value) (off : Nat), pre.length = off → rest.length = vs.flatten.length → fillS (pl0 ++ plOf off (vs.map List.length)) (pre ++ rest) (enumS pl0.length vs) = pre ++ vs.flatten
  | [], pl0, pre, rest, off, _, hr => by
    have : rest = [] := List.eq_nil_of_length_eq_zero (by simpa using hr)
    simp [fillS, enumS, this]
  | v :: vs, pl0, pre, rest, off, hp, hr => by
    simp only [List.flatten_cons, List.length_append] at hr
    have h0 : (pl0 ++ plOf off ((v :: vs).map List.length)).getD pl0.length (0, 0) = (off, v.length) := by simp [plOf, List.getD]
    have hs : splice (pre ++ rest) off v = (pre ++ v) ++ rest.drop v.length := by
      have := splice_mid pre (rest.take v.length) (rest.drop v.length) v off hp (by simp; omega)
      rwa [List.take_append_drop, ← List.append_assoc] at this
    have ih := fillS_all vs (pl0 ++ [(off, v.length)]) (pre ++ v) (rest.drop v.length) (off + v.length) (by simp [hp]) (by rw [List.length_drop, hr]; omega)
    simp only [enumS, fillS, h0]
    rw [hs]
    simpa [plOf, List.append_assoc] using ih

theorem okS_all : ∀ (vs : List (List Value)) (pl0 : List (Nat × Nat)) (off size : Nat), off + vs.flatten.length ≤ size → ∀ p ∈ enumS pl0.length vs, okS (pl0 ++ plOf off (vs.map List.length)) size p
  | [], _, _, _, _, p, hp => by simp [enumS] at hp
  | v :: vs, pl0, off, size, h, p, hp => by
    simp only [List.flatten_cons, List.length_append] at h
    simp only [enumS, List.mem_cons] at hp
    rcases hp with rfl | hp
    · have h0 : (pl0 ++ plOf off ((v :: vs).map List.length)).getD pl0.length (0, 0) = (off, v.length) := by simp [plOf, List.getD]
      refine ⟨by simp [plOf], ?_, ?_⟩ <;> simp only [h0] <;> omega
    · have := okS_all vs (pl0 ++ [(off, v.length)]) (off + v.length) size (by omega) p (by simpa using hp)
      simpa [plOf, List.append_assoc] using this

theorem run_buildAll (t : TypeId) (parts : Array (Nat × Operand)) (ho : o.op = .build t parts) {size bytes : Nat} {z : List Value} (ht : TyI P t true size bytes z) {pl : List (Nat × Nat)} (hf : FlI P t pl)
    (vs : List (List Value)) (hv : parts.toList.map (fun p => (p.1, (a.eval p.2).cells.toList)) = enumS 0 vs) (hp : plOf 0 (vs.map List.length) = pl) (hl : vs.flatten.length = size) (cs : List Value) (hcs : vs.flatten = cs) : (execOp a.eval o).run P w = .ok (.value (.agg cs.toArray)) w := by
  subst hp
  refine run_build t parts ho ht hf _ hv (okS_all vs [] 0 size (by omega)) cs ?_
  have := fillS_all vs [] [] z 0 rfl (by rw [ht.len, hl])
  simpa [hcs] using this
end

end Go.Proofs.Ytgffejpcldeklaa
namespace Go.Proofs.Ytgffejpcldeklaa
open Go Go.RowKit

section
variable {P : Program} {ops : Array Oper} {Q : Exit → Act → World → Prop} {S : World → Prop}

/-- A call of a Go function. -/
theorem wp_call {o : Oper} {a : Act} {w : World} {K : Act → World → Prop} (f : FuncId) (args : Array Value) (hr : (execOp a.eval o).run P w = .ok (.enter f args) w)
    (h : Calls P f args w fun e w' => ∃ v, e = .returned v ∧ K (a.put o.dst v) w') : Runs P o a w K Q := by
  constructor
  unfold Oper.wp
  rw [hr]
  exact h.mono fun e w' ⟨v, he, hk⟩ => by subst he; exact hk

/-- In a region: what it makes is said of the world in which it begins. -/
def Since (w W : World) : Prop := Below w.heap.size w W
theorem Since.drew (w : World) : Since w w.drew := (Below.refl _ _).drew
variable {w : World} {o : Oper} {a : Act} {K : Act → World → Prop}
theorem run_load1 (e : TypeId) (x : Operand) (ho : o.op = .load e x) (b off : Nat) (hx : a.eval x = .pointer (some ⟨b, off, none⟩)) {size bytes : Nat} {z : List Value} (ht : TyI P e false size bytes z)
    (v : Value) (hc : w.cell? ⟨b, off, none⟩ = some v) : (execOp a.eval o).run P w = .ok (.value v) w := by
  simp [execOp, ho, Instr.loadAt, Instr.sureAddr, hx, loadVar, ht.run_isAgg, hc]
theorem run_loadAgg (e : TypeId) (x : Operand) (ho : o.op = .load e x) (b off : Nat) (hx : a.eval x = .pointer (some ⟨b, off, none⟩)) {size bytes : Nat} {z : List Value} (ht : TyI P e true size bytes z)
    (vs : List Value) (hc : Rc w (some ⟨b, off, none⟩) vs) (hl : vs.length = size) : (execOp a.eval o).run P w = .ok (.value (.agg vs.toArray)) w := by
  simp [execOp, ho, Instr.loadAt, Instr.sureAddr, hx, loadAgg_run ht hl hc]

end

end Go.Proofs.Ytgffejpcldeklaa
namespace Go.Proofs.Ytgffejpcldeklaa
open Go Go.RowKit

def bv (c : UInt8) : Value := .int .u8 c.toNat
def bvs (l : List UInt8) : List Value := l.map bv
@[simp] theorem bvs_length (l : List UInt8) : (bvs l).length = l.length := by simp [bvs]
theorem bvs_one (l : List UInt8) : ∀ u ∈ bvs l, u.oneCell' = true := by
  intro u hu
  obtain ⟨c, _, rfl⟩ := List.mem_map.1 hu
  rfl
theorem bvs_get (l : List UInt8) (k : Nat) (h : k < (bvs l).length) : (bvs l)[k] = .int .u8 (l[k]'(by simpa using h)).toNat := by simp [bvs, bv]
theorem bvs_append (l m : List UInt8) : bvs (l ++ m) = bvs l ++ bvs m := by simp [bvs]

theorem tByte : TyI Try.prog 5 false 1 1 [.int .u8 0] := TyI.of (zv := .int .u8 0) (by kernel_rfl) (by kernel_rfl) rfl rfl (by decide)
theorem sBytes : SlI Try.prog 30 5 false 1 1 [.int .u8 0] := ⟨by kernel_rfl, tByte⟩

/-- A slice of bytes of the call's own. -/
abbrev ownB (a : Option Addr) (cap : Nat) (l : List UInt8) : Asn := own 5 1 a l.length cap (bvs l)

theorem bvs_take (l : List UInt8) (k : Nat) : (bvs l).take k = bvs (l.take k) := by simp [bvs]
theorem bvs_drop (l : List UInt8) (k : Nat) : (bvs l).drop k = bvs (l.drop k) := by simp [bvs]
theorem bvs_inj {l m : List UInt8} (h : bvs l = bvs m) : l = m := by
  unfold bvs at h
  refine (List.map_inj_right ?_).1 h
  intro x y hxy
  simp only [bv, Value.int.injEq, true_and] at hxy
  exact UInt8.toNat_inj.1 (Int.ofNat_inj.1 hxy)
theorem bvs_eq {l m : List UInt8} : bvs l = bvs m ↔ l = m := ⟨bvs_inj, fun h => by rw [h]⟩
theorem fits_bvs : ∀ (l : List UInt8), Fits (List.replicate l.length (some .u8)) (bvs l)
  | [] => trivial
  | _ :: l => ⟨⟨_, rfl⟩, fits_bvs l⟩

/-- A slice of bytes with an element has an address. -/
theorem Rc.some {w : World} {a : Option Addr} {l : List UInt8} (h : Rc w a (bvs l)) (hl : 0 < l.length) : ∃ b off, a = Option.some ⟨b, off, none⟩ := by
  obtain ⟨b, off, e, _⟩ := h.at 0 (by simpa using hl)
  exact ⟨b, off, e⟩

/-- The cells of a cut of a slice of bytes. -/
theorem Rc.cut {w : World} {a : Option Addr} {l : List UInt8} (h : Rc w a (bvs l)) (lo hi m : Nat) (hm : hi ≤ m) : Rc w (subA a lo m 1) (bvs ((l.take hi).drop lo)) := by
  refine h.sub lo m 1 _ (fun j u hu => ?_) (fun e => ?_)
  · rw [Nat.mul_one, ← bvs_drop, ← bvs_take, List.getElem?_drop, List.getElem?_take] at *
    split at hu
    · exact hu
    · cases hu
  · have : ((l.take hi).drop lo) = [] := List.drop_eq_nil_of_le (by simp; omega)
    rw [this]; rfl

theorem strOfNums_bytes (l : List UInt8) : strOfNums (l.map fun c : UInt8 => (c.toNat : Int)) = ⟨l.toArray⟩ := by
  have : ((l.map fun c : UInt8 => (c.toNat : Int)).map fun n => UInt8.ofNat n.toNat) = l := by
    rw [List.map_map]
    conv => rhs; rw [← List.map_id l]
    apply List.map_congr_left
    intro c _
    simp
  unfold strOfNums
  rw [this]

theorem Rc.cutTo {w : World} {a : Option Addr} {l : List UInt8} (h : Rc w a (bvs l)) (lo m : Nat) (hm : l.length ≤ m) : Rc w (subA a lo m 1) (bvs (l.drop lo)) := by
  have := h.cut lo l.length m hm
  rwa [List.take_length] at this

section
variable {w : World} {o : Oper} {a : Act} {K : Act → World → Prop} {Q : Exit → Act → World → Prop}
theorem run_toStr (x : Operand) (ho : o.op = .convert 30 9 x) {ao : Option Addr} {cap : Nat} (l : List UInt8) (hx : a.eval x = .slice ao l.length cap) (hc : Rc w ao (bvs l)) : (execOp a.eval o).run Try.prog w = .ok (.value (.string ⟨l.toArray⟩)) w := by
  have hu : Try.prog.underlying 5 = some (.int .u8) := by kernel_rfl
  have hs : Try.prog.underlying 9 = some .string := by kernel_rfl
  have hr : (convert 30 9 (.slice ao l.length cap)).run Try.prog w = .ok (.string ⟨l.toArray⟩) w := by
    cases ao with
    | none =>
      have : l = [] := by
        rcases hc with h | ⟨b, off, e, _⟩
        · simpa [bvs] using h
        · cases e
      subst this
      exact run_convert_bytes_nil w _ _ sBytes.sl hu _ _ _ hs
    | some ad =>
      have hloc : ∃ b off, (l = [] ∨ ad = ⟨b, off, none⟩) ∧ ∀ i, i < l.length → w.cell? ⟨b, off + i, none⟩ = some (.int .u8 ((l.map fun c : UInt8 => (c.toNat : Int)).getD i 0)) := by
        rcases hc with h | ⟨b, off, e, hc⟩
        · have : l = [] := by simpa [bvs] using h
          subst this
          exact ⟨0, 0, .inl rfl, fun i hi => by simp at hi⟩
        · cases e
          refine ⟨b, off, .inr rfl, fun i hi => ?_⟩
          rw [hc i (bv l[i]) (by simp [bvs, hi])]
          simp [bv, hi]
      obtain ⟨b, off, h0 | rfl, hcell⟩ := hloc
      · subst h0
        rw [run_convert_bytes_string w _ _ _ _ _ _ sBytes.sl hu hs]
        have := run_bytesToString (P := Try.prog) w ad 0 cap [] (by simp [loadCells, loadCellsFrom])
        show _ = Result.ok (Value.string ByteArray.empty) w
        simpa using this
      · have := run_convert_bytes_arg (P := Try.prog) w _ _ sBytes.sl hu b off l.length cap (l.map fun c : UInt8 => (c.toNat : Int)) (by simp) hcell _ hs
        rw [this, strOfNums_bytes]
  simp [execOp, ho, hx, hr]
theorem wp_toStr (x : Operand) (ho : o.op = .convert 30 9 x) {ao : Option Addr} {cap : Nat} (l : List UInt8) (hx : a.eval x = .slice ao l.length cap) (hc : Rc w ao (bvs l)) (h : K (a.put o.dst (.string ⟨l.toArray⟩)) w) : Runs Try.prog o a w K Q :=
  wp_val (run_toStr x ho l hx hc) h

theorem run_eqStr (t ty : TypeId) (x y : Operand) (ho : o.op = .binOp .eql t x y ty) (l m : List UInt8) (hx : a.eval x = .string ⟨l.toArray⟩) (hy : a.eval y = .string ⟨m.toArray⟩) : (execOp a.eval o).run Try.prog w = .ok (.value (.bool (decide (l = m)))) w := by
  have : (l == m) = decide (l = m) := by by_cases e : l = m <;> simp [e]
  simp [execOp, ho, hx, hy, eqGuard, binOp_string_eql, this]
theorem wp_eqStr (t ty : TypeId) (x y : Operand) (ho : o.op = .binOp .eql t x y ty) (l m : List UInt8) (hx : a.eval x = .string ⟨l.toArray⟩) (hy : a.eval y = .string ⟨m.toArray⟩) (h : K (a.put o.dst (.bool (decide (l = m)))) w) : Runs Try.prog o a w K Q :=
  wp_val (run_eqStr t ty x y ho l m hx hy) h
end

end Go.Proofs.Ytgffejpcldeklaa
namespace Go.Proofs.Ytgffejpcldeklaa
open Go Go.RowKit

theorem plOf_len : ∀ (ns : List Nat) (off : Nat), (plOf off ns).length = ns.length
  | [], _ => rfl
  | _ :: ns, off => by simp [plOf, plOf_len ns]
theorem plOf_same (s : Nat) : ∀ (ns : List Nat) (off i : Nat), (∀ n ∈ ns, n = s) → i < ns.length → (plOf off ns).getD i (0, 0) = (off + i * s, s)
  | [], _, _, _, h => by simp at h
  | n :: ns, off, 0, hn, _ => by
    have := hn n (by simp)
    simp [plOf, this]
  | n :: ns, off, i + 1, hn, h => by
    have h0 := hn n (by simp)
    have ih := plOf_same s ns (off + n) i (fun m hm => hn m (by simp [hm])) (by simpa using h)
    simp only [plOf, List.getD_cons_succ, ih, Prod.mk.injEq, and_true]
    rw [h0, Nat.succ_mul]; omega
theorem flatten_same {α : Type} (s : Nat) : ∀ (vs : List (List α)), (∀ v ∈ vs, v.length = s) → vs.flatten.length = vs.length * s
  | [], _ => by simp
  | v :: vs, h => by
    have := h v (by simp)
    have ih := flatten_same s vs (fun u hu => h u (by simp [hu]))
    simp only [List.flatten_cons, List.length_append, List.length_cons, ih, this, Nat.succ_mul]; omega

section
variable {P : Program} {w0 w : World} {L : List Asn} {o : Oper} {a : Act} {K : Act → World → Prop} {Q : Exit → Act → World → Prop}
/-- A slice written out, all elements in their order. -/
theorem wp_buildSliceAll (t : TypeId) (n : Nat) (parts : Array (Nat × Operand)) (ho : o.op = .buildSlice t n parts) {e : TypeId} {agg : Bool} {size bytes : Nat} {z : List Value} (ht : SlI P t e agg size bytes z) (hs : St w0 w L)
    (vs : List (List Value)) (hn : n = vs.length) (h0 : 0 < n) (hv : parts.toList.map (fun p => (p.1, (a.eval p.2).cells.toList)) = enumS 0 vs) (hl : ∀ v ∈ vs, v.length = size)
    (hsz : n * size ≤ 16777216) (h : ∀ g w', St w0 w' (own e size (some ⟨g, 0, none⟩) n n vs.flatten :: L) → K (a.put o.dst (.slice (some ⟨g, 0, none⟩) n n)) w') : Runs P o a w K Q := by
  obtain ⟨zv, hz, hzl⟩ := ht.el.run_zero w
  have hzs : zv.cells.size = size := by rw [← ht.el.len, ← hzl]; simp
  have hpos := ht.el.pos
  have hfl := flatten_same size vs hl
  refine wp_val (v := .slice (some ⟨w.heap.size, 0, none⟩) n n) (w' := w.alloc (.cells vs.flatten.toArray e)) ?_ (h _ _ ?_)
  · obtain ⟨cells, hcells⟩ : ∃ cells, cells = (Array.range (n * size)).map fun x => zv.cells[x % zv.cells.size]! := ⟨_, rfl⟩
    have hcs : cells.size = n * size := by rw [hcells]; simp
    have hmap : (parts.map (fun x => match x with | (i, x) => (i, a.eval x))).toList.map (fun p => (p.1, p.2.cells.toList)) = enumS 0 vs := by
      rw [← hv]
      simp
    have hok := okS_all vs [] 0 (n * size) (by rw [hfl, hn]; omega)
    simp only [List.nil_append, List.length_nil] at hok
    have hr := fill_run (fun i => some (i * size, size)) (plOf 0 (vs.map List.length)) (fun i hi => by
      rw [plOf_same size _ 0 i (fun m hm => by obtain ⟨v, hv', rfl⟩ := List.mem_map.1 hm; exact hl v hv') (by rwa [plOf_len] at hi)]
      simp) (parts.map (fun x => match x with | (i, x) => (i, a.eval x))).toList cells (by rw [hmap, hcs]; exact hok)
    have hall := fillS_all vs [] [] cells.toList 0 rfl (by rw [hfl, ← hn]; simpa using hcs)
    simp only [List.nil_append, List.length_nil] at hall
    rw [hmap, hall] at hr
    have hn' : ¬ (n * size > 2 ^ 24) := by omega
    have hn0 : ¬ (n * size = 0) := by
      have := Nat.mul_pos h0 hpos
      omega
    simp only [execOp, ho, Instr.buildSlice, Sem.run_bind, run_underlying ht.sl, Result.andThen_ok, ht.el.run_size, hn', if_false, hn0, hz, Sem.run_pure]
    rw [hcells] at hr
    rw [hr]
    rfl
  · have := (hs.alloc vs.flatten.toArray e).turn 0 (P' := own e size (some ⟨w.heap.size, 0, none⟩) n n vs.flatten) rfl (fun F => blk.own (size := size) (n := n) (by rw [hn]; simpa using hfl) (by simp only [maxLen]; have := Nat.le_mul_of_pos_right n hpos; omega) _ F)
    simpa using this
end

/-- A function with a body of its own is entered. -/
theorem run_enter {P : Program} {f : FuncId} {fn : Func} (hf : P.funcs[f]? = some fn) (hname : (fn.name == "runtime.NumGoroutine") = false) (hb : fn.body.isSome = true) (args : Array Value) (w : World) : (callFunc f args).run P w = .ok (.enter f args) w := by
  have h1 : fn.name ≠ "runtime.NumGoroutine" := by simpa using hname
  obtain ⟨c, hc⟩ := Option.isSome_iff_exists.1 hb
  simp [callFunc, hf, h1, hc]

/-- Cells of the call's own that can be read. -/
def rd (a : Option Addr) (xs : List Value) : Asn where
  holds w F := xs = [] ∨ ∃ g, F g ∧ a = some ⟨g, 0, none⟩ ∧ ∀ j u, xs[j]? = some u → w.cell? ⟨g, j, none⟩ = some u
  loc := by
    rintro w w' F (h | ⟨g, h1, h2, h3⟩) hs
    · exact .inl h
    · exact .inr ⟨g, h1, h2, fun j u hu => by rw [World.cell?_of_block (w := w) (hs g h1)]; exact h3 j u hu⟩
  mono := by
    rintro w F G (h | ⟨g, h1, h2⟩) hs
    · exact .inl h
    · exact .inr ⟨g, hs g h1, h2⟩
theorem rd.rc {a : Option Addr} {xs : List Value} {w : World} {F : Nat → Prop} (h : (rd a xs).holds w F) : Rc w a xs := by
  rcases h with h | ⟨g, _, h2, h3⟩
  · exact .inl h
  · exact .inr ⟨g, 0, h2, fun j u hu => by rw [Nat.zero_add]; exact h3 j u hu⟩
theorem St.rcRd {w0 w : World} {L : List Asn} (h : St w0 w L) (i : Nat) {a : Option Addr} {xs : List Value} (hi : L[i]? = some (rd a xs)) : Rc w a xs := h.know i hi (fun _ hF => rd.rc hF)
/-- Readable bytes in new memory are returned. -/
def RetR (l : List UInt8) (w : World) (e : Ending) (w' : World) : Prop := ∃ a cap, e = .returned (.slice a l.length cap) ∧ l.length ≤ cap ∧ St w w' [rd a (bvs l)]
end Go.Proofs.Ytgffejpcldeklaa
namespace Go.Proofs.Ytgffejpcldeklaa
open Go Go.RowKit

/-- The number that bytes are, as the loop reckons it. -/
def numOf (l : List UInt8) : Nat := l.foldl (fun n c => (256 * n + c.toNat) % 18446744073709551616) 0
theorem numOf_lt (l : List UInt8) : numOf l < 18446744073709551616 := by
  have : ∀ (l : List UInt8) n, n < 18446744073709551616 → l.foldl (fun n (c : UInt8) => (256 * n + c.toNat) % 18446744073709551616) n < 18446744073709551616 := by
    intro l
    induction l with
    | nil => intro n h; exact h
    | cons c l ih => intro n _; exact ih _ (Nat.mod_lt _ (by decide))
  exact this l 0 (by decide)
theorem numOf_snoc (l : List UInt8) (c : UInt8) : numOf (l ++ [c]) = (256 * numOf l + c.toNat) % 18446744073709551616 := by simp [numOf]
theorem take_snoc' (l : List UInt8) (k : Nat) (h : k < l.length) : l.take (k + 1) = l.take k ++ [l[k]] := by
  rw [List.take_succ_eq_append_getElem h]
theorem numOf_step (n c : Nat) : IntKind.u64.wrap (IntKind.u64.wrap (256 * (n : Int)) + IntKind.u64.wrap (c : Int)) = ((256 * n + c) % 18446744073709551616 : Nat) := by
  simp only [IntKind.wrap_u64]; omega

theorem ret_int {k : IntKind} {a b : Int} (h : a = b) : Ending.returned (.int k a) = .returned (.int k b) := by rw [h]
theorem val_int {k : IntKind} {a b : Int} (h : a = b) : Value.int k a = .int k b := by rw [h]

theorem number_calls (a : Option Addr) (cap : Nat) (l : List UInt8) (w : World) {n : Nat} (hn : n = l.length) (hl : l.length ≤ 1000000000000) (hc : Rc w a (bvs l)) :
    Calls Try.prog 25 #[.slice a n cap] w fun e w' => e = .returned (.int .u64 (numOf l)) ∧ w = w' := by
  subst hn
  go_enter Try.func25, Try.ntmps25
  go_wp2
  go_loop [3, 4] (fun v3 v4 => ∃ k : Nat, k ≤ l.length ∧ v4 = .int .i64 k ∧ v3 = .int .u64 (numOf (l.take k))) (fun v3 v4 => l.length - (intOf v4).toNat)
  case atStart => exact ⟨0, by omega, rfl, rfl⟩
  case round =>
    obtain ⟨k, hk, rfl, rfl⟩ := hrel
    by_cases hlt : k < l.length
    · obtain ⟨b, off, rfl, hck⟩ := hc.at k (by simpa using hlt)
      clear hc
      rw [bvs_get] at hck
      have HS : Hid (numOf (l.take (k + 1)) = (256 * numOf (l.take k) + l[k].toNat) % 18446744073709551616) := by rw [take_snoc' l k hlt]; exact numOf_snoc _ _
      go_wp2
      go_round
      case rel => exact ⟨k + 1, by omega, by go_num, by rw [HS.out]; exact val_int (numOf_step _ _)⟩
      case measure => simp [intOf]; omega
    · go_wp2
      go_ret
      exact ⟨ret_int (by rw [List.take_of_length_le (by omega)]), rfl⟩
/-- A slice of bytes in new memory is returned. -/
def RetB (l : List UInt8) (w : World) (e : Ending) (w' : World) : Prop := ∃ a cap, e = .returned (.slice a l.length cap) ∧ St w w' [ownB a cap l]

theorem clone_calls (a : Option Addr) (cap : Nat) (l : List UInt8) (w : World) {n : Nat} (hn : n = l.length) (hl : l.length ≤ 1000000000000) (hc : Rc w a (bvs l)) :
    Calls Try.prog 20 #[.slice a n cap] w (RetB l w) := by
  subst hn
  go_enter Try.func20, Try.ntmps20
  cases a with
  | none =>
    go_wp2_with (refine lg (wp_eqNil _ _ (.tmp 3) _ rfl sBytes rfl rfl ?_))
    have : l = [] := by
      rcases hc with h | ⟨b, off, e, _⟩
      · simpa [bvs] using h
      · cases e
    subst this
    go_ret
    exact ⟨none, 0, rfl, (St.start w).nil _ _⟩
  | some ad =>
    go_wp2_with (first | (refine lg (wp_eqNil _ _ (.tmp 3) _ rfl sBytes rfl rfl ?_)) | (refine lg (wp_buildSlice0 _ rfl sBytes (St.start w) ?_); intro g w1 hs1) | (refine lg (wp_append (.tmp 5) (.tmp 6) _ rfl sBytes hs1 0 rfl rfl rfl (bvs l) (by simp) (hc.below hs1.below) (bvs_one l) (by simp [maxLen]; omega) (by omega) ?_); intro a' cap' w' hs _))
    go_ret
    exact ⟨a', cap', rfl, by simpa using hs⟩

theorem same_calls (a : Option Addr) (cap : Nat) (l : List UInt8) (b : Option Addr) (cbp : Nat) (m : List UInt8) (w : World) {n k : Nat} (hn : n = l.length) (hk : k = m.length) (hc : Rc w a (bvs l)) (hd : Rc w b (bvs m)) :
    Calls Try.prog 10 #[.slice a n cap, .slice b k cbp] w fun e w' => e = .returned (.bool (decide (l = m))) ∧ w = w' := by
  subst hn; subst hk
  go_enter Try.func10, Try.ntmps10
  go_wp2_with (first | (refine lg (wp_toStr (.tmp 5) rfl l rfl hc ?_)) | (refine lg (wp_toStr (.tmp 7) rfl m rfl hd ?_)) | (refine lg (wp_eqStr _ _ (.tmp 6) (.tmp 8) rfl l m rfl rfl ?_)))
  go_ret
  exact ⟨rfl, rfl⟩

end Go.Proofs.Ytgffejpcldeklaa
namespace Go.Proofs.Ytgffejpcldeklaa
open Go Go.RowKit

theorem numOf_or (n c : Nat) (hc : c < 256) : bits BinOp.or IntKind.u64 (IntKind.u64.wrap ((n : Int) * 256)) (IntKind.u64.wrap (c : Int)) = ((256 * n + c) % 18446744073709551616 : Nat) := by
  have e1 : IntKind.u64.wrap ((n : Int) * 256) = ((n * 256 % 18446744073709551616 : Nat) : Int) := by rw [IntKind.wrap_u64]; omega
  have e2 : IntKind.u64.wrap (c : Int) = (c : Int) := by rw [IntKind.wrap_u64]; omega
  rw [e1, e2, u64_or_nat _ _ (Nat.mod_lt _ (by decide)) (by omega), nat_join8 _ _ (by omega) (by omega)]
  omega

/-- What num.Take answers: the number, and the rest in new memory. -/
def RetTake (n : Nat) (l : List UInt8) (w : World) (e : Ending) (w' : World) : Prop := ∃ a cap, e = .returned (.tuple #[.int .u64 n, .slice a l.length cap, .int .i64 0]) ∧ St w w' [ownB a cap l]

theorem take_short (a : Option Addr) (cap : Nat) (l : List UInt8) (n : Nat) {ln : Nat} (hn : ln = l.length) (h0 : 0 < n) (h8 : n ≤ 8) (h1 : l.length < n) (w : World) :
    Calls Try.prog 60 #[.slice a ln cap, .int .i64 n] w fun e w' => e = .returned (.tuple #[.int .u64 0, .slice none 0 0, .int .i64 10]) ∧ w = w' := by
  subst hn
  go_enter Try.func60, Try.ntmps60
  go_wp2_with fail
  go_ret3
  exact ⟨rfl, rfl⟩

theorem take_calls (a : Option Addr) (cap : Nat) (l : List UInt8) (n : Nat) {ln : Nat} (hn : ln = l.length) (h0 : 0 < n) (h8 : n ≤ 8) (h1 : n ≤ l.length) (hcap : l.length ≤ cap) (w : World) (hl : l.length ≤ 1000000000000) (hc : Rc w a (bvs l)) :
    Calls Try.prog 60 #[.slice a ln cap, .int .i64 n] w (RetTake (numOf (l.take n)) (l.drop n) w) := by
  subst hn
  have d1 : decide ((n : Int) < 1) = false := by simp; omega
  have d2 : decide (8 < (n : Int)) = false := by simp; omega
  have d3 : decide (l.length < n) = false := by simp; omega
  go_enter Try.func60, Try.ntmps60
  go_wp2_with fail
  go_loop [4, 26] (fun v4 v26 => ∃ k : Nat, k ≤ n ∧ v26 = .int .i64 k ∧ v4 = .int .u64 (numOf (l.take k))) (fun v4 v26 => n - (intOf v26).toNat)
  case atStart => exact ⟨0, by omega, rfl, rfl⟩
  case round =>
    obtain ⟨k, hk, rfl, rfl⟩ := hrel
    by_cases hlt : k < n
    · obtain ⟨b, off, rfl, hck⟩ := hc.at k (by simp; omega)
      clear hc
      rw [bvs_get] at hck
      have HS : Hid (numOf (l.take (k + 1)) = (256 * numOf (l.take k) + l[k].toNat) % 18446744073709551616) := by rw [take_snoc' l k (by omega)]; exact numOf_snoc _ _
      go_wp2_with fail
      go_round
      case rel => exact ⟨k + 1, by omega, by go_num, by rw [HS.out]; exact val_int (numOf_or (numOf (l.take k)) (l[k]).toNat (l[k]).toNat_lt)⟩
      case measure => simp [intOf]; omega
    · obtain rfl : k = n := by omega
      have HC : Rc w (subA a k cap 1) (bvs (l.drop k)) := by
        have := hc.cut k l.length cap hcap
        rwa [List.take_length] at this
      go_wp2_with (refine lg (wp_slice _ (.tmp 37) (some (.tmp 38)) none none rfl sBytes rfl k l.length cap ⟨_, _, rfl, rfl⟩ rfl rfl (by simp) h1 hcap (Nat.le_refl _) ?_))
      refine (clone_calls _ _ (l.drop k) _ (by simp) (by simp; omega) HC).mono ?_
      rintro e w1 ⟨a', cap', rfl, hs⟩
      go_wp2_with fail
      go_ret3
      exact ⟨a', cap', by simp, hs⟩

/-- The lowest bytes of a number, the highest one of them first. -/
def digs (n : Nat) : Nat → List UInt8
  | 0 => []
  | k + 1 => UInt8.ofNat (n / 256 ^ k) :: digs n k
theorem digs_length (n : Nat) : ∀ k, (digs n k).length = k
  | 0 => rfl
  | k + 1 => by simp [digs, digs_length n k]

theorem pow_256 (k : Nat) : 2 ^ (8 * k) = 256 ^ k := by rw [Nat.pow_mul]

/-- What num.Put answers. -/
def RetPut (l : List UInt8) (w : World) (e : Ending) (w' : World) : Prop := ∃ a cap, e = .returned (.tuple #[.slice a l.length cap, .int .i64 0]) ∧ St w w' [ownB a cap l]

theorem u8_shr (n k : Nat) : IntKind.u8.wrap ((n : Int) / 2 ^ (8 * k)) = ((UInt8.ofNat (n / 256 ^ k)).toNat : Int) := by
  rw [show (n : Int) / 2 ^ (8 * k) = ((n / 256 ^ k : Nat) : Int) by rw [← pow_256]; simp, IntKind.wrap_u8, UInt8.toNat_ofNat']
  omega

/-- One byte more, ahead of those that are there. -/
theorem splice_fill (s k : Nat) (h : k < s) (c : UInt8) (l : List UInt8) (hl : l.length = k) : splice (bvs (List.replicate (s - k) 0 ++ l)) (s - 1 - k) [bv c] = bvs (List.replicate (s - (k + 1)) 0 ++ c :: l) := by
  have e1 : List.replicate (s - k) (0 : UInt8) = List.replicate (s - (k + 1)) 0 ++ [0] := by
    rw [show s - k = (s - (k + 1)) + 1 by omega, List.replicate_succ']
  rw [e1, splice, bvs_take, bvs_drop]
  have e2 : s - 1 - k = (List.replicate (s - (k + 1)) (0 : UInt8)).length := by simp; omega
  rw [List.append_assoc, List.length_singleton, e2, List.take_left, ← List.drop_drop, List.drop_left]
  simp [bvs]

theorem madeBytes (s : Nat) : (madeCells #[Value.int .u8 0] (s * 1)).toList = bvs (List.replicate (s - 0) 0 ++ []) := by
  rw [Nat.mul_one, toList_madeCells_one]
  simp [bvs, bv]

theorem put_calls (n s : Nat) (h0 : 0 < s) (h8 : s ≤ 8) (hn : n < 256 ^ s) (w : World) :
    Calls Try.prog 14 #[.int .u64 n, .int .i64 s] w (RetPut (digs n s) w) := by
  have d1 : decide ((s : Int) < 1) = false := by simp; omega
  have d2 : decide (8 < (s : Int)) = false := by simp; omega
  have d3 : decide (0 < (n : Int) / 2 ^ (8 * s)) = false := by
    rw [show (n : Int) / 2 ^ (8 * s) = ((n / 256 ^ s : Nat) : Int) by rw [← pow_256]; simp, Nat.div_eq_of_lt hn]; rfl
  go_enter Try.func14, Try.ntmps14
  by_cases h : s < 8
  all_goals
    go_wp2_with (refine lg (wp_make (.tmp 25) (.tmp 25) _ rfl sBytes (St.start w) s rfl rfl rfl rfl (by omega) (by simp [maxLen]; omega) ?_); intro g w1 hs1)
    rw [madeBytes] at hs1
    go_loopw [7, 28] (fun v7 v28 wr => ∃ k : Nat, k ≤ s ∧ v28 = .int .i64 k ∧ St w wr [own 5 1 (some ⟨g, 0, none⟩) s s (bvs (List.replicate (s - k) 0 ++ digs n k))]) (fun _ v28 _ => s - (intOf v28).toNat)
    case atStart => exact ⟨0, by omega, rfl, hs1⟩
    case round =>
      obtain ⟨k, hk, rfl, hs⟩ := hrel
      clear d1 d2 d3 hs1
      by_cases hlt : k < s
      · go_wp2_with (first | (refine lg (wp_indexSl _ (.tmp 31) (.tmp 35) rfl sBytes rfl (s - 1 - k) rfl (by omega) (by omega) ?_)) | (refine lg (wp_storeOwn _ (.tmp 41) (.tmp 40) rfl g 0 ((s - 1 - k) * 1) rfl tByte hs 0 rfl [bv (UInt8.ofNat (n / 256 ^ k))] (congrArg (fun z => [Value.int IntKind.u8 z]) (u8_shr n k)) rfl (fun u hu => by simp at hu; subst hu; rfl) _ rfl (by simp [digs_length]; omega) ?_); intro w2 hs2))
        go_roundw
        case rel => exact ⟨k + 1, by omega, by go_num, by rw [Nat.mul_one, splice_fill s k hlt _ _ (digs_length n k)] at hs2; exact hs2⟩
        case measure => simp [intOf]; omega
      · obtain rfl : k = s := by omega
        go_wp2_with fail
        go_ret2
        exact ⟨some ⟨g, 0, none⟩, k, by simp [digs_length], by unfold ownB; rw [digs_length]; simpa using hs⟩

end Go.Proofs.Ytgffejpcldeklaa

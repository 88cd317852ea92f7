/-
  What the call itself has made, block by block: assertions on blocks, apart from one another, and the rules by which they are handed on.
-/
import Derived.WalkKit
import Derived.WalkSpells
namespace Go.Proofs.YtpnhgmmijkjmlaaDoor
open Go Go.RowKit

/-- An assertion on the blocks of a set. -/
structure Asn where
  holds : World → (Nat → Prop) → Prop
  loc : ∀ {w w' : World} {F : Nat → Prop}, holds w F → (∀ k, F k → w'.heap[k]? = w.heap[k]?) → holds w' F
  mono : ∀ {w : World} {F G : Nat → Prop}, holds w F → (∀ k, F k → G k) → holds w G

/-- Assertions that hold on sets of blocks from B on, apart from one another and from A. -/
def SL (B : Nat) (w : World) : List Asn → (Nat → Prop) → Prop
  | [], _ => True
  | P :: L, A => ∃ F, P.holds w F ∧ (∀ k, F k → B ≤ k ∧ k < w.heap.size ∧ ¬ A k) ∧ SL B w L (fun k => A k ∨ F k)

/-- What was there when the call began (w0) is as it was; on blocks of its own the assertions hold, apart. -/
def St (w0 w : World) (L : List Asn) : Prop := Below w0.heap.size w0 w ∧ SL w0.heap.size w L (fun _ => False)

theorem SL.sub {B : Nat} {w : World} : ∀ {L : List Asn} {A A' : Nat → Prop}, SL B w L A → (∀ k, A' k → A k) → SL B w L A'
  | [], _, _, _, _ => trivial
  | _ :: _, _, _, ⟨F, h1, h2, h3⟩, hs => ⟨F, h1, fun k hk => ⟨(h2 k hk).1, (h2 k hk).2.1, fun ha => (h2 k hk).2.2 (hs k ha)⟩, SL.sub h3 (fun k hk => hk.imp (hs k) id)⟩

theorem SL.lower {B B' : Nat} {w : World} (hB : B' ≤ B) : ∀ {L : List Asn} {A : Nat → Prop}, SL B w L A → SL B' w L A
  | [], _, _ => trivial
  | _ :: _, _, ⟨F, h1, h2, h3⟩ => ⟨F, h1, fun k hk => ⟨Nat.le_trans hB (h2 k hk).1, (h2 k hk).2⟩, SL.lower hB h3⟩

/-- A change outside the sets. -/
theorem SL.same {B : Nat} {w w' : World} (hz : w.heap.size ≤ w'.heap.size) : ∀ {L : List Asn} {A : Nat → Prop}, SL B w L A → (∀ k, B ≤ k → k < w.heap.size → ¬ A k → w'.heap[k]? = w.heap[k]?) → SL B w' L A
  | [], _, _, _ => trivial
  | P :: _, _, ⟨F, h1, h2, h3⟩, hs => ⟨F, P.loc h1 (fun k hk => hs k (h2 k hk).1 (h2 k hk).2.1 (h2 k hk).2.2), fun k hk => ⟨(h2 k hk).1, Nat.lt_of_lt_of_le (h2 k hk).2.1 hz, (h2 k hk).2.2⟩,
      SL.same hz h3 (fun k hB hk hA => hs k hB hk (fun a => hA (.inl a)))⟩

/-- The sets of L lie below w's size: whatever lies from there on is apart from them. -/
theorem SL.more {B n : Nat} {w : World} : ∀ {L : List Asn} {A A' : Nat → Prop}, SL B w L A → (∀ k, A' k → A k ∨ w.heap.size ≤ k) → SL B w L A'
  | [], _, _, _, _ => trivial
  | _ :: _, _, _, ⟨F, h1, h2, h3⟩, hs => ⟨F, h1, fun k hk => ⟨(h2 k hk).1, (h2 k hk).2.1, fun ha => (hs k ha).elim (h2 k hk).2.2 (fun hle => absurd (h2 k hk).2.1 (by omega))⟩,
      SL.more (n := n) h3 (fun k hk => hk.elim (fun a => (hs k a).imp .inl id) (fun f => .inl (.inr f)))⟩

theorem SL.bound {B : Nat} {w : World} : ∀ {L : List Asn} {A : Nat → Prop}, SL B w L A → SL B w L (fun k => A k ∨ w.heap.size ≤ k) :=
  fun h => SL.more (n := 0) h (fun _ hk => hk)

/-- Two lists of assertions, the second one's blocks all from n on, the first one's all below. -/
theorem SL.append {B n : Nat} {w : World} (hB : B ≤ n) : ∀ {M L : List Asn} {A : Nat → Prop}, SL n w M A → SL B w L (fun k => A k ∨ n ≤ k) → SL B w (M ++ L) A
  | [], _, _, _, hL => hL.sub (fun _ h => .inl h)
  | _ :: _, _, _, ⟨F, h1, h2, h3⟩, hL => ⟨F, h1, fun k hk => ⟨Nat.le_trans hB (h2 k hk).1, (h2 k hk).2⟩,
      SL.append hB h3 (hL.sub (fun k hk => hk.elim (fun a => a.elim .inl (fun f => .inr (h2 k f).1)) .inr))⟩

theorem St.start (w : World) : St w w [] := ⟨Below.refl _ _, trivial⟩
theorem St.below {w0 w : World} {L : List Asn} (h : St w0 w L) : Below w0.heap.size w0 w := h.1
theorem St.size {w0 w : World} {L : List Asn} (h : St w0 w L) : w0.heap.size ≤ w.heap.size := h.1.size

theorem St.grow {w0 w w' : World} {L : List Asn} (h : St w0 w L) (hb : Below w.heap.size w w') : St w0 w' L :=
  ⟨h.1.trans (hb.mono h.size), SL.same hb.size h.2 (fun k _ hk _ => hb.block k hk)⟩

/-- Behind a call that made blocks of its own: its assertions stand in front. -/
theorem St.comp {w0 w w' : World} {L M : List Asn} (h : St w0 w L) (hc : St w w' M) : St w0 w' (M ++ L) := by
  refine ⟨h.1.trans (hc.1.mono h.size), SL.append h.size hc.2 ?_⟩
  have h1 : SL w0.heap.size w L (fun k => False ∨ w.heap.size ≤ k) := SL.more (n := 0) h.2 (fun k hk => hk.elim (fun f => f.elim) .inr)
  exact SL.same hc.1.size h1 (fun k _ hk _ => hc.1.block k hk)

/-- One of them, to be read. -/
theorem SL.get {B : Nat} {w : World} : ∀ {L : List Asn} {A : Nat → Prop} (i : Nat) {P : Asn}, SL B w L A → L[i]? = some P → ∃ F, P.holds w F ∧ ∀ k, F k → B ≤ k ∧ k < w.heap.size
  | _ :: _, _, 0, _, ⟨F, h1, h2, _⟩, hi => by
    cases hi; exact ⟨F, h1, fun k hk => ⟨(h2 k hk).1, (h2 k hk).2.1⟩⟩
  | _ :: _, _, i + 1, _, ⟨_, _, _, h3⟩, hi => SL.get i h3 (by simpa using hi)

theorem St.get {w0 w : World} {L : List Asn} (h : St w0 w L) (i : Nat) {P : Asn} (hi : L[i]? = some P) : ∃ F, P.holds w F ∧ ∀ k, F k → w0.heap.size ≤ k ∧ k < w.heap.size := SL.get i h.2 hi

/-- One of them, turned: only blocks of its set, and new ones, have turned. -/
theorem SL.upd {B : Nat} {w w' : World} {P' : Asn} (hz : w.heap.size ≤ w'.heap.size) : ∀ {L : List Asn} {A : Nat → Prop} (i : Nat) {P : Asn}, SL B w L A → L[i]? = some P →
    (∀ F, P.holds w F → (∀ k, F k → B ≤ k ∧ k < w.heap.size) → (∀ k, B ≤ k → k < w.heap.size → ¬ F k → w'.heap[k]? = w.heap[k]?) ∧ P'.holds w' (fun k => F k ∨ w.heap.size ≤ k ∧ k < w'.heap.size)) → (∀ k, A k → k < w.heap.size) → B ≤ w.heap.size → SL B w' (L.set i P') A
  | P :: L, A, 0, _, ⟨F, h1, h2, h3⟩, hi, hu, hA, hB => by
    cases hi
    obtain ⟨hs, hp⟩ := hu F h1 (fun k hk => ⟨(h2 k hk).1, (h2 k hk).2.1⟩)
    refine ⟨_, hp, fun k hk => ?_, ?_⟩
    · rcases hk with hk | hk
      · exact ⟨(h2 k hk).1, Nat.lt_of_lt_of_le (h2 k hk).2.1 hz, (h2 k hk).2.2⟩
      · exact ⟨by omega, hk.2, fun a => absurd (hA k a) (by omega)⟩
    · have h4 : SL B w' L (fun k => A k ∨ F k) := SL.same hz h3 (fun k hB' hk hn => hs k hB' hk (fun f => hn (.inr f)))
      have h5 : SL B w L (fun k => (A k ∨ F k) ∨ w.heap.size ≤ k) := SL.bound h3
      have h6 : SL B w' L (fun k => (A k ∨ F k) ∨ w.heap.size ≤ k) := SL.same hz h5 (fun k hB' hk hn => hs k hB' hk (fun f => hn (.inl (.inr f))))
      exact h6.sub (fun k hk => hk.elim (fun a => .inl (.inl a)) (fun f => f.elim (fun f => .inl (.inr f)) (fun g => .inr g.1)))
  | P :: L, A, i + 1, P0, ⟨F, h1, h2, h3⟩, hi, hu, hA, hB => by
    have hi' : L[i]? = some P0 := by simpa using hi
    obtain ⟨G, g1, g2⟩ := SL.get i h3 hi'
    refine ⟨F, ?_, fun k hk => ⟨(h2 k hk).1, Nat.lt_of_lt_of_le (h2 k hk).2.1 hz, (h2 k hk).2.2⟩, SL.upd hz i h3 hi' hu (fun k hk => hk.elim (hA k) (fun f => (h2 k f).2.1)) hB⟩
    -- F is apart from the i-th one's set
    refine P.loc h1 (fun k hk => ?_)
    have : ∀ {L : List Asn} {A : Nat → Prop} (i : Nat) {Q : Asn}, SL B w L A → L[i]? = some Q → ∃ G, Q.holds w G ∧ (∀ k, G k → B ≤ k ∧ k < w.heap.size ∧ ¬ A k) := by
      intro L
      induction L with
      | nil => intro A i Q _ h; simp at h
      | cons x L ih =>
        intro A i Q hh h
        obtain ⟨F, a1, a2, a3⟩ := hh
        cases i with
        | zero => cases h; exact ⟨F, a1, a2⟩
        | succ i =>
          obtain ⟨G, b1, b2⟩ := ih i a3 (by simpa using h)
          exact ⟨G, b1, fun k hk => ⟨(b2 k hk).1, (b2 k hk).2.1, fun a => (b2 k hk).2.2 (.inl a)⟩⟩
    obtain ⟨G, b1, b2⟩ := this i h3 hi'
    exact (hu G b1 (fun k hk => ⟨(b2 k hk).1, (b2 k hk).2.1⟩)).1 k (h2 k hk).1 (h2 k hk).2.1 (fun g => (b2 k g).2.2 (.inr hk))

theorem St.upd {w0 w w' : World} {L : List Asn} (h : St w0 w L) (i : Nat) {P P' : Asn} (hi : L[i]? = some P) (hz : w.heap.size ≤ w'.heap.size) (h0 : w'.os = w.os) (h1 : w'.tape = w.tape) (h2 : w'.output = w.output)
    (hlow : ∀ k, k < w0.heap.size → w'.heap[k]? = w.heap[k]?)
    (hu : ∀ F, P.holds w F → (∀ k, F k → w0.heap.size ≤ k ∧ k < w.heap.size) → (∀ k, w0.heap.size ≤ k → k < w.heap.size → ¬ F k → w'.heap[k]? = w.heap[k]?) ∧ P'.holds w' (fun k => F k ∨ w.heap.size ≤ k ∧ k < w'.heap.size)) : St w0 w' (L.set i P') :=
  ⟨h.1.trans ⟨h0, h1, h2, hz, hlow⟩, SL.upd hz i h.2 hi hu (fun _ f => f.elim) h.size⟩

/-- One of them, said otherwise. -/
theorem St.turn {w0 w : World} {L : List Asn} (h : St w0 w L) (i : Nat) {P P' : Asn} (hi : L[i]? = some P) (hu : ∀ F, P.holds w F → P'.holds w F) : St w0 w (L.set i P') :=
  h.upd i hi (Nat.le_refl _) rfl rfl rfl (fun _ _ => rfl) (fun F hF _ => ⟨fun _ _ _ _ => rfl, P'.mono (hu F hF) (fun _ hk => .inl hk)⟩)

theorem SL.tail {B : Nat} {w : World} {P : Asn} {L : List Asn} {A : Nat → Prop} (h : SL B w (P :: L) A) : SL B w L A := by
  obtain ⟨F, _, _, h3⟩ := h
  exact h3.sub (fun k hk => .inl hk)

theorem SL.erase {B : Nat} {w : World} : ∀ {L : List Asn} {A : Nat → Prop} (i : Nat), SL B w L A → SL B w (L.eraseIdx i) A
  | [], _, _, _ => trivial
  | _ :: _, _, 0, h => SL.tail h
  | _ :: _, _, i + 1, ⟨F, h1, h2, h3⟩ => ⟨F, h1, h2, SL.erase i h3⟩

theorem St.erase {w0 w : World} {L : List Asn} (h : St w0 w L) (i : Nat) : St w0 w (L.eraseIdx i) := ⟨h.1, SL.erase i h.2⟩

theorem SL.swap {B : Nat} {w : World} {P Q : Asn} {L : List Asn} {A : Nat → Prop} (h : SL B w (P :: Q :: L) A) : SL B w (Q :: P :: L) A := by
  obtain ⟨F, h1, h2, G, g1, g2, h3⟩ := h
  exact ⟨G, g1, fun k hk => ⟨(g2 k hk).1, (g2 k hk).2.1, fun a => (g2 k hk).2.2 (.inl a)⟩, F, h1, fun k hk => ⟨(h2 k hk).1, (h2 k hk).2.1, fun a => a.elim (h2 k hk).2.2 (fun g => (g2 k g).2.2 (.inr hk))⟩,
    h3.sub (fun k hk => hk.elim (fun a => a.elim (fun a => .inl (.inl a)) .inr) (fun f => .inl (.inr f)))⟩

theorem SL.cons_mono {B : Nat} {w : World} {P : Asn} {L M : List Asn} (hm : ∀ A, SL B w L A → SL B w M A) {A : Nat → Prop} (h : SL B w (P :: L) A) : SL B w (P :: M) A := by
  obtain ⟨F, h1, h2, h3⟩ := h
  exact ⟨F, h1, h2, hm _ h3⟩

theorem SL.perm {B : Nat} {w : World} {L M : List Asn} (hp : L.Perm M) : ∀ {A : Nat → Prop}, SL B w L A → SL B w M A := by
  induction hp with
  | nil => exact fun h => h
  | cons x _ ih => exact fun h => SL.cons_mono (fun _ => ih) h
  | swap x y l => exact fun h => SL.swap h
  | trans _ _ ih1 ih2 => exact fun h => ih2 (ih1 h)

theorem St.perm {w0 w : World} {L M : List Asn} (h : St w0 w L) (hp : L.Perm M) : St w0 w M := ⟨h.1, SL.perm hp h.2⟩

/-- The i-th one in front. -/
theorem perm_pull {α : Type} : ∀ (l : List α) (i : Nat) (x : α), l[i]? = some x → l.Perm (x :: l.eraseIdx i)
  | [], _, _, h => by simp at h
  | y :: l, 0, x, h => by cases h; exact List.Perm.refl _
  | y :: l, i + 1, x, h => ((perm_pull l i x (by simpa using h)).cons y).trans (List.Perm.swap x y _)

theorem St.pull {w0 w : World} {L : List Asn} (h : St w0 w L) (i : Nat) {P : Asn} (hi : L[i]? = some P) : St w0 w (P :: L.eraseIdx i) := h.perm (perm_pull L i P hi)

/-- Two in front made one. -/
theorem St.join {w0 w : World} {P Q R : Asn} {L : List Asn} (h : St w0 w (P :: Q :: L)) (hj : ∀ F G, P.holds w F → Q.holds w G → R.holds w (fun k => F k ∨ G k)) : St w0 w (R :: L) := by
  obtain ⟨hb, F, h1, h2, G, g1, g2, h3⟩ := h
  refine ⟨hb, _, hj F G h1 g1, fun k hk => ?_, h3.sub (fun k hk => hk.elim (fun a => .inl (.inl a)) (fun f => f.elim (fun f => .inl (.inr f)) .inr))⟩
  rcases hk with hk | hk
  · exact h2 k hk
  · exact ⟨(g2 k hk).1, (g2 k hk).2.1, fun a => a.elim⟩

/-- The head's assertion lets a fact be known. -/
theorem St.know {w0 w : World} {L : List Asn} (h : St w0 w L) (i : Nat) {P : Asn} (hi : L[i]? = some P) {φ : Prop} (hφ : ∀ F, P.holds w F → φ) : φ := by
  obtain ⟨F, hF, _⟩ := h.get i hi
  exact hφ F hF

end Go.Proofs.YtpnhgmmijkjmlaaDoor

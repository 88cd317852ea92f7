/-
  A logic over the walk, without worlds: code is spoken of by what is known of its temporaries and of the blocks that the call itself has made.
-/
import Derived.Test.YtpnhgmmijkjmlaaDoorLawsD
import Derived.RangeFuncNested
import Derived.OwnWalkIn
namespace Go.Proofs.YtpnhgmmijkjmlaaDoor
open Go Go.RowKit
set_option linter.unusedVariables false
set_option linter.unusedSimpArgs false

/-- Every function; in a round of loop l, or in none. -/
def fen (ro : Option Nat) : Fence := { Fence.wide with round := ro }

/-! ### What is known of temporaries -/
abbrev Fr := List (Nat × Value)
def look : Fr → Nat → Option Value
  | [], _ => none
  | (k, v) :: fr, t => match Nat.beq k t with
    | true => some v
    | false => look fr t

structure Kn (n : Nat) (ds : List Deferred) (a : Act) (fr : Fr) : Prop where
  size : a.tmps.size = n
  defers : a.defers = ds
  at' : ∀ d v, look fr d = some v → a.tmps[d]? = some v

def evA (fr : Fr) : Operand → Option Value
  | .tmp t => look fr t
  | .const v => some v
  | .global g => some (.pointer (some ⟨g, 0, none⟩))
  | .func f => some (.func (.func f) #[] #[])

variable {n : Nat} {ds : List Deferred} {a : Act} {fr : Fr}
theorem Kn.ev (h : Kn n ds a fr) {x : Operand} {v : Value} (hx : evA fr x = some v) : a.eval x = v := by
  cases x with
  | tmp t =>
    have := h.at' t v hx
    simp [Act.eval, this]
  | const u => simpa [evA, Act.eval] using hx
  | global g => simpa [evA, Act.eval] using hx
  | func f => simpa [evA, Act.eval] using hx

theorem Kn.put (h : Kn n ds a fr) (d : Nat) (v : Value) (hd : Nat.blt d n = true) : Kn n ds (a.put (some d) v) ((d, v) :: fr) := by
  have hdn : d < a.tmps.size := by rw [h.size, ← Nat.blt_eq]; exact hd
  refine ⟨by simp [Act.put, h.size], h.defers, fun e u hu => ?_⟩
  simp only [look] at hu
  cases hb : Nat.beq d e with
  | true =>
    have : d = e := Nat.eq_of_beq_eq_true hb
    subst this
    rw [hb] at hu
    simp only [Option.some.injEq] at hu
    subst hu
    simp [Act.put, hdn]
  | false =>
    have hne : d ≠ e := fun e' => by subst e'; simp at hb
    rw [hb] at hu
    have := h.at' e u hu
    simpa [Act.put, Array.getElem?_setIfInBounds_ne hne] using this
theorem Kn.put0 (h : Kn n ds a fr) (v : Value) : Kn n ds (a.put none v) fr := h

/-- Less is known. -/
def Sub (fr' fr : Fr) : Prop := ∀ d v, look fr' d = some v → look fr d = some v
theorem Kn.sub {fr' : Fr} (h : Kn n ds a fr) (hs : Sub fr' fr) : Kn n ds a fr' := ⟨h.size, h.defers, fun d v hv => h.at' d v (hs d v hv)⟩
theorem Sub.refl (fr : Fr) : Sub fr fr := fun _ _ h => h
theorem Sub.nil (fr : Fr) : Sub [] fr := fun _ _ h => by cases h
theorem Sub.cons {fr' fr : Fr} {d : Nat} {v v' : Value} (hd : look fr d = some v') (hv : v' = v) (h : Sub fr' fr) : Sub ((d, v) :: fr') fr := by
  subst hv
  intro e u hu
  simp only [look] at hu
  cases hb : Nat.beq d e with
  | true =>
    have : d = e := Nat.eq_of_beq_eq_true hb
    subst this
    rw [hb] at hu
    rw [hd]; exact hu
  | false => rw [hb] at hu; exact h e u hu

/-! ### Code -/
def up (w0 : World) (n : Nat) (Q : Exit → List Deferred → Fr → List Asn → Prop) : Exit → Act → World → Prop := fun e a w => ∃ ds fr L, Kn n ds a fr ∧ St w0 w L ∧ Q e ds fr L

/-- From what is known, whatever the rest is, the code is left as Q says. -/
structure V (P : Program) (ro : Option Nat) (w0 : World) (n : Nat) (c : Code) (Q : Exit → List Deferred → Fr → List Asn → Prop) (ds : List Deferred) (fr : Fr) (L : List Asn) : Prop where
  out : ∀ a w, Kn n ds a fr → St w0 w L → c.wpIn (fen ro) 0 P (up w0 n Q) a w

structure VL (P : Program) (ro : Option Nat) (w0 : World) (n : Nat) (ops : Array Oper) (Q : Exit → List Deferred → Fr → List Asn → Prop) (l : List Oper) (ds : List Deferred) (fr : Fr) (L : List Asn) : Prop where
  out : ∀ a w, Kn n ds a fr → St w0 w L → wpListIn (fen ro) 0 P ops (up w0 n Q) l a w

/-- A call, from what the caller holds. -/
structure VC (P : Program) (w0 : World) (f : FuncId) (args : List Value) (L : List Asn) (R : Value → List Asn → Prop) : Prop where
  out : ∀ w, St w0 w L → Calls P f args.toArray w fun e w' => ∃ v L', e = .returned v ∧ St w0 w' L' ∧ R v L'

section
variable {P : Program} {ro : Option Nat} {w0 : World} {L : List Asn} {Q : Exit → List Deferred → Fr → List Asn → Prop}

def thn (K : List Deferred → Fr → List Asn → Prop) (Q : Exit → List Deferred → Fr → List Asn → Prop) : Exit → List Deferred → Fr → List Asn → Prop
  | .normal, ds, fr, L => K ds fr L
  | e, ds, fr, L => Q e ds fr L
def inb (id : Nat) (Q : Exit → List Deferred → Fr → List Asn → Prop) : Exit → List Deferred → Fr → List Asn → Prop
  | .exit id', ds, fr, L => match Nat.beq id' id with
    | true => Q .normal ds fr L
    | false => Q (.exit id') ds fr L
  | e, ds, fr, L => Q e ds fr L

theorem v_mono {c : Code} {Q' : Exit → List Deferred → Fr → List Asn → Prop} (h : V P ro w0 n c Q ds fr L) (hq : ∀ e ds fr L, Q e ds fr L → Q' e ds fr L) : V P ro w0 n c Q' ds fr L :=
  ⟨fun a w hk hs => wpIn_mono (h.out a w hk hs) (fun _ _ _ ⟨ds, fr, L, h1, h2, h3⟩ => ⟨ds, fr, L, h1, h2, hq _ _ _ _ h3⟩)⟩
/-- Less is known of temporaries. -/
theorem v_sub {c : Code} {fr' : Fr} (hs : Sub fr' fr) (h : V P ro w0 n c Q ds fr' L) : V P ro w0 n c Q ds fr L := ⟨fun a w hk hw => h.out a w (hk.sub hs) hw⟩
/-- Assertions follow from assertions. -/
def Ent (w0 : World) (L L' : List Asn) : Prop := ∀ w, St w0 w L → St w0 w L'
theorem Ent.refl (w0 : World) (L : List Asn) : Ent w0 L L := fun _ h => h
theorem Ent.trans {L1 L2 L3 : List Asn} (h : Ent w0 L1 L2) (k : Ent w0 L2 L3) : Ent w0 L1 L3 := fun w hw => k w (h w hw)
theorem v_ent {c : Code} {L' : List Asn} (he : Ent w0 L L') (h : V P ro w0 n c Q ds fr L') : V P ro w0 n c Q ds fr L := ⟨fun a w hk hw => h.out a w hk (he w hw)⟩
theorem vl_ent {ops : Array Oper} {l : List Oper} {L' : List Asn} (he : Ent w0 L L') (h : VL P ro w0 n ops Q l ds fr L') : VL P ro w0 n ops Q l ds fr L := ⟨fun a w hk hw => h.out a w hk (he w hw)⟩
theorem vl_sub {ops : Array Oper} {l : List Oper} {fr' : Fr} (hs : Sub fr' fr) (h : VL P ro w0 n ops Q l ds fr' L) : VL P ro w0 n ops Q l ds fr L := ⟨fun a w hk hw => h.out a w (hk.sub hs) hw⟩

theorem v_seq {x y : Code} (h : V P ro w0 n x (thn (V P ro w0 n y Q) Q) ds fr L) : V P ro w0 n (.seq x y) Q ds fr L :=
  ⟨fun a w hk hs => wpIn_seq (wpIn_mono (h.out a w hk hs) (fun e a' w' ⟨ds', fr', L', h1, h2, h3⟩ => by
    cases e <;> first | exact h3.out a' w' h1 h2 | exact ⟨ds', fr', L', h1, h2, h3⟩))⟩
/-- What stands behind, under a name. -/
class KI (K : List Deferred → Fr → List Asn → Prop) (K' : outParam (List Deferred → Fr → List Asn → Prop)) : Prop where
  out : ∀ ds fr L, K' ds fr L → K ds fr L
class QI (Q : Exit → List Deferred → Fr → List Asn → Prop) (Q' : outParam (Exit → List Deferred → Fr → List Asn → Prop)) : Prop where
  out : ∀ e ds fr L, Q' e ds fr L → Q e ds fr L
class RI (R : Value → List Asn → Prop) (R' : outParam (Value → List Asn → Prop)) : Prop where
  out : ∀ v L, R' v L → R v L
theorem k_go {K K' : List Deferred → Fr → List Asn → Prop} [k : KI K K'] (h : K' ds fr L) : K ds fr L := k.out _ _ _ h
theorem q_go {e : Exit} {Q' : Exit → List Deferred → Fr → List Asn → Prop} [k : QI Q Q'] (h : Q' e ds fr L) : Q e ds fr L := k.out _ _ _ _ h
theorem r_go {v : Value} {R R' : Value → List Asn → Prop} [k : RI R R'] (h : R' v L) : R v L := k.out _ _ h
theorem v_seqK {x y : Code} (h : ∀ K, KI K (V P ro w0 n y Q) → V P ro w0 n x (thn K Q) ds fr L) : V P ro w0 n (.seq x y) Q ds fr L := v_seq (h _ ⟨fun _ _ _ h => h⟩)
theorem v_skip (h : Q .normal ds fr L) : V P ro w0 n .skip Q ds fr L := ⟨fun a w hk hs => wpIn_skip ⟨ds, fr, L, hk, hs, h⟩⟩
theorem v_ret (h : Q .ret ds fr L) : V P ro w0 n .ret Q ds fr L := ⟨fun a w hk hs => wpIn_ret ⟨ds, fr, L, hk, hs, h⟩⟩
theorem v_exit {id : Nat} (h : Q (.exit id) ds fr L) : V P ro w0 n (.exit id) Q ds fr L := ⟨fun a w hk hs => wpIn_exit ⟨ds, fr, L, hk, hs, h⟩⟩
theorem v_block {id : Nat} {c : Code} (h : V P ro w0 n c (inb id Q) ds fr L) : V P ro w0 n (.block id c) Q ds fr L :=
  ⟨fun a w hk hs => wpIn_block (wpIn_mono (h.out a w hk hs) (fun e a' w' ⟨ds', fr', L', h1, h2, h3⟩ => by
    cases e with
    | exit id' =>
      simp only [Exit.inBlock]
      simp only [inb] at h3
      split
      · rename_i he; subst he; simp only [Nat.beq_refl] at h3; exact ⟨ds', fr', L', h1, h2, h3⟩
      · rename_i he
        cases hb : Nat.beq id' id with
        | true => exact absurd (Nat.eq_of_beq_eq_true hb) he
        | false => rw [hb] at h3; exact ⟨ds', fr', L', h1, h2, h3⟩
    | _ => exact ⟨ds', fr', L', h1, h2, h3⟩))⟩
theorem v_cond {c : Operand} {x y : Code} {b : Bool} (hc : evA fr c = some (.bool b)) (ht : b = true → V P ro w0 n x Q ds fr L) (hf : b = false → V P ro w0 n y Q ds fr L) : V P ro w0 n (.cond c x y) Q ds fr L :=
  ⟨fun a w hk hs => wpIn_cond_split (hk.ev hc) (fun e => (ht e).out a w hk hs) (fun e => (hf e).out a w hk hs)⟩
theorem v_region {id : Nat} {l : List Oper} (h : VL P ro w0 n l.toArray Q l ds fr L) : V P ro w0 n (.region id l.toArray false) Q ds fr L :=
  ⟨fun a w hk hs => wpIn_region_lit (h.out a w hk hs)⟩
theorem vl_nil {ops : Array Oper} (h : Q .normal ds fr L) : VL P ro w0 n ops Q [] ds fr L := ⟨fun a w hk hs => wpListIn_nil ⟨ds, fr, L, hk, hs, h⟩⟩

/-- A loop: what is known at its head, by a ghost x. -/
theorem v_loop {c : Code} (X : Type) (f : X → Fr) (Ls : X → List Asn) (ok : X → Prop) (μ : X → Nat) (x0 : X) (h0 : ok x0) (hs0 : Sub (f x0) fr) (he0 : Ent w0 L (Ls x0))
    (h : ∀ x, ok x → V P ro w0 n c (thn (fun ds' fr' L' => ds' = ds ∧ ∃ y, ok y ∧ μ y < μ x ∧ Sub (f y) fr' ∧ Ent w0 L' (Ls y)) Q) ds (f x) (Ls x)) : V P ro w0 n (.loop c) Q ds fr L := by
  refine ⟨fun a w hk hs => ?_⟩
  intro b k cs hro hb hr
  have key : ∀ j x a w, μ x = j → ok x → Kn n ds a (f x) → St w0 w (Ls x) →
      ∃ e a' w', up w0 n Q e a' w' ∧ ArrivesIn (Machine.fenced P (fen ro)) P (lone (b.atR a (.code c :: .inLoop c :: k)) cs w) b k cs e a' w' := by
    intro j
    induction j using Nat.strongRecOn with
    | _ j ih =>
      intro x a w hn hx hk hs
      obtain ⟨e, a₁, w₁, ⟨ds', fr', L', h1, h2, h3⟩, harr⟩ := (h x hx).out a w hk hs b (.inLoop c :: k) cs hro hb hr
      cases e with
      | normal =>
        obtain ⟨rfl, y, hy, hlt, hsub, hent⟩ := h3
        obtain ⟨e₂, a₂, w₂, hq₂, harr₂⟩ := ih (μ y) (hn ▸ hlt) y a₁ w₁ rfl hy (h1.sub hsub) (hent _ h2)
        exact ⟨e₂, a₂, w₂, hq₂, .of_steps (StepsIn.trans harr (.one (fenced_calm hb hr rfl) stepR_inLoop)) harr₂⟩
      | exit id => exact ⟨_, a₁, w₁, ⟨ds', fr', L', h1, h2, h3⟩, .pass (x := .inLoop c) rfl (fun _ _ => .inl (by simp)) harr⟩
      | goto l => exact ⟨_, a₁, w₁, ⟨ds', fr', L', h1, h2, h3⟩, .pass (x := .inLoop c) rfl (fun _ _ => .inl (by simp)) harr⟩
      | ret => exact ⟨_, a₁, w₁, ⟨ds', fr', L', h1, h2, h3⟩, .pass (x := .inLoop c) rfl (fun _ _ => .inl (by simp)) harr⟩
      | panic ch => exact ⟨_, a₁, w₁, ⟨ds', fr', L', h1, h2, h3⟩, .pass (x := .inLoop c) rfl (fun _ _ => .inl (by simp)) harr⟩
      | outgrown => exact ⟨_, a₁, w₁, ⟨ds', fr', L', h1, h2, h3⟩, .pass (x := .inLoop c) rfl (fun _ _ => .inl (by simp)) harr⟩
  obtain ⟨e, a', w', hq, harr⟩ := key _ x0 a w rfl h0 (hk.sub hs0) (he0 w hs)
  exact ⟨e, a', w', hq, .of_steps (.one (fenced_calm hb hr rfl) stepR_loop) harr⟩
end
end Go.Proofs.YtpnhgmmijkjmlaaDoor

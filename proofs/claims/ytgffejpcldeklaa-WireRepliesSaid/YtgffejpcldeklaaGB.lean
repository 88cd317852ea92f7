/-
  A logic over the walk, without worlds: code is spoken of by what is known of its temporaries and of the blocks that the call itself has made. The operations in the logic without worlds. Memory in the logic without worlds: variables, slices, results, calls. A region whose order is open, in the logic without worlds: what only reads is taken first. Ranges over functions, in the logic without worlds: the iterator's code is walked, and at each call of yield the loop's body. The types and functions of the program, as the logic takes them (written by a program). Contracts of the small functions, in the logic without worlds; lists of slices of bytes. More for the logic without worlds: scopes, arrays, bundles of assertions.
-/
import Derived.Test.YtgffejpcldeklaaGA
import Derived.RangeFuncNested
import Derived.OwnWalkIn
import Derived.OrdersIn
import Derived.OrdersHeld
import Derived.Test.YtgffejpcldeklaaProg
set_option linter.unusedVariables false
set_option linter.unusedSimpArgs false
set_option linter.unusedSectionVars false

namespace Go.Proofs.Ytgffejpcldeklaa
open Go Go.RowKit

/-- Every function; in a round of loop l, or in none. -/
def fen (ro : Option Nat) : Fence := { Fence.wide with round := ro }

/-! ### What is known of temporaries -/
abbrev Fr := List (Nat × Value)
def look : Fr → Nat → Option Value
  | [], _ => none
  | (k, v) :: fr, t => match Nat.beq k t with
    | true => some v
    | false => look fr t

structure Kn (n : Nat) (ds : List Deferred) (a : Act) (fr : Fr) : Prop where
  size : a.tmps.size = n
  defers : a.defers = ds
  at' : ∀ d v, look fr d = some v → a.tmps[d]? = some v

def evA (fr : Fr) : Operand → Option Value
  | .tmp t => look fr t
  | .const v => some v
  | .global g => some (.pointer (some ⟨g, 0, none⟩))
  | .func f => some (.func (.func f) #[] #[])

variable {n : Nat} {ds : List Deferred} {a : Act} {fr : Fr}
theorem Kn.ev (h : Kn n ds a fr) {x : Operand} {v : Value} (hx : evA fr x = some v) : a.eval x = v := by
  cases x with
  | tmp t =>
    have := h.at' t v hx
    simp [Act.eval, this]
  | const u => simpa [evA, Act.eval] using hx
  | global g => simpa [evA, Act.eval] using hx
  | func f => simpa [evA, Act.eval] using hx

theorem Kn.put (h : Kn n ds a fr) (d : Nat) (v : Value) (hd : Nat.blt d n = true) : Kn n ds (a.put (some d) v) ((d, v) :: fr) := by
  have hdn : d < a.tmps.size := by rw [h.size, ← Nat.blt_eq]; exact hd
  refine ⟨by simp [Act.put, h.size], h.defers, fun e u hu => ?_⟩
  simp only [look] at hu
  cases hb : Nat.beq d e with
  | true =>
    have : d = e := Nat.eq_of_beq_eq_true hb
    subst this
    rw [hb] at hu
    simp only [Option.some.injEq] at hu
    subst hu
    simp [Act.put, hdn]
  | false =>
    have hne : d ≠ e := fun e' => by subst e'; simp at hb
    rw [hb] at hu
    have := h.at' e u hu
    simpa [Act.put, Array.getElem?_setIfInBounds_ne hne] using this
theorem Kn.put0 (h : Kn n ds a fr) (v : Value) : Kn n ds (a.put none v) fr := h

/-- Less is known. -/
def Sub (fr' fr : Fr) : Prop := ∀ d v, look fr' d = some v → look fr d = some v
theorem Kn.sub {fr' : Fr} (h : Kn n ds a fr) (hs : Sub fr' fr) : Kn n ds a fr' := ⟨h.size, h.defers, fun d v hv => h.at' d v (hs d v hv)⟩
theorem Sub.refl (fr : Fr) : Sub fr fr := fun _ _ h => h
theorem Sub.nil (fr : Fr) : Sub [] fr := fun _ _ h => by cases h
theorem Sub.cons {fr' fr : Fr} {d : Nat} {v v' : Value} (hd : look fr d = some v') (hv : v' = v) (h : Sub fr' fr) : Sub ((d, v) :: fr') fr := by
  subst hv
  intro e u hu
  simp only [look] at hu
  cases hb : Nat.beq d e with
  | true =>
    have : d = e := Nat.eq_of_beq_eq_true hb
    subst this
    rw [hb] at hu
    rw [hd]; exact hu
  | false => rw [hb] at hu; exact h e u hu

/-! ### Code -/
def up (w0 : World) (n : Nat) (Q : Exit → List Deferred → Fr → List Asn → Prop) : Exit → Act → World → Prop := fun e a w => ∃ ds fr L, Kn n ds a fr ∧ St w0 w L ∧ Q e ds fr L

/-- From what is known, whatever the rest is, the code is left as Q says. -/
structure V (P : Program) (ro : Option Nat) (w0 : World) (n : Nat) (c : Code) (Q : Exit → List Deferred → Fr → List Asn → Prop) (ds : List Deferred) (fr : Fr) (L : List Asn) : Prop where
  out : ∀ a w, Kn n ds a fr → St w0 w L → c.wpIn (fen ro) 0 P (up w0 n Q) a w

structure VL (P : Program) (ro : Option Nat) (w0 : World) (n : Nat) (ops : Array Oper) (Q : Exit → List Deferred → Fr → List Asn → Prop) (l : List Oper) (ds : List Deferred) (fr : Fr) (L : List Asn) : Prop where
  out : ∀ a w, Kn n ds a fr → St w0 w L → wpListIn (fen ro) 0 P ops (up w0 n Q) l a w

/-- A call, from what the caller holds. -/
structure VC (P : Program) (w0 : World) (f : FuncId) (args : List Value) (L : List Asn) (R : Value → List Asn → Prop) : Prop where
  out : ∀ w, St w0 w L → Calls P f args.toArray w fun e w' => ∃ v L', e = .returned v ∧ St w0 w' L' ∧ R v L'

section
variable {P : Program} {ro : Option Nat} {w0 : World} {L : List Asn} {Q : Exit → List Deferred → Fr → List Asn → Prop}

def thn (K : List Deferred → Fr → List Asn → Prop) (Q : Exit → List Deferred → Fr → List Asn → Prop) : Exit → List Deferred → Fr → List Asn → Prop
  | .normal, ds, fr, L => K ds fr L
  | e, ds, fr, L => Q e ds fr L
def inb (id : Nat) (Q : Exit → List Deferred → Fr → List Asn → Prop) : Exit → List Deferred → Fr → List Asn → Prop
  | .exit id', ds, fr, L => match Nat.beq id' id with
    | true => Q .normal ds fr L
    | false => Q (.exit id') ds fr L
  | e, ds, fr, L => Q e ds fr L

theorem v_mono {c : Code} {Q' : Exit → List Deferred → Fr → List Asn → Prop} (h : V P ro w0 n c Q ds fr L) (hq : ∀ e ds fr L, Q e ds fr L → Q' e ds fr L) : V P ro w0 n c Q' ds fr L :=
  ⟨fun a w hk hs => wpIn_mono (h.out a w hk hs) (fun _ _ _ ⟨ds, fr, L, h1, h2, h3⟩ => ⟨ds, fr, L, h1, h2, hq _ _ _ _ h3⟩)⟩
/-- Less is known of temporaries. -/
theorem v_sub {c : Code} {fr' : Fr} (hs : Sub fr' fr) (h : V P ro w0 n c Q ds fr' L) : V P ro w0 n c Q ds fr L := ⟨fun a w hk hw => h.out a w (hk.sub hs) hw⟩
/-- Assertions follow from assertions. -/
def Ent (w0 : World) (L L' : List Asn) : Prop := ∀ w, St w0 w L → St w0 w L'
theorem Ent.refl (w0 : World) (L : List Asn) : Ent w0 L L := fun _ h => h
theorem Ent.trans {L1 L2 L3 : List Asn} (h : Ent w0 L1 L2) (k : Ent w0 L2 L3) : Ent w0 L1 L3 := fun w hw => k w (h w hw)
theorem v_ent {c : Code} {L' : List Asn} (he : Ent w0 L L') (h : V P ro w0 n c Q ds fr L') : V P ro w0 n c Q ds fr L := ⟨fun a w hk hw => h.out a w hk (he w hw)⟩
theorem vl_ent {ops : Array Oper} {l : List Oper} {L' : List Asn} (he : Ent w0 L L') (h : VL P ro w0 n ops Q l ds fr L') : VL P ro w0 n ops Q l ds fr L := ⟨fun a w hk hw => h.out a w hk (he w hw)⟩
theorem vl_sub {ops : Array Oper} {l : List Oper} {fr' : Fr} (hs : Sub fr' fr) (h : VL P ro w0 n ops Q l ds fr' L) : VL P ro w0 n ops Q l ds fr L := ⟨fun a w hk hw => h.out a w (hk.sub hs) hw⟩

theorem v_seq {x y : Code} (h : V P ro w0 n x (thn (V P ro w0 n y Q) Q) ds fr L) : V P ro w0 n (.seq x y) Q ds fr L :=
  ⟨fun a w hk hs => wpIn_seq (wpIn_mono (h.out a w hk hs) (fun e a' w' ⟨ds', fr', L', h1, h2, h3⟩ => by
    cases e <;> first | exact h3.out a' w' h1 h2 | exact ⟨ds', fr', L', h1, h2, h3⟩))⟩
/-- What stands behind, under a name. -/
class KI (K : List Deferred → Fr → List Asn → Prop) (K' : outParam (List Deferred → Fr → List Asn → Prop)) : Prop where
  out : ∀ ds fr L, K' ds fr L → K ds fr L
class QI (Q : Exit → List Deferred → Fr → List Asn → Prop) (Q' : outParam (Exit → List Deferred → Fr → List Asn → Prop)) : Prop where
  out : ∀ e ds fr L, Q' e ds fr L → Q e ds fr L
class RI (R : Value → List Asn → Prop) (R' : outParam (Value → List Asn → Prop)) : Prop where
  out : ∀ v L, R' v L → R v L
theorem v_skip (h : Q .normal ds fr L) : V P ro w0 n .skip Q ds fr L := ⟨fun a w hk hs => wpIn_skip ⟨ds, fr, L, hk, hs, h⟩⟩
theorem v_ret (h : Q .ret ds fr L) : V P ro w0 n .ret Q ds fr L := ⟨fun a w hk hs => wpIn_ret ⟨ds, fr, L, hk, hs, h⟩⟩
theorem v_exit {id : Nat} (h : Q (.exit id) ds fr L) : V P ro w0 n (.exit id) Q ds fr L := ⟨fun a w hk hs => wpIn_exit ⟨ds, fr, L, hk, hs, h⟩⟩
theorem v_block {id : Nat} {c : Code} (h : V P ro w0 n c (inb id Q) ds fr L) : V P ro w0 n (.block id c) Q ds fr L :=
  ⟨fun a w hk hs => wpIn_block (wpIn_mono (h.out a w hk hs) (fun e a' w' ⟨ds', fr', L', h1, h2, h3⟩ => by
    cases e with
    | exit id' =>
      simp only [Exit.inBlock]
      simp only [inb] at h3
      split
      · rename_i he; subst he; simp only [Nat.beq_refl] at h3; exact ⟨ds', fr', L', h1, h2, h3⟩
      · rename_i he
        cases hb : Nat.beq id' id with
        | true => exact absurd (Nat.eq_of_beq_eq_true hb) he
        | false => rw [hb] at h3; exact ⟨ds', fr', L', h1, h2, h3⟩
    | _ => exact ⟨ds', fr', L', h1, h2, h3⟩))⟩
theorem v_cond {c : Operand} {x y : Code} {b : Bool} (hc : evA fr c = some (.bool b)) (ht : b = true → V P ro w0 n x Q ds fr L) (hf : b = false → V P ro w0 n y Q ds fr L) : V P ro w0 n (.cond c x y) Q ds fr L :=
  ⟨fun a w hk hs => wpIn_cond_split (hk.ev hc) (fun e => (ht e).out a w hk hs) (fun e => (hf e).out a w hk hs)⟩
theorem v_region {id : Nat} {l : List Oper} (h : VL P ro w0 n l.toArray Q l ds fr L) : V P ro w0 n (.region id l.toArray false) Q ds fr L :=
  ⟨fun a w hk hs => wpIn_region_lit (h.out a w hk hs)⟩
theorem vl_nil {ops : Array Oper} (h : Q .normal ds fr L) : VL P ro w0 n ops Q [] ds fr L := ⟨fun a w hk hs => wpListIn_nil ⟨ds, fr, L, hk, hs, h⟩⟩

/-- A loop: what is known at its head, by a ghost x. -/
theorem v_loop {c : Code} (X : Type) (f : X → Fr) (Ls : X → List Asn) (ok : X → Prop) (μ : X → Nat) (x0 : X) (h0 : ok x0) (hs0 : Sub (f x0) fr) (he0 : Ent w0 L (Ls x0))
    (h : ∀ x, ok x → V P ro w0 n c (thn (fun ds' fr' L' => ds' = ds ∧ ∃ y, ok y ∧ μ y < μ x ∧ Sub (f y) fr' ∧ Ent w0 L' (Ls y)) Q) ds (f x) (Ls x)) : V P ro w0 n (.loop c) Q ds fr L := by
  refine ⟨fun a w hk hs => ?_⟩
  intro b k cs hro hb hr
  have key : ∀ j x a w, μ x = j → ok x → Kn n ds a (f x) → St w0 w (Ls x) →
      ∃ e a' w', up w0 n Q e a' w' ∧ ArrivesIn (Machine.fenced P (fen ro)) P (lone (b.atR a (.code c :: .inLoop c :: k)) cs w) b k cs e a' w' := by
    intro j
    induction j using Nat.strongRecOn with
    | _ j ih =>
      intro x a w hn hx hk hs
      obtain ⟨e, a₁, w₁, ⟨ds', fr', L', h1, h2, h3⟩, harr⟩ := (h x hx).out a w hk hs b (.inLoop c :: k) cs hro hb hr
      cases e with
      | normal =>
        obtain ⟨rfl, y, hy, hlt, hsub, hent⟩ := h3
        obtain ⟨e₂, a₂, w₂, hq₂, harr₂⟩ := ih (μ y) (hn ▸ hlt) y a₁ w₁ rfl hy (h1.sub hsub) (hent _ h2)
        exact ⟨e₂, a₂, w₂, hq₂, .of_steps (StepsIn.trans harr (.one (fenced_calm hb hr rfl) stepR_inLoop)) harr₂⟩
      | exit id => exact ⟨_, a₁, w₁, ⟨ds', fr', L', h1, h2, h3⟩, .pass (x := .inLoop c) rfl (fun _ _ => .inl (by simp)) harr⟩
      | goto l => exact ⟨_, a₁, w₁, ⟨ds', fr', L', h1, h2, h3⟩, .pass (x := .inLoop c) rfl (fun _ _ => .inl (by simp)) harr⟩
      | ret => exact ⟨_, a₁, w₁, ⟨ds', fr', L', h1, h2, h3⟩, .pass (x := .inLoop c) rfl (fun _ _ => .inl (by simp)) harr⟩
      | panic ch => exact ⟨_, a₁, w₁, ⟨ds', fr', L', h1, h2, h3⟩, .pass (x := .inLoop c) rfl (fun _ _ => .inl (by simp)) harr⟩
      | outgrown => exact ⟨_, a₁, w₁, ⟨ds', fr', L', h1, h2, h3⟩, .pass (x := .inLoop c) rfl (fun _ _ => .inl (by simp)) harr⟩
  obtain ⟨e, a', w', hq, harr⟩ := key _ x0 a w rfl h0 (hk.sub hs0) (he0 w hs)
  exact ⟨e, a', w', hq, .of_steps (.one (fenced_calm hb hr rfl) stepR_loop) harr⟩
end
end Go.Proofs.Ytgffejpcldeklaa
namespace Go.Proofs.Ytgffejpcldeklaa
open Go Go.RowKit

section
variable {P : Program} {ro : Option Nat} {w0 : World} {n : Nat} {ds : List Deferred} {fr : Fr} {L : List Asn} {Q : Exit → List Deferred → Fr → List Asn → Prop}
variable {ops : Array Oper} {rest : List Oper} {d : Nat} {ty : TypeId} {pos : String} {after : Array Edge} {dst : Option Nat} {gd : Option (Nat × Bool)}

theorem rows_wide {row : String} {args : Array Value} {w : World} {R : Value → World → Prop} (h : Rows P row args w R) : RowsIn (fen ro) 0 P row args w R :=
  fun c cs _ => let ⟨v, w', r, s⟩ := h c cs; ⟨v, w', r, stepsIn_wide.2 s⟩
theorem calls_fen {f : FuncId} {args : Array Value} {w : World} {R : Ending → World → Prop} {m : Nat} (h : Calls P f args w R) : CallsIn (fen ro) m P f args w R := (callsIn_wide (n := m)).2 h

theorem fen_room (ro : Option Nat) : (fen ro).depth.isSome = true → 1 ≤ 0 := fun h => absurd h (by simp [fen, Fence.wide])
def notDefer : Op → Bool
  | .defer _ => false
  | _ => true
theorem notDefer_spec {op : Op} (h : notDefer op = true) : ∀ c, op ≠ .defer c := fun c e => by subst e; cases h
/-- What an operation does in an ordinary frame it does in a round. -/
theorem wpIn_of_wp {o : Oper} {a : Act} {w : World} {K : Act → World → Prop} {Q' : Exit → Act → World → Prop} (hd : ∀ c, o.op ≠ .defer c) (h : o.wp P a w K Q') : o.wpIn (fen ro) 0 P a w K Q' := by
  refine ⟨fun _ _ => trivial, ?_⟩
  unfold Oper.wp at h
  have e : o.semAt (fen ro).round a.eval = execOp a.eval o := Oper.semAt_eq _ _ _ hd
  rw [e]
  generalize (execOp a.eval o).run P w = r at h ⊢
  cases r with
  | ok x w' =>
    cases x <;> simp only [Oper.upon] at h <;> simp only [Oper.uponIn] <;>
      first
        | exact h
        | exact False.elim h
        | exact ⟨fen_room ro, rows_wide h⟩
        | exact ⟨fen_room ro, calls_fen (h.mono fun e w'' he => by cases e <;> exact he)⟩
  | halt x w' => cases x <;> simp only [Oper.upon] at h ⊢ <;> exact h

/-- One operation, from what is known; K: what is known behind it. -/
structure VO (P : Program) (ro : Option Nat) (w0 : World) (n : Nat) (o : Oper) (K : List Deferred → Fr → List Asn → Prop) (Q : Exit → List Deferred → Fr → List Asn → Prop) (ds : List Deferred) (fr : Fr) (L : List Asn) : Prop where
  out : ∀ a w, Kn n ds a fr → St w0 w L → o.wpIn (fen ro) 0 P a w (fun a' w' => ∃ ds' fr' L', Kn n ds' a' fr' ∧ St w0 w' L' ∧ K ds' fr' L') (up w0 n Q)
/-- One operation that only reckons, or reads: its value. -/
structure VQ (P : Program) (w0 : World) (n : Nat) (o : Oper) (v : Value) (ds : List Deferred) (fr : Fr) (L : List Asn) : Prop where
  out : ∀ a w, Kn n ds a fr → St w0 w L → (execOp a.eval o).run P w = .ok (.value v) w

theorem vl_o {o : Oper} (hg : o.guard = none) (h : VO P ro w0 n o (VL P ro w0 n ops Q rest) Q ds fr L) : VL P ro w0 n ops Q (o :: rest) ds fr L :=
  ⟨fun a w hk hs => by
    have hw : Region.wanted o (yielded ops a.tmps) = true := by simp [Region.wanted, hg]
    show (if Region.wanted o (yielded ops a.tmps) then _ else _)
    rw [if_pos hw]
    exact Oper.wpIn_mono (fun a' w' ⟨ds', fr', L', h1, h2, h3⟩ => h3.out a' w' h1 h2) (h.out a w hk hs)⟩
/-- By a law of the elder kind. -/
theorem vo_runs {o : Oper} {K : List Deferred → Fr → List Asn → Prop} (hd : ∀ c, o.op ≠ .defer c)
    (h : ∀ a w, Kn n ds a fr → St w0 w L → Runs P o a w (fun a' w' => ∃ ds' fr' L', Kn n ds' a' fr' ∧ St w0 w' L' ∧ K ds' fr' L') (up w0 n Q)) : VO P ro w0 n o K Q ds fr L :=
  ⟨fun a w hk hs => wpIn_of_wp hd (h a w hk hs).out⟩
theorem vo_q {o : Oper} {K : List Deferred → Fr → List Asn → Prop} {v : Value} (hd : notDefer o.op = true) (h : VQ P w0 n o v ds fr L) (hdst : o.dst = some d) (hdn : Nat.blt d n = true) (hK : K ds ((d, v) :: fr) L) : VO P ro w0 n o K Q ds fr L :=
  vo_runs (notDefer_spec hd) (fun a w hk hs => wp_val (h.out a w hk hs) ⟨_, _, _, by rw [hdst]; exact hk.put d v hdn, hs, hK⟩)
theorem vl_q {o : Oper} {v : Value} (hg : o.guard = none) (hd : notDefer o.op = true) (hdst : o.dst = some d) (hdn : Nat.blt d n = true) (hq : VQ P w0 n o v ds fr L) (h : VL P ro w0 n ops Q rest ds ((d, v) :: fr) L) : VL P ro w0 n ops Q (o :: rest) ds fr L :=
  vl_o hg (vo_q hd hq hdst hdn h)
theorem vq_val {o : Oper} {v : Value} (h : ∀ a w, Kn n ds a fr → St w0 w L → (execOp a.eval o).run P w = .ok (.value v) w) : VQ P w0 n o v ds fr L := ⟨h⟩

/-! ### Guards -/
theorem vl_guard {o : Oper} {j dj : Nat} {oj : Oper} {want b : Bool} (hg : o.guard = some (j, want)) (hj : ops.toList[j]? = some oj) (hdj : oj.dst = some dj) (hv : look fr dj = some (.bool b)) (hb : b = want)
    (h : VL P ro w0 n ops Q ({ o with guard := none } :: rest) ds fr L) : VL P ro w0 n ops Q (o :: rest) ds fr L :=
  ⟨fun a w hk hs => by
    subst hb
    have hj' : ops[j]? = some oj := by rw [← hj]; simp
    have hv' := hk.at' dj _ hv
    have hw : Region.wanted o (yielded ops a.tmps) = true := by simp [Region.wanted, hg, yielded, hj', hdj, hv']
    have h1 := h.out a w hk hs
    have hw2 : Region.wanted { o with guard := none } (yielded ops a.tmps) = true := by simp [Region.wanted]
    change (if Region.wanted { o with guard := none } (yielded ops a.tmps) then _ else _) at h1
    rw [if_pos hw2] at h1
    show (if Region.wanted o (yielded ops a.tmps) then _ else _)
    rw [if_pos hw]
    exact h1⟩
theorem vl_pass {o : Oper} {j dj : Nat} {oj : Oper} {want b : Bool} (hg : o.guard = some (j, want)) (hj : ops.toList[j]? = some oj) (hdj : oj.dst = some dj) (hv : look fr dj = some (.bool b)) (hb : b = !want) (hd : o.dst = some d) (hdn : Nat.blt d n = true)
    (h : VL P ro w0 n ops Q rest ds ((d, undef) :: fr) L) : VL P ro w0 n ops Q (o :: rest) ds fr L :=
  ⟨fun a w hk hs => by
    subst hb
    have hj' : ops[j]? = some oj := by rw [← hj]; simp
    have hv' := hk.at' dj _ hv
    have hw : Region.wanted o (yielded ops a.tmps) = false := by simp [Region.wanted, hg, yielded, hj', hdj, hv']
    show (if Region.wanted o (yielded ops a.tmps) then _ else _)
    rw [if_neg (by rw [hw]; simp), hd]
    exact ⟨fun _ _ => trivial, h.out _ w (hk.put d undef hdn) hs⟩⟩

/-! ### Operations that only reckon -/
theorem vq_move {x : Operand} {v : Value} (hx : evA fr x = some v) : VQ P w0 n ⟨dst, .move x, ty, pos, after, gd⟩ (v) ds fr L :=
  vq_val (fun a w hk _ => by simp [execOp, hk.ev hx])
theorem vq_assign {x : Operand} {v : Value} (hx : evA fr x = some v) : VQ P w0 n ⟨dst, .assign x, ty, pos, after, gd⟩ (v) ds fr L :=
  vq_val (fun a w hk _ => by simp [execOp, hk.ev hx])
theorem vq_pickT {x y : Operand} {c : Operand} {u : Value} (hc : evA fr c = some (.bool true)) (hx : evA fr x = some u) : VQ P w0 n ⟨dst, .pick c x y, ty, pos, after, gd⟩ u ds fr L :=
  vq_val (fun a w hk _ => by simp [execOp, hk.ev hx, hk.ev hc, asBool])
theorem vq_pickF {x y : Operand} {c : Operand} {v : Value} (hc : evA fr c = some (.bool false)) (hy : evA fr y = some v) : VQ P w0 n ⟨dst, .pick c x y, ty, pos, after, gd⟩ v ds fr L :=
  vq_val (fun a w hk _ => by simp [execOp, hk.ev hy, hk.ev hc, asBool])
theorem vq_int {op : BinOp} {t yt : TypeId} {x y : Operand} {k : IntKind} {m p : Int} {v : Value} (hx : evA fr x = some (.int k m)) (hy : evA fr y = some (.int k p))
    (hr : ∀ w, (binOp op t (.int k m) (.int k p)).run P w = .ok v w) : VQ P w0 n ⟨dst, .binOp op t x y yt, ty, pos, after, gd⟩ (v) ds fr L :=
  vq_val (fun a w hk _ => by
    have he : (eqGuard op t x y (.int k m) (.int k p)).run P w = .ok () w := by cases op <;> simp [eqGuard]
    simp [execOp, hk.ev hx, hk.ev hy, Sem.run_bind, he, hr w])
theorem vq_add {t yt : TypeId} {x y : Operand} {k : IntKind} {m p r : Int} (hx : evA fr x = some (.int k m)) (hy : evA fr y = some (.int k p)) (hr : k.wrap (m + p) = r) : VQ P w0 n ⟨dst, .binOp .add t x y yt, ty, pos, after, gd⟩ (.int k r) ds fr L := vq_int hx hy (fun w => by subst hr; simp [binOp, Op.intArith])
theorem vq_minus {t yt : TypeId} {x y : Operand} {k : IntKind} {m p r : Int} (hx : evA fr x = some (.int k m)) (hy : evA fr y = some (.int k p)) (hr : k.wrap (m - p) = r) : VQ P w0 n ⟨dst, .binOp .sub t x y yt, ty, pos, after, gd⟩ (.int k r) ds fr L := vq_int hx hy (fun w => by subst hr; simp [binOp, Op.intArith])
theorem vq_mul {t yt : TypeId} {x y : Operand} {k : IntKind} {m p r : Int} (hx : evA fr x = some (.int k m)) (hy : evA fr y = some (.int k p)) (hr : k.wrap (m * p) = r) : VQ P w0 n ⟨dst, .binOp .mul t x y yt, ty, pos, after, gd⟩ (.int k r) ds fr L := vq_int hx hy (fun w => by subst hr; simp [binOp, Op.intArith])
theorem vq_quo {t yt : TypeId} {x y : Operand} {k : IntKind} {m p r : Int} (hx : evA fr x = some (.int k m)) (hy : evA fr y = some (.int k p)) (h0 : p ≠ 0) (hr : k.wrap (m.tdiv p) = r) : VQ P w0 n ⟨dst, .binOp .quo t x y yt, ty, pos, after, gd⟩ (.int k r) ds fr L := vq_int hx hy (fun w => by subst hr; simp [binOp, Op.intDiv, h0])
theorem vq_rem {t yt : TypeId} {x y : Operand} {k : IntKind} {m p r : Int} (hx : evA fr x = some (.int k m)) (hy : evA fr y = some (.int k p)) (h0 : p ≠ 0) (hr : m.tmod p = r) : VQ P w0 n ⟨dst, .binOp .rem t x y yt, ty, pos, after, gd⟩ (.int k r) ds fr L := vq_int hx hy (fun w => by subst hr; simp [binOp, Op.intDiv, h0])
/-- 'bits' of two numbers. -/
def bitsV (op : BinOp) (k : IntKind) (m p : Int) : Int :=
  let a := BitVec.ofInt k.bits m
  let b := BitVec.ofInt k.bits p
  match op with
  | .and => k.wrap (a &&& b).toNat
  | .or => k.wrap (a ||| b).toNat
  | .xor => k.wrap (a ^^^ b).toNat
  | _ => k.wrap (a &&& ~~~b).toNat
theorem vq_and {t yt : TypeId} {x y : Operand} {k : IntKind} {m p r : Int} (hx : evA fr x = some (.int k m)) (hy : evA fr y = some (.int k p)) (hr : bitsV .and k m p = r) : VQ P w0 n ⟨dst, .binOp .and t x y yt, ty, pos, after, gd⟩ (.int k r) ds fr L := vq_int hx hy (fun w => by subst hr; simp [binOp, Op.intBits, bitsV])
theorem vq_or {t yt : TypeId} {x y : Operand} {k : IntKind} {m p r : Int} (hx : evA fr x = some (.int k m)) (hy : evA fr y = some (.int k p)) (hr : bitsV .or k m p = r) : VQ P w0 n ⟨dst, .binOp .or t x y yt, ty, pos, after, gd⟩ (.int k r) ds fr L := vq_int hx hy (fun w => by subst hr; simp [binOp, Op.intBits, bitsV])
theorem vq_xor {t yt : TypeId} {x y : Operand} {k : IntKind} {m p r : Int} (hx : evA fr x = some (.int k m)) (hy : evA fr y = some (.int k p)) (hr : bitsV .xor k m p = r) : VQ P w0 n ⟨dst, .binOp .xor t x y yt, ty, pos, after, gd⟩ (.int k r) ds fr L := vq_int hx hy (fun w => by subst hr; simp [binOp, Op.intBits, bitsV])
theorem vq_shl {t yt : TypeId} {x y : Operand} {k k' : IntKind} {m p r : Int} (hx : evA fr x = some (.int k m)) (hy : evA fr y = some (.int k' p)) (h0 : 0 ≤ p) (hr : k.wrap (m * 2 ^ min p.toNat k.bits) = r) : VQ P w0 n ⟨dst, .binOp .shl t x y yt, ty, pos, after, gd⟩ (.int k r) ds fr L :=
  vq_val (fun a w hk _ => by
    have : ¬ p < 0 := by omega
    subst hr
    simp [execOp, hk.ev hx, hk.ev hy, eqGuard, binOp, Op.shift, this])
theorem vq_shr {t yt : TypeId} {x y : Operand} {k k' : IntKind} {m p r : Int} (hx : evA fr x = some (.int k m)) (hy : evA fr y = some (.int k' p)) (h0 : 0 ≤ p) (hr : m.fdiv (2 ^ min p.toNat k.bits) = r) : VQ P w0 n ⟨dst, .binOp .shr t x y yt, ty, pos, after, gd⟩ (.int k r) ds fr L :=
  vq_val (fun a w hk _ => by
    have : ¬ p < 0 := by omega
    subst hr
    simp [execOp, hk.ev hx, hk.ev hy, eqGuard, binOp, Op.shift, this])
theorem vq_eq {t yt : TypeId} {x y : Operand} {k : IntKind} {m p : Int} (hx : evA fr x = some (.int k m)) (hy : evA fr y = some (.int k p)) : VQ P w0 n ⟨dst, .binOp .eql t x y yt, ty, pos, after, gd⟩ (.bool (decide (m = p))) ds fr L := vq_int hx hy (fun w => by by_cases e : m = p <;> simp [binOp, Op.intCmp, e])
theorem vq_ne {t yt : TypeId} {x y : Operand} {k : IntKind} {m p : Int} (hx : evA fr x = some (.int k m)) (hy : evA fr y = some (.int k p)) : VQ P w0 n ⟨dst, .binOp .neq t x y yt, ty, pos, after, gd⟩ (.bool (decide (m ≠ p))) ds fr L := vq_int hx hy (fun w => by by_cases e : m = p <;> simp [binOp, Op.intCmp, e])
theorem vq_lt {t yt : TypeId} {x y : Operand} {k : IntKind} {m p : Int} (hx : evA fr x = some (.int k m)) (hy : evA fr y = some (.int k p)) : VQ P w0 n ⟨dst, .binOp .lss t x y yt, ty, pos, after, gd⟩ (.bool (decide (m < p))) ds fr L := vq_int hx hy (fun w => by simp [binOp, Op.intCmp])
theorem vq_le {t yt : TypeId} {x y : Operand} {k : IntKind} {m p : Int} (hx : evA fr x = some (.int k m)) (hy : evA fr y = some (.int k p)) : VQ P w0 n ⟨dst, .binOp .leq t x y yt, ty, pos, after, gd⟩ (.bool (decide (m ≤ p))) ds fr L := vq_int hx hy (fun w => by simp [binOp, Op.intCmp])
theorem vq_gt {t yt : TypeId} {x y : Operand} {k : IntKind} {m p : Int} (hx : evA fr x = some (.int k m)) (hy : evA fr y = some (.int k p)) : VQ P w0 n ⟨dst, .binOp .gtr t x y yt, ty, pos, after, gd⟩ (.bool (decide (p < m))) ds fr L := vq_int hx hy (fun w => by simp [binOp, Op.intCmp])
theorem vq_ge {t yt : TypeId} {x y : Operand} {k : IntKind} {m p : Int} (hx : evA fr x = some (.int k m)) (hy : evA fr y = some (.int k p)) : VQ P w0 n ⟨dst, .binOp .geq t x y yt, ty, pos, after, gd⟩ (.bool (decide (p ≤ m))) ds fr L := vq_int hx hy (fun w => by simp [binOp, Op.intCmp])
theorem vq_not {t : TypeId} {x : Operand} {b : Bool} (hx : evA fr x = some (.bool b)) : VQ P w0 n ⟨dst, .unOp .not t x, ty, pos, after, gd⟩ (.bool (!b)) ds fr L := vq_val (fun a w hk _ => by simp [execOp, hk.ev hx, Op.unary])
theorem vq_neg {t : TypeId} {x : Operand} {k : IntKind} {m r : Int} (hx : evA fr x = some (.int k m)) (hr : k.wrap (0 - m) = r) : VQ P w0 n ⟨dst, .unOp .neg t x, ty, pos, after, gd⟩ (.int k r) ds fr L := vq_val (fun a w hk _ => by subst hr; simp [execOp, hk.ev hx, Op.unary, Op.intArith])
theorem vq_xorU {t : TypeId} {x : Operand} {k : IntKind} {m r : Int} (hx : evA fr x = some (.int k m)) (hr : bitsV .xor k (if k.signed then -1 else k.max) m = r) : VQ P w0 n ⟨dst, .unOp .xor t x, ty, pos, after, gd⟩ (.int k r) ds fr L := vq_val (fun a w hk _ => by subst hr; simp [execOp, hk.ev hx, Op.unary, Op.intBits, bitsV])
theorem vq_extract {x : Operand} {i : Nat} {vs : Array Value} {v : Value} (hx : evA fr x = some (.tuple vs)) (hv : vs.toList[i]? = some v) : VQ P w0 n ⟨dst, .extract x i, ty, pos, after, gd⟩ (v) ds fr L := vq_val (fun a w hk _ => by
      have hv' : vs[i]? = some v := by rw [← hv]; simp
      simp [execOp, hk.ev hx, Instr.extract, hv'])
theorem vq_nilCheck {x : Operand} {p : Addr} (hx : evA fr x = some (.pointer (some p))) : VQ P w0 n ⟨dst, .nilCheck x, ty, pos, after, gd⟩ (.pointer (some p)) ds fr L := vq_val (fun a w hk _ => by simp [execOp, hk.ev hx])
/-- Operands' values. -/
def evAs (fr : Fr) : List Operand → Option (List Value)
  | [] => some []
  | x :: xs => match evA fr x, evAs fr xs with
    | some v, some vs => some (v :: vs)
    | _, _ => none
theorem Kn.evs {a : Act} (hk : Kn n ds a fr) : ∀ (xs : List Operand) (vs : List Value), evAs fr xs = some vs → xs.map a.eval = vs
  | [], vs, h => by simp only [evAs, Option.some.injEq] at h; subst h; rfl
  | x :: xs, vs, h => by
    simp only [evAs] at h
    split at h
    · rename_i v us h1 h2
      simp only [Option.some.injEq] at h
      subst h
      simp only [List.map_cons, hk.ev h1, hk.evs xs us h2]
    · cases h
theorem vq_makeFunc {f : Fn} {first captured : Array Operand} {fs cs : List Value} (h1 : evAs fr first.toList = some fs) (h2 : evAs fr captured.toList = some cs) : VQ P w0 n ⟨dst, .makeFunc f first captured, ty, pos, after, gd⟩ (.func f fs.toArray cs.toArray) ds fr L := vq_val (fun a w hk _ => by
      have e1 : first.map a.eval = fs.toArray := Array.ext' (by rw [Array.toList_map, hk.evs _ _ h1])
      have e2 : captured.map a.eval = cs.toArray := Array.ext' (by rw [Array.toList_map, hk.evs _ _ h2])
      simp [execOp, e1, e2, Instr.makeFunc])
/-- What a type is. -/
class UT (P : Program) (t : TypeId) (e : outParam TypeDesc) : Prop where
  out : P.underlying t = some e
theorem vq_conv {s t : TypeId} {x : Operand} {k k' : IntKind} {m r : Int} (hx : evA fr x = some (.int k m)) [hs : UT P s (.int k)] [ht : UT P t (.int k')] (hr : k'.wrap m = r) : VQ P w0 n ⟨dst, .convert s t x, ty, pos, after, gd⟩ (.int k' r) ds fr L := vq_val (fun a w hk _ => by
      subst hr
      simp [execOp, hk.ev hx, convert, run_underlying hs.out, run_underlying ht.out, Conv.intToInt])
theorem vq_lenSl {x : Operand} {t e : TypeId} {a0 : Option Addr} {m c : Nat} [hu : UT P t (.slice e)] (hx : evA fr x = some (.slice a0 m c)) : VQ P w0 n ⟨dst, .call { callee := .builtin .len, args := #[x], argTypes := #[t] }, ty, pos, after, gd⟩ (.int .i64 m) ds fr L := vq_val (fun a w hk _ => by
      simp [execOp, resolve, invoke, builtin, hk.ev hx, Builtin.len_, goInt, run_underlying hu.out])
end
end Go.Proofs.Ytgffejpcldeklaa
namespace Go.Proofs.Ytgffejpcldeklaa
open Go Go.RowKit

/-- An address and some cells on. -/
def offA (a : Option Addr) (k : Nat) : Option Addr := a.map (·.add k)
theorem offA_some (b off k : Nat) : offA (some ⟨b, off, none⟩) k = some ⟨b, off + k, none⟩ := by simp [offA, addr_add]

/-- Cells that could be read when the call began. -/
class RdA (w0 : World) (a : Option Addr) (vs : outParam (List Value)) : Prop where
  out : Rc w0 a vs
/-- Cells that can be read. -/
class RdC (w0 : World) (L : List Asn) (a : Option Addr) (vs : outParam (List Value)) : Prop where
  out : ∀ w, St w0 w L → Rc w a vs
class HasBlk (L : List Asn) (g : Nat) (i : outParam Nat) (t : outParam TypeId) (cs : outParam (List Value)) : Prop where
  out : L[i]? = some (blk g t cs)
class HasOwn (L : List Asn) (a : Option Addr) (i : outParam Nat) (e : outParam TypeId) (size n cap : outParam Nat) (xs : outParam (List Value)) : Prop where
  out : L[i]? = some (own e size a n cap xs)
class HasRd (L : List Asn) (a : Option Addr) (i : outParam Nat) (xs : outParam (List Value)) : Prop where
  out : L[i]? = some (rd a xs)
class SetI (L : List Asn) (i : Nat) (P' : Asn) (L' : outParam (List Asn)) : Prop where
  out : L' = L.set i P'
instance setI_zero (P P' : Asn) (L : List Asn) : SetI (P :: L) 0 P' (P' :: L) := ⟨rfl⟩
instance setI_succ (P P' : Asn) (L L' : List Asn) (i : Nat) [h : SetI L i P' L'] : SetI (P :: L) (i + 1) P' (P :: L') := ⟨by rw [h.out]; rfl⟩
instance hasBlk_zero (L : List Asn) (g : Nat) (t : TypeId) (cs : List Value) : HasBlk (blk g t cs :: L) g 0 t cs := ⟨rfl⟩
instance (priority := low) hasBlk_succ (P : Asn) (L : List Asn) (g i : Nat) (t : TypeId) (cs : List Value) [h : HasBlk L g i t cs] : HasBlk (P :: L) g (i + 1) t cs := ⟨by simpa using h.out⟩
instance hasOwn_zero (L : List Asn) (a : Option Addr) (e : TypeId) (size n cap : Nat) (xs : List Value) : HasOwn (own e size a n cap xs :: L) a 0 e size n cap xs := ⟨rfl⟩
instance (priority := low) hasOwn_succ (P : Asn) (L : List Asn) (a : Option Addr) (i : Nat) (e : TypeId) (size n cap : Nat) (xs : List Value) [h : HasOwn L a i e size n cap xs] : HasOwn (P :: L) a (i + 1) e size n cap xs := ⟨by simpa using h.out⟩
instance hasRd_zero (L : List Asn) (a : Option Addr) (xs : List Value) : HasRd (rd a xs :: L) a 0 xs := ⟨rfl⟩
instance rdC_own (w0 : World) (L : List Asn) (a : Option Addr) (i : Nat) (e : TypeId) (size n cap : Nat) (xs : List Value) [h : HasOwn L a i e size n cap xs] : RdC w0 L a xs := ⟨fun w hs => hs.rcOwn i h.out⟩
instance rdC_blk (w0 : World) (L : List Asn) (g i : Nat) (t : TypeId) (cs : List Value) [h : HasBlk L g i t cs] : RdC w0 L (some ⟨g, 0, none⟩) cs := ⟨fun w hs => hs.rcBlk i h.out⟩
instance rdC_rd (w0 : World) (L : List Asn) (a : Option Addr) (i : Nat) (xs : List Value) [h : HasRd L a i xs] : RdC w0 L a xs := ⟨fun w hs => hs.rcRd i h.out⟩
instance (priority := high) rdC_arg (w0 : World) (L : List Asn) (a : Option Addr) (vs : List Value) [h : RdA w0 a vs] : RdC w0 L a vs := ⟨fun w hs => h.out.st hs⟩
instance (priority := 50) rdC_cons (w0 : World) (A : Asn) (L : List Asn) (a : Option Addr) (vs : List Value) [h : RdC w0 L a vs] : RdC w0 (A :: L) a vs := ⟨fun w hs => h.out w ⟨hs.1, SL.tail hs.2⟩⟩
instance slI_of (P : Program) (t e : TypeId) (agg : Bool) (size bytes : Nat) (z : List Value) [h : UT P t (.slice e)] [k : TyI P e agg size bytes z] : SlI P t e agg size bytes z := ⟨h.out, k⟩

/-- Values of one cell. -/
class OC (vs : List Value) : Prop where
  out : ∀ u ∈ vs, u.oneCell' = true
instance oc_nil : OC [] := ⟨by simp⟩
instance oc_int (k : IntKind) (m : Int) (vs : List Value) [h : OC vs] : OC (.int k m :: vs) := ⟨by intro u hu; rcases List.mem_cons.1 hu with rfl | hu; rfl; exact h.out u hu⟩
instance oc_bool (b : Bool) (vs : List Value) [h : OC vs] : OC (.bool b :: vs) := ⟨by intro u hu; rcases List.mem_cons.1 hu with rfl | hu; rfl; exact h.out u hu⟩
instance oc_slice (a : Option Addr) (m c : Nat) (vs : List Value) [h : OC vs] : OC (.slice a m c :: vs) := ⟨by intro u hu; rcases List.mem_cons.1 hu with rfl | hu; rfl; exact h.out u hu⟩
instance oc_pointer (a : Option Addr) (vs : List Value) [h : OC vs] : OC (.pointer a :: vs) := ⟨by intro u hu; rcases List.mem_cons.1 hu with rfl | hu; rfl; exact h.out u hu⟩
instance oc_append (us vs : List Value) [h : OC us] [k : OC vs] : OC (us ++ vs) := ⟨by intro u hu; rcases List.mem_append.1 hu with hu | hu; exact h.out u hu; exact k.out u hu⟩
instance oc_bvs (l : List UInt8) : OC (bvs l) := ⟨bvs_one l⟩

/-- A value's cells. -/
def cellsO : Value → Option (List Value)
  | .agg ⟨l⟩ => some l
  | v => some [v]
theorem cellsO_spec {v : Value} {cs : List Value} (h : cellsO v = some cs) : v.cells.toList = cs := by
  cases v with
  | agg a => obtain ⟨l⟩ := a; simp only [cellsO, Option.some.injEq] at h; exact h
  | _ => simp only [cellsO, Option.some.injEq] at h; subst h; rfl

section
variable {P : Program} {ro : Option Nat} {w0 : World} {n : Nat} {ds : List Deferred} {fr : Fr} {L L' : List Asn} {Q : Exit → List Deferred → Fr → List Asn → Prop}
variable {ops : Array Oper} {rest : List Oper} {d : Nat} {ty : TypeId} {pos : String} {after : Array Edge} {dst : Option Nat} {gd : Option (Nat × Bool)} {K : List Deferred → Fr → List Asn → Prop}
variable {e t : TypeId} {agg : Bool} {size bytes : Nat} {z : List Value}

/-! ### Variables -/
theorem vo_alloc [ht : TyI P e agg size bytes z] (hdn : Nat.blt d n = true) (h : ∀ g, K ds ((d, .pointer (some ⟨g, 0, none⟩)) :: fr) (blk g e z :: L)) : VO P ro w0 n ⟨some d, .alloc e, ty, pos, after, gd⟩ K Q ds fr L :=
  vo_runs (fun _ => by simp) (fun a w hk hs => wp_alloc e rfl ht hs (fun g w' hs' => ⟨_, _, _, hk.put d _ hdn, hs', h g⟩))
theorem vo_box {x : Operand} {v : Value} {cs : List Value} (hx : evA fr x = some v) (hc : cellsO v = some cs) (hdn : Nat.blt d n = true) (h : ∀ g, K ds ((d, .pointer (some ⟨g, 0, none⟩)) :: fr) (blk g e cs :: L)) : VO P ro w0 n ⟨some d, .box e x, ty, pos, after, gd⟩ K Q ds fr L :=
  vo_runs (fun _ => by simp) (fun a w hk hs => wp_box e x rfl cs (by rw [hk.ev hx]; exact cellsO_spec hc) hs (fun g w' hs' => ⟨_, _, _, hk.put d _ hdn, hs', h g⟩))
theorem vq_ldB {x : Operand} {g off i : Nat} {cs : List Value} {v : Value} (hx : evA fr x = some (.pointer (some ⟨g, off, none⟩))) [ht : TyI P e false size bytes z] [hb : HasBlk L g i t cs] (hv : cs[off]? = some v) : VQ P w0 n ⟨dst, .load e x, ty, pos, after, gd⟩ (v) ds fr L :=
  vq_val (fun a w hk hs => run_load1 e x rfl g off (hk.ev hx) ht v (hs.cellBlk i hb.out off hv))
/-- A whole variable is read. -/
theorem vq_ldW {x : Operand} {g i : Nat} {cs : List Value} (hx : evA fr x = some (.pointer (some ⟨g, 0, none⟩))) [ht : TyI P e true size bytes z] [hb : HasBlk L g i t cs] (hl : cs.length = size) : VQ P w0 n ⟨dst, .load e x, ty, pos, after, gd⟩ (.agg cs.toArray) ds fr L :=
  vq_val (fun a w hk hs => run_loadAgg e x rfl g 0 (hk.ev hx) ht cs (hs.rcBlk i hb.out) hl)
/-- A part of a variable is read. -/
theorem vq_ldP {x : Operand} {g off i : Nat} {cs us : List Value} (hx : evA fr x = some (.pointer (some ⟨g, off, none⟩))) [ht : TyI P e true size bytes z] [hb : HasBlk L g i t cs] (hu : (cs.drop off).take size = us) (hl : us.length = size) : VQ P w0 n ⟨dst, .load e x, ty, pos, after, gd⟩ (.agg us.toArray) ds fr L :=
  vq_val (fun a w hk hs => run_loadAgg e x rfl g off (hk.ev hx) ht us (by
    have hr := hs.rcBlk i hb.out
    have := hr.part off us (fun j u hj => by
      subst hu
      rw [List.getElem?_take] at hj
      split at hj
      · rwa [List.getElem?_drop] at hj
      · cases hj)
    simpa using this) hl)
/-- Through an address of cells that can be read. -/
theorem vq_ld1 {x : Operand} {a0 : Option Addr} {k : Nat} {vs : List Value} {v : Value} (hx : evA fr x = some (.pointer (offA a0 k))) [ht : TyI P e false size bytes z] [hr : RdC w0 L a0 vs] (hv : vs[k]? = some v) : VQ P w0 n ⟨dst, .load e x, ty, pos, after, gd⟩ (v) ds fr L :=
  vq_val (fun a w hk hs => by
    obtain ⟨b, off, rfl, hc⟩ := (hr.out w hs).read (by rintro rfl; simp at hv)
    rw [offA_some] at hx
    exact run_load1 e x rfl b (off + k) (hk.ev hx) ht v (hc k v hv))
theorem vq_ldA {x : Operand} {a0 : Option Addr} {k : Nat} {vs us : List Value} (hx : evA fr x = some (.pointer (offA a0 k))) [ht : TyI P e true size bytes z] [hr : RdC w0 L a0 vs] (hu : (vs.drop k).take size = us) (hl : us.length = size) : VQ P w0 n ⟨dst, .load e x, ty, pos, after, gd⟩ (.agg us.toArray) ds fr L :=
  vq_val (fun a w hk hs => by
    have hp := ht.pos
    have hne : vs ≠ [] := by rintro rfl; subst hu; simp at hl; omega
    have hrw := hr.out w hs
    obtain ⟨b, off, rfl, hc⟩ := hrw.read hne
    rw [offA_some] at hx
    refine run_loadAgg e x rfl b (off + k) (hk.ev hx) ht us (hrw.part k us (fun j u hj => ?_)) hl
    subst hu
    rw [List.getElem?_take] at hj
    split at hj
    · rwa [List.getElem?_drop] at hj
    · cases hj)

/-! ### Stores -/
theorem vo_stW {p x : Operand} {g i : Nat} {cs vs : List Value} {v : Value} (hp : evA fr p = some (.pointer (some ⟨g, 0, none⟩))) (hx : evA fr x = some v) [ht : TyI P e agg size bytes z] [hb : HasBlk L g i t cs] (hv : cellsO v = some vs) (hl : vs.length = size) (hcl : cs.length = size) [oc : OC vs] [hset : SetI L i (blk g t vs) L']
    (h : K ds fr L') : VO P ro w0 n ⟨none, .store e p x, ty, pos, after, gd⟩ K Q ds fr L :=
  vo_runs (fun _ => by simp) (fun a w hk hs => wp_storeBlk e p x rfl g 0 (hk.ev hp) ht hs i hb.out vs (by rw [hk.ev hx]; exact cellsO_spec hv) hl oc.out vs (splice_all _ _ (by rw [hl, hcl])) (by omega) (fun w' hs' => ⟨_, _, _, hk.put0 _, by rw [hset.out]; exact hs', h⟩))
theorem vo_stB {p x : Operand} {g off i : Nat} {cs cs' vs : List Value} {v : Value} (hp : evA fr p = some (.pointer (some ⟨g, off, none⟩))) (hx : evA fr x = some v) [ht : TyI P e agg size bytes z] [hb : HasBlk L g i t cs] (hv : cellsO v = some vs) (hl : vs.length = size) [oc : OC vs] (hfit : off + vs.length ≤ cs.length) (hcs : splice cs off vs = cs') [hset : SetI L i (blk g t cs') L']
    (h : K ds fr L') : VO P ro w0 n ⟨none, .store e p x, ty, pos, after, gd⟩ K Q ds fr L :=
  vo_runs (fun _ => by simp) (fun a w hk hs => wp_storeBlk e p x rfl g off (hk.ev hp) ht hs i hb.out vs (by rw [hk.ev hx]; exact cellsO_spec hv) hl oc.out cs' hcs hfit (fun w' hs' => ⟨_, _, _, hk.put0 _, by rw [hset.out]; exact hs', h⟩))
theorem vo_stO {p x : Operand} {a0 : Option Addr} {k i sz m cap : Nat} {xs xs' vs : List Value} {v : Value} (hp : evA fr p = some (.pointer (offA a0 k))) (hx : evA fr x = some v) [ht : TyI P e agg size bytes z] [hb : HasOwn L a0 i t sz m cap xs] (hv : cellsO v = some vs) (hl : vs.length = size) [oc : OC vs] (hfit : k + vs.length ≤ xs.length) (hcs : splice xs k vs = xs') [hset : SetI L i (own t sz a0 m cap xs') L']
    (h : K ds fr L') : VO P ro w0 n ⟨none, .store e p x, ty, pos, after, gd⟩ K Q ds fr L :=
  vo_runs (fun _ => by simp) (fun a w hk hs => by
    have hp0 := ht.pos
    obtain ⟨b, off, rfl, _⟩ := (hs.rcOwn i hb.out).read (by rintro rfl; simp only [List.length_nil] at hfit; omega)
    rw [offA_some] at hp
    exact wp_storeOwn e p x rfl b off k (hk.ev hp) ht hs i hb.out vs (by rw [hk.ev hx]; exact cellsO_spec hv) hl oc.out xs' hcs hfit (fun w' hs' => ⟨_, _, _, hk.put0 _, by rw [hset.out]; exact hs', h⟩))

/-! ### Slices -/
theorem vq_index {x i : Operand} {a0 : Option Addr} {m c kk : Nat} {q : IntKind} {I : Int} {vs : List Value} (hx : evA fr x = some (.slice a0 m c)) (hi : evA fr i = some (.int q I)) [hu : SlI P t e agg size bytes z] [hr : RdC w0 L a0 vs] (h0 : 0 ≤ I) (h1 : I < m) (hl : 0 < vs.length) (hk : I.toNat * size = kk)
    : VQ P w0 n ⟨dst, .indexAddr t x i, ty, pos, after, gd⟩ (.pointer (offA a0 kk)) ds fr L :=
  vq_val (fun a w hkn hs => by
    obtain ⟨b, off, rfl, _⟩ := (hr.out w hs).read (by rintro rfl; simp at hl)
    subst hk
    rw [offA_some]
    exact run_indexSl t x i rfl hu (hkn.ev hx) I.toNat (hkn.ev hi) (by omega) (by omega))
def bndE (fr : Fr) (x : Option Operand) (dflt : Nat) : Option Nat := match x with
  | none => some dflt
  | some x => match evA fr x with
    | some (.int _ (.ofNat m)) => some m
    | _ => none
theorem Kn.bnd {a : Act} (h : Kn n ds a fr) {x : Option Operand} {dflt m : Nat} (hb : bndE fr x dflt = some m) : bnd a x dflt m := by
  cases x with
  | none =>
    have h1 : dflt = m := by simpa [bndE] using hb
    exact h1.symm
  | some x =>
    simp only [bndE] at hb
    split at hb
    · rename_i k m' he
      simp only [Option.some.injEq] at hb
      subst hb
      exact ⟨k, _, h.ev he, rfl⟩
    · cases hb
theorem vq_slice {x : Operand} {lo hi mx : Option Operand} {a0 : Option Addr} {m cap l r q : Nat} (hx : evA fr x = some (.slice a0 m cap)) [hu : SlI P t e agg size bytes z] (hl : bndE fr lo 0 = some l) (hh : bndE fr hi m = some r) (hm : bndE fr mx cap = some q) (hmh : (mx.isNone || hi.isSome) = true) (h1 : l ≤ r) (h2 : r ≤ q) (h3 : q ≤ cap) :
    VQ P w0 n ⟨dst, .slice t x lo hi mx, ty, pos, after, gd⟩ (.slice (subA a0 l q size) (r - l) (q - l)) ds fr L :=
  vq_val (fun a w hk hs => run_sliceSl t x lo hi mx rfl hu (hk.ev hx) l r q (hk.bnd hl) (hk.bnd hh) (hk.bnd hm) (fun h => by cases mx <;> simp_all) h1 h2 h3)
theorem vo_append {s x : Operand} {a0 ao : Option Addr} {m c m' c' i : Nat} {xs news : List Value} (hs : evA fr s = some (.slice a0 m c)) (hx : evA fr x = some (.slice ao m' c')) [hu : SlI P t e agg size bytes z] [hb : HasOwn L a0 i e size m c xs] [hr : RdC w0 L ao news] (hl : news.length = m' * size) [oc : OC news] (h63 : m + m' ≤ 140737488355328) (hby : (m + m') * bytes ≤ 140737488355328) (hdn : Nat.blt d n = true)
    {LL : Option Addr → Nat → List Asn} [hset : ∀ a' cap', SetI L i (own e size a' (m + m') cap' (xs ++ news)) (LL a' cap')]
    (h : ∀ a' cap', (m + m' = 0 ∨ a' ≠ none) → m + m' ≤ cap' → K ds ((d, .slice a' (m + m') cap') :: fr) (LL a' cap')) :
    VO P ro w0 n ⟨some d, .call { callee := .builtin .append, args := #[s, x], argTypes := #[t, t] }, ty, pos, after, gd⟩ K Q ds fr L :=
  vo_runs (fun _ => by simp) (fun a w hk hst => wp_append s x t rfl hu hst i (hk.ev hs) hb.out (hk.ev hx) news hl (hr.out w hst) oc.out (by simp only [maxLen]; omega) hby (fun a' cap' w' hs' hn => ⟨_, _, _, hk.put d _ hdn, by rw [(hset a' cap').out]; exact hs', h a' cap' hn (hs'.ownLen i (by rw [List.getElem?_set_self (List.getElem?_eq_some_iff.1 hb.out).1])).2.1⟩))
theorem vo_append0 {s x : Operand} {ao : Option Addr} {m' c' : Nat} {news : List Value} (hs : evA fr s = some (.slice none 0 0)) (hx : evA fr x = some (.slice ao m' c')) [hu : SlI P t e agg size bytes z] [hr : RdC w0 L ao news] (hl : news.length = m' * size) [oc : OC news] (h63 : m' ≤ 140737488355328) (hby : m' * bytes ≤ 140737488355328) (hdn : Nat.blt d n = true)
    (h : ∀ a' cap', (m' = 0 ∨ a' ≠ none) → m' ≤ cap' → K ds ((d, .slice a' m' cap') :: fr) (own e size a' m' cap' news :: L)) :
    VO P ro w0 n ⟨some d, .call { callee := .builtin .append, args := #[s, x], argTypes := #[t, t] }, ty, pos, after, gd⟩ K Q ds fr L :=
  vo_runs (fun _ => by simp) (fun a w hk hst => wp_append0 s x t rfl hu hst (hk.ev hs) (hk.ev hx) news hl (hr.out w hst) oc.out (by simp only [maxLen]; omega) hby (fun a' cap' w' hs' hn => ⟨_, _, _, hk.put d _ hdn, hs', h a' cap' hn (hs'.ownLen 0 rfl).2.1⟩))
theorem vq_eqNil {yt : TypeId} {x y : Operand} {a0 : Option Addr} {m c : Nat} (hx : evA fr x = some (.slice a0 m c)) (hy : evA fr y = some (.slice none 0 0)) [hu : SlI P t e agg size bytes z] : VQ P w0 n ⟨dst, .binOp .eql t x y yt, ty, pos, after, gd⟩ (.bool a0.isNone) ds fr L :=
  vq_val (fun a w hk hs => run_eqNil t yt x y rfl hu (hk.ev hx) (hk.ev hy))
theorem vo_make {l c : Operand} {k k' : IntKind} {I : Int} {m : Nat} (hl : evA fr l = some (.int k I)) (hc : evA fr c = some (.int k' I)) [hu : SlI P t e agg size bytes z] (hm : I = (m : Int)) (hb : bytes * m ≤ 281474976710656) (hmm : m ≤ 140737488355328) (hdn : Nat.blt d n = true)
    (h : ∀ g, K ds ((d, .slice (some ⟨g, 0, none⟩) m m) :: fr) (own e size (some ⟨g, 0, none⟩) m m (madeCells z.toArray (m * size)).toList :: L)) :
    VO P ro w0 n ⟨some d, .makeSlice t l c, ty, pos, after, gd⟩ K Q ds fr L :=
  vo_runs (fun _ => by simp) (fun a w hk hs => wp_make l c t rfl hu hs m (hk.ev hl) hm (hk.ev hc) hm hb (by simp only [maxLen]; omega) (fun g w' hs' => ⟨_, _, _, hk.put d _ hdn, hs', h g⟩))

/-- The cells of a literal's parts, all in their order. -/
def evCs (fr : Fr) : Nat → List (Nat × Operand) → Option (List (List Value))
  | _, [] => some []
  | k, (i, x) :: ps => match Nat.beq i k, evA fr x, evCs fr (k + 1) ps with
    | true, some (.agg ⟨l⟩), some vs => some (l :: vs)
    | true, some v, some vs => some (v.cells.toList :: vs)
    | _, _, _ => none
/-- .. as one row. -/
def evF (fr : Fr) : List (Nat × Operand) → Option (List Value)
  | [] => some []
  | (_, x) :: ps => match evA fr x, evF fr ps with
    | some (.agg ⟨l⟩), some us => some (l ++ us)
    | some v, some us => some (v :: us)
    | _, _ => none
theorem Kn.parts {a : Act} (hk : Kn n ds a fr) : ∀ (parts : List (Nat × Operand)) (k : Nat) (vs : List (List Value)), evCs fr k parts = some vs → parts.map (fun p => (p.1, (a.eval p.2).cells.toList)) = enumS k vs
  | [], k, vs, h => by simp only [evCs, Option.some.injEq] at h; subst h; rfl
  | (i, x) :: ps, k, vs, h => by
    simp only [evCs] at h
    split at h
    · rename_i l us h0 h1 h2
      simp only [Option.some.injEq] at h
      subst h
      have : i = k := Nat.eq_of_beq_eq_true h0
      subst this
      simp only [List.map_cons, enumS, hk.ev h1, hk.parts ps (i + 1) us h2]
      rfl
    · rename_i v us _ h0 h1 h2
      simp only [Option.some.injEq] at h
      subst h
      have : i = k := Nat.eq_of_beq_eq_true h0
      subst this
      simp only [List.map_cons, enumS, hk.ev h1, hk.parts ps (i + 1) us h2]
    · cases h
theorem cells_plain (v : Value) (h : ∀ l, v ≠ .agg ⟨l⟩) : v.cells.toList = [v] := by
  cases v with
  | agg cs => exact absurd rfl (h cs.toList)
  | _ => rfl
theorem evF_eq : ∀ (parts : List (Nat × Operand)) (k : Nat) (vs : List (List Value)) (us : List Value), evCs fr k parts = some vs → evF fr parts = some us → vs.flatten = us
  | [], k, vs, us, h, h' => by
    simp only [evCs, Option.some.injEq] at h
    simp only [evF, Option.some.injEq] at h'
    subst h; subst h'; rfl
  | (i, x) :: ps, k, vs, us, h, h' => by
    simp only [evCs] at h
    simp only [evF] at h'
    split at h
    · rename_i l vs' h0 h1 h2
      simp only [Option.some.injEq] at h
      subst h
      rw [h1] at h'
      cases hr : evF fr ps with
      | none => simp [hr] at h'
      | some us' =>
        rw [hr] at h'
        simp only [Option.some.injEq] at h'
        subst h'
        rw [List.flatten_cons, evF_eq ps (k + 1) vs' us' h2 hr]
    · rename_i v vs' hno h0 h1 h2
      simp only [Option.some.injEq] at h
      subst h
      rw [h1] at h'
      have hva : ∀ l, v ≠ .agg ⟨l⟩ := fun l e => hno l e
      cases hr : evF fr ps with
      | none => simp only [hr] at h'; cases h'
      | some us' =>
        rw [hr] at h'
        have hv' : some (v :: us') = some us := by
          split at h'
          · rename_i l us'' e1 e2; simp only [Option.some.injEq] at e1; exact absurd e1 (hva l)
          · rename_i v'' us'' _ e1 e2; simp only [Option.some.injEq] at e1 e2 h'; subst e1; subst e2; rw [h']
          · rename_i hh; exact absurd rfl (hh v us' rfl)
        simp only [Option.some.injEq] at hv'
        subst hv'
        rw [List.flatten_cons, evF_eq ps (k + 1) vs' us' h2 hr, cells_plain v hva]
        rfl
    · cases h
def AllLen (s : Nat) : List (List Value) → Prop
  | [] => True
  | v :: vs => v.length = s ∧ AllLen s vs
theorem AllLen.out {s : Nat} : ∀ {vs : List (List Value)}, AllLen s vs → ∀ v ∈ vs, v.length = s
  | [], _, v, h => by simp at h
  | u :: us, ⟨h1, h2⟩, v, h => by
    rcases List.mem_cons.1 h with rfl | h
    · exact h1
    · exact AllLen.out h2 v h
theorem vo_buildSlice {m : Nat} {parts : Array (Nat × Operand)} [hu : SlI P t e agg size bytes z] {vs : List (List Value)} {us : List Value} (hv : evCs fr 0 parts.toList = some vs) (hus : evF fr parts.toList = some us) (hm : m = vs.length) (h0 : 0 < m) (hl : AllLen size vs) (hsz : m * size ≤ 16777216) (hdn : Nat.blt d n = true)
    (h : ∀ g, K ds ((d, .slice (some ⟨g, 0, none⟩) m m) :: fr) (own e size (some ⟨g, 0, none⟩) m m us :: L)) : VO P ro w0 n ⟨some d, .buildSlice t m parts, ty, pos, after, gd⟩ K Q ds fr L :=
  vo_runs (fun _ => by simp) (fun a w hk hs => wp_buildSliceAll t m parts rfl hu hs vs hm h0 (hk.parts _ _ _ hv) hl.out hsz (fun g w' hs' => ⟨_, _, _, hk.put d _ hdn, by rw [evF_eq _ _ _ _ hv hus] at hs'; exact hs', h g⟩))
theorem vo_buildSlice0 [hu : SlI P t e agg size bytes z] (hdn : Nat.blt d n = true)
    (h : ∀ g, K ds ((d, .slice (some ⟨g, 0, none⟩) 0 0) :: fr) (own e size (some ⟨g, 0, none⟩) 0 0 [] :: L)) : VO P ro w0 n ⟨some d, .buildSlice t 0 #[], ty, pos, after, gd⟩ K Q ds fr L :=
  vo_runs (fun _ => by simp) (fun a w hk hs => wp_buildSlice0 t rfl hu hs (fun g w' hs' => ⟨_, _, _, hk.put d _ hdn, hs', h g⟩))
theorem vq_build {parts : Array (Nat × Operand)} [ht : TyI P t true size bytes z] {pl : List (Nat × Nat)} [hf : FlI P t pl] {vs : List (List Value)} {us : List Value} (hv : evCs fr 0 parts.toList = some vs) (hus : evF fr parts.toList = some us) (hp : plOf 0 (vs.map List.length) = pl) (hl : us.length = size) : VQ P w0 n ⟨dst, .build t parts, ty, pos, after, gd⟩ (.agg us.toArray) ds fr L :=
  vq_val (fun a w hk hs => by
    have he := evF_eq _ _ _ _ hv hus
    rw [← he]
    exact run_buildAll t parts rfl ht hf vs (hk.parts _ _ _ hv) hp (by rw [he]; exact hl) _ rfl)
theorem vq_build0 [ht : TyI P t true size bytes z] {pl : List (Nat × Nat)} [hf : FlI P t pl]
    : VQ P w0 n ⟨dst, .build t #[], ty, pos, after, gd⟩ (.agg z.toArray) ds fr L :=
  vq_val (fun a w hk hs => run_build t #[] rfl ht hf [] rfl (by simp) z rfl)
/-- Where a struct's field lies. -/
theorem run_fieldAt {t : TypeId} {pl : List (Nat × Nat)} [hf : FlI P t pl] {f k s : Nat} (hp : pl[f]? = some (k, s)) (h0 : Nat.blt 0 s = true) (b off : Nat) (w : World) : (Instr.fieldAt t (.pointer (some ⟨b, off, none⟩)) f).run P w = .ok (.pointer (some ⟨b, off + k, none⟩)) w := by
  obtain ⟨fs, hfs⟩ : ∃ fs, P.underlying t = some (.struct fs) := by
    have := hf.str
    cases hd : P.underlying t with
    | none => simp [hd] at this
    | some d => cases d <;> simp [hd] at this; exact ⟨_, rfl⟩
  have hpl := hf.places
  have hfo : P.fieldsOf t = fs := by simp [Program.fieldsOf, hfs]
  rw [hfo] at hpl
  have hlen : fs.toList.length = pl.length := by simpa using congrArg List.length hpl
  have hlt : f < pl.length := (List.getElem?_eq_some_iff.1 hp).1
  have hfd : fs.toList[f]? = some (fs.toList[f]'(by omega)) := List.getElem?_eq_getElem (by omega)
  obtain ⟨fd, hfde⟩ : ∃ fd, fd = fs.toList[f]'(by omega) := ⟨_, rfl⟩
  rw [← hfde] at hfd
  have h2 : ((P.info? fd.type).map fun i => (fd.offset, i.size)) = some (k, s) := by
    have := congrArg (fun l => l[f]?) hpl
    simpa [List.getElem?_map, hfd, hp] using this
  obtain ⟨i, hi, he⟩ := Option.map_eq_some_iff.1 h2
  simp only [Prod.mk.injEq] at he
  have hfd' : fs[f]? = some fd := by rw [← hfd]; simp
  have hne : ¬ i.size = 0 := by have := h0; rw [Nat.blt_eq] at this; omega
  simp [Instr.fieldAt, run_underlying hfs, hfd', Instr.sureAddr, fieldPlace, sizeOf, typeInfo, hi, hne, addr_add, he.1]
theorem vq_fieldAddr {x : Operand} {f g off k s : Nat} {pl : List (Nat × Nat)} (hx : evA fr x = some (.pointer (some ⟨g, off, none⟩))) [hu : FlI P t pl] (hf : pl[f]? = some (k, s)) (h0 : Nat.blt 0 s = true) : VQ P w0 n ⟨dst, .fieldAddr t x f, ty, pos, after, gd⟩ (.pointer (some ⟨g, off + k, none⟩)) ds fr L :=
  vq_val (fun a w hk hs => by
    have := run_fieldAt (P := P) (t := t) hf h0 g off w
    simp [execOp, hk.ev hx, this])
/-! ### Calls -/
/-- A function with a body of its own. -/
class FnB (P : Program) (f : FuncId) : Prop where
  out : ∀ args w, (callFunc f args).run P w = .ok (.enter f args) w
theorem vo_call {f : FuncId} {xs : Array Operand} {ts : Array TypeId} {args : List Value} (hx : evAs fr xs.toList = some args) [hf : FnB P f] (hdn : Nat.blt d n = true)
    (h : VC P w0 f args L fun v L' => K ds ((d, v) :: fr) L') : VO P ro w0 n ⟨some d, .call { callee := .value (.func f), args := xs, argTypes := ts }, ty, pos, after, gd⟩ K Q ds fr L :=
  vo_runs (fun _ => by simp) (fun a w hk hs => by
    refine wp_call f args.toArray ?_ ((h.out w hs).mono fun e w' ⟨v, L', he, hs', hv⟩ => ⟨v, he, _, _, _, hk.put d _ hdn, hs', hv⟩)
    have e2 : xs.map a.eval = args.toArray := Array.ext' (by rw [Array.toList_map, hk.evs _ _ hx])
    show (callFunc f (#[] ++ xs.map a.eval ++ #[])).run P w = _
    rw [e2, Array.empty_append, Array.append_empty]
    exact hf.out args.toArray w)
/-- A function value is called. -/
theorem vo_callV {g : Nat} {f : FuncId} {cap : Array Value} {xs : Array Operand} {ts : Array TypeId} {args : List Value} (hg : look fr g = some (.func (.func f) #[] cap)) (hx : evAs fr xs.toList = some args) [hf : FnB P f] (hdn : Nat.blt d n = true)
    (h : VC P w0 f (args ++ cap.toList) L fun v L' => K ds ((d, v) :: fr) L') : VO P ro w0 n ⟨some d, .call { callee := .value (.tmp g), args := xs, argTypes := ts }, ty, pos, after, gd⟩ K Q ds fr L :=
  vo_runs (fun _ => by simp) (fun a w hk hs => by
    refine wp_call f (args ++ cap.toList).toArray ?_ ((h.out w hs).mono fun e w' ⟨v, L', he, hs', hv⟩ => ⟨v, he, _, _, _, hk.put d _ hdn, hs', hv⟩)
    have e2 : xs.map a.eval = args.toArray := Array.ext' (by rw [Array.toList_map, hk.evs _ _ hx])
    have e3 : a.eval (.tmp g) = .func (.func f) #[] cap := hk.ev (x := .tmp g) hg
    have e4 : (execOp a.eval ⟨some d, .call { callee := .value (.tmp g), args := xs, argTypes := ts }, ty, pos, after, gd⟩).run P w = ((do let d ← Deferred.ofValue (a.eval (.tmp g)) (xs.map a.eval); invoke d.target d.args) : Sem Next).run P w := rfl
    rw [e4, e3, e2]
    show (callFunc f (#[] ++ args.toArray ++ cap)).run P w = _
    have e5 : (#[] ++ args.toArray ++ cap) = (args ++ cap.toList).toArray := by simp
    rw [e5]
    exact hf.out _ w)

def params : Nat → List Value → Fr
  | _, [] => []
  | i, v :: vs => (i, v) :: params (i + 1) vs
theorem look_params : ∀ (vs : List Value) (i d : Nat) (v : Value), look (params i vs) d = some v → ∃ j, d = i + j ∧ vs[j]? = some v
  | [], _, _, _, h => by cases h
  | u :: vs, i, d, v, h => by
    simp only [params, look] at h
    cases hb : Nat.beq i d with
    | true =>
      have : i = d := Nat.eq_of_beq_eq_true hb
      rw [hb] at h
      exact ⟨0, by omega, by simpa using h⟩
    | false =>
      rw [hb] at h
      obtain ⟨j, h1, h2⟩ := look_params vs (i + 1) d v h
      exact ⟨j + 1, by omega, by simpa using h2⟩

/-- The deferred calls are taken: marks of ranges over functions alone. -/
def retQ (P : Program) (w0 : World) (n : Nat) (fn : Func) (R : Value → List Asn → Prop) : Exit → List Deferred → Fr → List Asn → Prop
  | .normal, ds, fr, L | .ret, ds, fr, L => ∀ a w, Kn n ds a fr → St w0 w L → LeavesInM Fence.wide 0 P fn a.tmps (fun e w' => ∃ v L', e = .returned v ∧ St w0 w' L' ∧ R v L') ds .returning w
  | _, _, _, _ => False

theorem vc_enter {f : FuncId} {fn : Func} {c : Code} {args : List Value} {R : Value → List Asn → Prop} (hf : P.funcs[f]? = some fn) (hb : fn.body = some c) (hn : fn.ntmps = n) (hargs : Nat.ble args.length n = true)
    (h : V P none w0 n c (retQ P w0 n fn R) [] (params 0 args) L) : VC P w0 f args L R :=
  ⟨fun w hs => (callsIn_wide (n := 0)).1 (callsIn_of_wp_marks hf hb trivial (by
    have hle : args.length ≤ n := Nat.le_of_ble_eq_true hargs
    have hk : Kn n [] { tmps := args.toArray ++ Array.replicate (fn.ntmps - args.toArray.size) undef, defers := [] } (params 0 args) := by
      refine ⟨by simp [hn]; omega, rfl, fun d v hv => ?_⟩
      obtain ⟨j, rfl, hj⟩ := look_params args 0 d v hv
      have hjl : j < args.length := (List.getElem?_eq_some_iff.1 hj).1
      simp only [Nat.zero_add]
      rw [Array.getElem?_append_left (by simpa using hjl)]
      simpa using hj
    refine wpIn_mono (h.out _ w hk hs) ?_
    rintro e a' w' ⟨ds', fr', L', h1, h2, h3⟩
    cases e with
    | normal => have := h3 a' w' h1 h2; rw [← h1.defers] at this; exact this
    | ret => have := h3 a' w' h1 h2; rw [← h1.defers] at this; exact this
    | _ => exact h3.elim) rfl)⟩

/-- A function of the program. -/
class FnI (P : Program) (f : FuncId) (fn : outParam Func) (n : outParam Nat) : Prop where
  fnc : P.funcs[f]? = some fn
  tmps : fn.ntmps = n
theorem vc_in {f : FuncId} {fn : Func} {c : Code} {args : List Value} {R : Value → List Asn → Prop} [h : FnI P f fn n] (hb : fn.body = some c) (hargs : Nat.ble args.length n = true)
    (hv : V P none w0 n c (retQ P w0 n fn R) [] (params 0 args) L) : VC P w0 f args L R := vc_enter h.fnc hb h.tmps hargs hv
/-- Results. -/
class RvC (P : Program) (fr : Fr) (L : List Asn) (r : ResultVar) (v : outParam Value) : Prop where
  out : ∀ {w0 : World} {n : Nat} {ds : List Deferred} (a : Act) (w : World), Kn n ds a fr → St w0 w L → rvRun P a.tmps w r v
theorem rv_tmp {p : Nat} {v : Value} (h : look fr p = some v) : RvC P fr L (.tmp p) v := ⟨fun a w hk _ => by
  have := hk.at' p v h
  show a.tmps.getD p undef = v
  simp [this]⟩
theorem rv_blk {p g i : Nat} {cs : List Value} (h : look fr p = some (.pointer (some ⟨g, 0, none⟩))) [ht : TyI P e true size bytes z] [hb : HasBlk L g i t cs] (hl : cs.length = size) : RvC P fr L (.cell p e) (.agg cs.toArray) := ⟨fun a w hk hs => by
  have := hk.at' p _ h
  exact rvBlk hs i (by simp [this]) hb.out ht hl⟩
theorem rv_blk1 {p g i : Nat} {v : Value} (h : look fr p = some (.pointer (some ⟨g, 0, none⟩))) [ht : TyI P e false size bytes z] [hb : HasBlk L g i t [v]] : RvC P fr L (.cell p e) v := ⟨fun a w hk hs => by
  have := hk.at' p _ h
  exact rvBlk1 hs i (by simp [this]) hb.out ht⟩
theorem ret0 {fn : Func} {R : Value → List Asn → Prop} (hres : fn.results = #[]) (hR : R (.tuple #[]) L) : retQ P w0 n fn R .ret [] fr L :=
  fun a w hk hs => ⟨.tuple #[], by rw [results_eq, hres]; simp, _, L, rfl, hs, hR⟩
theorem ret1 {fn : Func} {R : Value → List Asn → Prop} {r : ResultVar} {v : Value} (hres : fn.results = #[r]) (h1 : RvC P fr L r v) (hR : R v L) : retQ P w0 n fn R .ret [] fr L :=
  fun a w hk hs => ⟨v, results1 hres (h1.out a w hk hs), v, L, rfl, hs, hR⟩
theorem ret2 {fn : Func} {R : Value → List Asn → Prop} {r r2 : ResultVar} {v v2 : Value} (hres : fn.results = #[r, r2]) (h1 : RvC P fr L r v) (h2 : RvC P fr L r2 v2) (hR : R (.tuple #[v, v2]) L) : retQ P w0 n fn R .ret [] fr L :=
  fun a w hk hs => ⟨_, results2 hres (h1.out a w hk hs) (h2.out a w hk hs), _, L, rfl, hs, hR⟩
theorem ret3 {fn : Func} {R : Value → List Asn → Prop} {r r2 r3 : ResultVar} {v v2 v3 : Value} (hres : fn.results = #[r, r2, r3]) (h1 : RvC P fr L r v) (h2 : RvC P fr L r2 v2) (h3 : RvC P fr L r3 v3) (hR : R (.tuple #[v, v2, v3]) L) : retQ P w0 n fn R .ret [] fr L :=
  fun a w hk hs => ⟨_, results3 hres (h1.out a w hk hs) (h2.out a w hk hs) (h3.out a w hk hs), _, L, rfl, hs, hR⟩

/-! ### For the driver -/
theorem vl_id {l : List Oper} (h : VL P ro w0 n ops Q l ds fr L) : VL P ro w0 n ops Q l ds fr L := h
theorem v_id {c : Code} (h : V P ro w0 n c Q ds fr L) : V P ro w0 n c Q ds fr L := h
theorem vq_isBin {op : BinOp} {t yt : TypeId} {x y : Operand} {v : Value} (h : VQ P w0 n ⟨dst, .binOp op t x y yt, ty, pos, after, gd⟩ v ds fr L) : VQ P w0 n ⟨dst, .binOp op t x y yt, ty, pos, after, gd⟩ v ds fr L := h
theorem vq_isLoad {x : Operand} {v : Value} (h : VQ P w0 n ⟨dst, .load e x, ty, pos, after, gd⟩ v ds fr L) : VQ P w0 n ⟨dst, .load e x, ty, pos, after, gd⟩ v ds fr L := h
theorem vq_isUn {op : UnOp} {x : Operand} {v : Value} (h : VQ P w0 n ⟨dst, .unOp op t x, ty, pos, after, gd⟩ v ds fr L) : VQ P w0 n ⟨dst, .unOp op t x, ty, pos, after, gd⟩ v ds fr L := h
theorem vo_isCall {c : Call} (h : VO P ro w0 n ⟨dst, .call c, ty, pos, after, gd⟩ K Q ds fr L) : VO P ro w0 n ⟨dst, .call c, ty, pos, after, gd⟩ K Q ds fr L := h
theorem vo_isStore {p x : Operand} (h : VO P ro w0 n ⟨dst, .store e p x, ty, pos, after, gd⟩ K Q ds fr L) : VO P ro w0 n ⟨dst, .store e p x, ty, pos, after, gd⟩ K Q ds fr L := h
theorem thn_n {K : List Deferred → Fr → List Asn → Prop} (h : K ds fr L) : thn K Q .normal ds fr L := h
theorem thn_r {K : List Deferred → Fr → List Asn → Prop} (h : Q .ret ds fr L) : thn K Q .ret ds fr L := h
theorem thn_e {K : List Deferred → Fr → List Asn → Prop} {id : Nat} (h : Q (.exit id) ds fr L) : thn K Q (.exit id) ds fr L := h
theorem inb_n {id : Nat} (h : Q .normal ds fr L) : inb id Q .normal ds fr L := h
theorem inb_r {id : Nat} (h : Q .ret ds fr L) : inb id Q .ret ds fr L := h
theorem inb_e {id id' : Nat} (hi : Nat.beq id' id = true) (h : Q .normal ds fr L) : inb id Q (.exit id') ds fr L := by
  simp only [inb, hi]; exact h
theorem inb_o {id id' : Nat} (hi : Nat.beq id' id = false) (h : Q (.exit id') ds fr L) : inb id Q (.exit id') ds fr L := by
  simp only [inb, hi]; exact h
/-- A test is decided. -/
theorem vl_case {l : List Oper} {dj : Nat} {b : Bool} (hv : look fr dj = some (.bool b)) (ht : b = true → VL P ro w0 n ops Q l ds ((dj, .bool true) :: fr) L) (hf : b = false → VL P ro w0 n ops Q l ds ((dj, .bool false) :: fr) L) : VL P ro w0 n ops Q l ds fr L := by
  cases b with
  | true => exact vl_sub (Sub.cons hv rfl (Sub.refl fr)) (ht rfl)
  | false => exact vl_sub (Sub.cons hv rfl (Sub.refl fr)) (hf rfl)
theorem vl_caseG {o : Oper} {j dj : Nat} {oj : Oper} {want b : Bool} (hg : o.guard = some (j, want)) (hj : ops.toList[j]? = some oj) (hdj : oj.dst = some dj) (hv : look fr dj = some (.bool b)) (ht : b = true → VL P ro w0 n ops Q (o :: rest) ds ((dj, .bool true) :: fr) L) (hf : b = false → VL P ro w0 n ops Q (o :: rest) ds ((dj, .bool false) :: fr) L) :
    VL P ro w0 n ops Q (o :: rest) ds fr L := vl_case hv ht hf
theorem v_condT {c : Operand} {x y : Code} (hc : evA fr c = some (.bool true)) (ht : V P ro w0 n x Q ds fr L) : V P ro w0 n (.cond c x y) Q ds fr L := v_cond hc (fun _ => ht) (fun e => by cases e)
theorem v_condF {c : Operand} {x y : Code} (hc : evA fr c = some (.bool false)) (hf : V P ro w0 n y Q ds fr L) : V P ro w0 n (.cond c x y) Q ds fr L := v_cond hc (fun e => by cases e) (fun _ => hf)
/-- A number that is not negative, as one. -/
class IsNat (I : Int) (m : outParam Nat) : Prop where
  out : I = (m : Int)
instance isNat_cast (m : Nat) : IsNat (m : Int) m := ⟨rfl⟩
instance (priority := low) isNat_lit (m : Nat) : IsNat (no_index (OfNat.ofNat m : Int)) (OfNat.ofNat m) := ⟨rfl⟩
theorem wr_add {x y : Int} {m p : Nat} [hx : IsNat x m] [hy : IsNat y p] (h : m + p ≤ 9223372036854775807) : IntKind.i64.wrap (x + y) = ((m + p : Nat) : Int) := by rw [hx.out, hy.out, IntKind.wrap_i64]; omega
theorem wr_sub {x y : Int} {m p : Nat} [hx : IsNat x m] [hy : IsNat y p] (h : p ≤ m) (hm : m ≤ 9223372036854775807) : IntKind.i64.wrap (x - y) = ((m - p : Nat) : Int) := by rw [hx.out, hy.out, IntKind.wrap_i64]; omega
theorem wr_mul {x y : Int} {m p : Nat} [hx : IsNat x m] [hy : IsNat y p] (h : m * p ≤ 9223372036854775807) : IntKind.i64.wrap (x * y) = ((m * p : Nat) : Int) := by
  have e : (m : Int) * (p : Int) = ((m * p : Nat) : Int) := by simp
  rw [hx.out, hy.out, e, IntKind.wrap_i64]; omega
theorem wu_add {x y : Int} {m p : Nat} [hx : IsNat x m] [hy : IsNat y p] (h : m + p ≤ 18446744073709551615) : IntKind.u64.wrap (x + y) = ((m + p : Nat) : Int) := by rw [hx.out, hy.out, IntKind.wrap_u64]; omega
theorem wu_sub {x y : Int} {m p : Nat} [hx : IsNat x m] [hy : IsNat y p] (h : p ≤ m) (hm : m ≤ 18446744073709551615) : IntKind.u64.wrap (x - y) = ((m - p : Nat) : Int) := by rw [hx.out, hy.out, IntKind.wrap_u64]; omega
theorem wu_id {x : Int} {m : Nat} [hx : IsNat x m] (h : m ≤ 18446744073709551615) : IntKind.u64.wrap x = (m : Int) := by rw [hx.out, IntKind.wrap_u64]; omega
theorem wi_id {x : Int} {m : Nat} [hx : IsNat x m] (h : m ≤ 9223372036854775807) : IntKind.i64.wrap x = (m : Int) := by rw [hx.out, IntKind.wrap_i64]; omega
theorem bnd_none {fr : Fr} {m : Nat} : bndE fr none m = some m := rfl
theorem bnd_nat {fr : Fr} {x : Operand} {k : IntKind} {I : Int} {m dflt : Nat} (h : evA fr x = some (.int k I)) [hm : IsNat I m] : bndE fr (some x) dflt = some m := by
  rw [hm.out] at h
  show (match evA fr x with | some (.int _ (.ofNat m)) => some m | _ => none) = _
  rw [h]
theorem ix_1 {I : Int} {m : Nat} [h : IsNat I m] : I.toNat * 1 = m := by rw [h.out]; simp
theorem ix_s {I : Int} {m : Nat} (s : Nat) [h : IsNat I m] : I.toNat * s = m * s := by rw [h.out]; simp
theorem wr_id {m : Int} (h : -9223372036854775808 ≤ m) (h' : m ≤ 9223372036854775807) : IntKind.i64.wrap m = m := by rw [IntKind.wrap_i64]; omega

/-! ### Contracts -/
theorem vc_mono {f : FuncId} {args : List Value} {R R' : Value → List Asn → Prop} (h : VC P w0 f args L R) (hr : ∀ v L', R v L' → R' v L') : VC P w0 f args L R' :=
  ⟨fun w hs => (h.out w hs).mono fun e w' ⟨v, L', h1, h2, h3⟩ => ⟨v, L', h1, h2, hr v L' h3⟩⟩
/-- A contract of a call that makes memory of its own, at the caller's. -/
theorem vc_fresh {f : FuncId} {args : List Value} {R : Value → List Asn → Prop} (h : ∀ w, St w0 w L → Calls P f args.toArray w fun e w' => ∃ v M, e = .returned v ∧ St w w' M ∧ R v M) : VC P w0 f args L fun v L' => ∃ M, L' = M ++ L ∧ R v M :=
  ⟨fun w hs => (h w hs).mono fun e w' ⟨v, M, h1, h2, h3⟩ => ⟨v, M ++ L, h1, hs.comp h2, M, rfl, h3⟩⟩
theorem vc_pure {f : FuncId} {args : List Value} {v : Value} (h : ∀ w, St w0 w L → Calls P f args.toArray w fun e w' => e = .returned v ∧ w = w') : VC P w0 f args L fun u L' => u = v ∧ L' = L :=
  ⟨fun w hs => (h w hs).mono fun e w' ⟨h1, h2⟩ => ⟨v, L, h1, by rw [← h2]; exact hs, rfl, rfl⟩⟩
theorem VC.calls {f : FuncId} {args : List Value} {R : Value → List Asn → Prop} (w : World) (h : VC P w f args [] R) : Calls P f args.toArray w fun e w' => ∃ v M, e = .returned v ∧ St w w' M ∧ R v M :=
  h.out w (St.start w)
end
end Go.Proofs.Ytgffejpcldeklaa
namespace Go.Proofs.Ytgffejpcldeklaa
open Go Go.RowKit

section
variable {P : Program} {ro : Option Nat} {ops : Array Oper} {Q : Exit → Act → World → Prop} {S : World → Prop}

def wpAnyV (P : Program) (ro : Option Nat) (ops : Array Oper) (Q : Exit → Act → World → Prop) (S : Array Bool → World → Prop) : Nat → Array Bool → Act → World → Prop
  | 0, listed, a, w => Region.ready .any ops listed = [] ∧ Q .normal a w
  | fuel + 1, listed, a, w =>
    (Region.ready .any ops listed = [] → Q .normal a w) ∧
    ∀ i ∈ Region.ready .any ops listed, wpOpIn (fen ro) 0 P ops Q i (fun a' w' => S (listed.setIfInBounds i true) w' ∧ wpAnyV P ro ops Q S fuel (listed.setIfInBounds i true) a' w') a w

theorem wpAnyIn_of_V {S : Array Bool → World → Prop} : ∀ (fuel : Nat) (listed : Array Bool) (a : Act) (w : World), wpAnyV P ro ops Q S fuel listed a w → wpAnyIn (fen ro) 0 P .any ops Q fuel listed a w
  | 0, _, _, _, h => h
  | fuel + 1, _, _, _, h => ⟨h.1, fun i hi => wpOpIn_mono (fun a' w' h' => wpAnyIn_of_V fuel _ a' w' h'.2) (h.2 i hi)⟩

theorem yields_wpOpV {i : Nat} {o : Oper} {v : Value} {a : Act} (hd : ∀ c, o.op ≠ .defer c) (hi : ops[i]? = some o) (hy : YieldsIf P ops S o v a)
    {K : Act → World → Prop} {w : World} (hS : S w) (h : K (a.put o.dst v) w) : wpOpIn (fen ro) 0 P ops Q i K a w := by
  unfold wpOpIn
  simp only [hi]
  rcases hy with ⟨hw, hv⟩ | ⟨hw, rfl⟩
  · have e : o.semAt (fen ro).round a.eval = execOp a.eval o := Oper.semAt_eq _ _ _ hd
    simp only [hw, if_true, Oper.wpIn, e, hv w hS, Oper.uponIn]; exact ⟨fun _ _ => trivial, h⟩
  · simp only [hw, Bool.false_eq_true, if_false]; exact ⟨fun _ _ => trivial, h⟩

theorem wpOpV_putIf {j : Nat} {oi oj : Oper} {v : Value} (hj : ops[j]? = some oj) (hap : oi.apart ops oj = true)
    (hsi : ∀ cs b, oi.op ≠ .select cs b) (hsj : ∀ cs b, oj.op ≠ .select cs b) (hdj : ∀ c, oj.op ≠ .defer c)
    (hQ : ∀ c a w, Q (.panic c) (a.put oi.dst v) w → Q (.panic c) a w) {K : Act → World → Prop} {a : Act} {w : World}
    (hy : YieldsIf P ops S oi v a) (h : wpOpIn (fen ro) 0 P ops Q j K (a.put oi.dst v) w) :
    wpOpIn (fen ro) 0 P ops Q j (fun a' w' => YieldsIf P ops S oi v a' ∧ K (a'.put oi.dst v) w') a w := by
  obtain ⟨h1, h2, h3⟩ := Oper.apart_spec hap
  have keep : ∀ (a : Act), YieldsIf P ops S oi v a → ∀ u, YieldsIf P ops S oi v (a.put oj.dst u) := fun a hy u =>
    hy.of_same (execOp_put oi hsi a oj.dst u h3) (wanted_put oi a oj.dst u h3)
  have keepD : ∀ d, YieldsIf P ops S oi v { a with defers := d :: a.defers } := fun d => hy.of_same rfl rfl
  unfold wpOpIn at *
  simp only [hj] at *
  rw [wanted_put oj a oi.dst v h1] at h
  split
  · rename_i hw
    simp only [hw, if_true] at h
    refine ⟨fun _ _ => trivial, ?_⟩
    have h := h.2
    have e : ∀ ρ, oj.semAt (fen ro).round ρ = execOp ρ oj := fun ρ => Oper.semAt_eq _ _ _ hdj
    rw [e, execOp_put oj hsj a oi.dst v h1] at h
    rw [e]
    generalize (execOp a.eval oj).run P w = r at *
    cases r with
    | ok x w' =>
      cases x <;> simp only [Oper.uponIn] at h ⊢
      case value u => exact ⟨keep a hy u, by rw [← Act.put_comm a v u h2]; exact h⟩
      case skip => exact ⟨keep a hy _, by rw [← Act.put_comm a v undef h2]; exact h⟩
      case defer d =>
        refine ⟨keep _ (keepD d) _, ?_⟩
        rw [← Act.put_comm _ v undef h2, ← Act.put_defers]
        exact h
      case enter f args =>
        refine ⟨h.1, h.2.mono fun e w'' he => ?_⟩
        cases e with
        | returned u => exact ⟨keep a hy u, by rw [← Act.put_comm a v u h2]; exact he⟩
        | panicked c => exact hQ _ _ _ he
        | outgrown => exact he
      case row row args => exact ⟨h.1, h.2.mono fun u w'' he => ⟨keep a hy u, by rw [← Act.put_comm a v u h2]; exact he⟩⟩
      case round l f tmps assign body =>
        refine ⟨h.1, h.2.mono fun e w'' he => ?_⟩
        cases e with
        | returned u => exact ⟨keep a hy u, by rw [← Act.put_comm a v u h2]; exact he⟩
        | panicked c => exact hQ _ _ _ he
        | outgrown => exact he
    | halt x w' =>
      cases x <;> simp only [Oper.uponIn] at h ⊢
      case panic u => exact hQ _ _ _ h
  · rename_i hw
    simp only [hw] at h
    exact ⟨fun _ _ => trivial, keep a hy _, by rw [← Act.put_comm a v undef h2]; exact h.2⟩

def plainOps (ops : Array Oper) : Bool := ops.toList.all fun o => notDefer o.op
theorem plainOps_spec (h : plainOps ops = true) {j : Nat} {o : Oper} (hj : ops[j]? = some o) : ∀ c, o.op ≠ .defer c := by
  have : o ∈ ops.toList := by
    have := Array.mem_of_getElem? hj
    simpa using this
  exact notDefer_spec (List.all_eq_true.1 h o this)

theorem wpAnyV_first {SS : Array Bool → World → Prop} {inv : Array Bool → Prop} {i : Nat} {oi : Oper} {v : Value} (hi : ops[i]? = some oi) (hpl : plainOps ops = true) (hsel : ∀ (j : Nat) (o : Oper) cs b, ops[j]? = some o → o.op ≠ .select cs b)
    (hQ : ∀ c a w, Q (.panic c) (a.put oi.dst v) w → Q (.panic c) a w)
    (hinv : ∀ listed j, inv listed → i ∈ Region.ready .any ops listed → j ∈ Region.ready .any ops listed → j ≠ i → inv (listed.setIfInBounds j true)) (hSS : ∀ listed W, inv listed → SS listed W → S W) (hind : ∀ listed W, SS (listed.setIfInBounds i true) W ↔ SS listed W) :
    ∀ (fuel : Nat) (listed : Array Bool) (a : Act) (w : World),
      (∀ j oj, ops[j]? = some oj → j ≠ i → listed.getD j true = false → (∀ e ∈ oj.after, Region.binds .any e = true → e.on ≠ i) → oi.apart ops oj = true) →
      i ∈ Region.ready .any ops listed → YieldsIf P ops S oi v a → inv listed → SS listed w →
      wpAnyV P ro ops Q SS fuel (listed.setIfInBounds i true) (a.put oi.dst v) w → wpAnyV P ro ops Q SS (fuel + 1) listed a w := by
  intro fuel
  induction fuel with
  | zero =>
    intro listed a w _ hr hy hv hS H
    refine ⟨fun h => (by rw [h] at hr; cases hr), fun j hj => ?_⟩
    by_cases hji : j = i
    · subst hji; exact yields_wpOpV (plainOps_spec hpl hi) hi hy (hSS _ _ hv hS) ⟨(hind _ _).2 hS, H⟩
    · have := ready_mono hj hji
      rw [H.1] at this
      cases this
  | succ fuel ih =>
    intro listed a w hfree hr hy hv hS H
    refine ⟨fun h => (by rw [h] at hr; cases hr), fun j hj => ?_⟩
    by_cases hji : j = i
    · subst hji; exact yields_wpOpV (plainOps_spec hpl hi) hi hy (hSS _ _ hv hS) ⟨(hind _ _).2 hS, H⟩
    · have h1 := H.2 j (ready_mono hj hji)
      obtain ⟨hjun, oj, hoj, hall⟩ := mem_ready.1 hj
      have hnot : ∀ e ∈ oj.after, Region.binds .any e = true → e.on ≠ i := fun e he hb heq => by
        have h1 := hall e he hb
        have h0 := (mem_ready.1 hr).1
        rw [heq] at h1
        rcases Nat.lt_or_ge i listed.size with h' | h'
        · simp [h'] at h0 h1; rw [h0] at h1; cases h1
        · simp [Array.getElem?_eq_none h'] at h1
      have h2 := wpOpV_putIf hoj (hfree j oj hoj hji hjun hnot) (fun cs b => hsel i oi cs b hi) (fun cs b => hsel j oj cs b hoj) (plainOps_spec hpl hoj) hQ hy h1
      have hfree' : ∀ k ok, ops[k]? = some ok → k ≠ i → (listed.setIfInBounds j true).getD k true = false →
          (∀ e ∈ ok.after, Region.binds .any e = true → e.on ≠ i) → oi.apart ops ok = true := fun k ok hk hki hun hno => by
        refine hfree k ok hk hki ?_ hno
        by_cases hjk : j = k
        · subst hjk; exact hjun
        · rw [getD_set_ne true hjk] at hun; exact hun
      refine wpOpIn_mono (fun a' w' h3 => ?_) h2
      have hcomm : (listed.setIfInBounds i true).setIfInBounds j true = (listed.setIfInBounds j true).setIfInBounds i true := Array.setIfInBounds_comm _ _ (Ne.symm hji)
      obtain ⟨h4, h5, h6⟩ := h3
      rw [hcomm] at h5 h6
      exact ⟨(hind _ _).1 h5, ih (listed.setIfInBounds j true) a' w' hfree' (ready_mono hr (Ne.symm hji)) h4 (hinv _ _ hv hr hj hji) ((hind _ _).1 h5) h6⟩

end

/-! ### In the logic -/
/-- Has one of those come up? -/
def anyE (E : List Nat) (listed : Array Bool) : Bool := E.any fun e => listed.getD e false
/-- What is held: until one of E has come up, Lf. -/
def SE' (w0 : World) (E : List Nat) (Lf : List Asn) (listed : Array Bool) (W : World) : Prop := St w0 W [] ∧ (anyE E listed = true ∨ St w0 W Lf)
theorem anyE_other {E : List Nat} {i : Nat} (h : E.all (fun e => !Nat.beq e i) = true) (listed : Array Bool) : anyE E (listed.setIfInBounds i true) = anyE E listed := by
  unfold anyE
  induction E with
  | nil => rfl
  | cons e E ih =>
    simp only [List.all_cons, Bool.and_eq_true, Bool.not_eq_true'] at h
    simp only [List.any_cons, ih h.2]
    have hne : i ≠ e := fun he => by have := h.1; subst he; simp at this
    congr 1
    rw [getD_set_ne false hne]
/-- Does e wait for i, directly or through others? -/
def reachB (ops : Array Oper) : Nat → Nat → Nat → Bool
  | 0, _, _ => false
  | f + 1, e, i => match ops.toList[e]? with
    | some o => o.after.toList.any fun x => Region.binds .any x && (Nat.beq x.on i || reachB ops f x.on i)
    | none => false
/-- Whatever has come up, all that it waits for has. -/
def closedL (ops : Array Oper) (l : Array Bool) : Prop := ∀ m om, ops[m]? = some om → l.getD m false = true → ∀ x ∈ om.after, Region.binds .any x = true → l.getD x.on false = true
theorem reach_listed {ops : Array Oper} {l : Array Bool} (hc : closedL ops l) : ∀ (f e i : Nat), (∀ om, ops[e]? = some om → ∀ x ∈ om.after, Region.binds .any x = true → l.getD x.on false = true) → reachB ops f e i = true → l.getD i false = true
  | 0, _, _, _, h => by cases h
  | f + 1, e, i, hd, h => by
    simp only [reachB] at h
    cases ho : ops.toList[e]? with
    | none => rw [ho] at h; cases h
    | some o =>
      rw [ho] at h
      simp only [List.any_eq_true, Bool.and_eq_true, Bool.or_eq_true] at h
      obtain ⟨x, hx, hb, hx2⟩ := h
      have ho' : ops[e]? = some o := by rw [← ho]; simp
      have hl := hd o ho' x (by simpa using hx) hb
      rcases hx2 with hx2 | hx2
      · rw [← Nat.eq_of_beq_eq_true hx2]; exact hl
      · exact reach_listed hc f x.on i (fun om hom => hc x.on om hom hl) hx2
/-- Each of E waits for i. -/
def waitsE (ops : Array Oper) (E : List Nat) (i : Nat) : Bool := E.all fun e => reachB ops ops.size e i
def closedB (ops : Array Oper) (l : List Bool) : Bool := ops.toList.zipIdx.all fun p => !l.getD p.2 false || p.1.after.toList.all fun x => !Region.binds .any x || l.getD x.on false
theorem closedB_spec {ops : Array Oper} {l : List Bool} (h : closedB ops l = true) : closedL ops l.toArray := by
  intro m om hm hl x hx hb
  have hm' : (om, m) ∈ ops.toList.zipIdx := by
    rw [List.mem_zipIdx_iff_getElem?]
    rw [← hm]; simp
  have h1 := List.all_eq_true.1 h _ hm'
  simp only [Bool.or_eq_true, Bool.not_eq_true', List.all_eq_true] at h1
  have gd : ∀ k, l.toArray.getD k false = l.getD k false := fun k => by
    rw [List.getD_eq_getElem?_getD, Array.getD_eq_getD_getElem?]; simp
  have hl' : l.getD m false = true := by rw [← gd]; exact hl
  rcases h1 with h1 | h1
  · rw [hl'] at h1; cases h1
  · rcases h1 x (by simpa using hx) with h2 | h2
    · rw [hb] at h2; cases h2
    · rw [gd]; exact h2
theorem closed_set {ops : Array Oper} {l : Array Bool} {j : Nat} (hc : closedL ops l) (hj : j ∈ Region.ready .any ops l) : closedL ops (l.setIfInBounds j true) := by
  obtain ⟨h0, oj, hoj, hall⟩ := mem_ready.1 hj
  have hjs : j < l.size := by
    rcases Nat.lt_or_ge j l.size with h | h
    · exact h
    · simp [Array.getElem?_eq_none h] at h0
  intro m om hm hl x hx hb
  have keep : l.getD x.on false = true → (l.setIfInBounds j true).getD x.on false = true := fun h => by
    by_cases e : j = x.on
    · rw [← e]; simp [Array.getElem?_setIfInBounds, hjs]
    · rw [getD_set_ne false e]; exact h
  by_cases e : j = m
  · subst e
    rw [hoj] at hm; cases hm
    exact keep (hall x hx hb)
  · rw [getD_set_ne false e] at hl
    exact keep (hc m om hm hl x hx hb)

/-- The region's state: which operations have come up; what is held until one of E has come up (Lf). -/
structure VA (P : Program) (ro : Option Nat) (w0 : World) (n : Nat) (ops : Array Oper) (Q : Exit → List Deferred → Fr → List Asn → Prop) (E : List Nat) (Lf : List Asn) (fuel : Nat) (listed : List Bool) (ds : List Deferred) (fr : Fr) (L : List Asn) : Prop where
  out : ∀ a w, Kn n ds a fr → St w0 w L → wpAnyV P ro ops (up w0 n Q) (SE' w0 E Lf) fuel listed.toArray a w

section
variable {P : Program} {ro : Option Nat} {w0 : World} {n : Nat} {ds : List Deferred} {fr : Fr} {L Lf : List Asn} {Q : Exit → List Deferred → Fr → List Asn → Prop} {ops : Array Oper} {fuel : Nat} {listed : List Bool} {E : List Nat}

def noPanic (Q : Exit → List Deferred → Fr → List Asn → Prop) : Prop := ∀ c ds fr L, ¬ Q (.panic c) ds fr L
theorem St.none {w w0 : World} {L : List Asn} (h : St w0 w L) : St w0 w [] := ⟨h.1, trivial⟩
/-- A region that draws: Lf is held until one of E has come up. -/
theorem v_draw {id : Nat} {l : List Oper} (E : List Nat) (Lf : List Asn) (hm : P.follows .mixedOrders = true) (h : VA P ro w0 n l.toArray Q E Lf l.length (List.replicate l.length false) ds fr L) : V P ro w0 n (.region id l.toArray true) Q ds fr L :=
  ⟨fun a w hk hs => wpIn_region_any hm (by
    have := wpAnyIn_of_V _ _ _ _ (h.out a w.drew hk hs.drew)
    simpa using this)⟩
theorem v_draw0 {id : Nat} {l : List Oper} (E : List Nat) (hm : P.follows .mixedOrders = true) (h : VA P ro w0 n l.toArray Q E L l.length (List.replicate l.length false) ds fr L) : V P ro w0 n (.region id l.toArray true) Q ds fr L := v_draw E L hm h
class EraseI (L : List Asn) (i : Nat) (L' : outParam (List Asn)) : Prop where
  out : L' = L.eraseIdx i
instance eraseI_zero (P : Asn) (L : List Asn) : EraseI (P :: L) 0 L := ⟨rfl⟩
instance eraseI_succ (P : Asn) (L L' : List Asn) (i : Nat) [h : EraseI L i L'] : EraseI (P :: L) (i + 1) (P :: L') := ⟨by rw [h.out]; rfl⟩
/-- A region that draws: the i-th assertion may be undone. -/
theorem v_drawX {id : Nat} {l : List Oper} (E : List Nat) (i : Nat) {Lf : List Asn} [hi : EraseI L i Lf] (hm : P.follows .mixedOrders = true) (h : VA P ro w0 n l.toArray Q E Lf l.length (List.replicate l.length false) ds fr L) : V P ro w0 n (.region id l.toArray true) Q ds fr L := v_draw E Lf hm h
/-- Assertions follow from assertions, in whatever company. -/
def SE (L M : List Asn) : Prop := ∀ B w A, SL B w L A → SL B w M A
theorem SE.ent {L M : List Asn} (h : SE L M) (w0 : World) : Ent w0 L M := fun w hw => ⟨hw.1, h _ _ _ hw.2⟩
theorem SE.refl (L : List Asn) : SE L L := fun _ _ _ h => h
theorem SE.trans {L M N : List Asn} (h : SE L M) (k : SE M N) : SE L N := fun B w A x => k B w A (h B w A x)
theorem SE.cons (P : Asn) {L M : List Asn} (h : SE L M) : SE (P :: L) (P :: M) := fun B w A x => SL.cons_mono (fun A' => h B w A') x
theorem se_swap (P Q : Asn) (L : List Asn) : SE (P :: Q :: L) (Q :: P :: L) := fun _ _ _ h => SL.swap h
theorem se_drop (P : Asn) (L : List Asn) : SE (P :: L) L := fun _ _ _ h => SL.tail h
theorem va_done (hr : Region.ready .any ops listed.toArray = []) (h : Q .normal ds fr L) : VA P ro w0 n ops Q E Lf fuel listed ds fr L :=
  ⟨fun a w hk hs => by
    cases fuel with
    | zero => exact ⟨hr, ds, fr, L, hk, hs, h⟩
    | succ f => exact ⟨fun _ => ⟨ds, fr, L, hk, hs, h⟩, by rw [hr]; simp⟩⟩
/-- Can number i be taken first? -/
def mayTake (ops : Array Oper) (E : List Nat) (listed : List Bool) (i : Nat) : Bool := E.all (fun e => !Nat.beq e i) && (plainOps ops && (Region.noSelect ops && (Region.free .any ops listed.toArray i && (Region.ready .any ops listed.toArray).contains i)))
def mayTakeE (ops : Array Oper) (E : List Nat) (listed : List Bool) (i : Nat) : Bool := (closedB ops listed && waitsE ops E i) && (!anyE E listed.toArray && mayTake ops E listed i)
theorem take_core (i : Nat) {oi : Oper} {d : Nat} {v : Value} {L1 : List Asn} (hl : ops.toList[i]? = some oi) (hd : oi.dst = some d) (hdn : Nat.blt d n = true) (hc : mayTake ops E listed i = true) (hp : noPanic Q)
    (hL1 : (L1 = [] ∨ (L1 = Lf ∧ (closedB ops listed && waitsE ops E i) = true ∧ anyE E listed.toArray = false))) (he : Ent w0 L Lf ∨ anyE E listed.toArray = true)
    (hy : ∀ a w, Kn n ds a fr → St w0 w L → YieldsIf P ops (fun W => St w0 W L1) oi v a) (h : VA P ro w0 n ops Q E Lf fuel (listed.set i true) ds ((d, v) :: fr) L) : VA P ro w0 n ops Q E Lf (fuel + 1) listed ds fr L :=
  ⟨fun a w hk hs => by
    have hi : ops[i]? = some oi := by rw [← hl]; simp
    simp only [mayTake, Bool.and_eq_true] at hc
    refine wpAnyV_first (S := fun W => St w0 W L1) (inv := fun l => L1 = [] ∨ (L1 = Lf ∧ anyE E l = false ∧ closedL ops l)) hi hc.2.1 (Region.noSelect_spec hc.2.2.1) (fun c a w ⟨_, _, _, _, _, hh⟩ => absurd hh (hp _ _ _ _)) ?_ ?_ (fun l W => by simp only [SE', anyE_other hc.1]) fuel listed.toArray a w (Region.free_spec hi hc.2.2.2.1) (by simpa using hc.2.2.2.2) (hy a w hk hs) ?_ ?_ ?_
    · -- E stays away as long as i has not come up
      rintro l j (h0 | ⟨h0, h1, hcl⟩) hri hrj hji
      · exact .inl h0
      · rcases hL1 with h2 | ⟨_, hwt, _⟩
        · exact .inl h2
        rw [Bool.and_eq_true] at hwt
        refine .inr ⟨h0, ?_, closed_set hcl hrj⟩
        unfold anyE at h1 ⊢
        rw [List.any_eq_false] at h1 ⊢
        intro e hee
        have h3 := h1 e hee
        by_cases hje : j = e
        · subst hje
          exfalso
          obtain ⟨_, oj, hoj, hall⟩ := mem_ready.1 hrj
          have hw := List.all_eq_true.1 hwt.2 j hee
          have h5 := reach_listed hcl _ j i (fun om hom x hx hb => by rw [hoj] at hom; cases hom; exact hall x hx hb) hw
          have h6 := (mem_ready.1 hri).1
          rcases Nat.lt_or_ge i l.size with h' | h'
          · simp [h'] at h5 h6; rw [h6] at h5; cases h5
          · simp [Array.getElem?_eq_none h'] at h5
        · rw [getD_set_ne false hje]; exact h3
    · rintro l W (h0 | ⟨h0, h1, _⟩) ⟨hS1, hS2⟩
      · rw [h0]; exact hS1
      · rw [h0]
        rcases hS2 with h | h
        · rw [h1] at h; cases h
        · exact h
    · rcases hL1 with h | ⟨h, hw, h'⟩
      · exact .inl h
      · rw [Bool.and_eq_true] at hw
        exact .inr ⟨h, h', closedB_spec hw.1⟩
    · exact ⟨hs.none, he.elim (fun h => .inr (h w hs)) .inl⟩
    · rw [hd]
      have := h.out _ w (hk.put d v hdn) hs
      simpa using this⟩
/-- Number i reads only: it is taken first, before one of E has come up. -/
theorem va_take (i : Nat) {oi : Oper} {d : Nat} {v : Value} (hl : ops.toList[i]? = some oi) (hg : oi.guard = none) (hd : oi.dst = some d) (hdn : Nat.blt d n = true) (hc : mayTakeE ops E listed i = true) (hp : noPanic Q) (he : Ent w0 L Lf)
    (hq : VQ P w0 n oi v ds fr Lf) (h : VA P ro w0 n ops Q E Lf fuel (listed.set i true) ds ((d, v) :: fr) L) : VA P ro w0 n ops Q E Lf (fuel + 1) listed ds fr L := by
  simp only [mayTakeE, Bool.and_eq_true, Bool.not_eq_true'] at hc
  exact take_core i hl hd hdn hc.2.2 hp (.inr ⟨rfl, by rw [hc.1.1, hc.1.2]; rfl, hc.2.1⟩) (.inl he) (fun a w hk hs => .inl ⟨by simp [Region.wanted, hg], fun W hW => hq.out a W hk hW⟩) h
/-- .. when one of them may have come up: it must not look at memory of the call's own. -/
theorem va_takeP (i : Nat) {oi : Oper} {d : Nat} {v : Value} (hl : ops.toList[i]? = some oi) (hg : oi.guard = none) (hd : oi.dst = some d) (hdn : Nat.blt d n = true) (hc : mayTake ops E listed i = true) (hp : noPanic Q) (he : Ent w0 L Lf ∨ anyE E listed.toArray = true)
    (hq : VQ P w0 n oi v ds fr []) (h : VA P ro w0 n ops Q E Lf fuel (listed.set i true) ds ((d, v) :: fr) L) : VA P ro w0 n ops Q E Lf (fuel + 1) listed ds fr L :=
  take_core i hl hd hdn hc hp (.inl rfl) he (fun a w hk hs => .inl ⟨by simp [Region.wanted, hg], fun W hW => hq.out a W hk hW⟩) h
theorem wanted_guard {a : Act} {oi oj : Oper} {j dj : Nat} {want b : Bool} (hk : Kn n ds a fr) (hg : oi.guard = some (j, want)) (hj : ops.toList[j]? = some oj) (hdj : oj.dst = some dj) (hv : look fr dj = some (.bool b)) : Region.wanted oi (yielded ops a.tmps) = decide (b = want) := by
  have hj' : ops[j]? = some oj := by rw [← hj]; simp
  have hv' := hk.at' dj _ hv
  cases b <;> cases want <;> simp [Region.wanted, hg, yielded, hj', hdj, hv']
/-- The same, of a guarded one that is wanted. -/
theorem va_takeG (i : Nat) {oi oj : Oper} {d j dj : Nat} {want b : Bool} {v : Value} (hl : ops.toList[i]? = some oi) (hg : oi.guard = some (j, want)) (hj : ops.toList[j]? = some oj) (hdj : oj.dst = some dj) (hv : look fr dj = some (.bool b)) (hb : b = want) (hd : oi.dst = some d) (hdn : Nat.blt d n = true) (hc : mayTakeE ops E listed i = true) (hp : noPanic Q) (he : Ent w0 L Lf)
    (hq : VQ P w0 n oi v ds fr Lf) (h : VA P ro w0 n ops Q E Lf fuel (listed.set i true) ds ((d, v) :: fr) L) : VA P ro w0 n ops Q E Lf (fuel + 1) listed ds fr L := by
  simp only [mayTakeE, Bool.and_eq_true, Bool.not_eq_true'] at hc
  exact take_core i hl hd hdn hc.2.2 hp (.inr ⟨rfl, by rw [hc.1.1, hc.1.2]; rfl, hc.2.1⟩) (.inl he) (fun a w hk hs => .inl ⟨by rw [wanted_guard hk hg hj hdj hv]; simp [hb], fun W hW => hq.out a W hk hW⟩) h
/-- .. that is not wanted. -/
theorem va_passG (i : Nat) {oi oj : Oper} {d j dj : Nat} {want b : Bool} (hl : ops.toList[i]? = some oi) (hg : oi.guard = some (j, want)) (hj : ops.toList[j]? = some oj) (hdj : oj.dst = some dj) (hv : look fr dj = some (.bool b)) (hb : b = !want) (hd : oi.dst = some d) (hdn : Nat.blt d n = true) (hc : mayTake ops E listed i = true) (hp : noPanic Q) (he : Ent w0 L Lf ∨ anyE E listed.toArray = true)
    (h : VA P ro w0 n ops Q E Lf fuel (listed.set i true) ds ((d, undef) :: fr) L) : VA P ro w0 n ops Q E Lf (fuel + 1) listed ds fr L :=
  take_core i hl hd hdn hc hp (.inl rfl) he (fun a w hk hs => .inr ⟨by rw [wanted_guard hk hg hj hdj hv]; cases want <;> simp [hb], rfl⟩) h
/-- Number i alone may come up. -/
theorem one_core (i : Nat) {oi : Oper} (hr : Region.ready .any ops listed.toArray = [i]) (hl : ops.toList[i]? = some oi) (hw : ∀ a, Kn n ds a fr → Region.wanted oi (yielded ops a.tmps) = true)
    (h : VO P ro w0 n oi (fun ds fr L => (anyE E (listed.set i true).toArray = true ∨ Ent w0 L Lf) ∧ VA P ro w0 n ops Q E Lf fuel (listed.set i true) ds fr L) Q ds fr L) : VA P ro w0 n ops Q E Lf (fuel + 1) listed ds fr L :=
  ⟨fun a w hk hs => by
    refine ⟨fun h0 => (by rw [hr] at h0; cases h0), fun j hj => ?_⟩
    rw [hr] at hj
    obtain rfl := List.mem_singleton.1 hj
    have hi : ops[j]? = some oi := by rw [← hl]; simp
    unfold wpOpIn
    simp only [hi, hw a hk, if_true]
    refine Oper.wpIn_mono (fun a' w' ⟨ds', fr', L', h1, h2, h3, h4⟩ => ⟨⟨h2.none, ?_⟩, ?_⟩) (h.out a w hk hs)
    · rcases h3 with h3 | h3
      · left; simpa using h3
      · right; exact h3 w' h2
    · have := h4.out a' w' h1 h2
      simpa using this⟩
theorem va_one (i : Nat) {oi : Oper} (hr : Region.ready .any ops listed.toArray = [i]) (hl : ops.toList[i]? = some oi) (hg : oi.guard = none)
    (h : VO P ro w0 n oi (fun ds fr L => (anyE E (listed.set i true).toArray = true ∨ Ent w0 L Lf) ∧ VA P ro w0 n ops Q E Lf fuel (listed.set i true) ds fr L) Q ds fr L) : VA P ro w0 n ops Q E Lf (fuel + 1) listed ds fr L :=
  one_core i hr hl (fun a _ => by simp [Region.wanted, hg]) h
theorem va_oneG (i : Nat) {oi oj : Oper} {j dj : Nat} {want b : Bool} (hr : Region.ready .any ops listed.toArray = [i]) (hl : ops.toList[i]? = some oi) (hg : oi.guard = some (j, want)) (hj : ops.toList[j]? = some oj) (hdj : oj.dst = some dj) (hv : look fr dj = some (.bool b)) (hb : b = want)
    (h : VO P ro w0 n oi (fun ds fr L => (anyE E (listed.set i true).toArray = true ∨ Ent w0 L Lf) ∧ VA P ro w0 n ops Q E Lf fuel (listed.set i true) ds fr L) Q ds fr L) : VA P ro w0 n ops Q E Lf (fuel + 1) listed ds fr L :=
  one_core i hr hl (fun a hk => by rw [wanted_guard hk hg hj hdj hv]; simp [hb]) h
theorem va_case {dj : Nat} {b : Bool} (hv : look fr dj = some (.bool b)) (ht : b = true → VA P ro w0 n ops Q E Lf fuel listed ds ((dj, .bool true) :: fr) L) (hf : b = false → VA P ro w0 n ops Q E Lf fuel listed ds ((dj, .bool false) :: fr) L) : VA P ro w0 n ops Q E Lf fuel listed ds fr L := by
  cases b with
  | true => exact ⟨fun a w hk hs => (ht rfl).out a w (hk.sub (Sub.cons hv rfl (Sub.refl fr))) hs⟩
  | false => exact ⟨fun a w hk hs => (hf rfl).out a w (hk.sub (Sub.cons hv rfl (Sub.refl fr))) hs⟩
theorem va_caseG (i : Nat) {oi oj : Oper} {j dj : Nat} {want b : Bool} (hl : ops.toList[i]? = some oi) (hg : oi.guard = some (j, want)) (hj : ops.toList[j]? = some oj) (hdj : oj.dst = some dj) (hv : look fr dj = some (.bool b))
    (ht : b = true → VA P ro w0 n ops Q E Lf fuel listed ds ((dj, .bool true) :: fr) L) (hf : b = false → VA P ro w0 n ops Q E Lf fuel listed ds ((dj, .bool false) :: fr) L) : VA P ro w0 n ops Q E Lf fuel listed ds fr L := va_case hv ht hf
end
end Go.Proofs.Ytgffejpcldeklaa
namespace Go.Proofs.Ytgffejpcldeklaa
open Go Go.RowKit

/-- The record of a range over a function: what was known of the temporaries when the loop began. -/
def lpA (l n : Nat) (fr : Fr) (ps : Array Tmp) (assign body : Code) (D : Nat) (st : LoopState) (pe : Option Code) : Asn where
  holds w F := F l ∧ ∃ fn tmps, w.heap[l]? = some (.loop { state := st, pending := pe, fn := fn, tmps := tmps, params := ps, assign := assign, body := body, defers := D }) ∧ Kn n [] { tmps := tmps, defers := [] } fr
  loc := by
    rintro w w' F ⟨h1, fn, tmps, h2, h3⟩ hs
    exact ⟨h1, fn, tmps, (hs l h1).trans h2, h3⟩
  mono := by
    rintro w F G ⟨h1, h2⟩ hs
    exact ⟨hs l h1, h2⟩
/-- The block for the rounds' deferred calls: there are none. -/
def dfA (D : Nat) : Asn where
  holds w F := F D ∧ w.heap[D]? = some (.deferred (some []))
  loc h hs := ⟨h.1, (hs D h.1).trans h.2⟩
  mono h hF := ⟨hF _ h.1, h.2⟩
/-- Nothing is said. -/
def anyA : Asn where
  holds _ _ := True
  loc _ _ := trivial
  mono _ _ := trivial
def mkD (D : Nat) : Deferred := { target := .collected D, args := #[] }

/-- A block of the call's own becomes something else. -/
theorem St.putO {w0 w : World} {L : List Asn} (h : St w0 w L) (i : Nat) {P P' : Asn} (hi : L[i]? = some P) (g : Nat) (o : Obj) (hg : ∀ F, P.holds w F → F g) (hp : ∀ F, P.holds w F → P'.holds (w.putObj g o) F) : St w0 (w.putObj g o) (L.set i P') := by
  obtain ⟨F0, hF0, hF0b⟩ := h.get i hi
  have hgb := hF0b g (hg F0 hF0)
  exact h.upd i hi (by simp) rfl rfl rfl (fun k hk => World.putObj_heap_other (by omega))
    (fun F hF _ => ⟨fun k _ _ hn => World.putObj_heap_other (fun e => hn (e ▸ hg F hF)), P'.mono (hp F hF) (fun _ hk => .inl hk)⟩)

class HasLp (L : List Asn) (l : Nat) (i : outParam Nat) (n : outParam Nat) (fr : outParam Fr) (ps : outParam (Array Tmp)) (assign body : outParam Code) (D : outParam Nat) (st : outParam LoopState) (pe : outParam (Option Code)) : Prop where
  out : L[i]? = some (lpA l n fr ps assign body D st pe)
instance hasLp_zero (L : List Asn) (l n : Nat) (fr : Fr) (ps : Array Tmp) (assign body : Code) (D : Nat) (st : LoopState) (pe : Option Code) : HasLp (lpA l n fr ps assign body D st pe :: L) l 0 n fr ps assign body D st pe := ⟨rfl⟩
class HasDf (L : List Asn) (D : Nat) (i : outParam Nat) : Prop where
  out : L[i]? = some (dfA D)
instance hasDf_zero (L : List Asn) (D : Nat) : HasDf (dfA D :: L) D 0 := ⟨rfl⟩
instance (priority := low) hasDf_succ (P : Asn) (L : List Asn) (D i : Nat) [h : HasDf L D i] : HasDf (P :: L) D (i + 1) := ⟨by simpa using h.out⟩

/-- yield's arguments in the loop's parameters. -/
def updP (fr : Fr) : List Nat → List Value → Fr
  | p :: ps, v :: vs => updP ((p, v) :: fr) ps vs
  | _, _ => fr
theorem kn_updP {n : Nat} {ds : List Deferred} : ∀ (ps : List Nat) (vs : List Value) (tmps : Array Value) (fr : Fr), ps.all (Nat.blt · n) = true → Kn n ds { tmps := tmps, defers := ds } fr →
    Kn n ds { tmps := (ps.zip vs).foldl (fun t (p : Nat × Value) => t.setIfInBounds p.1 p.2) tmps, defers := ds } (updP fr ps vs)
  | [], vs, tmps, fr, _, h => by cases vs <;> simpa [updP] using h
  | p :: ps, [], tmps, fr, _, h => by simpa [updP] using h
  | p :: ps, v :: vs, tmps, fr, hp, h => by
    simp only [List.all_cons, Bool.and_eq_true] at hp
    simp only [List.zip_cons_cons, List.foldl_cons, updP]
    exact kn_updP ps vs _ _ hp.2 (h.put p v hp.1)

section
variable {P : Program} {ro : Option Nat} {w0 : World} {n : Nat} {ds : List Deferred} {fr : Fr} {L : List Asn} {Q : Exit → List Deferred → Fr → List Asn → Prop} {K : List Deferred → Fr → List Asn → Prop}
variable {d : Nat} {ty : TypeId} {pos : String} {after : Array Edge} {gd : Option (Nat × Bool)}

/-- Behind the iterator: the pending jump is carried out. -/
def rangeEnd (P : Program) (ro : Option Nat) (w0 : World) (n : Nat) (Q : Exit → List Deferred → Fr → List Asn → Prop) (ds : List Deferred) (fr : Fr) (l : Nat) (L' : List Asn) : Prop :=
  ∃ i n' fr' ps assign body D st pe, L'[i]? = some (lpA l n' fr' ps assign body D st pe) ∧ st ≠ .busy ∧ (match pe with
    | none => Q .normal ds fr (L'.set i anyA)
    | some c => V P ro w0 n c Q ds fr (L'.set i anyA))
theorem rangeEnd_done {l i n' : Nat} {fr' : Fr} {ps : Array Tmp} {assign body : Code} {D : Nat} {st : LoopState} {L2 : List Asn} [h : HasLp L l i n' fr' ps assign body D st none] [hset : SetI L i anyA L2] (hst : st ≠ .busy) (hq : Q .normal ds fr L2) : rangeEnd P ro w0 n Q ds fr l L :=
  ⟨i, n', fr', ps, assign, body, D, st, none, h.out, hst, by rw [← hset.out]; exact hq⟩
theorem rangeEnd_jump {l i n' : Nat} {fr' : Fr} {ps : Array Tmp} {assign body c : Code} {D : Nat} {st : LoopState} {L2 : List Asn} [h : HasLp L l i n' fr' ps assign body D st (some c)] [hset : SetI L i anyA L2] (hst : st ≠ .busy) (hq : V P ro w0 n c Q ds fr L2) : rangeEnd P ro w0 n Q ds fr l L :=
  ⟨i, n', fr', ps, assign, body, D, st, some c, h.out, hst, by rw [← hset.out]; exact hq⟩

theorem range_out {ro : Option Nat} {l : Nat} {a : Act} {gf : FuncId} {args : Array Value} {w : World} (hk : Kn n ds a fr) (h : Calls P gf args w fun e w' => ∃ v L', e = .returned v ∧ St w0 w' L' ∧ rangeEnd P ro w0 n Q ds fr l L') :
    CallsIn (fen ro) (0 - 1) P gf args w (rangePost (fen ro) 0 P l (up w0 n Q) a) := by
  refine calls_fen (h.mono ?_)
  rintro e w' ⟨v, L', rfl, hs, i, n', fr', ps, assign, body, D, st, pe, hi, hst, hq⟩
  obtain ⟨fn, tmps, hl⟩ : ∃ fn tmps, w'.heap[l]? = some (.loop { state := st, pending := pe, fn := fn, tmps := tmps, params := ps, assign := assign, body := body, defers := D }) := hs.know i hi (fun F ⟨_, fn, tmps, h, _⟩ => ⟨fn, tmps, h⟩)
  refine ⟨pe, _, run_endLoop (P := P) hl hst, ?_⟩
  have hs2 := hs.putO i hi l (.loop { state := .exhausted, pending := pe, fn := fn, tmps := tmps, params := ps, assign := assign, body := body, defers := D }) (P' := anyA) (fun F hF => hF.1) (fun F _ => trivial)
  cases pe with
  | none => exact ⟨ds, fr, _, hk, hs2, hq⟩
  | some c => exact hq.out a _ hk hs2

/-- A range over a function, in no round. -/
theorem v_range {g : Operand} {ps : Array Tmp} {assign body : Code} {gf : FuncId} {cap : Array Value} (hg : evA fr g = some (.func (.func gf) #[] cap)) [hf : FnB P gf]
    (h : ∀ l D, VC P w0 gf (.func (.yield l) #[] #[] :: cap.toList) (lpA l n fr ps assign body D .ready none :: dfA D :: L) fun _ L' => rangeEnd P none w0 n Q (mkD D :: ds) fr l L') :
    V P none w0 n (.rangeFunc g ps assign body) Q ds fr L := by
  refine ⟨fun a w hk hs => wpIn_rangeFunc fun fn _ => ?_⟩
  have e5 : (#[(.func (.yield (w.heap.size + 1)) #[] #[] : Value)] ++ cap) = (Value.func (.yield (w.heap.size + 1)) #[] #[] :: cap.toList).toArray := by simp
  have hs2 : St w0 ((w.alloc (.deferred (some []))).alloc (.loop { state := .ready, pending := none, fn := fn, tmps := a.tmps, params := ps, assign := assign, body := body, defers := w.heap.size })) (lpA (w.heap.size + 1) n fr ps assign body w.heap.size .ready none :: dfA w.heap.size :: L) := by
    have h1 : St w0 (w.alloc (.deferred (some []))) (dfA w.heap.size :: L) := hs.comp (M := [_]) ⟨(Below.refl _ _).alloc (Nat.le_refl _) _, fun k => k = w.heap.size, ⟨rfl, World.alloc_heap_new w _⟩, fun k hk => by subst hk; exact ⟨Nat.le_refl _, by simp, fun f => f⟩, trivial⟩
    refine h1.comp (M := [_]) ⟨(Below.refl _ _).alloc (Nat.le_refl _) _, fun k => k = w.heap.size + 1, ⟨rfl, fn, a.tmps, ?_, ⟨hk.size, rfl, hk.at'⟩⟩, fun k hk => by subst hk; exact ⟨by simp, by simp, fun f => f⟩, trivial⟩
    have := World.alloc_heap_new (w.alloc (.deferred (some []))) (.loop { state := .ready, pending := none, fn := fn, tmps := a.tmps, params := ps, assign := assign, body := body, defers := w.heap.size })
    rwa [World.size_alloc] at this
  have hge : a.eval g = .func (.func gf) #[] cap := hk.ev hg
  have hen := run_enterLoop_outer (P := P) (w := w) fn a.tmps ps assign body
  obtain ⟨W1, hW1⟩ : ∃ W1, W1 = (w.alloc (.deferred (some []))).alloc (.loop { state := .ready, pending := none, fn := fn, tmps := a.tmps, params := ps, assign := assign, body := body, defers := w.heap.size }) := ⟨_, rfl⟩
  rw [← hW1] at hen hs2
  refine ⟨w.heap.size + 1, [mkD w.heap.size], W1, { target := .fn (.func gf) cap, args := #[.func (.yield (w.heap.size + 1)) #[] #[]] }, W1, gf, #[.func (.yield (w.heap.size + 1)) #[] #[]] ++ cap, W1, hen, ?_, fun _ _ => trivial, ?_, fun hh => absurd hh (by simp [fen, Fence.wide]), ?_⟩
  · simp only [resolve, rangeCall, hge]
    simp [Deferred.ofValue, Act.eval]
  · simp [invoke, hf.out]
  · have hk2 : Kn n (mkD w.heap.size :: ds) { a with defers := [mkD w.heap.size] ++ a.defers } fr := ⟨hk.size, by simp [hk.defers], hk.at'⟩
    refine range_out hk2 ?_
    rw [e5]
    exact (h (w.heap.size + 1) w.heap.size).out _ hs2

/-- Code under a name. -/
class CI (c : Code) (c' : outParam Code) : Prop where
  out : c = c'
theorem v_code {c c' : Code} [h : CI c c'] (hv : V P ro w0 n c' Q ds fr L) : V P ro w0 n c Q ds fr L := by rw [h.out]; exact hv
/-- How a round's body may be left. -/
def roundQ (ds : List Deferred) (fr : Fr) (K : List Deferred → Fr → List Asn → Prop) (d l n' : Nat) (fr' : Fr) (ps : Array Tmp) (assign body : Code) (D : Nat) : Exit → List Deferred → Fr → List Asn → Prop
  | .normal, ds', _, L' => ds' = [] ∧ ∃ i, L'[i]? = some (lpA l n' fr' ps assign body D .busy none) ∧ K ds ((d, .bool true) :: fr) (L'.set i (lpA l n' fr' ps assign body D .ready none))
  | .ret, ds', _, L' => ds' = [] ∧ ∃ i, L'[i]? = some (lpA l n' fr' ps assign body D .busy none) ∧ K ds ((d, .bool false) :: fr) (L'.set i (lpA l n' fr' ps assign body D .done (some .ret)))
  | .exit id, ds', _, L' => ds' = [] ∧ ∃ i, L'[i]? = some (lpA l n' fr' ps assign body D .busy none) ∧ K ds ((d, .bool false) :: fr) (L'.set i (lpA l n' fr' ps assign body D .done (some (.exit id))))
  | _, _, _, _ => False
theorem roundQ_n {fr1 : Fr} {d l n' i : Nat} {fr' : Fr} {ps : Array Tmp} {assign body : Code} {D : Nat} {L2 : List Asn} [h : HasLp L l i n' fr' ps assign body D .busy none] [hset : SetI L i (lpA l n' fr' ps assign body D .ready none) L2] (hK : K ds ((d, .bool true) :: fr) L2) : roundQ ds fr K d l n' fr' ps assign body D .normal [] fr1 L := ⟨rfl, i, h.out, by rw [← hset.out]; exact hK⟩
theorem roundQ_r {fr1 : Fr} {d l n' i : Nat} {fr' : Fr} {ps : Array Tmp} {assign body : Code} {D : Nat} {L2 : List Asn} [h : HasLp L l i n' fr' ps assign body D .busy none] [hset : SetI L i (lpA l n' fr' ps assign body D .done (some .ret)) L2] (hK : K ds ((d, .bool false) :: fr) L2) : roundQ ds fr K d l n' fr' ps assign body D .ret [] fr1 L := ⟨rfl, i, h.out, by rw [← hset.out]; exact hK⟩
theorem roundQ_e {fr1 : Fr} {d l n' i id : Nat} {fr' : Fr} {ps : Array Tmp} {assign body : Code} {D : Nat} {L2 : List Asn} [h : HasLp L l i n' fr' ps assign body D .busy none] [hset : SetI L i (lpA l n' fr' ps assign body D .done (some (.exit id))) L2] (hK : K ds ((d, .bool false) :: fr) L2) : roundQ ds fr K d l n' fr' ps assign body D (.exit id) [] fr1 L := ⟨rfl, i, h.out, by rw [← hset.out]; exact hK⟩

def noQ : Exit → List Deferred → Fr → List Asn → Prop := fun _ _ _ _ => False

/-- A call of yield: one round. -/
theorem vo_yield {y l i n' D : Nat} {fr' : Fr} {ps : Array Tmp} {assign body : Code} {xs : Array Operand} {ts : Array TypeId} {args : List Value} {L1 : List Asn} (hy : look fr y = some (.func (.yield l) #[] #[])) (hx : evAs fr xs.toList = some args) [hl : HasLp L l i n' fr' ps assign body D .ready none] [hset : SetI L i (lpA l n' fr' ps assign body D .busy none) L1] (hps : ps.toList.all (Nat.blt · n') = true) (hlen : Nat.beq args.length ps.toList.length = true) (hdn : Nat.blt d n = true)
    (h : V P (some l) w0 n' assign (thn (fun ds1 fr1 L2 => ds1 = [] ∧ ∃ j L3, L2[j]? = some (lpA l n' fr' ps assign body D .ready none) ∧ L3 = L2.set j (lpA l n' fr' ps assign body D .busy none) ∧ V P (some l) w0 n' body (roundQ ds fr K d l n' fr' ps assign body D) [] fr1 L3) noQ) [] (updP fr' ps.toList args) L) :
    VO P ro w0 n ⟨some d, .call { callee := .value (.tmp y), args := xs, argTypes := ts }, ty, pos, after, gd⟩ K Q ds fr L := by
  refine ⟨fun a w hk hs => ⟨fun _ _ => trivial, ?_⟩⟩
  obtain ⟨fn, tmps, hw, hkt⟩ : ∃ fn tmps, w.heap[l]? = some (.loop { state := .ready, pending := none, fn := fn, tmps := tmps, params := ps, assign := assign, body := body, defers := D }) ∧ Kn n' [] { tmps := tmps, defers := [] } fr' := hs.know i hl.out (fun F ⟨_, fn, tmps, h, h'⟩ => ⟨fn, tmps, h, h'⟩)
  have hlen' : args.length = ps.size := by have := Nat.eq_of_beq_eq_true hlen; simpa using this
  have hyr := run_yield (P := P) (args := args.toArray) hw (by simpa using hlen')
  have e0 : ∀ o : Oper, (∀ c, o.op ≠ .defer c) → o.semAt (fen ro).round a.eval = execOp a.eval o := fun o ho => Oper.semAt_eq _ _ _ ho
  have e1 : (execOp a.eval ⟨some d, .call { callee := .value (.tmp y), args := xs, argTypes := ts }, ty, pos, after, gd⟩).run P w = ((do let d ← Deferred.ofValue (a.eval (.tmp y)) (xs.map a.eval); invoke d.target d.args) : Sem Next).run P w := rfl
  have e2 : xs.map a.eval = args.toArray := Array.ext' (by rw [Array.toList_map, hk.evs _ _ hx])
  have e3 : a.eval (.tmp y) = .func (.yield l) #[] #[] := hk.ev (x := .tmp y) hy
  have e4 : ((do let d ← Deferred.ofValue (.func (.yield l) #[] #[]) args.toArray; invoke d.target d.args) : Sem Next).run P w = (Instr.yield l (#[] ++ args.toArray)).run P w := rfl
  rw [e0 _ (fun _ => by simp), e1, e3, e2, e4, Array.empty_append, hyr]
  simp only [Oper.uponIn]
  refine ⟨fen_room ro, roundIn_of_wpIn trivial ?_⟩
  have hk0 : Kn n' [] { tmps := (ps.zip args.toArray).foldl (fun tmps (t, a) => tmps.setIfInBounds t a) tmps, defers := [] } (updP fr' ps.toList args) := by
    have := kn_updP (ds := []) ps.toList args tmps fr' hps hkt
    have ez : (ps.zip args.toArray).foldl (fun (tmps : Array Value) (x : Nat × Value) => match x with | (t, a) => tmps.setIfInBounds t a) tmps = (ps.toList.zip args).foldl (fun t (p : Nat × Value) => t.setIfInBounds p.1 p.2) tmps := by
      rw [← Array.foldl_toList]
      simp
    exact ez ▸ this
  refine wpIn_mono (h.out _ w hk0 hs) ?_
  rintro e a1 w1 ⟨ds1, fr1, L2, k1, s1, hh⟩
  cases e with
  | normal =>
    obtain ⟨rfl, j, L3, hj, rfl, hb⟩ := hh
    obtain ⟨fn1, tmps1, hw1, hkt1⟩ : ∃ fn tmps, w1.heap[l]? = some (.loop { state := .ready, pending := none, fn := fn, tmps := tmps, params := ps, assign := assign, body := body, defers := D }) ∧ Kn n' [] { tmps := tmps, defers := [] } fr' := s1.know j hj (fun F ⟨_, fn, tmps, h, h'⟩ => ⟨fn, tmps, h, h'⟩)
    have hlt : l < w1.heap.size := (Array.getElem?_eq_some_iff.1 hw1).1
    refine ⟨_, run_beginRound hw1 rfl, ?_⟩
    have s2 := s1.putO j hj l (.loop { state := .busy, pending := none, fn := fn1, tmps := tmps1, params := ps, assign := assign, body := body, defers := D }) (P' := lpA l n' fr' ps assign body D .busy none) (fun F hF => hF.1) (fun F hF => ⟨hF.1, fn1, tmps1, World.putObj_heap_same hlt, hkt1⟩)
    refine wpIn_mono (hb.out _ _ k1 s2) ?_
    rintro e a3 w3 ⟨ds3, fr3, L4, k3, s3, hq⟩
    have fin : ∀ (jump : Option Code) (i' : Nat), L4[i']? = some (lpA l n' fr' ps assign body D .busy none) → ∃ w4, (Instr.endRound l jump).run P w3 = .ok (.bool jump.isNone) w4 ∧ St w0 w4 (L4.set i' (lpA l n' fr' ps assign body D (if jump.isNone then .ready else .done) jump)) := fun jump i' hi' => by
      obtain ⟨fn4, tmps4, hw4, hkt4⟩ : ∃ fn tmps, w3.heap[l]? = some (.loop { state := .busy, pending := none, fn := fn, tmps := tmps, params := ps, assign := assign, body := body, defers := D }) ∧ Kn n' [] { tmps := tmps, defers := [] } fr' := s3.know i' hi' (fun F ⟨_, fn, tmps, h, h'⟩ => ⟨fn, tmps, h, h'⟩)
      have hlt4 : l < w3.heap.size := (Array.getElem?_eq_some_iff.1 hw4).1
      exact ⟨_, run_endRound jump hw4, s3.putO i' hi' l _ (fun F hF => hF.1) (fun F hF => ⟨hF.1, fn4, tmps4, World.putObj_heap_same hlt4, hkt4⟩)⟩
    cases e with
    | normal =>
      obtain ⟨rfl, i', hi', hK⟩ := hq
      obtain ⟨w4, hr4, s4⟩ := fin none i' hi'
      exact ⟨_, w4, hr4, ds, _, _, hk.put d _ hdn, s4, hK⟩
    | ret =>
      obtain ⟨rfl, i', hi', hK⟩ := hq
      obtain ⟨w4, hr4, s4⟩ := fin (some .ret) i' hi'
      exact ⟨_, w4, hr4, ds, _, _, hk.put d _ hdn, s4, hK⟩
    | exit id =>
      obtain ⟨rfl, i', hi', hK⟩ := hq
      obtain ⟨w4, hr4, s4⟩ := fin (some (.exit id)) i' hi'
      exact ⟨_, w4, hr4, ds, _, _, hk.put d _ hdn, s4, hK⟩
    | _ => exact hq.elim
  | _ => exact hh.elim
/-- Behind the assignment to the loop's left sides. -/
theorem beginR {l n' j : Nat} {fr1 fr' : Fr} {ps : Array Tmp} {assign body : Code} {D : Nat} {L3 : List Asn} {R : Exit → List Deferred → Fr → List Asn → Prop} [h : HasLp L l j n' fr' ps assign body D .ready none] [hset : SetI L j (lpA l n' fr' ps assign body D .busy none) L3] (hb : V P (some l) w0 n' body R [] fr1 L3) :
    ([] : List Deferred) = [] ∧ ∃ j L3, L[j]? = some (lpA l n' fr' ps assign body D .ready none) ∧ L3 = L.set j (lpA l n' fr' ps assign body D .busy none) ∧ V P (some l) w0 n' body R [] fr1 L3 := ⟨rfl, j, L3, h.out, hset.out, hb⟩

/-- A function that holds a range over a function leaves. -/
theorem ret_mark {fn : Func} {R : Value → List Asn → Prop} {D i : Nat} {L2 : List Asn} [h : HasDf L D i] [hset : SetI L i anyA L2] (hq : retQ P w0 n fn R .ret ds fr L2) : retQ P w0 n fn R .ret (mkD D :: ds) fr L := by
  intro a w hk hs
  have hw : w.heap[D]? = some (.deferred (some [])) := hs.know i h.out (fun F hF => hF.2)
  have hs2 := hs.putO i h.out D (.deferred none) (P' := anyA) (fun F hF => hF.1) (fun F _ => trivial)
  refine ⟨by simp, .inl ⟨D, _, rfl, run_takeDeferred hw, ?_⟩⟩
  exact hq { a with defers := ds } _ ⟨hk.size, rfl, hk.at'⟩ (by rw [hset.out]; exact hs2)
end
end Go.Proofs.Ytgffejpcldeklaa
namespace Go.Proofs.Ytgffejpcldeklaa
open Go Go.RowKit

instance ut3 : UT Try.prog 3 (.int .i64) := ⟨by kernel_rfl⟩
instance ty3 : TyI Try.prog 3 false 1 8 [.int .i64 0] := TyI.of (zv := .int .i64 0) (by kernel_rfl) (by kernel_rfl) rfl rfl (by decide)
instance ut4 : UT Try.prog 4 (.bool) := ⟨by kernel_rfl⟩
instance ty4 : TyI Try.prog 4 false 1 1 [.bool false] := TyI.of (zv := .bool false) (by kernel_rfl) (by kernel_rfl) rfl rfl (by decide)
instance ut5 : UT Try.prog 5 (.int .u8) := ⟨by kernel_rfl⟩
instance ty5 : TyI Try.prog 5 false 1 1 [.int .u8 0] := TyI.of (zv := .int .u8 0) (by kernel_rfl) (by kernel_rfl) rfl rfl (by decide)
instance ut9 : UT Try.prog 9 (.string) := ⟨by kernel_rfl⟩
instance ut22 : UT Try.prog 22 (.int .i64) := ⟨by kernel_rfl⟩
instance ty22 : TyI Try.prog 22 false 1 8 [.int .i64 0] := TyI.of (zv := .int .i64 0) (by kernel_rfl) (by kernel_rfl) rfl rfl (by decide)
instance ty24 : TyI Try.prog 24 true 32 32 (bvs (List.replicate 32 0)) := TyI.of (zv := .agg (List.toArray (α := Value) (bvs (List.replicate 32 0)))) (by kernel_rfl) (by kernel_rfl) rfl rfl (by decide)
instance ar24 : ArI Try.prog 24 5 32 false 1 1 [.int .u8 0] := ⟨by kernel_rfl, inferInstance⟩
instance eq24 : EqI Try.prog 24 (List.replicate 32 (some .u8)) := ⟨⟨30, by decide, by kernel_rfl⟩, by kernel_rfl, by kernel_rfl⟩
instance ut25 : UT Try.prog 25 (.int .u64) := ⟨by kernel_rfl⟩
instance ty25 : TyI Try.prog 25 false 1 8 [.int .u64 0] := TyI.of (zv := .int .u64 0) (by kernel_rfl) (by kernel_rfl) rfl rfl (by decide)
instance ty27 : TyI Try.prog 27 true 2 16 (.int .u64 0 :: [.int .u64 0]) := TyI.of (zv := .agg (List.toArray (α := Value) ((.int .u64 0 :: [.int .u64 0])))) (by kernel_rfl) (by kernel_rfl) rfl rfl (by decide)
instance fl27 : FlI Try.prog 27 [(0, 1), (1, 1)] := ⟨by kernel_rfl, by kernel_rfl⟩
instance eq27 : EqI Try.prog 27 (some .u64 :: [some .u64]) := ⟨⟨30, by decide, by kernel_rfl⟩, by kernel_rfl, by kernel_rfl⟩
instance ty29 : TyI Try.prog 29 true 34 48 (bvs (List.replicate 32 0) ++ (.int .u8 0 :: [.int .i64 0])) := TyI.of (zv := .agg (List.toArray (α := Value) ((bvs (List.replicate 32 0) ++ (.int .u8 0 :: [.int .i64 0]))))) (by kernel_rfl) (by kernel_rfl) rfl rfl (by decide)
instance fl29 : FlI Try.prog 29 [(0, 1), (1, 32), (33, 1)] := ⟨by kernel_rfl, by kernel_rfl⟩
instance eq29 : EqI Try.prog 29 (List.replicate 32 (some .u8) ++ (some .u8 :: [some .i64])) := ⟨⟨30, by decide, by kernel_rfl⟩, by kernel_rfl, by kernel_rfl⟩
instance ut30 : UT Try.prog 30 (.slice 5) := ⟨by kernel_rfl⟩
instance ty30 : TyI Try.prog 30 false 1 24 [.slice none 0 0] := TyI.of (zv := .slice none 0 0) (by kernel_rfl) (by kernel_rfl) rfl rfl (by decide)
instance ut31 : UT Try.prog 31 (.slice 24) := ⟨by kernel_rfl⟩
instance ty31 : TyI Try.prog 31 false 1 24 [.slice none 0 0] := TyI.of (zv := .slice none 0 0) (by kernel_rfl) (by kernel_rfl) rfl rfl (by decide)
instance ty33 : TyI Try.prog 33 true 67 120 (bvs (List.replicate 32 0) ++ (bvs (List.replicate 32 0) ++ (.int .u8 0 :: (.slice none 0 0 :: [.slice none 0 0])))) := TyI.of (zv := .agg (List.toArray (α := Value) ((bvs (List.replicate 32 0) ++ (bvs (List.replicate 32 0) ++ (.int .u8 0 :: (.slice none 0 0 :: [.slice none 0 0]))))))) (by kernel_rfl) (by kernel_rfl) rfl rfl (by decide)
instance fl33 : FlI Try.prog 33 [(0, 32), (32, 1), (33, 32), (65, 1), (66, 1)] := ⟨by kernel_rfl, by kernel_rfl⟩
instance ty35 : TyI Try.prog 35 true 98 112 (.int .i64 0 :: (bvs (List.replicate 32 0) ++ (bvs (List.replicate 32 0) ++ (bvs (List.replicate 32 0) ++ [.int .i64 0])))) := TyI.of (zv := .agg (List.toArray (α := Value) ((.int .i64 0 :: (bvs (List.replicate 32 0) ++ (bvs (List.replicate 32 0) ++ (bvs (List.replicate 32 0) ++ [.int .i64 0]))))))) (by kernel_rfl) (by kernel_rfl) rfl rfl (by decide)
instance fl35 : FlI Try.prog 35 [(0, 1), (1, 32), (33, 32), (65, 32), (97, 1)] := ⟨by kernel_rfl, by kernel_rfl⟩
instance ty37 : TyI Try.prog 37 true 100 128 (.int .i64 0 :: (.bool false :: (.int .i64 0 :: (bvs (List.replicate 32 0) ++ (bvs (List.replicate 32 0) ++ (bvs (List.replicate 32 0) ++ [.int .i64 0])))))) := TyI.of (zv := .agg (List.toArray (α := Value) ((.int .i64 0 :: (.bool false :: (.int .i64 0 :: (bvs (List.replicate 32 0) ++ (bvs (List.replicate 32 0) ++ (bvs (List.replicate 32 0) ++ [.int .i64 0]))))))))) (by kernel_rfl) (by kernel_rfl) rfl rfl (by decide)
instance fl37 : FlI Try.prog 37 [(0, 1), (1, 1), (2, 98)] := ⟨by kernel_rfl, by kernel_rfl⟩
instance ty39 : TyI Try.prog 39 true 101 136 (.bool false :: (.int .i64 0 :: (.bool false :: (.int .i64 0 :: (bvs (List.replicate 32 0) ++ (bvs (List.replicate 32 0) ++ (bvs (List.replicate 32 0) ++ [.int .i64 0]))))))) := TyI.of (zv := .agg (List.toArray (α := Value) ((.bool false :: (.int .i64 0 :: (.bool false :: (.int .i64 0 :: (bvs (List.replicate 32 0) ++ (bvs (List.replicate 32 0) ++ (bvs (List.replicate 32 0) ++ [.int .i64 0])))))))))) (by kernel_rfl) (by kernel_rfl) rfl rfl (by decide)
instance fl39 : FlI Try.prog 39 [(0, 1), (1, 100)] := ⟨by kernel_rfl, by kernel_rfl⟩
instance ty41 : TyI Try.prog 41 true 240 384 (.int .u8 0 :: (.int .i64 0 :: (.int .i64 0 :: (bvs (List.replicate 32 0) ++ (.int .u64 0 :: (.int .u64 0 :: (bvs (List.replicate 32 0) ++ (.int .u8 0 :: (.int .i64 0 :: (bvs (List.replicate 32 0) ++ (bvs (List.replicate 32 0) ++ (.int .u8 0 :: (.slice none 0 0 :: (.slice none 0 0 :: (.int .i64 0 :: (.bool false :: (.int .i64 0 :: (.bool false :: (.int .i64 0 :: (bvs (List.replicate 32 0) ++ (bvs (List.replicate 32 0) ++ (bvs (List.replicate 32 0) ++ [.int .i64 0])))))))))))))))))))))) := TyI.of (zv := .agg (List.toArray (α := Value) ((.int .u8 0 :: (.int .i64 0 :: (.int .i64 0 :: (bvs (List.replicate 32 0) ++ (.int .u64 0 :: (.int .u64 0 :: (bvs (List.replicate 32 0) ++ (.int .u8 0 :: (.int .i64 0 :: (bvs (List.replicate 32 0) ++ (bvs (List.replicate 32 0) ++ (.int .u8 0 :: (.slice none 0 0 :: (.slice none 0 0 :: (.int .i64 0 :: (.bool false :: (.int .i64 0 :: (.bool false :: (.int .i64 0 :: (bvs (List.replicate 32 0) ++ (bvs (List.replicate 32 0) ++ (bvs (List.replicate 32 0) ++ [.int .i64 0]))))))))))))))))))))))))) (by kernel_rfl) (by kernel_rfl) rfl rfl (by decide)
instance fl41 : FlI Try.prog 41 [(0, 1), (1, 1), (2, 1), (3, 32), (35, 2), (37, 34), (71, 67), (138, 1), (139, 101)] := ⟨by kernel_rfl, by kernel_rfl⟩
instance ut58 : UT Try.prog 58 (.slice 84) := ⟨by kernel_rfl⟩
instance ty60 : TyI Try.prog 60 false 1 8 [.pointer none] := TyI.of (zv := .pointer none) (by kernel_rfl) (by kernel_rfl) rfl rfl (by decide)
instance ty65 : TyI Try.prog 65 true 2 32 (.slice none 0 0 :: [.bool false]) := TyI.of (zv := .agg (List.toArray (α := Value) ((.slice none 0 0 :: [.bool false])))) (by kernel_rfl) (by kernel_rfl) rfl rfl (by decide)
instance fl65 : FlI Try.prog 65 [(0, 1), (1, 1)] := ⟨by kernel_rfl, by kernel_rfl⟩
instance ty67 : TyI Try.prog 67 false 1 8 [.pointer none] := TyI.of (zv := .pointer none) (by kernel_rfl) (by kernel_rfl) rfl rfl (by decide)
instance ty69 : TyI Try.prog 69 true 3 24 (.pointer none :: (.int .i64 0 :: [.int .i64 0])) := TyI.of (zv := .agg (List.toArray (α := Value) ((.pointer none :: (.int .i64 0 :: [.int .i64 0]))))) (by kernel_rfl) (by kernel_rfl) rfl rfl (by decide)
instance fl69 : FlI Try.prog 69 [(0, 1), (1, 1), (2, 1)] := ⟨by kernel_rfl, by kernel_rfl⟩
instance ty85 : TyI Try.prog 85 false 1 8 [.pointer none] := TyI.of (zv := .pointer none) (by kernel_rfl) (by kernel_rfl) rfl rfl (by decide)
instance ty87 : TyI Try.prog 87 true 1 8 [.pointer none] := TyI.of (zv := .agg (List.toArray (α := Value) ([.pointer none]))) (by kernel_rfl) (by kernel_rfl) rfl rfl (by decide)
instance fl87 : FlI Try.prog 87 [(0, 1)] := ⟨by kernel_rfl, by kernel_rfl⟩
instance ty88 : TyI Try.prog 88 false 1 8 [.pointer none] := TyI.of (zv := .pointer none) (by kernel_rfl) (by kernel_rfl) rfl rfl (by decide)
instance ty90 : TyI Try.prog 90 true 1 8 [.pointer none] := TyI.of (zv := .agg (List.toArray (α := Value) ([.pointer none]))) (by kernel_rfl) (by kernel_rfl) rfl rfl (by decide)
instance fl90 : FlI Try.prog 90 [(0, 1)] := ⟨by kernel_rfl, by kernel_rfl⟩
instance ty91 : TyI Try.prog 91 false 1 8 [.nilFunc] := TyI.of (zv := .nilFunc) (by kernel_rfl) (by kernel_rfl) rfl rfl (by decide)
instance ty92 : TyI Try.prog 92 false 1 8 [.nilFunc] := TyI.of (zv := .nilFunc) (by kernel_rfl) (by kernel_rfl) rfl rfl (by decide)
instance ty94 : TyI Try.prog 94 true 3 24 (.nilFunc :: (.nilFunc :: [.int .i64 0])) := TyI.of (zv := .agg (List.toArray (α := Value) ((.nilFunc :: (.nilFunc :: [.int .i64 0]))))) (by kernel_rfl) (by kernel_rfl) rfl rfl (by decide)
instance fl94 : FlI Try.prog 94 [(0, 1), (1, 1), (2, 1)] := ⟨by kernel_rfl, by kernel_rfl⟩
instance ty102 : TyI Try.prog 102 false 1 8 [.pointer none] := TyI.of (zv := .pointer none) (by kernel_rfl) (by kernel_rfl) rfl rfl (by decide)
instance ty125 : TyI Try.prog 125 true 3 24 (.pointer none :: (.pointer none :: [.pointer none])) := TyI.of (zv := .agg (List.toArray (α := Value) ((.pointer none :: (.pointer none :: [.pointer none]))))) (by kernel_rfl) (by kernel_rfl) rfl rfl (by decide)
instance ar125 : ArI Try.prog 125 85 3 false 1 8 [.pointer none] := ⟨by kernel_rfl, inferInstance⟩
instance ty132 : TyI Try.prog 132 true 33 56 (bvs (List.replicate 32 0) ++ [.slice none 0 0]) := TyI.of (zv := .agg (List.toArray (α := Value) ((bvs (List.replicate 32 0) ++ [.slice none 0 0])))) (by kernel_rfl) (by kernel_rfl) rfl rfl (by decide)
instance fl132 : FlI Try.prog 132 [(0, 32), (32, 1)] := ⟨by kernel_rfl, by kernel_rfl⟩
instance ut133 : UT Try.prog 133 (.slice 132) := ⟨by kernel_rfl⟩
instance ut138 : UT Try.prog 138 (.slice 30) := ⟨by kernel_rfl⟩
instance fi3 : FnI Try.prog 3 Try.f3 111 := ⟨Try.func3, Try.ntmps3⟩
instance fn4 : FnB Try.prog 4 := ⟨run_enter Try.func4 (by kernel_rfl) (by kernel_rfl)⟩
instance fi4 : FnI Try.prog 4 Try.f4 13 := ⟨Try.func4, Try.ntmps4⟩
instance fn5 : FnB Try.prog 5 := ⟨run_enter Try.func5 (by kernel_rfl) (by kernel_rfl)⟩
instance fi5 : FnI Try.prog 5 Try.f5 7 := ⟨Try.func5, Try.ntmps5⟩
instance fn6 : FnB Try.prog 6 := ⟨run_enter Try.func6 (by kernel_rfl) (by kernel_rfl)⟩
instance fi6 : FnI Try.prog 6 Try.f6 54 := ⟨Try.func6, Try.ntmps6⟩
instance fn7 : FnB Try.prog 7 := ⟨run_enter Try.func7 (by kernel_rfl) (by kernel_rfl)⟩
instance fi7 : FnI Try.prog 7 Try.f7 9 := ⟨Try.func7, Try.ntmps7⟩
instance fn8 : FnB Try.prog 8 := ⟨run_enter Try.func8 (by kernel_rfl) (by kernel_rfl)⟩
instance fi8 : FnI Try.prog 8 Try.f8 67 := ⟨Try.func8, Try.ntmps8⟩
instance fn9 : FnB Try.prog 9 := ⟨run_enter Try.func9 (by kernel_rfl) (by kernel_rfl)⟩
instance fi9 : FnI Try.prog 9 Try.f9 110 := ⟨Try.func9, Try.ntmps9⟩
instance fn10 : FnB Try.prog 10 := ⟨run_enter Try.func10 (by kernel_rfl) (by kernel_rfl)⟩
instance fn11 : FnB Try.prog 11 := ⟨run_enter Try.func11 (by kernel_rfl) (by kernel_rfl)⟩
instance fi11 : FnI Try.prog 11 Try.f11 66 := ⟨Try.func11, Try.ntmps11⟩
instance fn12 : FnB Try.prog 12 := ⟨run_enter Try.func12 (by kernel_rfl) (by kernel_rfl)⟩
instance fi12 : FnI Try.prog 12 Try.f12 65 := ⟨Try.func12, Try.ntmps12⟩
instance fn13 : FnB Try.prog 13 := ⟨run_enter Try.func13 (by kernel_rfl) (by kernel_rfl)⟩
instance fi13 : FnI Try.prog 13 Try.f13 64 := ⟨Try.func13, Try.ntmps13⟩
instance fn14 : FnB Try.prog 14 := ⟨run_enter Try.func14 (by kernel_rfl) (by kernel_rfl)⟩
instance fi14 : FnI Try.prog 14 Try.f14 44 := ⟨Try.func14, Try.ntmps14⟩
instance fn15 : FnB Try.prog 15 := ⟨run_enter Try.func15 (by kernel_rfl) (by kernel_rfl)⟩
instance fi15 : FnI Try.prog 15 Try.f15 68 := ⟨Try.func15, Try.ntmps15⟩
instance fn16 : FnB Try.prog 16 := ⟨run_enter Try.func16 (by kernel_rfl) (by kernel_rfl)⟩
instance fi16 : FnI Try.prog 16 Try.f16 83 := ⟨Try.func16, Try.ntmps16⟩
instance fn17 : FnB Try.prog 17 := ⟨run_enter Try.func17 (by kernel_rfl) (by kernel_rfl)⟩
instance fi17 : FnI Try.prog 17 Try.f17 58 := ⟨Try.func17, Try.ntmps17⟩
instance fn18 : FnB Try.prog 18 := ⟨run_enter Try.func18 (by kernel_rfl) (by kernel_rfl)⟩
instance fi18 : FnI Try.prog 18 Try.f18 109 := ⟨Try.func18, Try.ntmps18⟩
instance fn19 : FnB Try.prog 19 := ⟨run_enter Try.func19 (by kernel_rfl) (by kernel_rfl)⟩
instance fi19 : FnI Try.prog 19 Try.f19 96 := ⟨Try.func19, Try.ntmps19⟩
instance fn20 : FnB Try.prog 20 := ⟨run_enter Try.func20 (by kernel_rfl) (by kernel_rfl)⟩
instance fn21 : FnB Try.prog 21 := ⟨run_enter Try.func21 (by kernel_rfl) (by kernel_rfl)⟩
instance fi21 : FnI Try.prog 21 Try.f21 117 := ⟨Try.func21, Try.ntmps21⟩
instance fn22 : FnB Try.prog 22 := ⟨run_enter Try.func22 (by kernel_rfl) (by kernel_rfl)⟩
instance fi22 : FnI Try.prog 22 Try.f22 98 := ⟨Try.func22, Try.ntmps22⟩
instance fn23 : FnB Try.prog 23 := ⟨run_enter Try.func23 (by kernel_rfl) (by kernel_rfl)⟩
instance fi23 : FnI Try.prog 23 Try.f23 14 := ⟨Try.func23, Try.ntmps23⟩
instance fn24 : FnB Try.prog 24 := ⟨run_enter Try.func24 (by kernel_rfl) (by kernel_rfl)⟩
instance fi24 : FnI Try.prog 24 Try.f24 25 := ⟨Try.func24, Try.ntmps24⟩
instance fn25 : FnB Try.prog 25 := ⟨run_enter Try.func25 (by kernel_rfl) (by kernel_rfl)⟩
instance fn26 : FnB Try.prog 26 := ⟨run_enter Try.func26 (by kernel_rfl) (by kernel_rfl)⟩
instance fi26 : FnI Try.prog 26 Try.f26 39 := ⟨Try.func26, Try.ntmps26⟩
instance fn27 : FnB Try.prog 27 := ⟨run_enter Try.func27 (by kernel_rfl) (by kernel_rfl)⟩
instance fi27 : FnI Try.prog 27 Try.f27 28 := ⟨Try.func27, Try.ntmps27⟩
instance fn28 : FnB Try.prog 28 := ⟨run_enter Try.func28 (by kernel_rfl) (by kernel_rfl)⟩
instance fi28 : FnI Try.prog 28 Try.f28 94 := ⟨Try.func28, Try.ntmps28⟩
instance fn29 : FnB Try.prog 29 := ⟨run_enter Try.func29 (by kernel_rfl) (by kernel_rfl)⟩
instance fi29 : FnI Try.prog 29 Try.f29 38 := ⟨Try.func29, Try.ntmps29⟩
instance fn30 : FnB Try.prog 30 := ⟨run_enter Try.func30 (by kernel_rfl) (by kernel_rfl)⟩
instance fi30 : FnI Try.prog 30 Try.f30 38 := ⟨Try.func30, Try.ntmps30⟩
instance fn31 : FnB Try.prog 31 := ⟨run_enter Try.func31 (by kernel_rfl) (by kernel_rfl)⟩
instance fi31 : FnI Try.prog 31 Try.f31 38 := ⟨Try.func31, Try.ntmps31⟩
instance fn32 : FnB Try.prog 32 := ⟨run_enter Try.func32 (by kernel_rfl) (by kernel_rfl)⟩
instance fi32 : FnI Try.prog 32 Try.f32 21 := ⟨Try.func32, Try.ntmps32⟩
instance fn33 : FnB Try.prog 33 := ⟨run_enter Try.func33 (by kernel_rfl) (by kernel_rfl)⟩
instance fi33 : FnI Try.prog 33 Try.f33 21 := ⟨Try.func33, Try.ntmps33⟩
instance fn34 : FnB Try.prog 34 := ⟨run_enter Try.func34 (by kernel_rfl) (by kernel_rfl)⟩
instance fi34 : FnI Try.prog 34 Try.f34 38 := ⟨Try.func34, Try.ntmps34⟩
instance fn35 : FnB Try.prog 35 := ⟨run_enter Try.func35 (by kernel_rfl) (by kernel_rfl)⟩
instance fi35 : FnI Try.prog 35 Try.f35 7 := ⟨Try.func35, Try.ntmps35⟩
instance fn36 : FnB Try.prog 36 := ⟨run_enter Try.func36 (by kernel_rfl) (by kernel_rfl)⟩
instance fi36 : FnI Try.prog 36 Try.f36 22 := ⟨Try.func36, Try.ntmps36⟩
instance fn37 : FnB Try.prog 37 := ⟨run_enter Try.func37 (by kernel_rfl) (by kernel_rfl)⟩
instance fi37 : FnI Try.prog 37 Try.f37 17 := ⟨Try.func37, Try.ntmps37⟩
instance fn38 : FnB Try.prog 38 := ⟨run_enter Try.func38 (by kernel_rfl) (by kernel_rfl)⟩
instance fi38 : FnI Try.prog 38 Try.f38 41 := ⟨Try.func38, Try.ntmps38⟩
instance fn39 : FnB Try.prog 39 := ⟨run_enter Try.func39 (by kernel_rfl) (by kernel_rfl)⟩
instance fi39 : FnI Try.prog 39 Try.f39 6 := ⟨Try.func39, Try.ntmps39⟩
instance fn40 : FnB Try.prog 40 := ⟨run_enter Try.func40 (by kernel_rfl) (by kernel_rfl)⟩
instance fi40 : FnI Try.prog 40 Try.f40 13 := ⟨Try.func40, Try.ntmps40⟩
instance fn41 : FnB Try.prog 41 := ⟨run_enter Try.func41 (by kernel_rfl) (by kernel_rfl)⟩
instance fi41 : FnI Try.prog 41 Try.f41 27 := ⟨Try.func41, Try.ntmps41⟩
instance fn42 : FnB Try.prog 42 := ⟨run_enter Try.func42 (by kernel_rfl) (by kernel_rfl)⟩
instance fi42 : FnI Try.prog 42 Try.f42 6 := ⟨Try.func42, Try.ntmps42⟩
instance fn43 : FnB Try.prog 43 := ⟨run_enter Try.func43 (by kernel_rfl) (by kernel_rfl)⟩
instance fi43 : FnI Try.prog 43 Try.f43 17 := ⟨Try.func43, Try.ntmps43⟩
instance fn44 : FnB Try.prog 44 := ⟨run_enter Try.func44 (by kernel_rfl) (by kernel_rfl)⟩
instance fi44 : FnI Try.prog 44 Try.f44 67 := ⟨Try.func44, Try.ntmps44⟩
instance fn45 : FnB Try.prog 45 := ⟨run_enter Try.func45 (by kernel_rfl) (by kernel_rfl)⟩
instance fi45 : FnI Try.prog 45 Try.f45 13 := ⟨Try.func45, Try.ntmps45⟩
instance fn46 : FnB Try.prog 46 := ⟨run_enter Try.func46 (by kernel_rfl) (by kernel_rfl)⟩
instance fi46 : FnI Try.prog 46 Try.f46 24 := ⟨Try.func46, Try.ntmps46⟩
instance fn47 : FnB Try.prog 47 := ⟨run_enter Try.func47 (by kernel_rfl) (by kernel_rfl)⟩
instance fi47 : FnI Try.prog 47 Try.f47 14 := ⟨Try.func47, Try.ntmps47⟩
instance fn48 : FnB Try.prog 48 := ⟨run_enter Try.func48 (by kernel_rfl) (by kernel_rfl)⟩
instance fi48 : FnI Try.prog 48 Try.f48 19 := ⟨Try.func48, Try.ntmps48⟩
instance fn49 : FnB Try.prog 49 := ⟨run_enter Try.func49 (by kernel_rfl) (by kernel_rfl)⟩
instance fi49 : FnI Try.prog 49 Try.f49 58 := ⟨Try.func49, Try.ntmps49⟩
instance fn50 : FnB Try.prog 50 := ⟨run_enter Try.func50 (by kernel_rfl) (by kernel_rfl)⟩
instance fi50 : FnI Try.prog 50 Try.f50 30 := ⟨Try.func50, Try.ntmps50⟩
instance fn51 : FnB Try.prog 51 := ⟨run_enter Try.func51 (by kernel_rfl) (by kernel_rfl)⟩
instance fi51 : FnI Try.prog 51 Try.f51 55 := ⟨Try.func51, Try.ntmps51⟩
instance fn52 : FnB Try.prog 52 := ⟨run_enter Try.func52 (by kernel_rfl) (by kernel_rfl)⟩
instance fi52 : FnI Try.prog 52 Try.f52 21 := ⟨Try.func52, Try.ntmps52⟩
instance fn53 : FnB Try.prog 53 := ⟨run_enter Try.func53 (by kernel_rfl) (by kernel_rfl)⟩
instance fi53 : FnI Try.prog 53 Try.f53 15 := ⟨Try.func53, Try.ntmps53⟩
instance fn54 : FnB Try.prog 54 := ⟨run_enter Try.func54 (by kernel_rfl) (by kernel_rfl)⟩
instance fi54 : FnI Try.prog 54 Try.f54 22 := ⟨Try.func54, Try.ntmps54⟩
instance fn55 : FnB Try.prog 55 := ⟨run_enter Try.func55 (by kernel_rfl) (by kernel_rfl)⟩
instance fi55 : FnI Try.prog 55 Try.f55 22 := ⟨Try.func55, Try.ntmps55⟩
instance fn56 : FnB Try.prog 56 := ⟨run_enter Try.func56 (by kernel_rfl) (by kernel_rfl)⟩
instance fi56 : FnI Try.prog 56 Try.f56 55 := ⟨Try.func56, Try.ntmps56⟩
instance fn57 : FnB Try.prog 57 := ⟨run_enter Try.func57 (by kernel_rfl) (by kernel_rfl)⟩
instance fi57 : FnI Try.prog 57 Try.f57 4 := ⟨Try.func57, Try.ntmps57⟩
instance fn58 : FnB Try.prog 58 := ⟨run_enter Try.func58 (by kernel_rfl) (by kernel_rfl)⟩
instance fi58 : FnI Try.prog 58 Try.f58 36 := ⟨Try.func58, Try.ntmps58⟩
instance fn59 : FnB Try.prog 59 := ⟨run_enter Try.func59 (by kernel_rfl) (by kernel_rfl)⟩
instance fi59 : FnI Try.prog 59 Try.f59 38 := ⟨Try.func59, Try.ntmps59⟩
instance fn60 : FnB Try.prog 60 := ⟨run_enter Try.func60 (by kernel_rfl) (by kernel_rfl)⟩
instance fi60 : FnI Try.prog 60 Try.f60 41 := ⟨Try.func60, Try.ntmps60⟩
instance fn61 : FnB Try.prog 61 := ⟨run_enter Try.func61 (by kernel_rfl) (by kernel_rfl)⟩
instance fi61 : FnI Try.prog 61 Try.f61 33 := ⟨Try.func61, Try.ntmps61⟩
instance fn62 : FnB Try.prog 62 := ⟨run_enter Try.func62 (by kernel_rfl) (by kernel_rfl)⟩
instance fi62 : FnI Try.prog 62 Try.f62 50 := ⟨Try.func62, Try.ntmps62⟩
instance fn63 : FnB Try.prog 63 := ⟨run_enter Try.func63 (by kernel_rfl) (by kernel_rfl)⟩
instance fi63 : FnI Try.prog 63 Try.f63 8 := ⟨Try.func63, Try.ntmps63⟩
instance fn64 : FnB Try.prog 64 := ⟨run_enter Try.func64 (by kernel_rfl) (by kernel_rfl)⟩
instance fi64 : FnI Try.prog 64 Try.f64 17 := ⟨Try.func64, Try.ntmps64⟩
instance fn65 : FnB Try.prog 65 := ⟨run_enter Try.func65 (by kernel_rfl) (by kernel_rfl)⟩
instance fi65 : FnI Try.prog 65 Try.f65 20 := ⟨Try.func65, Try.ntmps65⟩
instance fn66 : FnB Try.prog 66 := ⟨run_enter Try.func66 (by kernel_rfl) (by kernel_rfl)⟩
instance fi66 : FnI Try.prog 66 Try.f66 26 := ⟨Try.func66, Try.ntmps66⟩
instance fn67 : FnB Try.prog 67 := ⟨run_enter Try.func67 (by kernel_rfl) (by kernel_rfl)⟩
instance fi67 : FnI Try.prog 67 Try.f67 26 := ⟨Try.func67, Try.ntmps67⟩
instance fn68 : FnB Try.prog 68 := ⟨run_enter Try.func68 (by kernel_rfl) (by kernel_rfl)⟩
instance fi68 : FnI Try.prog 68 Try.f68 26 := ⟨Try.func68, Try.ntmps68⟩
instance fn69 : FnB Try.prog 69 := ⟨run_enter Try.func69 (by kernel_rfl) (by kernel_rfl)⟩
instance fi69 : FnI Try.prog 69 Try.f69 6 := ⟨Try.func69, Try.ntmps69⟩
instance fn70 : FnB Try.prog 70 := ⟨run_enter Try.func70 (by kernel_rfl) (by kernel_rfl)⟩
instance fi70 : FnI Try.prog 70 Try.f70 26 := ⟨Try.func70, Try.ntmps70⟩
instance fn71 : FnB Try.prog 71 := ⟨run_enter Try.func71 (by kernel_rfl) (by kernel_rfl)⟩
instance fi71 : FnI Try.prog 71 Try.f71 5 := ⟨Try.func71, Try.ntmps71⟩
instance fn72 : FnB Try.prog 72 := ⟨run_enter Try.func72 (by kernel_rfl) (by kernel_rfl)⟩
instance fi72 : FnI Try.prog 72 Try.f72 15 := ⟨Try.func72, Try.ntmps72⟩
instance fn73 : FnB Try.prog 73 := ⟨run_enter Try.func73 (by kernel_rfl) (by kernel_rfl)⟩
instance fi73 : FnI Try.prog 73 Try.f73 11 := ⟨Try.func73, Try.ntmps73⟩
instance fn74 : FnB Try.prog 74 := ⟨run_enter Try.func74 (by kernel_rfl) (by kernel_rfl)⟩
instance fi74 : FnI Try.prog 74 Try.f74 20 := ⟨Try.func74, Try.ntmps74⟩
instance fn75 : FnB Try.prog 75 := ⟨run_enter Try.func75 (by kernel_rfl) (by kernel_rfl)⟩
instance fi75 : FnI Try.prog 75 Try.f75 27 := ⟨Try.func75, Try.ntmps75⟩
instance fn76 : FnB Try.prog 76 := ⟨run_enter Try.func76 (by kernel_rfl) (by kernel_rfl)⟩
instance fi76 : FnI Try.prog 76 Try.f76 36 := ⟨Try.func76, Try.ntmps76⟩
instance fn77 : FnB Try.prog 77 := ⟨run_enter Try.func77 (by kernel_rfl) (by kernel_rfl)⟩
instance fi77 : FnI Try.prog 77 Try.f77 6 := ⟨Try.func77, Try.ntmps77⟩
instance fn78 : FnB Try.prog 78 := ⟨run_enter Try.func78 (by kernel_rfl) (by kernel_rfl)⟩
instance fi78 : FnI Try.prog 78 Try.f78 6 := ⟨Try.func78, Try.ntmps78⟩
instance fn79 : FnB Try.prog 79 := ⟨run_enter Try.func79 (by kernel_rfl) (by kernel_rfl)⟩
instance fn80 : FnB Try.prog 80 := ⟨run_enter Try.func80 (by kernel_rfl) (by kernel_rfl)⟩
instance fi80 : FnI Try.prog 80 Try.f80 21 := ⟨Try.func80, Try.ntmps80⟩
instance fn81 : FnB Try.prog 81 := ⟨run_enter Try.func81 (by kernel_rfl) (by kernel_rfl)⟩
instance fi81 : FnI Try.prog 81 Try.f81 11 := ⟨Try.func81, Try.ntmps81⟩
instance fn83 : FnB Try.prog 83 := ⟨run_enter Try.func83 (by kernel_rfl) (by kernel_rfl)⟩
instance fi83 : FnI Try.prog 83 Try.f83 26 := ⟨Try.func83, Try.ntmps83⟩
instance fn84 : FnB Try.prog 84 := ⟨run_enter Try.func84 (by kernel_rfl) (by kernel_rfl)⟩
instance fi84 : FnI Try.prog 84 Try.f84 6 := ⟨Try.func84, Try.ntmps84⟩
end Go.Proofs.Ytgffejpcldeklaa
namespace Go.Proofs.Ytgffejpcldeklaa
open Go Go.RowKit

/-- A slice of bytes: where it lies, its capacity, its bytes. -/
structure PB where
  a : Option Addr
  cap : Nat
  l : List UInt8
instance : Inhabited PB := ⟨⟨none, 0, []⟩⟩
def PB.v (p : PB) : Value := .slice p.a p.l.length p.cap
def pbs (ps : List PB) : List Value := ps.map PB.v
@[simp] theorem pbs_length (ps : List PB) : (pbs ps).length = ps.length := by simp [pbs]
/-- Each one can be read. -/
class RdPs (w0 : World) (L : List Asn) (ps : List PB) : Prop where
  out : ∀ p ∈ ps, RdC w0 L p.a (bvs p.l)
theorem RdPs.at {w0 : World} {L : List Asn} {ps : List PB} (h : RdPs w0 L ps) (k : Nat) (hk : k < ps.length) : RdC w0 L (ps[k]).a (bvs (ps[k]).l) := h.out _ (List.getElem_mem hk)
theorem bvs_at (l : List UInt8) (k : Nat) (h : k < l.length) : (bvs l)[k]? = some (.int .u8 (l[k]).toNat) := by simp [bvs, bv, h]

theorem rd_cut {w0 : World} {L : List Asn} {a : Option Addr} {l : List UInt8} [h : RdC w0 L a (bvs l)] (lo hi m : Nat) (hm : hi ≤ m) : RdC w0 L (subA a lo m 1) (bvs ((l.take hi).drop lo)) := ⟨fun w hs => (h.out w hs).cut lo hi m hm⟩
theorem rd_drop {w0 : World} {L : List Asn} {a : Option Addr} {l : List UInt8} [h : RdC w0 L a (bvs l)] (lo m : Nat) (hm : l.length ≤ m) : RdC w0 L (subA a lo m 1) (bvs (l.drop lo)) := ⟨fun w hs => (h.out w hs).cutTo lo m hm⟩

section
variable (w0 : World) (L : List Asn)
theorem twin_vc (a : Option Addr) (cap : Nat) (l : List UInt8) {n : Nat} (hn : n = l.length) (hl : l.length ≤ 1000000000000) [hr : RdC w0 L a (bvs l)] :
    VC Try.prog w0 5 [.slice a n cap] L fun v L' => ∃ a' cap', l.length ≤ cap' ∧ v = .slice a' l.length cap' ∧ L' = ownB a' cap' l :: L := by
  subst hn
  refine vc_in rfl rfl ?_
  repeat' (first | (refine vl_id ?_; first | refine vl_nil ?_ | refine vl_q rfl rfl rfl rfl (by (first | exact vq_move rfl | exact vq_assign rfl | (apply vq_isBin; first | exact vq_lt rfl rfl | exact vq_eq rfl rfl | exact vq_ne rfl rfl | exact vq_add rfl rfl (by first | exact wr_add (by omega) | exact wu_add (by omega) | exact wr_id (by omega) (by omega) | rfl) | exact vq_minus rfl rfl (by first | exact wr_sub (by omega) (by omega) | exact wu_sub (by omega) (by omega) | exact wr_id (by omega) (by omega) | rfl) | exact vq_gt rfl rfl | exact vq_le rfl rfl | exact vq_ge rfl rfl | exact vq_mul rfl rfl (by first | exact wr_mul (by omega) | exact wr_id (by omega) (by omega) | rfl) | exact vq_or rfl rfl (by rfl) | exact vq_and rfl rfl (by rfl) | exact vq_xor rfl rfl (by rfl) | exact vq_shl rfl rfl (by omega) (by rfl) | exact vq_shr rfl rfl (by omega) (by rfl) | exact vq_quo rfl rfl (by decide) (by first | exact q8_i64 (by omega) | exact q2_u8 (by omega) | exact q4_i64 (by omega) | rfl) | exact vq_rem rfl rfl (by decide) (by first | exact r8 | exact r2 | exact r4 | exact r64 | rfl) | exact vq_eqNil rfl rfl | exact vq_eqBool rfl rfl | exact vq_eqB rfl rfl (by first | assumption | (simp; done)) (by first | assumption | (simp; done)) | exact vq_neB rfl rfl (by first | assumption | (simp; done)) (by first | assumption | (simp; done))) | (apply vq_isLoad; first | exact vq_ldB rfl (by first | rfl | assumption) | exact vq_ldW rfl (by first | rfl | assumption | (simp; done) | (simp; assumption)) | exact vq_ld1 rfl (by first | assumption | rfl) | exact vq_ldA rfl (by assumption) (by first | assumption | (simp; done) | (simp; assumption)) | exact vq_ldP rfl (by assumption) (by first | assumption | (simp; done) | (simp; assumption)) | fail) | exact vq_lenSl rfl | exact vq_index rfl rfl (by omega) (by omega) (by first | (simp; done) | (simp; omega) | (rw [bvs_length]; omega)) (by first | exact ix_1 | exact ix_s _ | rfl) | exact vq_extract rfl rfl | exact vq_pickT rfl rfl | exact vq_pickF rfl rfl | exact vq_fieldAddr rfl (by rfl) rfl | exact vq_makeFunc rfl rfl | exact vq_nilCheck rfl | exact vq_conv rfl (by first | exact wi_id (by omega) | exact wu_id (by omega) | exact wr_id (by omega) (by omega) | rfl) | (apply vq_isUn; first | exact vq_not rfl | exact vq_xorU rfl (by rfl) | exact vq_neg rfl (by rfl)) | exact vq_slice rfl (by first | exact bnd_none | exact bnd_nat rfl) (by first | exact bnd_none | exact bnd_nat rfl) (by first | exact bnd_none | exact bnd_nat rfl) rfl (by omega) (by omega) (by omega) | exact vq_indexArr rfl rfl (by omega) (by omega) (by first | exact ix_1 | exact ix_s _ | rfl) | exact vq_indexArrA rfl rfl (by first | (simp; done) | (rw [bvs_length]; omega) | (simp; omega)) (by omega) (by omega) (by first | exact ix_1 | exact ix_s _ | rfl) | exact vq_build rfl rfl (by first | rfl | simp [plOf]) (by first | rfl | simp) | exact vq_build0 | exact vq_buildArr0 | fail)) ?_ | (refine vl_o rfl ?_; (first | (refine vo_box rfl rfl rfl ?_; intro _) | (refine vo_alloc rfl ?_; intro _) | (refine vo_isStore ?_; first | refine vo_stW rfl rfl (by rfl) (by first | rfl | assumption | (simp; done) | (simp; assumption)) (by first | rfl | assumption | (simp; done) | (simp; assumption)) ?_ | refine vo_stB rfl rfl (by rfl) (by rfl) (by first | decide | (simp; done) | (simp; omega) | omega | assumption) (by rfl) ?_ | (refine vo_stO rfl rfl (by rfl) (by rfl) (by simp; omega) rfl ?_; skip)) | (refine vo_isCall ?_; first | (refine vo_append0 rfl rfl (by first | (simp; done) | (rw [bvs_length]; assumption) | simp) (by omega) (by omega) rfl ?_; intro _ _ _ _) | (refine vo_append rfl rfl (by first | (simp; done) | (rw [bvs_length]; assumption) | simp) (by omega) (by omega) rfl ?_; intro _ _ _ _) | refine vo_yield rfl rfl rfl rfl rfl ?_ | refine vo_callV rfl rfl rfl (vc_in rfl rfl ?_)) | refine vo_convRow rfl rfl ?_ | (refine vo_buildSlice rfl rfl rfl (by decide) (by repeat' (first | exact trivial | rfl | refine ⟨?_, ?_⟩ | (simp; done) | (simp; omega))) (by decide) rfl ?_; intro _) | (refine vo_buildSlice0 rfl ?_; intro _) | fail)) | refine vl_guard rfl rfl rfl rfl rfl ?_ | refine vl_pass rfl rfl rfl rfl rfl rfl rfl ?_ | (refine vl_caseG rfl rfl rfl rfl ?_ ?_ <;> (intro hb; (try simp only [hq1, hq2, hq3, hq4, ne_eq, hq5, hq6, hq7, hq8] at hb); try (exfalso; omega)))) | (refine v_id ?_; first | refine v_seq ?_ | refine v_region ?_ | refine v_condT rfl ?_ | refine v_condF rfl ?_ | (refine v_cond rfl ?_ ?_ <;> (intro hb; (try simp only [hq1, hq2, hq3, hq4, ne_eq, hq5, hq6, hq7, hq8] at hb); try (exfalso; omega))) | refine v_block ?_ | refine v_skip ?_ | refine v_ret ?_ | refine v_exit ?_ | refine v_label ?_ | refine v_scope (fun _ _ _ _ h => h) ?_ | refine v_code ?_) | refine thn_n ?_ | refine inb_n ?_ | refine inb_r ?_ | refine thn_r ?_ | refine thn_e ?_ | refine inb_e rfl ?_ | refine inb_o rfl ?_ | refine beginR ?_ | refine rangeEnd_done (by decide) ?_ | refine rangeEnd_jump (by decide) ?_ | refine ret_mark ?_ | refine roundQ_n ?_ | refine roundQ_r ?_ | refine roundQ_e ?_ | refine ret0 rfl ?_ | refine ret1 rfl (by first | exact rv_tmp rfl | exact rv_blk1 rfl | exact rv_blk rfl (by first | rfl | assumption | (simp; done) | (simp; assumption))) ?_ | refine ret2 rfl (by first | exact rv_tmp rfl | exact rv_blk1 rfl | exact rv_blk rfl (by first | rfl | assumption | (simp; done) | (simp; assumption))) (by first | exact rv_tmp rfl | exact rv_blk1 rfl | exact rv_blk rfl (by first | rfl | assumption | (simp; done) | (simp; assumption))) ?_ | refine ret3 rfl (by first | exact rv_tmp rfl | exact rv_blk1 rfl | exact rv_blk rfl (by first | rfl | assumption | (simp; done) | (simp; assumption))) (by first | exact rv_tmp rfl | exact rv_blk1 rfl | exact rv_blk rfl (by first | rfl | assumption | (simp; done) | (simp; assumption))) (by first | exact rv_tmp rfl | exact rv_blk1 rfl | exact rv_blk rfl (by first | rfl | assumption | (simp; done) | (simp; assumption))) ?_ | fail )
  exact ⟨_, _, by omega, rfl, rfl⟩
theorem clone_vc (a : Option Addr) (cap : Nat) (l : List UInt8) {n : Nat} (hn : n = l.length) (hl : l.length ≤ 1000000000000) [hr : RdC w0 L a (bvs l)] :
    VC Try.prog w0 20 [.slice a n cap] L fun v L' => ∃ a' cap', l.length ≤ cap' ∧ v = .slice a' l.length cap' ∧ L' = ownB a' cap' l :: L := by
  refine vc_mono (vc_fresh (R := fun v M => ∃ a' cap', l.length ≤ cap' ∧ v = .slice a' l.length cap' ∧ M = [ownB a' cap' l]) (fun w hs => (clone_calls a cap l w hn hl (hr.out w hs)).mono ?_)) ?_
  · rintro e w' ⟨a', cap', rfl, hs⟩; exact ⟨_, _, rfl, hs, _, _, by simpa using (hs.ownLen 0 rfl).2.1, rfl, rfl⟩
  · rintro v L' ⟨M, rfl, a', cap', h, rfl, rfl⟩; exact ⟨_, _, h, rfl, rfl⟩
theorem same_vc (a : Option Addr) (cap : Nat) (l : List UInt8) (b : Option Addr) (cbp : Nat) (m : List UInt8) {n k : Nat} (hn : n = l.length) (hk : k = m.length) [hr : RdC w0 L a (bvs l)] [hq : RdC w0 L b (bvs m)] :
    VC Try.prog w0 10 [.slice a n cap, .slice b k cbp] L fun v L' => v = .bool (decide (l = m)) ∧ L' = L :=
  vc_pure (fun w hs => same_calls a cap l b cbp m w hn hk (hr.out w hs) (hq.out w hs))
theorem number_vc (a : Option Addr) (cap : Nat) (l : List UInt8) {n : Nat} (hn : n = l.length) (hl : l.length ≤ 1000000000000) [hr : RdC w0 L a (bvs l)] :
    VC Try.prog w0 25 [.slice a n cap] L fun v L' => v = .int .u64 (numOf l) ∧ L' = L :=
  vc_pure (fun w hs => number_calls a cap l w hn hl (hr.out w hs))
theorem take_vc (a : Option Addr) (cap : Nat) (l : List UInt8) (n : Nat) {ln : Nat} (hn : ln = l.length) (h0 : 0 < n) (h8 : n ≤ 8) (h1 : n ≤ l.length) (hcap : l.length ≤ cap) (hl : l.length ≤ 1000000000000) [hr : RdC w0 L a (bvs l)] :
    VC Try.prog w0 60 [.slice a ln cap, .int .i64 n] L fun v L' => ∃ a' cap', l.length - n ≤ cap' ∧ v = .tuple #[.int .u64 (numOf (l.take n)), .slice a' (l.length - n) cap', .int .i64 0] ∧ L' = ownB a' cap' (l.drop n) :: L := by
  refine vc_mono (vc_fresh (R := fun v M => ∃ a' cap', l.length - n ≤ cap' ∧ v = .tuple #[.int .u64 (numOf (l.take n)), .slice a' (l.length - n) cap', .int .i64 0] ∧ M = [ownB a' cap' (l.drop n)]) (fun w hs => (take_calls a cap l n hn h0 h8 h1 hcap w hl (hr.out w hs)).mono ?_)) ?_
  · rintro e w' ⟨a', cap', rfl, hs⟩; exact ⟨_, _, rfl, hs, _, _, by simpa using (hs.ownLen 0 rfl).2.1, by simp, rfl⟩
  · rintro v L' ⟨M, rfl, a', cap', h, rfl, rfl⟩; exact ⟨_, _, h, rfl, rfl⟩
theorem take_short_vc (a : Option Addr) (cap : Nat) (l : List UInt8) (n : Nat) {ln : Nat} (hn : ln = l.length) (h0 : 0 < n) (h8 : n ≤ 8) (h1 : l.length < n) :
    VC Try.prog w0 60 [.slice a ln cap, .int .i64 n] L fun v L' => v = .tuple #[.int .u64 0, .slice none 0 0, .int .i64 10] ∧ L' = L :=
  vc_pure (fun w hs => take_short a cap l n hn h0 h8 h1 w)
end
end Go.Proofs.Ytgffejpcldeklaa
namespace Go.Proofs.Ytgffejpcldeklaa
open Go Go.RowKit

theorem wpIn_scope {F : Fence} {n : Nat} {P : Program} {Q : Exit → Act → World → Prop} {a : Act} {w : World} {c : Code} (h : c.wpIn F n P Q a w) (hg : ∀ l a w, ¬ Q (.goto l) a w) : (Code.scope c).wpIn F n P Q a w := by
  intro b k cs hro hb hr
  have h0 : (lone (b.atR a (.code (.scope c) :: k)) cs w).fenced P F := fenced_calm hb hr rfl
  have st : step P (lone (b.atR a (.code (.scope c) :: k)) cs w) = .next (lone (b.atR a (.code c :: .inScope c :: k)) cs w) := step_lone_go (by simp [stepG, stepG.exec, Frame.atR])
  have st2 : ∀ a w, step P (lone (b.atR a (.inScope c :: k)) cs w) = .next (lone (b.atR a k) cs w) := fun a w => step_lone_go (by simp [stepG, stepG.exec, Frame.atR])
  obtain ⟨e, a₁, w₁, hq, harr⟩ := h b (.inScope c :: k) cs hro hb hr
  cases e with
  | normal => exact ⟨.normal, a₁, w₁, hq, .head h0 st (StepsIn.trans harr (.one (fenced_calm hb hr rfl) (st2 _ _)))⟩
  | exit id =>
    have hx : exitTo id (.inScope c :: k) = exitTo id k := by simp [exitTo]
    exact ⟨.exit id, a₁, w₁, hq, fun k' hk => .head h0 st (harr.1 k' (by rw [hx]; exact hk)),
      fun hr' hk => let ⟨k₁, h1, h2⟩ := harr.2 hr' (by rw [hx]; exact hk); ⟨k₁, h1, .head h0 st h2⟩⟩
  | goto l => exact absurd hq (hg l _ _)
  | ret => exact ⟨_, a₁, w₁, hq, .of_steps (.one h0 st) harr⟩
  | panic ch => exact ⟨_, a₁, w₁, hq, .of_steps (.one h0 st) harr⟩
  | outgrown => exact ⟨_, a₁, w₁, hq, .of_steps (b := b) (k := k) (cs := cs) (e := .outgrown) (.one h0 st) harr⟩

/-! ### Bundles -/
def SLs (w : World) : List Asn → (Nat → Prop) → Prop
  | [], _ => True
  | P :: M, F => ∃ G, P.holds w G ∧ (∀ k, G k → F k) ∧ SLs w M (fun k => F k ∧ ¬ G k)
theorem SLs.mono {w : World} : ∀ {M : List Asn} {F F' : Nat → Prop}, SLs w M F → (∀ k, F k → F' k) → SLs w M F'
  | [], _, _, _, _ => trivial
  | _ :: _, _, _, ⟨G, h1, h2, h3⟩, hs => ⟨G, h1, fun k hk => hs k (h2 k hk), SLs.mono h3 (fun k hk => ⟨hs k hk.1, hk.2⟩)⟩
theorem SLs.loc {w w' : World} : ∀ {M : List Asn} {F : Nat → Prop}, SLs w M F → (∀ k, F k → w'.heap[k]? = w.heap[k]?) → SLs w' M F
  | [], _, _, _ => trivial
  | P :: _, _, ⟨G, h1, h2, h3⟩, hs => ⟨G, P.loc h1 (fun k hk => hs k (h2 k hk)), h2, SLs.loc h3 (fun k hk => hs k hk.1)⟩
/-- Assertions, apart from one another, as one. -/
def bundle (M : List Asn) : Asn where
  holds w F := SLs w M F
  loc h hs := h.loc hs
  mono h hs := h.mono hs
theorem SL.split {B : Nat} {w : World} : ∀ {M L : List Asn} {A : Nat → Prop}, SL B w (M ++ L) A → ∃ F, SLs w M F ∧ (∀ k, F k → B ≤ k ∧ k < w.heap.size ∧ ¬ A k) ∧ SL B w L (fun k => A k ∨ F k)
  | [], L, A, h => ⟨fun _ => False, trivial, fun _ h => h.elim, h.sub (fun _ hk => hk.elim id (fun f => f.elim))⟩
  | P :: M, L, A, ⟨G, h1, h2, h3⟩ => by
    obtain ⟨F, f1, f2, f3⟩ := SL.split h3
    refine ⟨fun k => G k ∨ F k, ⟨G, h1, fun k hk => .inl hk, f1.mono (fun k hk => ⟨.inr hk, fun hg => (f2 k hk).2.2 (.inr hg)⟩)⟩, ?_, f3.sub (fun k hk => ?_)⟩
    · rintro k (hk | hk)
      · exact h2 k hk
      · exact ⟨(f2 k hk).1, (f2 k hk).2.1, fun a => (f2 k hk).2.2 (.inl a)⟩
    · rcases hk with a | g | f
      · exact .inl (.inl a)
      · exact .inl (.inr g)
      · exact .inr f
theorem se_perm {L M : List Asn} (h : L.Perm M) : SE L M := fun _ _ _ x => SL.perm h x
theorem se_bundle (M L : List Asn) : SE (M ++ L) (bundle M :: L) := fun _ _ _ h => by
  obtain ⟨F, f1, f2, f3⟩ := SL.split h
  exact ⟨F, f1, f2, f3⟩
theorem se_app : ∀ (M L : List Asn), SE (M ++ L) L
  | [], L => SE.refl L
  | P :: M, L => (se_drop P (M ++ L)).trans (se_app M L)
theorem se_own_nil (e : TypeId) (size : Nat) (L : List Asn) : SE L (own e size none 0 0 [] :: L) := fun _ _ _ h => ⟨fun _ => False, ⟨by simp, .inl ⟨rfl, rfl, rfl⟩⟩, fun _ hk => hk.elim, h.sub (fun _ hk => hk.elim id (fun f => f.elim))⟩
/-- Slices of bytes of the call's own. -/
def psA (ps : List PB) : Asn := bundle (ps.map fun p => ownB p.a p.cap p.l)
theorem se_psA_nil (L : List Asn) : SE L (psA [] :: L) := se_bundle [] L

class HasPs (L : List Asn) (ps : List PB) : Prop where
  out : ∃ i : Nat, L[i]? = some (psA ps)
section
variable {P : Program} {ro : Option Nat} {w0 : World} {n : Nat} {ds : List Deferred} {fr : Fr} {L : List Asn} {Q : Exit → List Deferred → Fr → List Asn → Prop} {K : List Deferred → Fr → List Asn → Prop}
variable {d : Nat} {ty : TypeId} {pos : String} {after : Array Edge} {gd : Option (Nat × Bool)} {dst : Option Nat}
variable {e t : TypeId} {agg : Bool} {size bytes : Nat} {z : List Value}
/-- Slots that stay as they are. -/
def selE (fr : Fr) : List Nat → Option Fr
  | [] => some []
  | k :: ks => match look fr k, selE fr ks with
    | some v, some r => some ((k, v) :: r)
    | _, _ => none
/-- A loop, what is held said by what was held; the slots ks stay. -/
theorem v_loopF {c : Code} (X : Type) (ks : List Nat) {fr0 : Fr} (hks : selE fr ks = some fr0) (f : X → Fr) (F : List Asn → X → List Asn) (ok : X → Prop) (μ : X → Nat) (x0 : X) (h0 : ok x0) (hs0 : Sub (f x0 ++ fr0) fr) (he0 : Ent w0 L (F L x0))
    (h : ∀ x, ok x → V P ro w0 n c (thn (fun ds' fr' L' => ds' = ds ∧ ∃ y, ok y ∧ μ y < μ x ∧ Sub (f y ++ fr0) fr' ∧ Ent w0 L' (F L y)) Q) ds (f x ++ fr0) (F L x)) : V P ro w0 n (.loop c) Q ds fr L := v_loop X (fun x => f x ++ fr0) (F L) ok μ x0 h0 hs0 he0 h
/-- A loop that leaves what is held as it is. -/
theorem v_loopS {c : Code} (X : Type) (ks : List Nat) {fr0 : Fr} (hks : selE fr ks = some fr0) (f : X → Fr) (ok : X → Prop) (μ : X → Nat) (x0 : X) (h0 : ok x0) (hs0 : Sub (f x0 ++ fr0) fr)
    (h : ∀ x, ok x → V P ro w0 n c (thn (fun ds' fr' L' => ds' = ds ∧ ∃ y, ok y ∧ μ y < μ x ∧ Sub (f y ++ fr0) fr' ∧ Ent w0 L' L) Q) ds (f x ++ fr0) L) : V P ro w0 n (.loop c) Q ds fr L := v_loopF X ks hks f (fun L _ => L) ok μ x0 h0 hs0 (Ent.refl _ _) h
theorem v_label {l : Nat} (h : Q .normal ds fr L) : V P ro w0 n (.label l) Q ds fr L := ⟨fun a w hk hs => wpIn_label ⟨ds, fr, L, hk, hs, h⟩⟩
theorem v_scope {c : Code} (hg : ∀ l ds fr L, ¬ Q (.goto l) ds fr L) (h : V P ro w0 n c Q ds fr L) : V P ro w0 n (.scope c) Q ds fr L :=
  ⟨fun a w hk hs => wpIn_scope (h.out a w hk hs) (fun l _ _ ⟨_, _, _, _, _, hh⟩ => hg _ _ _ _ hh)⟩
/-- The address of an array's element. -/
theorem vq_indexArr {x i : Operand} {g off m kk : Nat} {q : IntKind} {I : Int} (hx : evA fr x = some (.pointer (some ⟨g, off, none⟩))) (hi : evA fr i = some (.int q I)) [hu : ArI P t e m agg size bytes z] (h0 : 0 ≤ I) (h1 : I < m) (hk : I.toNat * size = kk) :
    VQ P w0 n ⟨dst, .indexAddr t x i, ty, pos, after, gd⟩ (.pointer (some ⟨g, off + kk, none⟩)) ds fr L :=
  vq_val (fun a w hkn hs => by
    subst hk
    have hI : I.toNat < m := by omega
    simp [execOp, hkn.ev hx, hkn.ev hi, Instr.indexAt, asIntOf, run_underlying hu.arr, hu.el.run_size, h0, h1, Instr.sureAddr, addr_add])
/-- The same contract, what is left over let go. -/
theorem vc_ent {f : FuncId} {args : List Value} {R : Value → List Asn → Prop} (h : VC P w0 f args L fun v L' => ∃ L'', Ent w0 L' L'' ∧ R v L'') : VC P w0 f args L R :=
  ⟨fun w hs => (h.out w hs).mono fun e w' ⟨v, L', h1, h2, L'', he, h3⟩ => ⟨v, L'', h1, he w' h2, h3⟩⟩
theorem vc_pre {f : FuncId} {args : List Value} {L2 : List Asn} {R : Value → List Asn → Prop} (he : Ent w0 L L2) (h : VC P w0 f args L2 R) : VC P w0 f args L R := ⟨fun w hs => h.out w (he w hs)⟩
end

/-! ### Guards: which operation it is, ahead of what costs -/
section
variable {P : Program} {ro : Option Nat} {w0 : World} {n : Nat} {ds : List Deferred} {fr : Fr} {L : List Asn} {Q : Exit → List Deferred → Fr → List Asn → Prop}
variable {d : Nat} {ty : TypeId} {pos : String} {after : Array Edge} {dst : Option Nat} {gd : Option (Nat × Bool)} {K : List Deferred → Fr → List Asn → Prop} {e t yt : TypeId} {size bytes : Nat} {z : List Value} {x y : Operand} {v : Value}
theorem vq_isOp (op : BinOp) (h : VQ P w0 n ⟨dst, .binOp op t x y yt, ty, pos, after, gd⟩ v ds fr L) : VQ P w0 n ⟨dst, .binOp op t x y yt, ty, pos, after, gd⟩ v ds fr L := h
theorem vq_isIx (h : VQ P w0 n ⟨dst, .indexAddr t x y, ty, pos, after, gd⟩ v ds fr L) : VQ P w0 n ⟨dst, .indexAddr t x y, ty, pos, after, gd⟩ v ds fr L := h
theorem vq_ixSl {a0 : Option Addr} {m c : Nat} (hx : evA fr x = some (.slice a0 m c)) (h : VQ P w0 n ⟨dst, .indexAddr t x y, ty, pos, after, gd⟩ v ds fr L) : VQ P w0 n ⟨dst, .indexAddr t x y, ty, pos, after, gd⟩ v ds fr L := h
theorem vq_ixPt {g off : Nat} (hx : evA fr x = some (.pointer (some ⟨g, off, none⟩))) (h : VQ P w0 n ⟨dst, .indexAddr t x y, ty, pos, after, gd⟩ v ds fr L) : VQ P w0 n ⟨dst, .indexAddr t x y, ty, pos, after, gd⟩ v ds fr L := h
theorem vq_isConv (h : VQ P w0 n ⟨dst, .convert e t x, ty, pos, after, gd⟩ v ds fr L) : VQ P w0 n ⟨dst, .convert e t x, ty, pos, after, gd⟩ v ds fr L := h
theorem vq_isSlice {lo hi mx : Option Operand} (h : VQ P w0 n ⟨dst, .slice t x lo hi mx, ty, pos, after, gd⟩ v ds fr L) : VQ P w0 n ⟨dst, .slice t x lo hi mx, ty, pos, after, gd⟩ v ds fr L := h
theorem vq_isBuild {parts : Array (Nat × Operand)} (h : VQ P w0 n ⟨dst, .build t parts, ty, pos, after, gd⟩ v ds fr L) : VQ P w0 n ⟨dst, .build t parts, ty, pos, after, gd⟩ v ds fr L := h
theorem vq_isPt {g off : Nat} (hx : evA fr x = some (.pointer (some ⟨g, off, none⟩))) (h : VQ P w0 n ⟨dst, .load e x, ty, pos, after, gd⟩ v ds fr L) : VQ P w0 n ⟨dst, .load e x, ty, pos, after, gd⟩ v ds fr L := h
theorem vq_isPt0 {g : Nat} (hx : evA fr x = some (.pointer (some ⟨g, 0, none⟩))) (h : VQ P w0 n ⟨dst, .load e x, ty, pos, after, gd⟩ v ds fr L) : VQ P w0 n ⟨dst, .load e x, ty, pos, after, gd⟩ v ds fr L := h
theorem vq_isPtA {a0 : Option Addr} {k : Nat} (hx : evA fr x = some (.pointer (offA a0 k))) (h : VQ P w0 n ⟨dst, .load e x, ty, pos, after, gd⟩ v ds fr L) : VQ P w0 n ⟨dst, .load e x, ty, pos, after, gd⟩ v ds fr L := h
theorem vq_isOne [ht : TyI P e false size bytes z] (h : VQ P w0 n ⟨dst, .load e x, ty, pos, after, gd⟩ v ds fr L) : VQ P w0 n ⟨dst, .load e x, ty, pos, after, gd⟩ v ds fr L := h
theorem vq_isAgg [ht : TyI P e true size bytes z] (h : VQ P w0 n ⟨dst, .load e x, ty, pos, after, gd⟩ v ds fr L) : VQ P w0 n ⟨dst, .load e x, ty, pos, after, gd⟩ v ds fr L := h
theorem vo_isPt0 {g : Nat} (hx : evA fr x = some (.pointer (some ⟨g, 0, none⟩))) (h : VO P ro w0 n ⟨none, .store e x y, ty, pos, after, gd⟩ K Q ds fr L) : VO P ro w0 n ⟨none, .store e x y, ty, pos, after, gd⟩ K Q ds fr L := h
theorem vo_isPt {g off : Nat} (hx : evA fr x = some (.pointer (some ⟨g, off, none⟩))) (h : VO P ro w0 n ⟨none, .store e x y, ty, pos, after, gd⟩ K Q ds fr L) : VO P ro w0 n ⟨none, .store e x y, ty, pos, after, gd⟩ K Q ds fr L := h
theorem vo_isBs {m : Nat} {parts : Array (Nat × Operand)} (h : VO P ro w0 n ⟨some d, .buildSlice t m parts, ty, pos, after, gd⟩ K Q ds fr L) : VO P ro w0 n ⟨some d, .buildSlice t m parts, ty, pos, after, gd⟩ K Q ds fr L := h
end

/-! ### The driver's steps, what closes their side goals laid in -/
section
variable {P : Program} {ro : Option Nat} {w0 : World} {n : Nat} {ds : List Deferred} {fr : Fr} {L L' Lf : List Asn} {Q : Exit → List Deferred → Fr → List Asn → Prop} {ops : Array Oper} {rest : List Oper} {fuel : Nat} {listed : List Bool} {E : List Nat}
variable {d : Nat} {ty : TypeId} {pos : String} {after : Array Edge} {dst : Option Nat} {gd : Option (Nat × Bool)} {K : List Deferred → Fr → List Asn → Prop} {e t : TypeId} {agg : Bool} {size bytes : Nat} {z : List Value}
theorem vl_qA {o : Oper} {v : Value} (hg : o.guard = none) (hd : notDefer o.op = true) (hdst : o.dst = some d) (hdn : Nat.blt d n = true) (h : VL P ro w0 n ops Q rest ds ((d, v) :: fr) L) (hq : VQ P w0 n o v ds fr L := by (first | exact vq_move rfl | exact vq_assign rfl | (apply vq_isBin; first | exact vq_lt rfl rfl | exact vq_eq rfl rfl | exact vq_ne rfl rfl | (apply vq_isOp .add; exact vq_add rfl rfl (by first | exact wr_add (by omega) | exact wu_add (by omega) | exact wr_id (by omega) (by omega) | rfl)) | (apply vq_isOp .sub; exact vq_minus rfl rfl (by first | exact wr_sub (by omega) (by omega) | exact wu_sub (by omega) (by omega) | exact wr_id (by omega) (by omega) | rfl)) | exact vq_gt rfl rfl | exact vq_le rfl rfl | exact vq_ge rfl rfl | (apply vq_isOp .mul; exact vq_mul rfl rfl (by first | exact wr_mul (by omega) | exact wr_id (by omega) (by omega) | rfl)) | (apply vq_isOp .or; exact vq_or rfl rfl (by rfl)) | (apply vq_isOp .and; exact vq_and rfl rfl (by rfl)) | (apply vq_isOp .xor; exact vq_xor rfl rfl (by rfl)) | (apply vq_isOp .shl; exact vq_shl rfl rfl (by omega) (by rfl)) | (apply vq_isOp .shr; exact vq_shr rfl rfl (by omega) (by rfl)) | (apply vq_isOp .quo; exact vq_quo rfl rfl (by decide) (by first | exact q8_i64 (by omega) | exact q2_u8 (by omega) | exact q4_i64 (by omega) | assumption | rfl)) | (apply vq_isOp .rem; exact vq_rem rfl rfl (by decide) (by first | exact r8 | exact r2 | exact r4 | exact r64 | assumption | rfl)) | exact vq_eqNil rfl rfl | exact vq_eqBool rfl rfl | (apply vq_isOp .eql; exact vq_eqB rfl rfl (by first | assumption | (simp; done)) (by first | assumption | (simp; done))) | (apply vq_isOp .neq; first | exact vq_neBool rfl rfl | exact vq_neB rfl rfl (by first | assumption | (simp; done)) (by first | assumption | (simp; done)))) | (apply vq_isLoad; first | (apply vq_isPt; exact rfl; first | (apply vq_isOne; exact vq_ldB rfl (by first | rfl | assumption)) | (apply vq_isPt0; exact rfl; apply vq_isAgg; exact vq_ldW rfl (by first | rfl | assumption | (simp; done) | (simp; assumption))) | (apply vq_isAgg; exact vq_ldP rfl (by assumption) (by first | assumption | (simp; done) | (simp; assumption)))) | (apply vq_isPtA; exact rfl; first | (apply vq_isOne; exact vq_ld1 rfl (by first | assumption | rfl)) | exact vq_ldA rfl (by assumption) (by first | assumption | (simp; done) | (simp; assumption))) | fail) | exact vq_lenSl rfl | (apply vq_isIx; first | (apply vq_ixSl; exact rfl; exact vq_index rfl rfl (by omega) (by omega) (by first | assumption | (simp; done) | (simp; omega) | (rw [bvs_length]; omega)) (by first | exact ix_1 | exact ix_s _ | rfl)) | (apply vq_ixPt; exact rfl; exact vq_indexArr rfl rfl (by omega) (by omega) (by first | exact ix_1 | exact ix_s _ | rfl)) | exact vq_indexArrA rfl rfl (by first | assumption | (simp; done) | (rw [bvs_length]; omega) | (simp; omega)) (by omega) (by omega) (by first | exact ix_1 | exact ix_s _ | rfl)) | exact vq_extract rfl rfl | exact vq_pickT rfl rfl | exact vq_pickF rfl rfl | exact vq_fieldAddr rfl (by rfl) rfl | exact vq_fieldAddrO rfl (by first | assumption | (simp; done) | (simp; omega)) (by rfl) rfl | exact vq_makeFunc rfl rfl | exact vq_nilCheck rfl | (apply vq_isConv; exact vq_conv rfl (by first | exact wi_id (by omega) | exact wu_id (by omega) | exact wr_id (by omega) (by omega) | rfl)) | (apply vq_isUn; first | exact vq_not rfl | exact vq_xorU rfl (by rfl) | exact vq_neg rfl (by rfl)) | (apply vq_isSlice; first | exact vq_slice rfl (by first | exact bnd_none | exact bnd_nat rfl) (by first | exact bnd_none | exact bnd_nat rfl) (by first | exact bnd_none | exact bnd_nat rfl) rfl (by omega) (by omega) (by omega) | exact vq_sliceArr rfl rfl | exact vq_sliceArrO rfl (by first | assumption | (simp; done) | (simp; omega)) rfl) | (apply vq_isBuild; first | exact vq_build0 | exact vq_buildArr0 | exact vq_build rfl rfl (by first | rfl | (simp [plOf]; done)) (by first | rfl | (simp; done)) | exact vq_buildP rfl (by first | (simp [okS, Value.cells]; done) | (simp [okS, Value.cells]; omega)) rfl) | fail)) : VL P ro w0 n ops Q (o :: rest) ds fr L := vl_q hg hd hdst hdn hq h
theorem ret1A {fn : Func} {R : Value → List Asn → Prop} {r : ResultVar} {v : Value} (hres : fn.results = #[r]) (hR : R v L) (h1 : RvC P fr L r v := by exact (by first | exact rv_tmp rfl | exact rv_blk1 rfl | exact rv_blk rfl (by first | rfl | assumption | (simp; done) | (simp; assumption)))) : retQ P w0 n fn R .ret [] fr L := ret1 hres h1 hR
theorem ret2A {fn : Func} {R : Value → List Asn → Prop} {r r2 : ResultVar} {v v2 : Value} (hres : fn.results = #[r, r2]) (hR : R (.tuple #[v, v2]) L) (h1 : RvC P fr L r v := by exact (by first | exact rv_tmp rfl | exact rv_blk1 rfl | exact rv_blk rfl (by first | rfl | assumption | (simp; done) | (simp; assumption)))) (h2 : RvC P fr L r2 v2 := by exact (by first | exact rv_tmp rfl | exact rv_blk1 rfl | exact rv_blk rfl (by first | rfl | assumption | (simp; done) | (simp; assumption)))) : retQ P w0 n fn R .ret [] fr L := ret2 hres h1 h2 hR
theorem ret3A {fn : Func} {R : Value → List Asn → Prop} {r r2 r3 : ResultVar} {v v2 v3 : Value} (hres : fn.results = #[r, r2, r3]) (hR : R (.tuple #[v, v2, v3]) L) (h1 : RvC P fr L r v := by exact (by first | exact rv_tmp rfl | exact rv_blk1 rfl | exact rv_blk rfl (by first | rfl | assumption | (simp; done) | (simp; assumption)))) (h2 : RvC P fr L r2 v2 := by exact (by first | exact rv_tmp rfl | exact rv_blk1 rfl | exact rv_blk rfl (by first | rfl | assumption | (simp; done) | (simp; assumption)))) (h3 : RvC P fr L r3 v3 := by exact (by first | exact rv_tmp rfl | exact rv_blk1 rfl | exact rv_blk rfl (by first | rfl | assumption | (simp; done) | (simp; assumption)))) : retQ P w0 n fn R .ret [] fr L := ret3 hres h1 h2 h3 hR
theorem vo_stWA {p x : Operand} {g i : Nat} {cs vs : List Value} {v : Value} (hp : evA fr p = some (.pointer (some ⟨g, 0, none⟩))) (hx : evA fr x = some v) [ht : TyI P e agg size bytes z] [hb : HasBlk L g i t cs] [oc : OC vs] [hset : SetI L i (blk g t vs) L']
    (h : K ds fr L') (hv : cellsO v = some vs := by rfl) (hl : vs.length = size := by first | rfl | assumption | (simp; done) | (simp; assumption)) (hcl : cs.length = size := by first | rfl | assumption | (simp; done) | (simp; assumption)) : VO P ro w0 n ⟨none, .store e p x, ty, pos, after, gd⟩ K Q ds fr L := vo_stW hp hx hv hl hcl h
theorem vo_stBA {p x : Operand} {g off i : Nat} {cs cs' vs : List Value} {v : Value} (hp : evA fr p = some (.pointer (some ⟨g, off, none⟩))) (hx : evA fr x = some v) [ht : TyI P e agg size bytes z] [hb : HasBlk L g i t cs] [oc : OC vs] [hset : SetI L i (blk g t cs') L']
    (h : K ds fr L') (hv : cellsO v = some vs := by rfl) (hl : vs.length = size := by rfl) (hfit : off + vs.length ≤ cs.length := by first | decide | (simp; done) | (simp; omega) | omega | assumption) (hcs : splice cs off vs = cs' := by rfl) : VO P ro w0 n ⟨none, .store e p x, ty, pos, after, gd⟩ K Q ds fr L := vo_stB hp hx hv hl hfit hcs h
theorem vo_isApp {s x : Operand} {ts : Array TypeId} (h : VO P ro w0 n ⟨some d, .call { callee := .builtin .append, args := #[s, x], argTypes := ts }, ty, pos, after, gd⟩ K Q ds fr L) : VO P ro w0 n ⟨some d, .call { callee := .builtin .append, args := #[s, x], argTypes := ts }, ty, pos, after, gd⟩ K Q ds fr L := h
theorem vo_appendA {s x : Operand} {a0 ao : Option Addr} {m c m' c' i : Nat} {xs news : List Value} (hs : evA fr s = some (.slice a0 m c)) (hx : evA fr x = some (.slice ao m' c')) (hdn : Nat.blt d n = true) [hu : SlI P t e agg size bytes z] [hb : HasOwn L a0 i e size m c xs] [hr : RdC w0 L ao news] [oc : OC news]
    {LL : Option Addr → Nat → List Asn} [hset : ∀ a' cap', SetI L i (own e size a' (m + m') cap' (xs ++ news)) (LL a' cap')]
    (h : ∀ a' cap', (m + m' = 0 ∨ a' ≠ none) → m + m' ≤ cap' → K ds ((d, .slice a' (m + m') cap') :: fr) (LL a' cap')) (hl : news.length = m' * size := by first | (simp; done) | (rw [bvs_length]; assumption) | assumption | (simp; assumption) | (simp; omega)) (h63 : m + m' ≤ 140737488355328 := by omega) (hby : (m + m') * bytes ≤ 140737488355328 := by omega) :
    VO P ro w0 n ⟨some d, .call { callee := .builtin .append, args := #[s, x], argTypes := #[t, t] }, ty, pos, after, gd⟩ K Q ds fr L := vo_append hs hx hl h63 hby hdn h
theorem vo_append0A {s x : Operand} {ao : Option Addr} {m' c' : Nat} {news : List Value} (hs : evA fr s = some (.slice none 0 0)) (hx : evA fr x = some (.slice ao m' c')) (hdn : Nat.blt d n = true) [hu : SlI P t e agg size bytes z] [hr : RdC w0 L ao news] [oc : OC news]
    (h : ∀ a' cap', (m' = 0 ∨ a' ≠ none) → m' ≤ cap' → K ds ((d, .slice a' m' cap') :: fr) (own e size a' m' cap' news :: L)) (hl : news.length = m' * size := by first | (simp; done) | (rw [bvs_length]; assumption) | assumption | (simp; assumption) | (simp; omega)) (h63 : m' ≤ 140737488355328 := by omega) (hby : m' * bytes ≤ 140737488355328 := by omega) :
    VO P ro w0 n ⟨some d, .call { callee := .builtin .append, args := #[s, x], argTypes := #[t, t] }, ty, pos, after, gd⟩ K Q ds fr L := vo_append0 hs hx hl h63 hby hdn h
end
/-! ### Steps of the walk that leave one goal -/
theorem go1 {φ ψ : Prop} (h : ψ) (hc : ψ → φ := by intro h; (first | (refine vl_id ?_; first | exact vl_nil h | exact vl_qA rfl rfl rfl rfl h | (refine vl_o rfl ?_; (first | (exact vo_box rfl rfl rfl  h) | (exact vo_alloc rfl  h) | (refine vo_isStore ?_; first | (refine vo_isPt0 rfl ?_; exact vo_stWA rfl rfl h) | (refine vo_isPt rfl ?_; exact vo_stBA rfl rfl h) | (exact vo_stO rfl rfl (by rfl) (by first | rfl | assumption) (by first | assumption | (simp; done) | (simp; omega) | omega) rfl h)) | (refine vo_isCall ?_; first | (refine vo_isApp ?_; first | (exact vo_append0A rfl rfl rfl  h) | (exact vo_appendA rfl rfl rfl  h)) | (refine vo_isCopy ?_; exact vo_copyB rfl rfl rfl (by assumption) (by assumption) (by assumption) (by assumption) h) | exact vo_yield rfl rfl rfl rfl rfl h | exact vo_callV rfl rfl rfl (vc_in rfl rfl h)) | exact vo_convRow rfl rfl h | (refine vo_isBs ?_; exact vo_buildSlice rfl rfl rfl (by decide) (by repeat' (first | exact trivial | rfl | assumption | refine ⟨?_, ?_⟩ | (simp; done) | (simp; omega))) (by decide) rfl  h) | (exact vo_buildSlice0 rfl  h) | fail)) | exact vl_guard rfl rfl rfl rfl rfl h | exact vl_pass rfl rfl rfl rfl rfl rfl rfl h ) | (refine v_id ?_; first | exact v_seq h | exact v_region h | exact v_condT rfl h | exact v_condF rfl h  | exact v_block h | exact v_skip h | exact v_ret h | exact v_exit h | exact v_label h | exact v_scope (fun _ _ _ _ h => h) h | exact v_code h) | exact thn_n h | exact inb_n h | exact inb_r h | exact thn_r h | exact thn_e h | exact inb_e rfl h | exact inb_o rfl h | exact beginR h | exact rangeEnd_done (by decide) h | exact rangeEnd_jump (by decide) h | exact ret_mark h | exact roundQ_n h | exact roundQ_r h | exact roundQ_e h | exact ret0 rfl h | exact ret1A rfl h | exact ret2A rfl h | exact ret3A rfl h | fail )) : φ := hc h
theorem goW {φ ψ : Prop} (h : ψ) (hc : ψ → φ := by intro h; (first | (refine vl_id ?_; first | exact vl_nil h | exact vl_qW rfl rfl rfl rfl h | (refine vl_o rfl ?_; (first | (exact vo_box rfl rfl rfl  h) | (exact vo_alloc rfl  h) | (refine vo_isStore ?_; first | (refine vo_isPt0 rfl ?_; exact vo_stWA rfl rfl h) | (refine vo_isPt rfl ?_; exact vo_stBA rfl rfl h) | (exact vo_stO rfl rfl (by rfl) (by first | rfl | assumption) (by first | assumption | (simp; done) | (simp; omega) | omega) rfl h)) | (refine vo_isCall ?_; first | (refine vo_isApp ?_; first | (exact vo_append0A rfl rfl rfl  h) | (exact vo_appendA rfl rfl rfl  h)) | (refine vo_isCopy ?_; exact vo_copyB rfl rfl rfl (by assumption) (by assumption) (by assumption) (by assumption) h) | exact vo_yield rfl rfl rfl rfl rfl h | exact vo_callV rfl rfl rfl (vc_in rfl rfl h)) | exact vo_convRow rfl rfl h | (refine vo_isBs ?_; exact vo_buildSlice rfl rfl rfl (by decide) (by repeat' (first | exact trivial | rfl | assumption | refine ⟨?_, ?_⟩ | (simp; done) | (simp; omega))) (by decide) rfl  h) | (exact vo_buildSlice0 rfl  h) | fail)) | exact vl_guard rfl rfl rfl rfl rfl h | exact vl_pass rfl rfl rfl rfl rfl rfl rfl h ) | (refine v_id ?_; first | exact v_seq h | exact v_region h | exact v_condT rfl h | exact v_condF rfl h  | exact v_block h | exact v_skip h | exact v_ret h | exact v_exit h | exact v_label h | exact v_scope (fun _ _ _ _ h => h) h | exact v_code h) | exact thn_n h | exact inb_n h | exact inb_r h | exact thn_r h | exact thn_e h | exact inb_e rfl h | exact inb_o rfl h | exact beginR h | exact rangeEnd_done (by decide) h | exact rangeEnd_jump (by decide) h | exact ret_mark h | exact roundQ_n h | exact roundQ_r h | exact roundQ_e h | exact ret0 rfl h | exact ret1A rfl h | exact ret2A rfl h | exact ret3A rfl h | fail )) : φ := hc h
theorem goE {φ ψ : Prop} (h : ψ) (hc : ψ → φ := by intro h; (first | (refine vl_id ?_; first | exact vl_nil h | exact vl_qE rfl rfl rfl rfl h | (refine vl_o rfl ?_; (first | (exact vo_box rfl rfl rfl  h) | (exact vo_alloc rfl  h) | (refine vo_isStore ?_; first | (refine vo_isPt0 rfl ?_; exact vo_stWA rfl rfl h) | (refine vo_isPt rfl ?_; exact vo_stBA rfl rfl h) | (exact vo_stO rfl rfl (by rfl) (by first | rfl | assumption) (by first | assumption | (simp; done) | (simp; omega) | omega) rfl h)) | (refine vo_isCall ?_; first | (refine vo_isApp ?_; first | (exact vo_append0A rfl rfl rfl  h) | (exact vo_appendA rfl rfl rfl  h)) | (refine vo_isCopy ?_; exact vo_copyB rfl rfl rfl (by assumption) (by assumption) (by assumption) (by assumption) h) | exact vo_yield rfl rfl rfl rfl rfl h | exact vo_callV rfl rfl rfl (vc_in rfl rfl h)) | exact vo_convRow rfl rfl h | (refine vo_isBs ?_; exact vo_buildSlice rfl rfl rfl (by decide) (by repeat' (first | exact trivial | rfl | assumption | refine ⟨?_, ?_⟩ | (simp; done) | (simp; omega))) (by decide) rfl  h) | (exact vo_buildSlice0 rfl  h) | fail)) | exact vl_guard rfl rfl rfl rfl rfl h | exact vl_pass rfl rfl rfl rfl rfl rfl rfl h ) | (refine v_id ?_; first | exact v_seq h | exact v_region h | exact v_condT rfl h | exact v_condF rfl h  | exact v_block h | exact v_skip h | exact v_ret h | exact v_exit h | exact v_label h | exact v_scope (fun _ _ _ _ h => h) h | exact v_code h) | exact thn_n h | exact inb_n h | exact inb_r h | exact thn_r h | exact thn_e h | exact inb_e rfl h | exact inb_o rfl h | exact beginR h | exact rangeEnd_done (by decide) h | exact rangeEnd_jump (by decide) h | exact ret_mark h | exact roundQ_n h | exact roundQ_r h | exact roundQ_e h | exact ret0 rfl h | exact ret1A rfl h | exact ret2A rfl h | exact ret3A rfl h | fail )) : φ := hc h
theorem goB {φ ψ : Prop} (h : ψ) (hc : ψ → φ := by intro h; (first | (refine vl_id ?_; first | exact vl_nil h | exact vl_q rfl rfl rfl rfl (by (first | exact vq_move rfl | exact vq_assign rfl | (apply vq_isBin; first | exact vq_lt rfl rfl | exact vq_eq rfl rfl | exact vq_ne rfl rfl | (apply vq_isOp .add; exact vq_add rfl rfl (by first | exact wr_add (by omega) | exact wu_add (by omega) | exact wr_id (by omega) (by omega) | rfl)) | (apply vq_isOp .sub; exact vq_minus rfl rfl (by first | exact wr_sub (by omega) (by omega) | exact wu_sub (by omega) (by omega) | exact wr_id (by omega) (by omega) | rfl)) | exact vq_gt rfl rfl | exact vq_le rfl rfl | exact vq_ge rfl rfl | (apply vq_isOp .mul; exact vq_mul rfl rfl (by first | exact wr_mul (by omega) | exact wr_id (by omega) (by omega) | rfl)) | (apply vq_isOp .or; exact vq_or rfl rfl (by rfl)) | (apply vq_isOp .and; exact vq_and rfl rfl (by rfl)) | (apply vq_isOp .xor; exact vq_xor rfl rfl (by rfl)) | (apply vq_isOp .shl; exact vq_shl rfl rfl (by omega) (by rfl)) | (apply vq_isOp .shr; exact vq_shr rfl rfl (by omega) (by rfl)) | (apply vq_isOp .quo; exact vq_quo rfl rfl (by decide) (by first | exact q8_i64 (by omega) | exact q2_u8 (by omega) | exact q4_i64 (by omega) | assumption | rfl)) | (apply vq_isOp .rem; exact vq_rem rfl rfl (by decide) (by first | exact r8 | exact r2 | exact r4 | exact r64 | assumption | rfl)) | exact vq_eqNil rfl rfl | exact vq_eqBool rfl rfl | (apply vq_isOp .eql; exact vq_eqB rfl rfl (by first | assumption | (simp; done)) (by first | assumption | (simp; done))) | (apply vq_isOp .neq; first | exact vq_neBool rfl rfl | exact vq_neB rfl rfl (by first | assumption | (simp; done)) (by first | assumption | (simp; done)))) | (apply vq_isLoad; first | (apply vq_isPt; exact rfl; first | (apply vq_isOne; exact vq_ldB rfl (by first | rfl | assumption)) | (apply vq_isPt0; exact rfl; apply vq_isAgg; exact vq_ldW rfl (by first | rfl | assumption | (simp; done) | (simp; assumption))) | (apply vq_isAgg; exact vq_ldP rfl (by assumption) (by first | assumption | (simp; done) | (simp; assumption)))) | (apply vq_isPtA; exact rfl; first | (apply vq_isOne; exact vq_ld1 rfl (by first | assumption | rfl)) | exact vq_ldA rfl (by assumption) (by first | assumption | (simp; done) | (simp; assumption))) | fail) | exact vq_lenSl rfl | (apply vq_isIx; first | (apply vq_ixSl; exact rfl; exact vq_index rfl rfl (by omega) (by omega) (by first | assumption | (simp; done) | (simp; omega) | (rw [bvs_length]; omega)) (by first | exact ix_1 | exact ix_s _ | rfl)) | (apply vq_ixPt; exact rfl; exact vq_indexArr rfl rfl (by omega) (by omega) (by first | exact ix_1 | exact ix_s _ | rfl)) | exact vq_indexArrA rfl rfl (by first | assumption | (simp; done) | (rw [bvs_length]; omega) | (simp; omega)) (by omega) (by omega) (by first | exact ix_1 | exact ix_s _ | rfl)) | exact vq_extract rfl rfl | exact vq_pickT rfl rfl | exact vq_pickF rfl rfl | exact vq_fieldAddr rfl (by rfl) rfl | exact vq_fieldAddrO rfl (by first | assumption | (simp; done) | (simp; omega)) (by rfl) rfl | exact vq_makeFunc rfl rfl | exact vq_nilCheck rfl | (apply vq_isConv; exact vq_conv rfl (by first | exact wi_id (by omega) | exact wu_id (by omega) | exact wr_id (by omega) (by omega) | rfl)) | (apply vq_isUn; first | exact vq_not rfl | exact vq_xorU rfl (by rfl) | exact vq_neg rfl (by rfl)) | (apply vq_isSlice; first | exact vq_slice rfl (by first | exact bnd_none | exact bnd_nat rfl) (by first | exact bnd_none | exact bnd_nat rfl) (by first | exact bnd_none | exact bnd_nat rfl) rfl (by omega) (by omega) (by omega) | exact vq_sliceArr rfl rfl | exact vq_sliceArrO rfl (by first | assumption | (simp; done) | (simp; omega)) rfl) | (apply vq_isBuild; first | exact vq_build0 | exact vq_buildArr0) | fail)) h | (refine vl_o rfl ?_; (first | (exact vo_box rfl rfl rfl  h) | (exact vo_alloc rfl  h) | (refine vo_isStore ?_; first | (refine vo_isPt0 rfl ?_; exact vo_stWA rfl rfl h) | (refine vo_isPt rfl ?_; exact vo_stBA rfl rfl h) | (exact vo_stO rfl rfl (by rfl) (by first | rfl | assumption) (by first | assumption | (simp; done) | (simp; omega) | omega) rfl h)) | (refine vo_isCall ?_; first | (refine vo_isApp ?_; first | (exact vo_append0A rfl rfl rfl  h) | (exact vo_appendA rfl rfl rfl  h)) | (refine vo_isCopy ?_; exact vo_copyB rfl rfl rfl (by assumption) (by assumption) (by assumption) (by assumption) h) | exact vo_yield rfl rfl rfl rfl rfl h | exact vo_callV rfl rfl rfl (vc_in rfl rfl h)) | exact vo_convRow rfl rfl h | (refine vo_isBs ?_; exact vo_buildSlice rfl rfl rfl (by decide) (by repeat' (first | exact trivial | rfl | assumption | refine ⟨?_, ?_⟩ | (simp; done) | (simp; omega))) (by decide) rfl  h) | (exact vo_buildSlice0 rfl  h) | fail)) | exact vl_guard rfl rfl rfl rfl rfl h | exact vl_pass rfl rfl rfl rfl rfl rfl rfl h ) | (refine v_id ?_; first | exact v_seq h | exact v_region h | exact v_condT rfl h | exact v_condF rfl h  | exact v_block h | exact v_skip h | exact v_ret h | exact v_exit h | exact v_label h | exact v_scope (fun _ _ _ _ h => h) h | exact v_code h) | exact thn_n h | exact inb_n h | exact inb_r h | exact thn_r h | exact thn_e h | exact inb_e rfl h | exact inb_o rfl h | exact beginR h | exact rangeEnd_done (by decide) h | exact rangeEnd_jump (by decide) h | exact ret_mark h | exact roundQ_n h | exact roundQ_r h | exact roundQ_e h | exact ret0 rfl h | exact ret1A rfl h | exact ret2A rfl h | exact ret3A rfl h | fail )) : φ := hc h
theorem goN {φ ψ : Prop} (h : ψ) (hc : ψ → φ := by intro h; (first | (refine vl_id ?_; first | exact vl_nil h | exact vl_qA rfl rfl rfl rfl h | (refine vl_o rfl ?_; (first | (exact vo_box rfl rfl rfl  h) | (exact vo_alloc rfl  h) | (refine vo_isStore ?_; first | (refine vo_isPt0 rfl ?_; exact vo_stWA rfl rfl h) | (refine vo_isPt rfl ?_; exact vo_stBA rfl rfl h) | (exact vo_stO rfl rfl (by rfl) (by first | rfl | assumption) (by first | assumption | (simp; done) | (simp; omega) | omega) rfl h)) | (refine vo_isCall ?_; first | (refine vo_isApp ?_; first | (exact vo_append0A rfl rfl rfl  h) | (exact vo_appendA rfl rfl rfl  h)) | (refine vo_isCopy ?_; exact vo_copyB rfl rfl rfl (by assumption) (by assumption) (by assumption) (by assumption) h) | exact vo_yield rfl rfl rfl rfl rfl h) | exact vo_convRow rfl rfl h | (refine vo_isBs ?_; exact vo_buildSlice rfl rfl rfl (by decide) (by repeat' (first | exact trivial | rfl | assumption | refine ⟨?_, ?_⟩ | (simp; done) | (simp; omega))) (by decide) rfl  h) | (exact vo_buildSlice0 rfl  h) | fail)) | exact vl_guard rfl rfl rfl rfl rfl h | exact vl_pass rfl rfl rfl rfl rfl rfl rfl h ) | (refine v_id ?_; first | exact v_seq h | exact v_region h | exact v_condT rfl h | exact v_condF rfl h  | exact v_block h | exact v_skip h | exact v_ret h | exact v_exit h | exact v_label h | exact v_scope (fun _ _ _ _ h => h) h | exact v_code h) | exact thn_n h | exact inb_n h | exact inb_r h | exact thn_r h | exact thn_e h | exact inb_e rfl h | exact inb_o rfl h | exact beginR h | exact rangeEnd_done (by decide) h | exact rangeEnd_jump (by decide) h | exact ret_mark h | exact roundQ_n h | exact roundQ_r h | exact roundQ_e h | exact ret0 rfl h | exact ret1A rfl h | exact ret2A rfl h | exact ret3A rfl h | fail )) : φ := hc h
theorem goU {φ ψ : Prop} (h : ψ) (hc : ψ → φ := by intro h; (first | (refine vl_id ?_; first | exact vl_nil h | exact vl_qA rfl rfl rfl rfl h | (refine vl_o rfl ?_; (first | (exact vo_box rfl rfl rfl  h) | (exact vo_alloc rfl  h) | (refine vo_isStore ?_; first | (refine vo_isPt0 rfl ?_; exact vo_stWA rfl rfl h) | (refine vo_isPt rfl ?_; exact vo_stBA rfl rfl h) | (exact vo_stO rfl rfl (by rfl) (by first | rfl | assumption) (by first | assumption | (simp; done) | (simp; omega) | omega) rfl h)) | (refine vo_isCall ?_; first | (refine vo_isApp ?_; first | (exact vo_append0A rfl rfl rfl  h) | (exact vo_appendA rfl rfl rfl  h)) | (refine vo_isCopy ?_; exact vo_copyB rfl rfl rfl (by assumption) (by assumption) (by assumption) (by assumption) h) | exact vo_yield rfl rfl rfl rfl rfl h | exact vo_callV rfl rfl rfl (vc_in rfl rfl h)) | exact vo_convRow rfl rfl h | (refine vo_isBs ?_; exact vo_buildSlice rfl rfl rfl (by decide) (by repeat' (first | exact trivial | rfl | assumption | refine ⟨?_, ?_⟩ | (simp; done) | (simp; omega))) (by decide) rfl  h) | (exact vo_buildSlice0 rfl  h) | fail)) | exact vl_guard rfl rfl rfl rfl rfl h | exact vl_pass rfl rfl rfl rfl rfl rfl rfl h | exact vl_passU rfl rfl rfl rfl rfl rfl h ) | (refine v_id ?_; first | exact v_seq h | exact v_region h | exact v_condT rfl h | exact v_condF rfl h  | exact v_block h | exact v_skip h | exact v_ret h | exact v_exit h | exact v_label h | exact v_scope (fun _ _ _ _ h => h) h | exact v_code h) | exact thn_n h | exact inb_n h | exact inb_r h | exact thn_r h | exact thn_e h | exact inb_e rfl h | exact inb_o rfl h | exact beginR h | exact rangeEnd_done (by decide) h | exact rangeEnd_jump (by decide) h | exact ret_mark h | exact roundQ_n h | exact roundQ_r h | exact roundQ_e h | exact ret0 rfl h | exact ret1A rfl h | exact ret2A rfl h | exact ret3A rfl h | fail )) : φ := hc h
end Go.Proofs.Ytgffejpcldeklaa

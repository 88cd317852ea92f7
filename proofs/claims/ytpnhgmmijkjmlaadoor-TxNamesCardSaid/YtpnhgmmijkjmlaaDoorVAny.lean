/-
  A region whose order is open, in the logic without worlds: what only reads is taken first.
-/
import Derived.Test.YtpnhgmmijkjmlaaDoorVMem
import Derived.OrdersIn
import Derived.OrdersHeld
namespace Go.Proofs.YtpnhgmmijkjmlaaDoor
open Go Go.RowKit
set_option linter.unusedVariables false
set_option linter.unusedSimpArgs false

section
variable {P : Program} {ro : Option Nat} {ops : Array Oper} {Q : Exit → Act → World → Prop} {S : World → Prop}

def wpAnyV (P : Program) (ro : Option Nat) (ops : Array Oper) (Q : Exit → Act → World → Prop) (S : Array Bool → World → Prop) : Nat → Array Bool → Act → World → Prop
  | 0, listed, a, w => Region.ready .any ops listed = [] ∧ Q .normal a w
  | fuel + 1, listed, a, w =>
    (Region.ready .any ops listed = [] → Q .normal a w) ∧
    ∀ i ∈ Region.ready .any ops listed, wpOpIn (fen ro) 0 P ops Q i (fun a' w' => S (listed.setIfInBounds i true) w' ∧ wpAnyV P ro ops Q S fuel (listed.setIfInBounds i true) a' w') a w

theorem wpAnyIn_of_V {S : Array Bool → World → Prop} : ∀ (fuel : Nat) (listed : Array Bool) (a : Act) (w : World), wpAnyV P ro ops Q S fuel listed a w → wpAnyIn (fen ro) 0 P .any ops Q fuel listed a w
  | 0, _, _, _, h => h
  | fuel + 1, _, _, _, h => ⟨h.1, fun i hi => wpOpIn_mono (fun a' w' h' => wpAnyIn_of_V fuel _ a' w' h'.2) (h.2 i hi)⟩

theorem yields_wpOpV {i : Nat} {o : Oper} {v : Value} {a : Act} (hd : ∀ c, o.op ≠ .defer c) (hi : ops[i]? = some o) (hy : YieldsIf P ops S o v a)
    {K : Act → World → Prop} {w : World} (hS : S w) (h : K (a.put o.dst v) w) : wpOpIn (fen ro) 0 P ops Q i K a w := by
  unfold wpOpIn
  simp only [hi]
  rcases hy with ⟨hw, hv⟩ | ⟨hw, rfl⟩
  · have e : o.semAt (fen ro).round a.eval = execOp a.eval o := Oper.semAt_eq _ _ _ hd
    simp only [hw, if_true, Oper.wpIn, e, hv w hS, Oper.uponIn]; exact ⟨fun _ _ => trivial, h⟩
  · simp only [hw, Bool.false_eq_true, if_false]; exact ⟨fun _ _ => trivial, h⟩

theorem wpOpV_putIf {j : Nat} {oi oj : Oper} {v : Value} (hj : ops[j]? = some oj) (hap : oi.apart ops oj = true)
    (hsi : ∀ cs b, oi.op ≠ .select cs b) (hsj : ∀ cs b, oj.op ≠ .select cs b) (hdj : ∀ c, oj.op ≠ .defer c)
    (hQ : ∀ c a w, Q (.panic c) (a.put oi.dst v) w → Q (.panic c) a w) {K : Act → World → Prop} {a : Act} {w : World}
    (hy : YieldsIf P ops S oi v a) (h : wpOpIn (fen ro) 0 P ops Q j K (a.put oi.dst v) w) :
    wpOpIn (fen ro) 0 P ops Q j (fun a' w' => YieldsIf P ops S oi v a' ∧ K (a'.put oi.dst v) w') a w := by
  obtain ⟨h1, h2, h3⟩ := Oper.apart_spec hap
  have keep : ∀ (a : Act), YieldsIf P ops S oi v a → ∀ u, YieldsIf P ops S oi v (a.put oj.dst u) := fun a hy u =>
    hy.of_same (execOp_put oi hsi a oj.dst u h3) (wanted_put oi a oj.dst u h3)
  have keepD : ∀ d, YieldsIf P ops S oi v { a with defers := d :: a.defers } := fun d => hy.of_same rfl rfl
  unfold wpOpIn at *
  simp only [hj] at *
  rw [wanted_put oj a oi.dst v h1] at h
  split
  · rename_i hw
    simp only [hw, if_true] at h
    refine ⟨fun _ _ => trivial, ?_⟩
    have h := h.2
    have e : ∀ ρ, oj.semAt (fen ro).round ρ = execOp ρ oj := fun ρ => Oper.semAt_eq _ _ _ hdj
    rw [e, execOp_put oj hsj a oi.dst v h1] at h
    rw [e]
    generalize (execOp a.eval oj).run P w = r at *
    cases r with
    | ok x w' =>
      cases x <;> simp only [Oper.uponIn] at h ⊢
      case value u => exact ⟨keep a hy u, by rw [← Act.put_comm a v u h2]; exact h⟩
      case skip => exact ⟨keep a hy _, by rw [← Act.put_comm a v undef h2]; exact h⟩
      case defer d =>
        refine ⟨keep _ (keepD d) _, ?_⟩
        rw [← Act.put_comm _ v undef h2, ← Act.put_defers]
        exact h
      case enter f args =>
        refine ⟨h.1, h.2.mono fun e w'' he => ?_⟩
        cases e with
        | returned u => exact ⟨keep a hy u, by rw [← Act.put_comm a v u h2]; exact he⟩
        | panicked c => exact hQ _ _ _ he
        | outgrown => exact he
      case row row args => exact ⟨h.1, h.2.mono fun u w'' he => ⟨keep a hy u, by rw [← Act.put_comm a v u h2]; exact he⟩⟩
      case round l f tmps assign body =>
        refine ⟨h.1, h.2.mono fun e w'' he => ?_⟩
        cases e with
        | returned u => exact ⟨keep a hy u, by rw [← Act.put_comm a v u h2]; exact he⟩
        | panicked c => exact hQ _ _ _ he
        | outgrown => exact he
    | halt x w' =>
      cases x <;> simp only [Oper.uponIn] at h ⊢
      case panic u => exact hQ _ _ _ h
  · rename_i hw
    simp only [hw] at h
    exact ⟨fun _ _ => trivial, keep a hy _, by rw [← Act.put_comm a v undef h2]; exact h.2⟩

def plainOps (ops : Array Oper) : Bool := ops.toList.all fun o => notDefer o.op
theorem plainOps_spec (h : plainOps ops = true) {j : Nat} {o : Oper} (hj : ops[j]? = some o) : ∀ c, o.op ≠ .defer c := by
  have : o ∈ ops.toList := by
    have := Array.mem_of_getElem? hj
    simpa using this
  exact notDefer_spec (List.all_eq_true.1 h o this)

theorem wpAnyV_first {SS : Array Bool → World → Prop} {inv : Array Bool → Prop} {i : Nat} {oi : Oper} {v : Value} (hi : ops[i]? = some oi) (hpl : plainOps ops = true) (hsel : ∀ (j : Nat) (o : Oper) cs b, ops[j]? = some o → o.op ≠ .select cs b)
    (hQ : ∀ c a w, Q (.panic c) (a.put oi.dst v) w → Q (.panic c) a w)
    (hinv : ∀ listed j, inv listed → i ∈ Region.ready .any ops listed → j ∈ Region.ready .any ops listed → j ≠ i → inv (listed.setIfInBounds j true)) (hSS : ∀ listed W, inv listed → SS listed W → S W) (hind : ∀ listed W, SS (listed.setIfInBounds i true) W ↔ SS listed W) :
    ∀ (fuel : Nat) (listed : Array Bool) (a : Act) (w : World),
      (∀ j oj, ops[j]? = some oj → j ≠ i → listed.getD j true = false → (∀ e ∈ oj.after, Region.binds .any e = true → e.on ≠ i) → oi.apart ops oj = true) →
      i ∈ Region.ready .any ops listed → YieldsIf P ops S oi v a → inv listed → SS listed w →
      wpAnyV P ro ops Q SS fuel (listed.setIfInBounds i true) (a.put oi.dst v) w → wpAnyV P ro ops Q SS (fuel + 1) listed a w := by
  intro fuel
  induction fuel with
  | zero =>
    intro listed a w _ hr hy hv hS H
    refine ⟨fun h => (by rw [h] at hr; cases hr), fun j hj => ?_⟩
    by_cases hji : j = i
    · subst hji; exact yields_wpOpV (plainOps_spec hpl hi) hi hy (hSS _ _ hv hS) ⟨(hind _ _).2 hS, H⟩
    · have := ready_mono hj hji
      rw [H.1] at this
      cases this
  | succ fuel ih =>
    intro listed a w hfree hr hy hv hS H
    refine ⟨fun h => (by rw [h] at hr; cases hr), fun j hj => ?_⟩
    by_cases hji : j = i
    · subst hji; exact yields_wpOpV (plainOps_spec hpl hi) hi hy (hSS _ _ hv hS) ⟨(hind _ _).2 hS, H⟩
    · have h1 := H.2 j (ready_mono hj hji)
      obtain ⟨hjun, oj, hoj, hall⟩ := mem_ready.1 hj
      have hnot : ∀ e ∈ oj.after, Region.binds .any e = true → e.on ≠ i := fun e he hb heq => by
        have h1 := hall e he hb
        have h0 := (mem_ready.1 hr).1
        rw [heq] at h1
        rcases Nat.lt_or_ge i listed.size with h' | h'
        · simp [h'] at h0 h1; rw [h0] at h1; cases h1
        · simp [Array.getElem?_eq_none h'] at h1
      have h2 := wpOpV_putIf hoj (hfree j oj hoj hji hjun hnot) (fun cs b => hsel i oi cs b hi) (fun cs b => hsel j oj cs b hoj) (plainOps_spec hpl hoj) hQ hy h1
      have hfree' : ∀ k ok, ops[k]? = some ok → k ≠ i → (listed.setIfInBounds j true).getD k true = false →
          (∀ e ∈ ok.after, Region.binds .any e = true → e.on ≠ i) → oi.apart ops ok = true := fun k ok hk hki hun hno => by
        refine hfree k ok hk hki ?_ hno
        by_cases hjk : j = k
        · subst hjk; exact hjun
        · rw [getD_set_ne true hjk] at hun; exact hun
      refine wpOpIn_mono (fun a' w' h3 => ?_) h2
      have hcomm : (listed.setIfInBounds i true).setIfInBounds j true = (listed.setIfInBounds j true).setIfInBounds i true := Array.setIfInBounds_comm _ _ (Ne.symm hji)
      obtain ⟨h4, h5, h6⟩ := h3
      rw [hcomm] at h5 h6
      exact ⟨(hind _ _).1 h5, ih (listed.setIfInBounds j true) a' w' hfree' (ready_mono hr (Ne.symm hji)) h4 (hinv _ _ hv hr hj hji) ((hind _ _).1 h5) h6⟩

end

/-! ### In the logic -/
/-- Has one of those come up? -/
def anyE (E : List Nat) (listed : Array Bool) : Bool := E.any fun e => listed.getD e false
/-- What is held: until one of E has come up, Lf. -/
def SE' (w0 : World) (E : List Nat) (Lf : List Asn) (listed : Array Bool) (W : World) : Prop := St w0 W [] ∧ (anyE E listed = true ∨ St w0 W Lf)
theorem anyE_other {E : List Nat} {i : Nat} (h : E.all (fun e => !Nat.beq e i) = true) (listed : Array Bool) : anyE E (listed.setIfInBounds i true) = anyE E listed := by
  unfold anyE
  induction E with
  | nil => rfl
  | cons e E ih =>
    simp only [List.all_cons, Bool.and_eq_true, Bool.not_eq_true'] at h
    simp only [List.any_cons, ih h.2]
    have hne : i ≠ e := fun he => by have := h.1; subst he; simp at this
    congr 1
    rw [getD_set_ne false hne]
/-- Does e wait for i, directly or through others? -/
def reachB (ops : Array Oper) : Nat → Nat → Nat → Bool
  | 0, _, _ => false
  | f + 1, e, i => match ops.toList[e]? with
    | some o => o.after.toList.any fun x => Region.binds .any x && (Nat.beq x.on i || reachB ops f x.on i)
    | none => false
/-- Whatever has come up, all that it waits for has. -/
def closedL (ops : Array Oper) (l : Array Bool) : Prop := ∀ m om, ops[m]? = some om → l.getD m false = true → ∀ x ∈ om.after, Region.binds .any x = true → l.getD x.on false = true
theorem reach_listed {ops : Array Oper} {l : Array Bool} (hc : closedL ops l) : ∀ (f e i : Nat), (∀ om, ops[e]? = some om → ∀ x ∈ om.after, Region.binds .any x = true → l.getD x.on false = true) → reachB ops f e i = true → l.getD i false = true
  | 0, _, _, _, h => by cases h
  | f + 1, e, i, hd, h => by
    simp only [reachB] at h
    cases ho : ops.toList[e]? with
    | none => rw [ho] at h; cases h
    | some o =>
      rw [ho] at h
      simp only [List.any_eq_true, Bool.and_eq_true, Bool.or_eq_true] at h
      obtain ⟨x, hx, hb, hx2⟩ := h
      have ho' : ops[e]? = some o := by rw [← ho]; simp
      have hl := hd o ho' x (by simpa using hx) hb
      rcases hx2 with hx2 | hx2
      · rw [← Nat.eq_of_beq_eq_true hx2]; exact hl
      · exact reach_listed hc f x.on i (fun om hom => hc x.on om hom hl) hx2
/-- Each of E waits for i. -/
def waitsE (ops : Array Oper) (E : List Nat) (i : Nat) : Bool := E.all fun e => reachB ops ops.size e i
def closedB (ops : Array Oper) (l : List Bool) : Bool := ops.toList.zipIdx.all fun p => !l.getD p.2 false || p.1.after.toList.all fun x => !Region.binds .any x || l.getD x.on false
theorem closedB_spec {ops : Array Oper} {l : List Bool} (h : closedB ops l = true) : closedL ops l.toArray := by
  intro m om hm hl x hx hb
  have hm' : (om, m) ∈ ops.toList.zipIdx := by
    rw [List.mem_zipIdx_iff_getElem?]
    rw [← hm]; simp
  have h1 := List.all_eq_true.1 h _ hm'
  simp only [Bool.or_eq_true, Bool.not_eq_true', List.all_eq_true] at h1
  have gd : ∀ k, l.toArray.getD k false = l.getD k false := fun k => by
    rw [List.getD_eq_getElem?_getD, Array.getD_eq_getD_getElem?]; simp
  have hl' : l.getD m false = true := by rw [← gd]; exact hl
  rcases h1 with h1 | h1
  · rw [hl'] at h1; cases h1
  · rcases h1 x (by simpa using hx) with h2 | h2
    · rw [hb] at h2; cases h2
    · rw [gd]; exact h2
theorem closed_set {ops : Array Oper} {l : Array Bool} {j : Nat} (hc : closedL ops l) (hj : j ∈ Region.ready .any ops l) : closedL ops (l.setIfInBounds j true) := by
  obtain ⟨h0, oj, hoj, hall⟩ := mem_ready.1 hj
  have hjs : j < l.size := by
    rcases Nat.lt_or_ge j l.size with h | h
    · exact h
    · simp [Array.getElem?_eq_none h] at h0
  intro m om hm hl x hx hb
  have keep : l.getD x.on false = true → (l.setIfInBounds j true).getD x.on false = true := fun h => by
    by_cases e : j = x.on
    · rw [← e]; simp [Array.getElem?_setIfInBounds, hjs]
    · rw [getD_set_ne false e]; exact h
  by_cases e : j = m
  · subst e
    rw [hoj] at hm; cases hm
    exact keep (hall x hx hb)
  · rw [getD_set_ne false e] at hl
    exact keep (hc m om hm hl x hx hb)

/-- The region's state: which operations have come up; what is held until one of E has come up (Lf). -/
structure VA (P : Program) (ro : Option Nat) (w0 : World) (n : Nat) (ops : Array Oper) (Q : Exit → List Deferred → Fr → List Asn → Prop) (E : List Nat) (Lf : List Asn) (fuel : Nat) (listed : List Bool) (ds : List Deferred) (fr : Fr) (L : List Asn) : Prop where
  out : ∀ a w, Kn n ds a fr → St w0 w L → wpAnyV P ro ops (up w0 n Q) (SE' w0 E Lf) fuel listed.toArray a w

section
variable {P : Program} {ro : Option Nat} {w0 : World} {n : Nat} {ds : List Deferred} {fr : Fr} {L Lf : List Asn} {Q : Exit → List Deferred → Fr → List Asn → Prop} {ops : Array Oper} {fuel : Nat} {listed : List Bool} {E : List Nat}

def noPanic (Q : Exit → List Deferred → Fr → List Asn → Prop) : Prop := ∀ c ds fr L, ¬ Q (.panic c) ds fr L
theorem St.none {w w0 : World} {L : List Asn} (h : St w0 w L) : St w0 w [] := ⟨h.1, trivial⟩
/-- A region that draws: Lf is held until one of E has come up. -/
theorem v_draw {id : Nat} {l : List Oper} (E : List Nat) (Lf : List Asn) (hm : P.follows .mixedOrders = true) (h : VA P ro w0 n l.toArray Q E Lf l.length (List.replicate l.length false) ds fr L) : V P ro w0 n (.region id l.toArray true) Q ds fr L :=
  ⟨fun a w hk hs => wpIn_region_any hm (by
    have := wpAnyIn_of_V _ _ _ _ (h.out a w.drew hk hs.drew)
    simpa using this)⟩
theorem v_draw0 {id : Nat} {l : List Oper} (E : List Nat) (hm : P.follows .mixedOrders = true) (h : VA P ro w0 n l.toArray Q E L l.length (List.replicate l.length false) ds fr L) : V P ro w0 n (.region id l.toArray true) Q ds fr L := v_draw E L hm h
class EraseI (L : List Asn) (i : Nat) (L' : outParam (List Asn)) : Prop where
  out : L' = L.eraseIdx i
instance eraseI_zero (P : Asn) (L : List Asn) : EraseI (P :: L) 0 L := ⟨rfl⟩
instance eraseI_succ (P : Asn) (L L' : List Asn) (i : Nat) [h : EraseI L i L'] : EraseI (P :: L) (i + 1) (P :: L') := ⟨by rw [h.out]; rfl⟩
/-- A region that draws: the i-th assertion may be undone. -/
theorem v_drawX {id : Nat} {l : List Oper} (E : List Nat) (i : Nat) {Lf : List Asn} [hi : EraseI L i Lf] (hm : P.follows .mixedOrders = true) (h : VA P ro w0 n l.toArray Q E Lf l.length (List.replicate l.length false) ds fr L) : V P ro w0 n (.region id l.toArray true) Q ds fr L := v_draw E Lf hm h
/-- Assertions follow from assertions, in whatever company. -/
def SE (L M : List Asn) : Prop := ∀ B w A, SL B w L A → SL B w M A
theorem SE.ent {L M : List Asn} (h : SE L M) (w0 : World) : Ent w0 L M := fun w hw => ⟨hw.1, h _ _ _ hw.2⟩
theorem SE.refl (L : List Asn) : SE L L := fun _ _ _ h => h
theorem SE.trans {L M N : List Asn} (h : SE L M) (k : SE M N) : SE L N := fun B w A x => k B w A (h B w A x)
theorem SE.cons (P : Asn) {L M : List Asn} (h : SE L M) : SE (P :: L) (P :: M) := fun B w A x => SL.cons_mono (fun A' => h B w A') x
theorem se_swap (P Q : Asn) (L : List Asn) : SE (P :: Q :: L) (Q :: P :: L) := fun _ _ _ h => SL.swap h
theorem se_drop (P : Asn) (L : List Asn) : SE (P :: L) L := fun _ _ _ h => SL.tail h
theorem se_head {P P' : Asn} (L : List Asn) (h : ∀ w F, P.holds w F → P'.holds w F) : SE (P :: L) (P' :: L) := fun _ w _ ⟨F, h1, h2, h3⟩ => ⟨F, h w F h1, h2, h3⟩
theorem ent_tail (w0 : World) (A : Asn) (L : List Asn) : Ent w0 (A :: L) L := fun w h => ⟨h.1, SL.tail h.2⟩
theorem ent_cons {A : Asn} {L1 L2 : List Asn} (h : Ent w0 L1 L2) : Ent w0 (A :: L1) L2 := (ent_tail w0 A L1).trans h
theorem va_done (hr : Region.ready .any ops listed.toArray = []) (h : Q .normal ds fr L) : VA P ro w0 n ops Q E Lf fuel listed ds fr L :=
  ⟨fun a w hk hs => by
    cases fuel with
    | zero => exact ⟨hr, ds, fr, L, hk, hs, h⟩
    | succ f => exact ⟨fun _ => ⟨ds, fr, L, hk, hs, h⟩, by rw [hr]; simp⟩⟩
/-- Can number i be taken first? -/
def mayTake (ops : Array Oper) (E : List Nat) (listed : List Bool) (i : Nat) : Bool := E.all (fun e => !Nat.beq e i) && (plainOps ops && (Region.noSelect ops && (Region.free .any ops listed.toArray i && (Region.ready .any ops listed.toArray).contains i)))
def mayTakeE (ops : Array Oper) (E : List Nat) (listed : List Bool) (i : Nat) : Bool := (closedB ops listed && waitsE ops E i) && (!anyE E listed.toArray && mayTake ops E listed i)
theorem take_core (i : Nat) {oi : Oper} {d : Nat} {v : Value} {L1 : List Asn} (hl : ops.toList[i]? = some oi) (hd : oi.dst = some d) (hdn : Nat.blt d n = true) (hc : mayTake ops E listed i = true) (hp : noPanic Q)
    (hL1 : (L1 = [] ∨ (L1 = Lf ∧ (closedB ops listed && waitsE ops E i) = true ∧ anyE E listed.toArray = false))) (he : Ent w0 L Lf ∨ anyE E listed.toArray = true)
    (hy : ∀ a w, Kn n ds a fr → St w0 w L → YieldsIf P ops (fun W => St w0 W L1) oi v a) (h : VA P ro w0 n ops Q E Lf fuel (listed.set i true) ds ((d, v) :: fr) L) : VA P ro w0 n ops Q E Lf (fuel + 1) listed ds fr L :=
  ⟨fun a w hk hs => by
    have hi : ops[i]? = some oi := by rw [← hl]; simp
    simp only [mayTake, Bool.and_eq_true] at hc
    refine wpAnyV_first (S := fun W => St w0 W L1) (inv := fun l => L1 = [] ∨ (L1 = Lf ∧ anyE E l = false ∧ closedL ops l)) hi hc.2.1 (Region.noSelect_spec hc.2.2.1) (fun c a w ⟨_, _, _, _, _, hh⟩ => absurd hh (hp _ _ _ _)) ?_ ?_ (fun l W => by simp only [SE', anyE_other hc.1]) fuel listed.toArray a w (Region.free_spec hi hc.2.2.2.1) (by simpa using hc.2.2.2.2) (hy a w hk hs) ?_ ?_ ?_
    · -- E stays away as long as i has not come up
      rintro l j (h0 | ⟨h0, h1, hcl⟩) hri hrj hji
      · exact .inl h0
      · rcases hL1 with h2 | ⟨_, hwt, _⟩
        · exact .inl h2
        rw [Bool.and_eq_true] at hwt
        refine .inr ⟨h0, ?_, closed_set hcl hrj⟩
        unfold anyE at h1 ⊢
        rw [List.any_eq_false] at h1 ⊢
        intro e hee
        have h3 := h1 e hee
        by_cases hje : j = e
        · subst hje
          exfalso
          obtain ⟨_, oj, hoj, hall⟩ := mem_ready.1 hrj
          have hw := List.all_eq_true.1 hwt.2 j hee
          have h5 := reach_listed hcl _ j i (fun om hom x hx hb => by rw [hoj] at hom; cases hom; exact hall x hx hb) hw
          have h6 := (mem_ready.1 hri).1
          rcases Nat.lt_or_ge i l.size with h' | h'
          · simp [h'] at h5 h6; rw [h6] at h5; cases h5
          · simp [Array.getElem?_eq_none h'] at h5
        · rw [getD_set_ne false hje]; exact h3
    · rintro l W (h0 | ⟨h0, h1, _⟩) ⟨hS1, hS2⟩
      · rw [h0]; exact hS1
      · rw [h0]
        rcases hS2 with h | h
        · rw [h1] at h; cases h
        · exact h
    · rcases hL1 with h | ⟨h, hw, h'⟩
      · exact .inl h
      · rw [Bool.and_eq_true] at hw
        exact .inr ⟨h, h', closedB_spec hw.1⟩
    · exact ⟨hs.none, he.elim (fun h => .inr (h w hs)) .inl⟩
    · rw [hd]
      have := h.out _ w (hk.put d v hdn) hs
      simpa using this⟩
/-- Number i reads only: it is taken first, before one of E has come up. -/
theorem va_take (i : Nat) {oi : Oper} {d : Nat} {v : Value} (hl : ops.toList[i]? = some oi) (hg : oi.guard = none) (hd : oi.dst = some d) (hdn : Nat.blt d n = true) (hc : mayTakeE ops E listed i = true) (hp : noPanic Q) (he : Ent w0 L Lf)
    (hq : VQ P w0 n oi v ds fr Lf) (h : VA P ro w0 n ops Q E Lf fuel (listed.set i true) ds ((d, v) :: fr) L) : VA P ro w0 n ops Q E Lf (fuel + 1) listed ds fr L := by
  simp only [mayTakeE, Bool.and_eq_true, Bool.not_eq_true'] at hc
  exact take_core i hl hd hdn hc.2.2 hp (.inr ⟨rfl, by rw [hc.1.1, hc.1.2]; rfl, hc.2.1⟩) (.inl he) (fun a w hk hs => .inl ⟨by simp [Region.wanted, hg], fun W hW => hq.out a W hk hW⟩) h
/-- .. when one of them may have come up: it must not look at memory of the call's own. -/
theorem va_takeP (i : Nat) {oi : Oper} {d : Nat} {v : Value} (hl : ops.toList[i]? = some oi) (hg : oi.guard = none) (hd : oi.dst = some d) (hdn : Nat.blt d n = true) (hc : mayTake ops E listed i = true) (hp : noPanic Q) (he : Ent w0 L Lf ∨ anyE E listed.toArray = true)
    (hq : VQ P w0 n oi v ds fr []) (h : VA P ro w0 n ops Q E Lf fuel (listed.set i true) ds ((d, v) :: fr) L) : VA P ro w0 n ops Q E Lf (fuel + 1) listed ds fr L :=
  take_core i hl hd hdn hc hp (.inl rfl) he (fun a w hk hs => .inl ⟨by simp [Region.wanted, hg], fun W hW => hq.out a W hk hW⟩) h
theorem wanted_guard {a : Act} {oi oj : Oper} {j dj : Nat} {want b : Bool} (hk : Kn n ds a fr) (hg : oi.guard = some (j, want)) (hj : ops.toList[j]? = some oj) (hdj : oj.dst = some dj) (hv : look fr dj = some (.bool b)) : Region.wanted oi (yielded ops a.tmps) = decide (b = want) := by
  have hj' : ops[j]? = some oj := by rw [← hj]; simp
  have hv' := hk.at' dj _ hv
  cases b <;> cases want <;> simp [Region.wanted, hg, yielded, hj', hdj, hv']
/-- The same, of a guarded one that is wanted. -/
theorem va_takeG (i : Nat) {oi oj : Oper} {d j dj : Nat} {want b : Bool} {v : Value} (hl : ops.toList[i]? = some oi) (hg : oi.guard = some (j, want)) (hj : ops.toList[j]? = some oj) (hdj : oj.dst = some dj) (hv : look fr dj = some (.bool b)) (hb : b = want) (hd : oi.dst = some d) (hdn : Nat.blt d n = true) (hc : mayTakeE ops E listed i = true) (hp : noPanic Q) (he : Ent w0 L Lf)
    (hq : VQ P w0 n oi v ds fr Lf) (h : VA P ro w0 n ops Q E Lf fuel (listed.set i true) ds ((d, v) :: fr) L) : VA P ro w0 n ops Q E Lf (fuel + 1) listed ds fr L := by
  simp only [mayTakeE, Bool.and_eq_true, Bool.not_eq_true'] at hc
  exact take_core i hl hd hdn hc.2.2 hp (.inr ⟨rfl, by rw [hc.1.1, hc.1.2]; rfl, hc.2.1⟩) (.inl he) (fun a w hk hs => .inl ⟨by rw [wanted_guard hk hg hj hdj hv]; simp [hb], fun W hW => hq.out a W hk hW⟩) h
/-- .. that is not wanted. -/
theorem va_passG (i : Nat) {oi oj : Oper} {d j dj : Nat} {want b : Bool} (hl : ops.toList[i]? = some oi) (hg : oi.guard = some (j, want)) (hj : ops.toList[j]? = some oj) (hdj : oj.dst = some dj) (hv : look fr dj = some (.bool b)) (hb : b = !want) (hd : oi.dst = some d) (hdn : Nat.blt d n = true) (hc : mayTake ops E listed i = true) (hp : noPanic Q) (he : Ent w0 L Lf ∨ anyE E listed.toArray = true)
    (h : VA P ro w0 n ops Q E Lf fuel (listed.set i true) ds ((d, undef) :: fr) L) : VA P ro w0 n ops Q E Lf (fuel + 1) listed ds fr L :=
  take_core i hl hd hdn hc hp (.inl rfl) he (fun a w hk hs => .inr ⟨by rw [wanted_guard hk hg hj hdj hv]; cases want <;> simp [hb], rfl⟩) h
/-- Number i alone may come up. -/
theorem one_core (i : Nat) {oi : Oper} (hr : Region.ready .any ops listed.toArray = [i]) (hl : ops.toList[i]? = some oi) (hw : ∀ a, Kn n ds a fr → Region.wanted oi (yielded ops a.tmps) = true)
    (h : VO P ro w0 n oi (fun ds fr L => (anyE E (listed.set i true).toArray = true ∨ Ent w0 L Lf) ∧ VA P ro w0 n ops Q E Lf fuel (listed.set i true) ds fr L) Q ds fr L) : VA P ro w0 n ops Q E Lf (fuel + 1) listed ds fr L :=
  ⟨fun a w hk hs => by
    refine ⟨fun h0 => (by rw [hr] at h0; cases h0), fun j hj => ?_⟩
    rw [hr] at hj
    obtain rfl := List.mem_singleton.1 hj
    have hi : ops[j]? = some oi := by rw [← hl]; simp
    unfold wpOpIn
    simp only [hi, hw a hk, if_true]
    refine Oper.wpIn_mono (fun a' w' ⟨ds', fr', L', h1, h2, h3, h4⟩ => ⟨⟨h2.none, ?_⟩, ?_⟩) (h.out a w hk hs)
    · rcases h3 with h3 | h3
      · left; simpa using h3
      · right; exact h3 w' h2
    · have := h4.out a' w' h1 h2
      simpa using this⟩
theorem va_one (i : Nat) {oi : Oper} (hr : Region.ready .any ops listed.toArray = [i]) (hl : ops.toList[i]? = some oi) (hg : oi.guard = none)
    (h : VO P ro w0 n oi (fun ds fr L => (anyE E (listed.set i true).toArray = true ∨ Ent w0 L Lf) ∧ VA P ro w0 n ops Q E Lf fuel (listed.set i true) ds fr L) Q ds fr L) : VA P ro w0 n ops Q E Lf (fuel + 1) listed ds fr L :=
  one_core i hr hl (fun a _ => by simp [Region.wanted, hg]) h
theorem va_oneG (i : Nat) {oi oj : Oper} {j dj : Nat} {want b : Bool} (hr : Region.ready .any ops listed.toArray = [i]) (hl : ops.toList[i]? = some oi) (hg : oi.guard = some (j, want)) (hj : ops.toList[j]? = some oj) (hdj : oj.dst = some dj) (hv : look fr dj = some (.bool b)) (hb : b = want)
    (h : VO P ro w0 n oi (fun ds fr L => (anyE E (listed.set i true).toArray = true ∨ Ent w0 L Lf) ∧ VA P ro w0 n ops Q E Lf fuel (listed.set i true) ds fr L) Q ds fr L) : VA P ro w0 n ops Q E Lf (fuel + 1) listed ds fr L :=
  one_core i hr hl (fun a hk => by rw [wanted_guard hk hg hj hdj hv]; simp [hb]) h
theorem va_case {dj : Nat} {b : Bool} (hv : look fr dj = some (.bool b)) (ht : b = true → VA P ro w0 n ops Q E Lf fuel listed ds ((dj, .bool true) :: fr) L) (hf : b = false → VA P ro w0 n ops Q E Lf fuel listed ds ((dj, .bool false) :: fr) L) : VA P ro w0 n ops Q E Lf fuel listed ds fr L := by
  cases b with
  | true => exact ⟨fun a w hk hs => (ht rfl).out a w (hk.sub (Sub.cons hv rfl (Sub.refl fr))) hs⟩
  | false => exact ⟨fun a w hk hs => (hf rfl).out a w (hk.sub (Sub.cons hv rfl (Sub.refl fr))) hs⟩
theorem va_caseG (i : Nat) {oi oj : Oper} {j dj : Nat} {want b : Bool} (hl : ops.toList[i]? = some oi) (hg : oi.guard = some (j, want)) (hj : ops.toList[j]? = some oj) (hdj : oj.dst = some dj) (hv : look fr dj = some (.bool b))
    (ht : b = true → VA P ro w0 n ops Q E Lf fuel listed ds ((dj, .bool true) :: fr) L) (hf : b = false → VA P ro w0 n ops Q E Lf fuel listed ds ((dj, .bool false) :: fr) L) : VA P ro w0 n ops Q E Lf fuel listed ds fr L := va_case hv ht hf
end
end Go.Proofs.YtpnhgmmijkjmlaaDoor

/-
  Ranges over functions, in the logic without worlds: the iterator's code is walked, and at each call of yield the loop's body.
-/
import Derived.Test.YtpnhgmmijkjmlaaDoorVAny
namespace Go.Proofs.YtpnhgmmijkjmlaaDoor
open Go Go.RowKit
set_option linter.unusedVariables false
set_option linter.unusedSimpArgs false

/-- The record of a range over a function: what was known of the temporaries when the loop began. -/
def lpA (l n : Nat) (fr : Fr) (ps : Array Tmp) (assign body : Code) (D : Nat) (st : LoopState) (pe : Option Code) : Asn where
  holds w F := F l ∧ ∃ fn tmps, w.heap[l]? = some (.loop { state := st, pending := pe, fn := fn, tmps := tmps, params := ps, assign := assign, body := body, defers := D }) ∧ Kn n [] { tmps := tmps, defers := [] } fr
  loc := by
    rintro w w' F ⟨h1, fn, tmps, h2, h3⟩ hs
    exact ⟨h1, fn, tmps, (hs l h1).trans h2, h3⟩
  mono := by
    rintro w F G ⟨h1, h2⟩ hs
    exact ⟨hs l h1, h2⟩
/-- The block for the rounds' deferred calls: there are none. -/
def dfA (D : Nat) : Asn where
  holds w F := F D ∧ w.heap[D]? = some (.deferred (some []))
  loc h hs := ⟨h.1, (hs D h.1).trans h.2⟩
  mono h hF := ⟨hF _ h.1, h.2⟩
/-- Nothing is said. -/
def anyA : Asn where
  holds _ _ := True
  loc _ _ := trivial
  mono _ _ := trivial
def mkD (D : Nat) : Deferred := { target := .collected D, args := #[] }

/-- A block of the call's own becomes something else. -/
theorem St.putO {w0 w : World} {L : List Asn} (h : St w0 w L) (i : Nat) {P P' : Asn} (hi : L[i]? = some P) (g : Nat) (o : Obj) (hg : ∀ F, P.holds w F → F g) (hp : ∀ F, P.holds w F → P'.holds (w.putObj g o) F) : St w0 (w.putObj g o) (L.set i P') := by
  obtain ⟨F0, hF0, hF0b⟩ := h.get i hi
  have hgb := hF0b g (hg F0 hF0)
  exact h.upd i hi (by simp) rfl rfl rfl (fun k hk => World.putObj_heap_other (by omega))
    (fun F hF _ => ⟨fun k _ _ hn => World.putObj_heap_other (fun e => hn (e ▸ hg F hF)), P'.mono (hp F hF) (fun _ hk => .inl hk)⟩)

class HasLp (L : List Asn) (l : Nat) (i : outParam Nat) (n : outParam Nat) (fr : outParam Fr) (ps : outParam (Array Tmp)) (assign body : outParam Code) (D : outParam Nat) (st : outParam LoopState) (pe : outParam (Option Code)) : Prop where
  out : L[i]? = some (lpA l n fr ps assign body D st pe)
instance hasLp_zero (L : List Asn) (l n : Nat) (fr : Fr) (ps : Array Tmp) (assign body : Code) (D : Nat) (st : LoopState) (pe : Option Code) : HasLp (lpA l n fr ps assign body D st pe :: L) l 0 n fr ps assign body D st pe := ⟨rfl⟩
instance (priority := low) hasLp_succ (P : Asn) (L : List Asn) (l i n : Nat) (fr : Fr) (ps : Array Tmp) (assign body : Code) (D : Nat) (st : LoopState) (pe : Option Code) [h : HasLp L l i n fr ps assign body D st pe] : HasLp (P :: L) l (i + 1) n fr ps assign body D st pe := ⟨by simpa using h.out⟩
class HasDf (L : List Asn) (D : Nat) (i : outParam Nat) : Prop where
  out : L[i]? = some (dfA D)
instance hasDf_zero (L : List Asn) (D : Nat) : HasDf (dfA D :: L) D 0 := ⟨rfl⟩
instance (priority := low) hasDf_succ (P : Asn) (L : List Asn) (D i : Nat) [h : HasDf L D i] : HasDf (P :: L) D (i + 1) := ⟨by simpa using h.out⟩

/-- yield's arguments in the loop's parameters. -/
def updP (fr : Fr) : List Nat → List Value → Fr
  | p :: ps, v :: vs => updP ((p, v) :: fr) ps vs
  | _, _ => fr
theorem kn_updP {n : Nat} {ds : List Deferred} : ∀ (ps : List Nat) (vs : List Value) (tmps : Array Value) (fr : Fr), ps.all (Nat.blt · n) = true → Kn n ds { tmps := tmps, defers := ds } fr →
    Kn n ds { tmps := (ps.zip vs).foldl (fun t (p : Nat × Value) => t.setIfInBounds p.1 p.2) tmps, defers := ds } (updP fr ps vs)
  | [], vs, tmps, fr, _, h => by cases vs <;> simpa [updP] using h
  | p :: ps, [], tmps, fr, _, h => by simpa [updP] using h
  | p :: ps, v :: vs, tmps, fr, hp, h => by
    simp only [List.all_cons, Bool.and_eq_true] at hp
    simp only [List.zip_cons_cons, List.foldl_cons, updP]
    exact kn_updP ps vs _ _ hp.2 (h.put p v hp.1)

section
variable {P : Program} {ro : Option Nat} {w0 : World} {n : Nat} {ds : List Deferred} {fr : Fr} {L : List Asn} {Q : Exit → List Deferred → Fr → List Asn → Prop} {K : List Deferred → Fr → List Asn → Prop}
variable {d : Nat} {ty : TypeId} {pos : String} {after : Array Edge} {gd : Option (Nat × Bool)}

/-- Behind the iterator: the pending jump is carried out. -/
def rangeEnd (P : Program) (ro : Option Nat) (w0 : World) (n : Nat) (Q : Exit → List Deferred → Fr → List Asn → Prop) (ds : List Deferred) (fr : Fr) (l : Nat) (L' : List Asn) : Prop :=
  ∃ i n' fr' ps assign body D st pe, L'[i]? = some (lpA l n' fr' ps assign body D st pe) ∧ st ≠ .busy ∧ (match pe with
    | none => Q .normal ds fr (L'.set i anyA)
    | some c => V P ro w0 n c Q ds fr (L'.set i anyA))
theorem rangeEnd_done {l i n' : Nat} {fr' : Fr} {ps : Array Tmp} {assign body : Code} {D : Nat} {st : LoopState} {L2 : List Asn} [h : HasLp L l i n' fr' ps assign body D st none] [hset : SetI L i anyA L2] (hst : st ≠ .busy) (hq : Q .normal ds fr L2) : rangeEnd P ro w0 n Q ds fr l L :=
  ⟨i, n', fr', ps, assign, body, D, st, none, h.out, hst, by rw [← hset.out]; exact hq⟩
theorem rangeEnd_jump {l i n' : Nat} {fr' : Fr} {ps : Array Tmp} {assign body c : Code} {D : Nat} {st : LoopState} {L2 : List Asn} [h : HasLp L l i n' fr' ps assign body D st (some c)] [hset : SetI L i anyA L2] (hst : st ≠ .busy) (hq : V P ro w0 n c Q ds fr L2) : rangeEnd P ro w0 n Q ds fr l L :=
  ⟨i, n', fr', ps, assign, body, D, st, some c, h.out, hst, by rw [← hset.out]; exact hq⟩

theorem range_out {ro : Option Nat} {l : Nat} {a : Act} {gf : FuncId} {args : Array Value} {w : World} (hk : Kn n ds a fr) (h : Calls P gf args w fun e w' => ∃ v L', e = .returned v ∧ St w0 w' L' ∧ rangeEnd P ro w0 n Q ds fr l L') :
    CallsIn (fen ro) (0 - 1) P gf args w (rangePost (fen ro) 0 P l (up w0 n Q) a) := by
  refine calls_fen (h.mono ?_)
  rintro e w' ⟨v, L', rfl, hs, i, n', fr', ps, assign, body, D, st, pe, hi, hst, hq⟩
  obtain ⟨fn, tmps, hl⟩ : ∃ fn tmps, w'.heap[l]? = some (.loop { state := st, pending := pe, fn := fn, tmps := tmps, params := ps, assign := assign, body := body, defers := D }) := hs.know i hi (fun F ⟨_, fn, tmps, h, _⟩ => ⟨fn, tmps, h⟩)
  refine ⟨pe, _, run_endLoop (P := P) hl hst, ?_⟩
  have hs2 := hs.putO i hi l (.loop { state := .exhausted, pending := pe, fn := fn, tmps := tmps, params := ps, assign := assign, body := body, defers := D }) (P' := anyA) (fun F hF => hF.1) (fun F _ => trivial)
  cases pe with
  | none => exact ⟨ds, fr, _, hk, hs2, hq⟩
  | some c => exact hq.out a _ hk hs2

/-- A range over a function, in no round. -/
theorem v_range {g : Operand} {ps : Array Tmp} {assign body : Code} {gf : FuncId} {cap : Array Value} (hg : evA fr g = some (.func (.func gf) #[] cap)) [hf : FnB P gf]
    (h : ∀ l D, VC P w0 gf (.func (.yield l) #[] #[] :: cap.toList) (lpA l n fr ps assign body D .ready none :: dfA D :: L) fun _ L' => rangeEnd P none w0 n Q (mkD D :: ds) fr l L') :
    V P none w0 n (.rangeFunc g ps assign body) Q ds fr L := by
  refine ⟨fun a w hk hs => wpIn_rangeFunc fun fn _ => ?_⟩
  have e5 : (#[(.func (.yield (w.heap.size + 1)) #[] #[] : Value)] ++ cap) = (Value.func (.yield (w.heap.size + 1)) #[] #[] :: cap.toList).toArray := by simp
  have hs2 : St w0 ((w.alloc (.deferred (some []))).alloc (.loop { state := .ready, pending := none, fn := fn, tmps := a.tmps, params := ps, assign := assign, body := body, defers := w.heap.size })) (lpA (w.heap.size + 1) n fr ps assign body w.heap.size .ready none :: dfA w.heap.size :: L) := by
    have h1 : St w0 (w.alloc (.deferred (some []))) (dfA w.heap.size :: L) := hs.comp (M := [_]) ⟨(Below.refl _ _).alloc (Nat.le_refl _) _, fun k => k = w.heap.size, ⟨rfl, World.alloc_heap_new w _⟩, fun k hk => by subst hk; exact ⟨Nat.le_refl _, by simp, fun f => f⟩, trivial⟩
    refine h1.comp (M := [_]) ⟨(Below.refl _ _).alloc (Nat.le_refl _) _, fun k => k = w.heap.size + 1, ⟨rfl, fn, a.tmps, ?_, ⟨hk.size, rfl, hk.at'⟩⟩, fun k hk => by subst hk; exact ⟨by simp, by simp, fun f => f⟩, trivial⟩
    have := World.alloc_heap_new (w.alloc (.deferred (some []))) (.loop { state := .ready, pending := none, fn := fn, tmps := a.tmps, params := ps, assign := assign, body := body, defers := w.heap.size })
    rwa [World.size_alloc] at this
  have hge : a.eval g = .func (.func gf) #[] cap := hk.ev hg
  have hen := run_enterLoop_outer (P := P) (w := w) fn a.tmps ps assign body
  obtain ⟨W1, hW1⟩ : ∃ W1, W1 = (w.alloc (.deferred (some []))).alloc (.loop { state := .ready, pending := none, fn := fn, tmps := a.tmps, params := ps, assign := assign, body := body, defers := w.heap.size }) := ⟨_, rfl⟩
  rw [← hW1] at hen hs2
  refine ⟨w.heap.size + 1, [mkD w.heap.size], W1, { target := .fn (.func gf) cap, args := #[.func (.yield (w.heap.size + 1)) #[] #[]] }, W1, gf, #[.func (.yield (w.heap.size + 1)) #[] #[]] ++ cap, W1, hen, ?_, fun _ _ => trivial, ?_, fun hh => absurd hh (by simp [fen, Fence.wide]), ?_⟩
  · simp only [resolve, rangeCall, hge]
    simp [Deferred.ofValue, Act.eval]
  · simp [invoke, hf.out]
  · have hk2 : Kn n (mkD w.heap.size :: ds) { a with defers := [mkD w.heap.size] ++ a.defers } fr := ⟨hk.size, by simp [hk.defers], hk.at'⟩
    refine range_out hk2 ?_
    rw [e5]
    exact (h (w.heap.size + 1) w.heap.size).out _ hs2

/-- .. in a round of another. -/
theorem v_rangeN {l₀ i₀ n₀ D : Nat} {fr₀ : Fr} {ps₀ : Array Tmp} {assign₀ body₀ : Code} {st₀ : LoopState} {pe₀ : Option Code} {g : Operand} {ps : Array Tmp} {assign body : Code} {gf : FuncId} {cap : Array Value} (hg : evA fr g = some (.func (.func gf) #[] cap)) [hf : FnB P gf] [ho : HasLp L l₀ i₀ n₀ fr₀ ps₀ assign₀ body₀ D st₀ pe₀]
    (h : ∀ l, VC P w0 gf (.func (.yield l) #[] #[] :: cap.toList) (lpA l n fr ps assign body D .ready none :: L) fun _ L' => rangeEnd P (some l₀) w0 n Q ds fr l L') :
    V P (some l₀) w0 n (.rangeFunc g ps assign body) Q ds fr L := by
  refine ⟨fun a w hk hs => wpIn_rangeFunc fun fn _ => ?_⟩
  have e5 : (#[(.func (.yield w.heap.size) #[] #[] : Value)] ++ cap) = (Value.func (.yield w.heap.size) #[] #[] :: cap.toList).toArray := by simp
  obtain ⟨fn₀, tmps₀, hl₀⟩ : ∃ fn₀ tmps₀, w.heap[l₀]? = some (.loop { state := st₀, pending := pe₀, fn := fn₀, tmps := tmps₀, params := ps₀, assign := assign₀, body := body₀, defers := D }) := hs.know i₀ ho.out (fun F ⟨_, fn, tmps, h, _⟩ => ⟨fn, tmps, h⟩)
  have hs2 : St w0 (w.alloc (.loop { state := .ready, pending := none, fn := fn, tmps := a.tmps, params := ps, assign := assign, body := body, defers := D })) (lpA w.heap.size n fr ps assign body D .ready none :: L) :=
    hs.comp (M := [_]) ⟨(Below.refl _ _).alloc (Nat.le_refl _) _, fun k => k = w.heap.size, ⟨rfl, fn, a.tmps, World.alloc_heap_new w _, ⟨hk.size, rfl, hk.at'⟩⟩, fun k hk => by subst hk; exact ⟨by simp, by simp, fun f => f⟩, trivial⟩
  have hge : a.eval g = .func (.func gf) #[] cap := hk.ev hg
  have hen := run_enterLoop_inner (P := P) hl₀ fn a.tmps ps assign body
  obtain ⟨W1, hW1⟩ : ∃ W1, W1 = w.alloc (.loop { state := .ready, pending := none, fn := fn, tmps := a.tmps, params := ps, assign := assign, body := body, defers := D }) := ⟨_, rfl⟩
  rw [← hW1] at hen hs2
  refine ⟨w.heap.size, [], W1, { target := .fn (.func gf) cap, args := #[.func (.yield w.heap.size) #[] #[]] }, W1, gf, #[.func (.yield w.heap.size) #[] #[]] ++ cap, W1, hen, ?_, fun _ _ => trivial, ?_, fun hh => absurd hh (by simp [fen, Fence.wide]), ?_⟩
  · simp only [resolve, rangeCall, hge]
    simp [Deferred.ofValue, Act.eval]
  · simp [invoke, hf.out]
  · have hk2 : Kn n ds { a with defers := [] ++ a.defers } fr := ⟨hk.size, by simp [hk.defers], hk.at'⟩
    refine range_out hk2 ?_
    rw [e5]
    exact (h w.heap.size).out _ hs2

/-- Code under a name. -/
class CI (c : Code) (c' : outParam Code) : Prop where
  out : c = c'
theorem v_code {c c' : Code} [h : CI c c'] (hv : V P ro w0 n c' Q ds fr L) : V P ro w0 n c Q ds fr L := by rw [h.out]; exact hv
theorem v_rangeK {g : Operand} {ps : Array Tmp} {assign body : Code} {gf : FuncId} {cap : Array Value} (hg : evA fr g = some (.func (.func gf) #[] cap)) [hf : FnB P gf]
    (h : ∀ l D asg bdy R, CI asg assign → CI bdy body → RI R (fun _ L' => rangeEnd P none w0 n Q (mkD D :: ds) fr l L') → VC P w0 gf (.func (.yield l) #[] #[] :: cap.toList) (lpA l n fr ps asg bdy D .ready none :: dfA D :: L) R) :
    V P none w0 n (.rangeFunc g ps assign body) Q ds fr L := v_range hg (fun l D => h l D assign body _ ⟨rfl⟩ ⟨rfl⟩ ⟨fun _ _ h => h⟩)
theorem v_rangeNK {l₀ i₀ n₀ D : Nat} {fr₀ : Fr} {ps₀ : Array Tmp} {assign₀ body₀ : Code} {st₀ : LoopState} {pe₀ : Option Code} {g : Operand} {ps : Array Tmp} {assign body : Code} {gf : FuncId} {cap : Array Value} (hg : evA fr g = some (.func (.func gf) #[] cap)) [hf : FnB P gf] [ho : HasLp L l₀ i₀ n₀ fr₀ ps₀ assign₀ body₀ D st₀ pe₀]
    (h : ∀ l asg bdy R, CI asg assign → CI bdy body → RI R (fun _ L' => rangeEnd P (some l₀) w0 n Q ds fr l L') → VC P w0 gf (.func (.yield l) #[] #[] :: cap.toList) (lpA l n fr ps asg bdy D .ready none :: L) R) :
    V P (some l₀) w0 n (.rangeFunc g ps assign body) Q ds fr L := v_rangeN hg (fun l => h l assign body _ ⟨rfl⟩ ⟨rfl⟩ ⟨fun _ _ h => h⟩)
/-- How a round's body may be left. -/
def roundQ (ds : List Deferred) (fr : Fr) (K : List Deferred → Fr → List Asn → Prop) (d l n' : Nat) (fr' : Fr) (ps : Array Tmp) (assign body : Code) (D : Nat) : Exit → List Deferred → Fr → List Asn → Prop
  | .normal, ds', _, L' => ds' = [] ∧ ∃ i, L'[i]? = some (lpA l n' fr' ps assign body D .busy none) ∧ K ds ((d, .bool true) :: fr) (L'.set i (lpA l n' fr' ps assign body D .ready none))
  | .ret, ds', _, L' => ds' = [] ∧ ∃ i, L'[i]? = some (lpA l n' fr' ps assign body D .busy none) ∧ K ds ((d, .bool false) :: fr) (L'.set i (lpA l n' fr' ps assign body D .done (some .ret)))
  | .exit id, ds', _, L' => ds' = [] ∧ ∃ i, L'[i]? = some (lpA l n' fr' ps assign body D .busy none) ∧ K ds ((d, .bool false) :: fr) (L'.set i (lpA l n' fr' ps assign body D .done (some (.exit id))))
  | _, _, _, _ => False
theorem roundQ_n {fr1 : Fr} {d l n' i : Nat} {fr' : Fr} {ps : Array Tmp} {assign body : Code} {D : Nat} {L2 : List Asn} [h : HasLp L l i n' fr' ps assign body D .busy none] [hset : SetI L i (lpA l n' fr' ps assign body D .ready none) L2] (hK : K ds ((d, .bool true) :: fr) L2) : roundQ ds fr K d l n' fr' ps assign body D .normal [] fr1 L := ⟨rfl, i, h.out, by rw [← hset.out]; exact hK⟩
theorem roundQ_r {fr1 : Fr} {d l n' i : Nat} {fr' : Fr} {ps : Array Tmp} {assign body : Code} {D : Nat} {L2 : List Asn} [h : HasLp L l i n' fr' ps assign body D .busy none] [hset : SetI L i (lpA l n' fr' ps assign body D .done (some .ret)) L2] (hK : K ds ((d, .bool false) :: fr) L2) : roundQ ds fr K d l n' fr' ps assign body D .ret [] fr1 L := ⟨rfl, i, h.out, by rw [← hset.out]; exact hK⟩
theorem roundQ_e {fr1 : Fr} {d l n' i id : Nat} {fr' : Fr} {ps : Array Tmp} {assign body : Code} {D : Nat} {L2 : List Asn} [h : HasLp L l i n' fr' ps assign body D .busy none] [hset : SetI L i (lpA l n' fr' ps assign body D .done (some (.exit id))) L2] (hK : K ds ((d, .bool false) :: fr) L2) : roundQ ds fr K d l n' fr' ps assign body D (.exit id) [] fr1 L := ⟨rfl, i, h.out, by rw [← hset.out]; exact hK⟩

def noQ : Exit → List Deferred → Fr → List Asn → Prop := fun _ _ _ _ => False

/-- A call of yield: one round. -/
theorem vo_yield {y l i n' D : Nat} {fr' : Fr} {ps : Array Tmp} {assign body : Code} {xs : Array Operand} {ts : Array TypeId} {args : List Value} {L1 : List Asn} (hy : look fr y = some (.func (.yield l) #[] #[])) (hx : evAs fr xs.toList = some args) [hl : HasLp L l i n' fr' ps assign body D .ready none] [hset : SetI L i (lpA l n' fr' ps assign body D .busy none) L1] (hps : ps.toList.all (Nat.blt · n') = true) (hlen : Nat.beq args.length ps.toList.length = true) (hdn : Nat.blt d n = true)
    (h : V P (some l) w0 n' assign (thn (fun ds1 fr1 L2 => ds1 = [] ∧ ∃ j L3, L2[j]? = some (lpA l n' fr' ps assign body D .ready none) ∧ L3 = L2.set j (lpA l n' fr' ps assign body D .busy none) ∧ V P (some l) w0 n' body (roundQ ds fr K d l n' fr' ps assign body D) [] fr1 L3) noQ) [] (updP fr' ps.toList args) L) :
    VO P ro w0 n ⟨some d, .call { callee := .value (.tmp y), args := xs, argTypes := ts }, ty, pos, after, gd⟩ K Q ds fr L := by
  refine ⟨fun a w hk hs => ⟨fun _ _ => trivial, ?_⟩⟩
  obtain ⟨fn, tmps, hw, hkt⟩ : ∃ fn tmps, w.heap[l]? = some (.loop { state := .ready, pending := none, fn := fn, tmps := tmps, params := ps, assign := assign, body := body, defers := D }) ∧ Kn n' [] { tmps := tmps, defers := [] } fr' := hs.know i hl.out (fun F ⟨_, fn, tmps, h, h'⟩ => ⟨fn, tmps, h, h'⟩)
  have hlen' : args.length = ps.size := by have := Nat.eq_of_beq_eq_true hlen; simpa using this
  have hyr := run_yield (P := P) (args := args.toArray) hw (by simpa using hlen')
  have e0 : ∀ o : Oper, (∀ c, o.op ≠ .defer c) → o.semAt (fen ro).round a.eval = execOp a.eval o := fun o ho => Oper.semAt_eq _ _ _ ho
  have e1 : (execOp a.eval ⟨some d, .call { callee := .value (.tmp y), args := xs, argTypes := ts }, ty, pos, after, gd⟩).run P w = ((do let d ← Deferred.ofValue (a.eval (.tmp y)) (xs.map a.eval); invoke d.target d.args) : Sem Next).run P w := rfl
  have e2 : xs.map a.eval = args.toArray := Array.ext' (by rw [Array.toList_map, hk.evs _ _ hx])
  have e3 : a.eval (.tmp y) = .func (.yield l) #[] #[] := hk.ev (x := .tmp y) hy
  have e4 : ((do let d ← Deferred.ofValue (.func (.yield l) #[] #[]) args.toArray; invoke d.target d.args) : Sem Next).run P w = (Instr.yield l (#[] ++ args.toArray)).run P w := rfl
  rw [e0 _ (fun _ => by simp), e1, e3, e2, e4, Array.empty_append, hyr]
  simp only [Oper.uponIn]
  refine ⟨fen_room ro, roundIn_of_wpIn trivial ?_⟩
  have hk0 : Kn n' [] { tmps := (ps.zip args.toArray).foldl (fun tmps (t, a) => tmps.setIfInBounds t a) tmps, defers := [] } (updP fr' ps.toList args) := by
    have := kn_updP (ds := []) ps.toList args tmps fr' hps hkt
    have ez : (ps.zip args.toArray).foldl (fun (tmps : Array Value) (x : Nat × Value) => match x with | (t, a) => tmps.setIfInBounds t a) tmps = (ps.toList.zip args).foldl (fun t (p : Nat × Value) => t.setIfInBounds p.1 p.2) tmps := by
      rw [← Array.foldl_toList]
      simp
    exact ez ▸ this
  refine wpIn_mono (h.out _ w hk0 hs) ?_
  rintro e a1 w1 ⟨ds1, fr1, L2, k1, s1, hh⟩
  cases e with
  | normal =>
    obtain ⟨rfl, j, L3, hj, rfl, hb⟩ := hh
    obtain ⟨fn1, tmps1, hw1, hkt1⟩ : ∃ fn tmps, w1.heap[l]? = some (.loop { state := .ready, pending := none, fn := fn, tmps := tmps, params := ps, assign := assign, body := body, defers := D }) ∧ Kn n' [] { tmps := tmps, defers := [] } fr' := s1.know j hj (fun F ⟨_, fn, tmps, h, h'⟩ => ⟨fn, tmps, h, h'⟩)
    have hlt : l < w1.heap.size := (Array.getElem?_eq_some_iff.1 hw1).1
    refine ⟨_, run_beginRound hw1 rfl, ?_⟩
    have s2 := s1.putO j hj l (.loop { state := .busy, pending := none, fn := fn1, tmps := tmps1, params := ps, assign := assign, body := body, defers := D }) (P' := lpA l n' fr' ps assign body D .busy none) (fun F hF => hF.1) (fun F hF => ⟨hF.1, fn1, tmps1, World.putObj_heap_same hlt, hkt1⟩)
    refine wpIn_mono (hb.out _ _ k1 s2) ?_
    rintro e a3 w3 ⟨ds3, fr3, L4, k3, s3, hq⟩
    have fin : ∀ (jump : Option Code) (i' : Nat), L4[i']? = some (lpA l n' fr' ps assign body D .busy none) → ∃ w4, (Instr.endRound l jump).run P w3 = .ok (.bool jump.isNone) w4 ∧ St w0 w4 (L4.set i' (lpA l n' fr' ps assign body D (if jump.isNone then .ready else .done) jump)) := fun jump i' hi' => by
      obtain ⟨fn4, tmps4, hw4, hkt4⟩ : ∃ fn tmps, w3.heap[l]? = some (.loop { state := .busy, pending := none, fn := fn, tmps := tmps, params := ps, assign := assign, body := body, defers := D }) ∧ Kn n' [] { tmps := tmps, defers := [] } fr' := s3.know i' hi' (fun F ⟨_, fn, tmps, h, h'⟩ => ⟨fn, tmps, h, h'⟩)
      have hlt4 : l < w3.heap.size := (Array.getElem?_eq_some_iff.1 hw4).1
      exact ⟨_, run_endRound jump hw4, s3.putO i' hi' l _ (fun F hF => hF.1) (fun F hF => ⟨hF.1, fn4, tmps4, World.putObj_heap_same hlt4, hkt4⟩)⟩
    cases e with
    | normal =>
      obtain ⟨rfl, i', hi', hK⟩ := hq
      obtain ⟨w4, hr4, s4⟩ := fin none i' hi'
      exact ⟨_, w4, hr4, ds, _, _, hk.put d _ hdn, s4, hK⟩
    | ret =>
      obtain ⟨rfl, i', hi', hK⟩ := hq
      obtain ⟨w4, hr4, s4⟩ := fin (some .ret) i' hi'
      exact ⟨_, w4, hr4, ds, _, _, hk.put d _ hdn, s4, hK⟩
    | exit id =>
      obtain ⟨rfl, i', hi', hK⟩ := hq
      obtain ⟨w4, hr4, s4⟩ := fin (some (.exit id)) i' hi'
      exact ⟨_, w4, hr4, ds, _, _, hk.put d _ hdn, s4, hK⟩
    | _ => exact hq.elim
  | _ => exact hh.elim
theorem vo_yieldK {y l i n' D : Nat} {fr' : Fr} {ps : Array Tmp} {assign body : Code} {xs : Array Operand} {ts : Array TypeId} {args : List Value} {L1 : List Asn} (hy : look fr y = some (.func (.yield l) #[] #[])) (hx : evAs fr xs.toList = some args) [hl : HasLp L l i n' fr' ps assign body D .ready none] [hset : SetI L i (lpA l n' fr' ps assign body D .busy none) L1] (hps : ps.toList.all (Nat.blt · n') = true) (hlen : Nat.beq args.length ps.toList.length = true) (hdn : Nat.blt d n = true)
    (h : ∀ K', KI K' K → V P (some l) w0 n' assign (thn (fun ds1 fr1 L2 => ds1 = [] ∧ ∃ j L3, L2[j]? = some (lpA l n' fr' ps assign body D .ready none) ∧ L3 = L2.set j (lpA l n' fr' ps assign body D .busy none) ∧ V P (some l) w0 n' body (roundQ ds fr K' d l n' fr' ps assign body D) [] fr1 L3) noQ) [] (updP fr' ps.toList args) L) :
    VO P ro w0 n ⟨some d, .call { callee := .value (.tmp y), args := xs, argTypes := ts }, ty, pos, after, gd⟩ K Q ds fr L := vo_yield hy hx hps hlen hdn (h K ⟨fun _ _ _ h => h⟩)
/-- Behind the assignment to the loop's left sides. -/
theorem beginR {l n' j : Nat} {fr1 fr' : Fr} {ps : Array Tmp} {assign body : Code} {D : Nat} {L3 : List Asn} {R : Exit → List Deferred → Fr → List Asn → Prop} [h : HasLp L l j n' fr' ps assign body D .ready none] [hset : SetI L j (lpA l n' fr' ps assign body D .busy none) L3] (hb : V P (some l) w0 n' body R [] fr1 L3) :
    ([] : List Deferred) = [] ∧ ∃ j L3, L[j]? = some (lpA l n' fr' ps assign body D .ready none) ∧ L3 = L.set j (lpA l n' fr' ps assign body D .busy none) ∧ V P (some l) w0 n' body R [] fr1 L3 := ⟨rfl, j, L3, h.out, hset.out, hb⟩

/-- A function that holds a range over a function leaves. -/
theorem ret_mark {fn : Func} {R : Value → List Asn → Prop} {D i : Nat} {L2 : List Asn} [h : HasDf L D i] [hset : SetI L i anyA L2] (hq : retQ P w0 n fn R .ret ds fr L2) : retQ P w0 n fn R .ret (mkD D :: ds) fr L := by
  intro a w hk hs
  have hw : w.heap[D]? = some (.deferred (some [])) := hs.know i h.out (fun F hF => hF.2)
  have hs2 := hs.putO i h.out D (.deferred none) (P' := anyA) (fun F hF => hF.1) (fun F _ => trivial)
  refine ⟨by simp, .inl ⟨D, _, rfl, run_takeDeferred hw, ?_⟩⟩
  exact hq { a with defers := ds } _ ⟨hk.size, rfl, hk.at'⟩ (by rw [hset.out]; exact hs2)
end
end Go.Proofs.YtpnhgmmijkjmlaaDoor

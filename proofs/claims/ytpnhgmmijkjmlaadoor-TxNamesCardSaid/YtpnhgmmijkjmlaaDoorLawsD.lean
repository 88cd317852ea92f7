/-
  A region that draws its order: what only reads is taken first; the rest comes up in its order.
-/
import Derived.Test.YtpnhgmmijkjmlaaDoorLawsC
import Derived.Deep.RegionHeld3
namespace Go.Proofs.YtpnhgmmijkjmlaaDoor
open Go Go.RowKit

section
variable {P : Program} {ops : Array Oper} {Q : Exit → Act → World → Prop} {S : World → Prop}

/-- Number i reads only: it is taken first. -/
theorem tq {i : Nat} {oi : Oper} {v : Value} {fuel : Nat} {listed : Array Bool} {a : Act} {w : World} (hl : ops.toList[i]? = some oi)
    (hc : (Region.noSelect ops && (Region.free .any ops listed i && (Region.ready .any ops listed).contains i)) = true) (hQ : ∀ c a w, Q (.panic c) (a.put oi.dst v) w → Q (.panic c) a w)
    (hw : Region.wanted oi (yielded ops a.tmps) = true) (hy : ∀ W, S W → (execOp a.eval oi).run P W = .ok (.value v) W) (hS : S w)
    (h : wpAnyH P .any ops Q S fuel (listed.setIfInBounds i true) (a.put oi.dst v) w) : wpAnyH P .any ops Q S (fuel + 1) listed a w := by
  have hi : ops[i]? = some oi := by rw [← hl]; simp
  rw [Bool.and_eq_true, Bool.and_eq_true] at hc
  exact wpAnyH_take hi hc.1 hc.2.1 hc.2.2 hQ (.inl ⟨hw, hy⟩) hS h

/-- Number i is not asked for. -/
theorem tu {i : Nat} {oi : Oper} {fuel : Nat} {listed : Array Bool} {a : Act} {w : World} (hl : ops.toList[i]? = some oi)
    (hc : (Region.noSelect ops && (Region.free .any ops listed i && (Region.ready .any ops listed).contains i)) = true) (hQ : ∀ c a w, Q (.panic c) (a.put oi.dst undef) w → Q (.panic c) a w)
    (hw : Region.wanted oi (yielded ops a.tmps) = false) (hS : S w)
    (h : wpAnyH P .any ops Q S fuel (listed.setIfInBounds i true) (a.put oi.dst undef) w) : wpAnyH P .any ops Q S (fuel + 1) listed a w := by
  have hi : ops[i]? = some oi := by rw [← hl]; simp
  rw [Bool.and_eq_true, Bool.and_eq_true] at hc
  exact wpAnyH_take hi hc.1 hc.2.1 hc.2.2 hQ (.inr ⟨hw, rfl⟩) hS h

/-- Number i alone may come up. -/
theorem t1 {i : Nat} {oi : Oper} {fuel : Nat} {listed : Array Bool} {a : Act} {w : World} (hr : Region.ready .any ops listed = [i]) (hl : ops.toList[i]? = some oi)
    (hw : Region.wanted oi (yielded ops a.tmps) = true) (h : Runs P oi a w (fun a' w' => S w' ∧ wpAnyH P .any ops Q S fuel (listed.setIfInBounds i true) a' w') Q) : wpAnyH P .any ops Q S (fuel + 1) listed a w :=
  wpAnyH_all hr (by simp) (fun j hj => by
    obtain rfl := List.mem_singleton.1 hj
    have hi : ops[j]? = some oi := by rw [← hl]; simp
    exact og hi hw h)

/-- A call of a Go function. -/
theorem wp_call {o : Oper} {a : Act} {w : World} {K : Act → World → Prop} (f : FuncId) (args : Array Value) (hr : (execOp a.eval o).run P w = .ok (.enter f args) w)
    (h : Calls P f args w fun e w' => ∃ v, e = .returned v ∧ K (a.put o.dst v) w') : Runs P o a w K Q := by
  constructor
  unfold Oper.wp
  rw [hr]
  exact h.mono fun e w' ⟨v, he, hk⟩ => by subst he; exact hk

theorem rgn {id : Nat} {a : Act} {w : World} (S : World → Prop) (hm : P.follows .mixedOrders = true) (_hS : S w.drew)
    (h : wpAnyH P .any ops Q S ops.size (Array.replicate ops.size false) a w.drew) : (Code.region id ops true).wp P Q a w := wp_region_held hm h

/-- In a region: what it makes is said of the world in which it begins. -/
def Since (w W : World) : Prop := Below w.heap.size w W
theorem Since.drew (w : World) : Since w w.drew := (Below.refl _ _).drew
theorem St.since {w W : World} {L : List Asn} (h : St w W L) : Since w W := h.below
theorem Rc.since {w W : World} {a : Option Addr} {vs : List Value} (h : Rc w a vs) (hs : Since w W) : Rc W a vs := h.below hs
theorem since_cell {w W : World} {p : Addr} {v : Value} (h : w.cell? p = some v) (hs : Since w W) : W.cell? p = some v := by
  rw [Below.cell hs (World.block_lt_of_cell? _ _ h)]; exact h

variable {w : World} {o : Oper} {a : Act} {K : Act → World → Prop}
theorem run_load1 (e : TypeId) (x : Operand) (ho : o.op = .load e x) (b off : Nat) (hx : a.eval x = .pointer (some ⟨b, off, none⟩)) {size bytes : Nat} {z : List Value} (ht : TyI P e false size bytes z)
    (v : Value) (hc : w.cell? ⟨b, off, none⟩ = some v) : (execOp a.eval o).run P w = .ok (.value v) w := by
  simp [execOp, ho, Instr.loadAt, Instr.sureAddr, hx, loadVar, ht.run_isAgg, hc]
theorem run_loadAgg (e : TypeId) (x : Operand) (ho : o.op = .load e x) (b off : Nat) (hx : a.eval x = .pointer (some ⟨b, off, none⟩)) {size bytes : Nat} {z : List Value} (ht : TyI P e true size bytes z)
    (vs : List Value) (hc : Rc w (some ⟨b, off, none⟩) vs) (hl : vs.length = size) : (execOp a.eval o).run P w = .ok (.value (.agg vs.toArray)) w := by
  simp [execOp, ho, Instr.loadAt, Instr.sureAddr, hx, loadAgg_run ht hl hc]

/-- A slice of one element, written out. -/
theorem wp_buildSlice1 {w0 : World} {L : List Asn} (t : TypeId) (x : Operand) (ho : o.op = .buildSlice t 1 #[(0, x)]) {e : TypeId} {agg : Bool} {size bytes : Nat} {z : List Value} (ht : SlI P t e agg size bytes z) (hs : St w0 w L) (vs : List Value) (hx : (a.eval x).cells.toList = vs) (hl : vs.length = size)
    (hsz : size ≤ 16777216) (h : ∀ g w', St w0 w' (own e size (some ⟨g, 0, none⟩) 1 1 vs :: L) → K (a.put o.dst (.slice (some ⟨g, 0, none⟩) 1 1)) w') : Runs P o a w K Q := by
  obtain ⟨zv, hz, hzl⟩ := ht.el.run_zero w
  have hzs : zv.cells.size = size := by rw [← ht.el.len, ← hzl]; simp
  have hpos := ht.el.pos
  have hxs : (a.eval x).cells.size = size := by rw [← hl, ← hx]; simp
  refine wp_val (v := .slice (some ⟨w.heap.size, 0, none⟩) 1 1) (w' := w.alloc (.cells vs.toArray e)) ?_ (h _ _ ?_)
  · have hr := fill_run (fun i => some (i * size, size)) [(0, size)] (fun i hi => by simp at hi; subst hi; simp) [(0, a.eval x)] ((Array.range (1 * size)).map fun x => zv.cells[x % zv.cells.size]!) (fun p hp => by
      simp only [List.map_cons, List.map_nil, List.mem_singleton] at hp
      subst hp
      exact ⟨by simp, by simp [hxs], by simp [hxs]⟩)
    simp only [List.map_cons, List.map_nil, hx, fillS] at hr
    have hsp : splice ((Array.range (1 * size)).map fun x => zv.cells[x % zv.cells.size]!).toList (([(0, size)] : List (Nat × Nat)).getD 0 (0, 0)).1 vs = vs := splice_all _ _ (by simp [hl])
    rw [hsp] at hr
    have hn : ¬ (1 * size > 2 ^ 24) := by omega
    have hn0 : ¬ (1 * size = 0) := by omega
    simp only [execOp, ho, Instr.buildSlice, Sem.run_bind, run_underlying ht.sl, Result.andThen_ok, ht.el.run_size, hn, if_false, hn0, hz, Sem.run_pure]
    have hmap : (#[(0, x)] : Array (Nat × Operand)).map (fun x => match x with | (i, x) => (i, a.eval x)) = #[(0, a.eval x)] := by simp
    simp only [hmap]
    rw [hr]
    rfl
  · have := (hs.alloc vs.toArray e).turn 0 (P' := own e size (some ⟨w.heap.size, 0, none⟩) 1 1 vs) rfl (fun F => blk.own (size := size) (n := 1) (by simp [hl]) (by simp [maxLen]) _ F)
    simpa using this
end

end Go.Proofs.YtpnhgmmijkjmlaaDoor

/-
  The operations on memory as laws for a walk over assertions: worlds and block numbers stay variables; what is known is said by St.
-/
import Derived.Test.YtpnhgmmijkjmlaaDoorBase
import Derived.Laws.CopyOwn
import Derived.Deep.QuietTactic
import Derived.BigQuiet
namespace Go.Proofs.YtpnhgmmijkjmlaaDoor
open Go Go.RowKit

theorem addr_add (b o n : Nat) : (⟨b, o, none⟩ : Addr).add n = ⟨b, o + n, none⟩ := Addr.add_lit b o n

/-! ### Types, out of the program's table -/
def aggB : TypeDesc → Bool | .struct _ | .array _ _ => true | _ => false

/-- An element or variable type: its cells, its bytes, its zero's cells. -/
class TyI (P : Program) (e : TypeId) (agg : outParam Bool) (size bytes : outParam Nat) (z : outParam (List Value)) : Prop where
  und : (P.underlying e).map aggB = some agg
  info : ∃ i zv, P.info? e = some i ∧ i.zero = some zv ∧ zv.cells.toList = z ∧ i.size = size ∧ i.bytes = bytes
  len : z.length = size
  pos : 0 < size

theorem TyI.of {P : Program} {e : TypeId} {agg : Bool} {size bytes : Nat} {zv : Value} (hu : (P.underlying e).map aggB = some agg) (h : (P.info? e).map (fun i => (i.zero, i.size, i.bytes)) = some (some zv, size, bytes)) {z : List Value} (hz : zv.cells.toList = z) (hl : z.length = size)
    (hp : 0 < size) : TyI P e agg size bytes z := by
  obtain ⟨i, h1, h2, h3, h4⟩ := info_parts h
  exact ⟨hu, ⟨i, zv, h1, h2, hz, h3, h4⟩, hl, hp⟩

theorem TyI.run_isAgg {P : Program} {e : TypeId} {agg : Bool} {size bytes : Nat} {z : List Value} (h : TyI P e agg size bytes z) (w : World) : (isAgg e).run P w = .ok agg w := by
  have hu := h.und
  cases hd : P.underlying e with
  | none => simp [hd] at hu
  | some d =>
    have ha : aggB d = agg := by simpa [hd] using hu
    unfold isAgg
    rw [Sem.run_bind, run_underlying hd w]
    cases d <;> simp_all [aggB]

theorem TyI.run_size {P : Program} {e : TypeId} {agg : Bool} {size bytes : Nat} {z : List Value} (h : TyI P e agg size bytes z) (w : World) : (sizeOf e).run P w = .ok size w := by
  obtain ⟨i, zv, h1, h2, h3, h4, h5⟩ := h.info
  simp [sizeOf, typeInfo, h1, h4]

theorem TyI.run_zero {P : Program} {e : TypeId} {agg : Bool} {size bytes : Nat} {z : List Value} (h : TyI P e agg size bytes z) (w : World) : ∃ zv, (zeroValue e).run P w = .ok zv w ∧ zv.cells.toList = z := by
  obtain ⟨i, zv, h1, h2, h3, h4, h5⟩ := h.info
  exact ⟨zv, by simp [zeroValue, typeInfo, h1, h2], h3⟩

/-! ### Assertions on rows of cells -/
/-- Block g holds just these cells. -/
def blk (g : Nat) (t : TypeId) (cs : List Value) : Asn where
  holds w F := F g ∧ w.heap[g]? = some (.cells cs.toArray t (0, 0))
  loc h hs := ⟨h.1, (hs g h.1).trans h.2⟩
  mono h hF := ⟨hF _ h.1, h.2⟩

/-- A slice of n elements (of 'size' cells), its cells xs, in memory of the call's own. -/
def own (e : TypeId) (size : Nat) (a : Option Addr) (n cap : Nat) (xs : List Value) : Asn where
  holds w F := xs.length = n * size ∧ ((a = none ∧ n = 0 ∧ cap = 0) ∨ ∃ g off cs, a = some ⟨g, off, none⟩ ∧ F g ∧ w.heap[g]? = some (.cells (List.toArray cs) e (0, 0)) ∧ n ≤ cap ∧ cap ≤ maxLen ∧ off + cap * size ≤ cs.length ∧ (cs.drop off).take (n * size) = xs)
  loc := by
    rintro w w' F ⟨h0, h⟩ hs
    refine ⟨h0, h.imp id ?_⟩
    rintro ⟨g, off, cs, h1, h2, h3, h4⟩
    exact ⟨g, off, cs, h1, h2, (hs g h2).trans h3, h4⟩
  mono := by
    rintro w F G ⟨h0, h⟩ hs
    refine ⟨h0, h.imp id ?_⟩
    rintro ⟨g, off, cs, h1, h2, h4⟩
    exact ⟨g, off, cs, h1, hs g h2, h4⟩

/-- Where a slice's address leads the cells vs can be read. -/
def Rc (w : World) (a : Option Addr) (vs : List Value) : Prop := vs = [] ∨ ∃ b off, a = some ⟨b, off, none⟩ ∧ ∀ j u, vs[j]? = some u → w.cell? ⟨b, off + j, none⟩ = some u

theorem Rc.nil (w : World) (a : Option Addr) : Rc w a [] := .inl rfl

theorem Rc.read {w : World} {a : Option Addr} {vs : List Value} (h : Rc w a vs) (hp : vs ≠ []) : ∃ b off, a = some ⟨b, off, none⟩ ∧ ∀ j u, vs[j]? = some u → w.cell? ⟨b, off + j, none⟩ = some u := h.resolve_left hp

theorem Rc.at {w : World} {a : Option Addr} {vs : List Value} (h : Rc w a vs) (k : Nat) (hk : k < vs.length) : ∃ b off, a = some ⟨b, off, none⟩ ∧ w.cell? ⟨b, off + k, none⟩ = some vs[k] := by
  rcases h with rfl | ⟨b, off, h1, h2⟩
  · simp at hk
  · exact ⟨b, off, h1, h2 k _ (by simp [hk])⟩

theorem Rc.below {w w' : World} {a : Option Addr} {vs : List Value} (h : Rc w a vs) (hb : Below w.heap.size w w') : Rc w' a vs := by
  rcases h with rfl | ⟨b, off, rfl, h2⟩
  · exact .inl rfl
  · exact .inr ⟨b, off, rfl, fun j u hu => by
      have hc := h2 j u hu
      rw [hb.cell (p := ⟨b, off + j, none⟩) (World.block_lt_of_cell? _ _ hc)]
      exact hc⟩

theorem Rc.st {w0 w : World} {L : List Asn} {a : Option Addr} {vs : List Value} (h : Rc w0 a vs) (hs : St w0 w L) : Rc w a vs := h.below hs.below

theorem Rc.drewN {w : World} {a : Option Addr} {vs : List Value} (h : Rc w a vs) (n : Nat) : Rc (w.drewN n) a vs := h
theorem Rc.drew {w : World} {a : Option Addr} {vs : List Value} (h : Rc w a vs) : Rc w.drew a vs := h

/-- Where the cut's address leads. -/
def subA (a : Option Addr) (l m s : Nat) : Option Addr := if m = l then a else a.map (·.add (l * s))

theorem Rc.sub {w : World} {a : Option Addr} {vs : List Value} (h : Rc w a vs) (l m s : Nat) (us : List Value) (hu : ∀ j u, us[j]? = some u → vs[l * s + j]? = some u) (hm : m = l → us = []) : Rc w (subA a l m s) us := by
  by_cases h0 : us = []
  · exact .inl h0
  · have hml : ¬ m = l := fun e => h0 (hm e)
    have : vs ≠ [] := by
      rintro rfl
      obtain ⟨x, us', rfl⟩ := List.exists_cons_of_ne_nil h0
      simpa using hu 0 x rfl
    obtain ⟨b, off, rfl, h2⟩ := h.read this
    refine .inr ⟨b, off + l * s, by simp [subA, hml, addr_add], fun j u hj => ?_⟩
    rw [Nat.add_assoc]
    exact h2 _ _ (hu j u hj)

/-- The part of the cells from k on. -/
theorem Rc.part {w : World} {b off : Nat} {vs : List Value} (h : Rc w (some ⟨b, off, none⟩) vs) (k : Nat) (us : List Value) (hu : ∀ j u, us[j]? = some u → vs[k + j]? = some u) : Rc w (some ⟨b, off + k, none⟩) us := by
  by_cases h0 : us = []
  · exact .inl h0
  · have : vs ≠ [] := by
      rintro rfl
      obtain ⟨x, us', rfl⟩ := List.exists_cons_of_ne_nil h0
      simpa using hu 0 x rfl
    obtain ⟨b', off', e, h2⟩ := h.read this
    cases e
    exact .inr ⟨b, off + k, rfl, fun j u hj => by rw [Nat.add_assoc]; exact h2 _ _ (hu j u hj)⟩

theorem blk.rc {g : Nat} {t : TypeId} {cs : List Value} {w : World} {F : Nat → Prop} (h : (blk g t cs).holds w F) : Rc w (some ⟨g, 0, none⟩) cs :=
  .inr ⟨g, 0, rfl, fun j u hj => by
    rw [cell_of_row w g (0 + j) cs.toArray t (0, 0) h.2]
    simpa using hj⟩

theorem St.rcBlk {w0 w : World} {L : List Asn} (h : St w0 w L) (i : Nat) {g : Nat} {t : TypeId} {cs : List Value} (hi : L[i]? = some (blk g t cs)) : Rc w (some ⟨g, 0, none⟩) cs := h.know i hi (fun _ hF => blk.rc hF)

/-- A cell of a block of the call's own. -/
theorem St.cellBlk {w0 w : World} {L : List Asn} (h : St w0 w L) (i : Nat) {g : Nat} {t : TypeId} {cs : List Value} (hi : L[i]? = some (blk g t cs)) (k : Nat) {v : Value} (hk : cs[k]? = some v) : w.cell? ⟨g, k, none⟩ = some v := by
  have hg : w.heap[g]? = some (.cells cs.toArray t (0, 0)) := h.know i hi (fun _ hF => hF.2)
  rw [cell_of_row w g k cs.toArray t (0, 0) hg]
  simpa using hk

theorem own.rc {e : TypeId} {size : Nat} {a : Option Addr} {n cap : Nat} {xs : List Value} {w : World} {F : Nat → Prop} (h : (own e size a n cap xs).holds w F) : Rc w a xs := by
  obtain ⟨h0, h⟩ := h
  rcases h with ⟨_, rfl, _⟩ | ⟨g, off, cs, rfl, _, hg, _, _, _, hx⟩
  · exact .inl (List.eq_nil_of_length_eq_zero (by simpa using h0))
  · refine .inr ⟨g, off, rfl, fun j u hj => ?_⟩
    rw [cell_of_row w g (off + j) cs.toArray e (0, 0) hg]
    rw [← hx, List.getElem?_take] at hj
    split at hj
    · simpa using hj
    · cases hj

theorem St.rcOwn {w0 w : World} {L : List Asn} (h : St w0 w L) (i : Nat) {e : TypeId} {size : Nat} {a : Option Addr} {n cap : Nat} {xs : List Value} (hi : L[i]? = some (own e size a n cap xs)) : Rc w a xs := h.know i hi (fun _ hF => own.rc hF)

theorem St.ownLen {w0 w : World} {L : List Asn} (h : St w0 w L) (i : Nat) {e : TypeId} {size : Nat} {a : Option Addr} {n cap : Nat} {xs : List Value} (hi : L[i]? = some (own e size a n cap xs)) : xs.length = n * size ∧ n ≤ cap ∧ cap ≤ maxLen := h.know i hi (fun _ hF => by
  obtain ⟨h0, h⟩ := hF
  rcases h with ⟨_, rfl, rfl⟩ | ⟨g, off, cs, rfl, _, hg, h1, h2, _⟩
  · exact ⟨h0, Nat.le_refl _, Nat.zero_le _⟩
  · exact ⟨h0, h1, h2⟩)

/-- A nil slice owns nothing: it can always be listed. -/
theorem St.nil {w0 w : World} {L : List Asn} (h : St w0 w L) (e : TypeId) (size : Nat) : St w0 w (own e size none 0 0 [] :: L) :=
  ⟨h.1, fun _ => False, ⟨by simp, .inl ⟨rfl, rfl, rfl⟩⟩, fun _ hk => hk.elim, h.2.sub (fun _ hk => hk.elim id id)⟩

/-- A new block. -/
theorem St.alloc {w0 w : World} {L : List Asn} (h : St w0 w L) (cs : Array Value) (t : TypeId) : St w0 (w.alloc (.cells cs t)) (blk w.heap.size t cs.toList :: L) := by
  refine h.comp (M := [_]) ⟨(Below.refl _ _).alloc (Nat.le_refl _) _, fun k => k = w.heap.size, ⟨rfl, by simpa using heap_alloc_new w _⟩, fun k hk => ?_, trivial⟩
  subst hk
  exact ⟨Nat.le_refl _, by simp, fun f => f⟩

theorem St.drew {w0 w : World} {L : List Asn} (h : St w0 w L) : St w0 w.drew L := ⟨h.1.drew, SL.same (w := w) (w' := w.drew) (Nat.le_refl _) h.2 (fun _ _ _ _ => rfl)⟩
theorem St.drewN {w0 w : World} {L : List Asn} (h : St w0 w L) (n : Nat) : St w0 (w.drewN n) L := h.grow ⟨rfl, rfl, rfl, Nat.le_refl _, fun _ _ => rfl⟩

/-- A block as an own slice of all of its cells. -/
theorem blk.own {g : Nat} {t : TypeId} {cs : List Value} {size n : Nat} (hn : cs.length = n * size) (hm : n ≤ maxLen) : ∀ w F, (blk g t cs).holds w F → (own t size (some ⟨g, 0, none⟩) n n cs).holds w F := by
  rintro w F ⟨h1, h2⟩
  exact ⟨hn, .inr ⟨g, 0, cs, rfl, h1, h2, Nat.le_refl _, hm, by omega, by rw [← hn]; simp⟩⟩

/-- Cells of a block of the call's own turned. -/
theorem St.setRow {w0 w : World} {L : List Asn} (h : St w0 w L) (i : Nat) {P P' : Asn} (hi : L[i]? = some P) (g : Nat) (cs : Array Value) (hg : ∀ F, P.holds w F → F g) (hp : ∀ F, P.holds w F → P'.holds (w.setRow g cs) F) : St w0 (w.setRow g cs) (L.set i P') := by
  obtain ⟨F0, hF0, hF0b⟩ := h.get i hi
  have hgb := hF0b g (hg F0 hF0)
  exact h.upd i hi (by simp) rfl rfl rfl (fun k hk => setRow_other w g k cs (by omega))
    (fun F hF _ => ⟨fun k _ _ hn => setRow_other w g k cs (fun e => hn (e ▸ hg F hF)), P'.mono (hp F hF) (fun _ hk => .inl hk)⟩)

theorem splice_all {α : Type} (cs vs : List α) (h : vs.length = cs.length) : splice cs 0 vs = vs := by
  simp [splice, h]
theorem splice_mid {α : Type} (x y z v : List α) (k : Nat) (hk : x.length = k) (h : v.length = y.length) : splice (x ++ (y ++ z)) k v = x ++ (v ++ z) := by
  subst hk
  rw [splice, List.take_left, List.drop_append, h]
  simp
/-! ### The laws -/
section
variable {P : Program} {w0 w : World} {L : List Asn} {o : Oper} {a : Act} {K : Act → World → Prop} {Q : Exit → Act → World → Prop}

/-- One operation, carried out (a structure: so that nobody looks into it). -/
structure Runs (P : Program) (o : Oper) (a : Act) (w : World) (K : Act → World → Prop) (Q : Exit → Act → World → Prop) : Prop where
  out : o.wp P a w K Q

/-- The laws speak of one operation; here they meet a list of operations, and a region in whatever order. -/
theorem lg {ops : Array Oper} {rest : List Oper} (h : Runs P o a w (wpList P ops Q rest) Q) (hw : Region.wanted o (yielded ops a.tmps) = true := by rfl) : wpList P ops Q (o :: rest) a w :=
  BigFrame.wpList_want hw fun _ hK => Oper.wp_mono (fun _ _ h => hK _ _ h) h.out

theorem og {ops : Array Oper} {i : Nat} (hi : ops[i]? = some o) (hw : Region.wanted o (yielded ops a.tmps) = true) (h : Runs P o a w K Q) : wpOp P ops Q i K a w := by
  unfold wpOp
  simp only [hi, hw, if_true]
  exact .inl h.out

theorem wp_val {v : Value} {w' : World} (hr : (execOp a.eval o).run P w = .ok (.value v) w') (h : K (a.put o.dst v) w') : Runs P o a w K Q := by
  constructor
  unfold Oper.wp
  rw [hr]
  exact h

theorem wp_unit {w' : World} (hr : (execOp a.eval o).run P w = .ok .skip w') (h : K (a.put o.dst undef) w') : Runs P o a w K Q := by
  constructor
  unfold Oper.wp
  rw [hr]
  exact h

/-- A new variable, zero. -/
theorem wp_alloc (e : TypeId) (ho : o.op = .alloc e) {agg : Bool} {size bytes : Nat} {z : List Value} (ht : TyI P e agg size bytes z) (hs : St w0 w L)
    (h : ∀ g w', St w0 w' (blk g e z :: L) → K (a.put o.dst (.pointer (some ⟨g, 0, none⟩))) w') : Runs P o a w K Q := by
  obtain ⟨zv, hz, hzl⟩ := ht.run_zero w
  refine wp_val (v := .pointer (some ⟨w.heap.size, 0, none⟩)) (w' := w.alloc (.cells zv.cells e)) ?_ (h _ _ ?_)
  · simp [execOp, ho, Instr.alloc, hz, newVar, newRow]
  · have := hs.alloc zv.cells e
    rwa [hzl] at this

/-- A new variable that holds a value. -/
theorem wp_box (e : TypeId) (x : Operand) (ho : o.op = .box e x) (cs : List Value) (hx : (a.eval x).cells.toList = cs) (hs : St w0 w L)
    (h : ∀ g w', St w0 w' (blk g e cs :: L) → K (a.put o.dst (.pointer (some ⟨g, 0, none⟩))) w') : Runs P o a w K Q := by
  refine wp_val (v := .pointer (some ⟨w.heap.size, 0, none⟩)) (w' := w.alloc (.cells (a.eval x).cells e)) ?_ (h _ _ ?_)
  · simp [execOp, ho, Instr.box, newVar, newRow]
  · have := hs.alloc (a.eval x).cells e
    rwa [hx] at this

/-- Cells read as one value (an array, a struct). -/
theorem wp_loadAgg (e : TypeId) (x : Operand) (ho : o.op = .load e x) (b off : Nat) (hx : a.eval x = .pointer (some ⟨b, off, none⟩)) {size bytes : Nat} {z : List Value} (ht : TyI P e true size bytes z)
    (vs : List Value) (hc : Rc w (some ⟨b, off, none⟩) vs) (hl : vs.length = size) (h : K (a.put o.dst (.agg vs.toArray)) w) : Runs P o a w K Q := by
  refine wp_val ?_ h
  obtain ⟨b', off', e', hc⟩ := hc.read (by intro e; subst e; have := ht.pos; simp at hl; omega)
  cases e'
  have hr := run_loadCells_list (P := P) w ⟨b, off, none⟩ vs (fun j v hv => by rw [addr_add]; exact hc j v hv)
  simp [execOp, ho, Instr.loadAt, Instr.sureAddr, hx, loadVar, ht.run_isAgg, ht.run_size, ← hl, hr]

/-- One cell read. -/
theorem wp_load1 (e : TypeId) (x : Operand) (ho : o.op = .load e x) (b off : Nat) (hx : a.eval x = .pointer (some ⟨b, off, none⟩)) {size bytes : Nat} {z : List Value} (ht : TyI P e false size bytes z)
    (v : Value) (hc : w.cell? ⟨b, off, none⟩ = some v) (h : K (a.put o.dst v) w) : Runs P o a w K Q := by
  refine wp_val ?_ h
  simp [execOp, ho, Instr.loadAt, Instr.sureAddr, hx, loadVar, ht.run_isAgg, hc]

/-- Cells of a block of the call's own written. -/
theorem run_store_row {e : TypeId} {agg : Bool} {size bytes : Nat} {z : List Value} (ht : TyI P e agg size bytes z) (g off : Nat) (t : TypeId) (cs : List Value) (hg : w.heap[g]? = some (.cells cs.toArray t (0, 0))) (v : Value) (vs : List Value) (hv : v.cells.toList = vs)
    (hl : vs.length = size) (h1 : ∀ u ∈ vs, u.oneCell' = true) (hfit : off + vs.length ≤ cs.length) : (storeVar e ⟨g, off, none⟩ v).run P w = .ok () (w.setRow g (splice cs off vs).toArray) := by
  have hst := run_storeCells_at P g off t vs 0 cs.toArray w hg (by simpa using hfit) h1
  have hz : v.cells.size = size := by rw [← hl, ← hv]; simp
  simp only [storeVar, Sem.run_bind, ht.run_size, Result.andThen_ok, hz, ne_eq, not_true_eq_false, if_false, hv]
  simpa [splice] using hst

theorem wp_storeBlk (e : TypeId) (p x : Operand) (ho : o.op = .store e p x) (g off : Nat) (hp : a.eval p = .pointer (some ⟨g, off, none⟩)) {agg : Bool} {size bytes : Nat} {z : List Value} (ht : TyI P e agg size bytes z)
    (hs : St w0 w L) (i : Nat) {t : TypeId} {cs : List Value} (hi : L[i]? = some (blk g t cs)) (vs : List Value) (hx : (a.eval x).cells.toList = vs) (hl : vs.length = size) (h1 : ∀ u ∈ vs, u.oneCell' = true) (cs' : List Value) (hcs : splice cs off vs = cs') (hfit : off + vs.length ≤ cs.length)
    (h : ∀ w', St w0 w' (L.set i (blk g t cs')) → K (a.put o.dst undef) w') : Runs P o a w K Q := by
  have hg : w.heap[g]? = some (.cells cs.toArray t (0, 0)) := hs.know i hi (fun _ hF => hF.2)
  have hr := run_store_row ht g off t cs hg (a.eval x) vs hx hl h1 hfit
  rw [hcs] at hr
  refine wp_unit (w' := w.setRow g cs'.toArray) ?_ (h _ (hs.setRow i hi g _ (fun F hF => hF.1) (fun F hF => ⟨hF.1, setRow_heap w g _ _ t _ hg⟩)))
  simp [execOp, ho, Instr.storeAt, Instr.sureAddr, hp, hr]

/-- Cells of an own slice written. -/
theorem wp_storeOwn (e : TypeId) (p x : Operand) (ho : o.op = .store e p x) (g off k : Nat) (hp : a.eval p = .pointer (some ⟨g, off + k, none⟩)) {agg : Bool} {size bytes : Nat} {z : List Value} (ht : TyI P e agg size bytes z)
    (hs : St w0 w L) (i : Nat) {t : TypeId} {sz n cap : Nat} {xs : List Value} (hi : L[i]? = some (own t sz (some ⟨g, off, none⟩) n cap xs)) (vs : List Value) (hx : (a.eval x).cells.toList = vs) (hl : vs.length = size) (h1 : ∀ u ∈ vs, u.oneCell' = true) (xs' : List Value) (hcs : splice xs k vs = xs') (hfit : k + vs.length ≤ xs.length)
    (h : ∀ w', St w0 w' (L.set i (own t sz (some ⟨g, off, none⟩) n cap xs')) → K (a.put o.dst undef) w') : Runs P o a w K Q := by
  have hk : ∃ cs, w.heap[g]? = some (.cells (List.toArray cs) t (0, 0)) ∧ n ≤ cap ∧ cap ≤ maxLen ∧ off + cap * sz ≤ cs.length ∧ (cs.drop off).take (n * sz) = xs ∧ xs.length = n * sz := hs.know i hi (fun F hF => by
    obtain ⟨h0, hF⟩ := hF
    rcases hF with ⟨e, _⟩ | ⟨g', off', cs, e, _, hg, r1, r2, r3, r4⟩
    · cases e
    · cases e; exact ⟨cs, hg, r1, r2, r3, r4, h0⟩)
  obtain ⟨cs, hg, r1, r2, r3, r4, r5⟩ := hk
  have hle : n * sz ≤ cap * sz := Nat.mul_le_mul_right _ r1
  have hr := run_store_row ht g (off + k) t cs hg (a.eval x) vs hx hl h1 (by omega)
  refine wp_unit (w' := w.setRow g (splice cs (off + k) vs).toArray) (by simp [execOp, ho, Instr.storeAt, Instr.sureAddr, hp, hr]) (h _ (hs.setRow i hi g _ (fun F hF => ?_) (fun F hF => ?_)))
  · obtain ⟨_, hF⟩ := hF
    rcases hF with ⟨e, _⟩ | ⟨g', off', cs, e, f, _⟩
    · cases e
    · cases e; exact f
  · have hFg : F g := by
      obtain ⟨_, hF⟩ := hF
      rcases hF with ⟨e, _⟩ | ⟨g', off', cs, e, f, _⟩
      · cases e
      · cases e; exact f
    have hxl : xs'.length = xs.length := by rw [← hcs]; exact length_splice _ _ _ hfit
    refine ⟨by omega, .inr ⟨g, off, splice cs (off + k) vs, rfl, hFg, setRow_heap w g _ _ t _ hg, r1, r2, by rw [length_splice _ _ _ (by omega)]; exact r3, ?_⟩⟩
    have hcl := length_splice cs (off + k) vs (by omega)
    rw [← hcs, ← r4]
    apply List.ext_getElem?
    intro j
    have hk2 : k + vs.length ≤ ((cs.drop off).take (n * sz)).length := by rw [r4]; exact hfit
    simp only [List.getElem?_take, List.getElem?_drop, splice, List.getElem?_append, List.length_take, List.length_drop]
    simp only [List.length_take, List.length_drop] at hk2
    repeat' split
    all_goals first | rfl | omega | skip
    all_goals first | (congr 1; omega) | (rw [List.getElem?_eq_none (by omega)]; done) | (exfalso; omega) | skip
end

end Go.Proofs.YtpnhgmmijkjmlaaDoor

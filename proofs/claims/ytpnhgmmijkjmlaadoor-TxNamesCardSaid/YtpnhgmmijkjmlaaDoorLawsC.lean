/-
  Structs and arrays built out of parts; fields and elements of values.
-/
import Derived.Test.YtpnhgmmijkjmlaaDoorEq
namespace Go.Proofs.YtpnhgmmijkjmlaaDoor
open Go Go.RowKit

theorem foldl_set_splice : ∀ (vs : List Value) (off k : Nat) (cells : Array Value), off + k + vs.length ≤ cells.size →
    (vs.zipIdx k).foldl (fun (cs : Array Value) (x : Value × Nat) => cs.setIfInBounds (off + x.2) x.1) cells = (splice cells.toList (off + k) vs).toArray
  | [], off, k, cells, h => by simp [splice]
  | v :: vs, off, k, cells, h => by
    simp only [List.length_cons] at h
    rw [List.zipIdx_cons, List.foldl_cons, foldl_set_splice vs off (k + 1) _ (by simp; omega)]
    have := list_seg_step cells.toList (off + k) v vs (by simp; omega)
    simpa [splice, Array.toList_setIfInBounds, Nat.add_assoc] using this

/-- Places of fields: their first cell, and how many. -/
def fillS (pl : List (Nat × Nat)) : List Value → List (Nat × List Value) → List Value
  | z, [] => z
  | z, (i, vs) :: r => fillS pl (splice z (pl.getD i (0, 0)).1 vs) r

def okS (pl : List (Nat × Nat)) (size : Nat) (p : Nat × List Value) : Prop := p.1 < pl.length ∧ p.2.length = (pl.getD p.1 (0, 0)).2 ∧ (pl.getD p.1 (0, 0)).1 + p.2.length ≤ size

theorem fill_run (place : Nat → Option (Nat × Nat)) (pl : List (Nat × Nat)) (hpl : ∀ i, i < pl.length → place i = some (pl.getD i (0, 0))) : ∀ (parts : List (Nat × Value)) (cells : Array Value),
    (∀ p ∈ parts.map (fun p => (p.1, p.2.cells.toList)), okS pl cells.size p) → Instr.fill place cells parts = some (fillS pl cells.toList (parts.map (fun p => (p.1, p.2.cells.toList)))).toArray
  | [], cells, _ => by simp [Instr.fill, fillS]
  | (i, v) :: rest, cells, h => by
    have h0 := h (i, v.cells.toList) (by simp)
    obtain ⟨h1, h2, h3⟩ := h0
    simp only at h1 h2 h3
    have hp := hpl i h1
    have hz : v.cells.size = v.cells.toList.length := by simp
    obtain ⟨off, n, hon⟩ : ∃ off n, pl.getD i (0, 0) = (off, n) := ⟨_, _, rfl⟩
    rw [hon] at h2 h3 hp
    simp only at h2 h3
    have hf : Array.foldl (fun (cs : Array Value) (x : Value × Nat) => cs.setIfInBounds (off + x.2) x.1) cells v.cells.zipIdx = (splice cells.toList off v.cells.toList).toArray := by
      rw [← Array.foldl_toList, Array.toList_zipIdx]
      exact foldl_set_splice v.cells.toList off 0 cells (by omega)
    have ih := fill_run place pl hpl rest (splice cells.toList off v.cells.toList).toArray (fun p hm => by
      have := h p (by simp only [List.map_cons, List.mem_cons]; exact .inr hm)
      refine ⟨this.1, this.2.1, ?_⟩
      have hl := length_splice cells.toList off v.cells.toList (by simpa using h3)
      simpa [hl] using this.2.2)
    simp only [Instr.fill, hp]
    rw [if_neg (by simp; omega)]
    have hmatch : (Array.foldl (fun (cs : Array Value) (x : Value × Nat) => match x with | (c, j) => cs.setIfInBounds (off + j) c) cells v.cells.zipIdx) = (splice cells.toList off v.cells.toList).toArray := hf
    rw [hmatch, ih]
    simp only [List.map_cons, fillS, hon]

/-- A struct type's fields: where each one's cells lie. -/
class FlI (P : Program) (t : TypeId) (pl : outParam (List (Nat × Nat))) : Prop where
  str : (P.underlying t).map (fun d => match d with | .struct _ => true | _ => false) = some true
  places : (P.fieldsOf t).toList.map (fun f => (P.info? f.type).map fun i => (f.offset, i.size)) = pl.map some

theorem mapM_places {P : Program} (w : World) : ∀ (fs : List Field) (pl : List (Nat × Nat)), fs.map (fun f => (P.info? f.type).map fun i => (f.offset, i.size)) = pl.map some →
    (fs.mapM (fun f => do pure (f.offset, ← sizeOf f.type) : Field → Sem (Nat × Nat))).run P w = .ok pl w
  | [], [], _ => by simp
  | [], _ :: _, h => by simp at h
  | _ :: _, [], h => by simp at h
  | f :: fs, p :: pl, h => by
    simp only [List.map_cons, List.cons.injEq] at h
    obtain ⟨i, hi, hp⟩ := Option.map_eq_some_iff.1 h.1
    have ih := mapM_places w fs pl h.2
    simp only [List.mapM_cons, Sem.run_bind, sizeOf, typeInfo, run_program, Result.andThen_ok, hi, Sem.run_pure]
    simp only [sizeOf, typeInfo] at ih
    rw [ih]
    simp [hp]

section
variable {P : Program} {w : World} {o : Oper} {a : Act} {K : Act → World → Prop} {Q : Exit → Act → World → Prop}

theorem run_build (t : TypeId) (parts : Array (Nat × Operand)) (ho : o.op = .build t parts) {size bytes : Nat} {z : List Value} (ht : TyI P t true size bytes z) {pl : List (Nat × Nat)} (hf : FlI P t pl)
    (vals : List (Nat × List Value)) (hv : parts.toList.map (fun p => (p.1, (a.eval p.2).cells.toList)) = vals) (hok : ∀ p ∈ vals, okS pl size p) (cs : List Value) (hcs : fillS pl z vals = cs) : (execOp a.eval o).run P w = .ok (.value (.agg cs.toArray)) w := by
  obtain ⟨zv, hz, hzl⟩ := ht.run_zero w
  have hzs : zv.cells.size = size := by rw [← ht.len, ← hzl]; simp
  obtain ⟨fs, hfs⟩ : ∃ fs, P.underlying t = some (.struct fs) := by
    have := hf.str
    cases hd : P.underlying t with
    | none => simp [hd] at this
    | some d => cases d <;> simp [hd] at this; exact ⟨_, rfl⟩
  have hfo : P.fieldsOf t = fs := by simp [Program.fieldsOf, hfs]
  have hpl := hf.places
  rw [hfo] at hpl
  have hm : (fs.mapM (fun f => do pure (f.offset, ← sizeOf f.type) : Field → Sem (Nat × Nat))).run P w = .ok pl.toArray w := by
    rw [Array.mapM_eq_mapM_toList, Sem.run_map, mapM_places w fs.toList pl hpl]
    rfl
  have hmap : (parts.map (fun x => match x with | (i, x) => (i, a.eval x))).toList.map (fun p => (p.1, p.2.cells.toList)) = vals := by
    rw [← hv]
    simp
  have hr := fill_run (fun x => pl.toArray[x]?) pl (fun i hi => by simp [List.getD, hi]) (parts.map (fun x => match x with | (i, x) => (i, a.eval x))).toList zv.cells (by rw [hmap, hzs]; exact hok)
  rw [hmap, hzl, hcs] at hr
  simp only [execOp, ho, Instr.build, Sem.run_bind, hz, Result.andThen_ok, run_underlying hfs, hm, hr, Sem.run_pure]
theorem wp_build (t : TypeId) (parts : Array (Nat × Operand)) (ho : o.op = .build t parts) {size bytes : Nat} {z : List Value} (ht : TyI P t true size bytes z) {pl : List (Nat × Nat)} (hf : FlI P t pl)
    (vals : List (Nat × List Value)) (hv : parts.toList.map (fun p => (p.1, (a.eval p.2).cells.toList)) = vals) (hok : ∀ p ∈ vals, okS pl size p) (cs : List Value) (hcs : fillS pl z vals = cs) (h : K (a.put o.dst (.agg cs.toArray)) w) : Runs P o a w K Q :=
  wp_val (run_build t parts ho ht hf vals hv hok cs hcs) h

/-- The zero of a struct, written out. -/
theorem wp_build0 (t : TypeId) (ho : o.op = .build t #[]) {size bytes : Nat} {z : List Value} (ht : TyI P t true size bytes z) {pl : List (Nat × Nat)} (hf : FlI P t pl) (h : K (a.put o.dst (.agg z.toArray)) w) : Runs P o a w K Q :=
  wp_build t #[] ho ht hf [] rfl (by simp) z rfl h

/-- An array's elements: their type, their cells. -/
class ArI (P : Program) (t : TypeId) (e : outParam TypeId) (n : outParam Nat) (agg : outParam Bool) (size bytes : outParam Nat) (z : outParam (List Value)) : Prop where
  arr : P.underlying t = some (.array n e)
  el : TyI P e agg size bytes z

theorem run_buildArr (t : TypeId) (parts : Array (Nat × Operand)) (ho : o.op = .build t parts) {size bytes : Nat} {z : List Value} (ht : TyI P t true size bytes z) {e : TypeId} {n : Nat} {agg : Bool} {esize ebytes : Nat} {ez : List Value} (hf : ArI P t e n agg esize ebytes ez)
    (vals : List (Nat × List Value)) (hv : parts.toList.map (fun p => (p.1, (a.eval p.2).cells.toList)) = vals) (hok : ∀ p ∈ vals, okS ((List.range n).map fun i => (i * esize, esize)) size p) (cs : List Value) (hcs : fillS ((List.range n).map fun i => (i * esize, esize)) z vals = cs) : (execOp a.eval o).run P w = .ok (.value (.agg cs.toArray)) w := by
  obtain ⟨zv, hz, hzl⟩ := ht.run_zero w
  have hzs : zv.cells.size = size := by rw [← ht.len, ← hzl]; simp
  have hmap : (parts.map (fun x => match x with | (i, x) => (i, a.eval x))).toList.map (fun p => (p.1, p.2.cells.toList)) = vals := by
    rw [← hv]
    simp
  have hr := fill_run (fun i => some (i * esize, esize)) ((List.range n).map fun i => (i * esize, esize)) (fun i hi => by simp at hi; simp [List.getD, hi]) (parts.map (fun x => match x with | (i, x) => (i, a.eval x))).toList zv.cells (by rw [hmap, hzs]; exact hok)
  rw [hmap, hzl, hcs] at hr
  simp only [execOp, ho, Instr.build, Sem.run_bind, hz, Result.andThen_ok, run_underlying hf.arr, hf.el.run_size, hr, Sem.run_pure]
theorem wp_buildArr (t : TypeId) (parts : Array (Nat × Operand)) (ho : o.op = .build t parts) {size bytes : Nat} {z : List Value} (ht : TyI P t true size bytes z) {e : TypeId} {n : Nat} {agg : Bool} {esize ebytes : Nat} {ez : List Value} (hf : ArI P t e n agg esize ebytes ez)
    (vals : List (Nat × List Value)) (hv : parts.toList.map (fun p => (p.1, (a.eval p.2).cells.toList)) = vals) (hok : ∀ p ∈ vals, okS ((List.range n).map fun i => (i * esize, esize)) size p) (cs : List Value) (hcs : fillS ((List.range n).map fun i => (i * esize, esize)) z vals = cs) (h : K (a.put o.dst (.agg cs.toArray)) w) : Runs P o a w K Q :=
  wp_val (run_buildArr t parts ho ht hf vals hv hok cs hcs) h

theorem wp_buildArr0 (t : TypeId) (ho : o.op = .build t #[]) {size bytes : Nat} {z : List Value} (ht : TyI P t true size bytes z) {e : TypeId} {n : Nat} {agg : Bool} {esize ebytes : Nat} {ez : List Value} (hf : ArI P t e n agg esize ebytes ez) (h : K (a.put o.dst (.agg z.toArray)) w) : Runs P o a w K Q :=
  wp_buildArr t #[] ho ht hf [] rfl (by simp) z rfl h

/-- All parts, in their order. -/
def enumS : Nat → List (List Value) → List (Nat × List Value)
  | _, [] => []
  | k, v :: r => (k, v) :: enumS (k + 1) r
def plOf : Nat → List Nat → List (Nat × Nat)
  | _, [] => []
  | off, n :: r => (off, n) :: plOf (off + n) r

theorem fillS_all : ∀ (vs : List (List Value)) (pl0 : List (Nat × Nat)) (pre rest : List Value) (off : Nat), pre.length = off → rest.length = vs.flatten.length → fillS (pl0 ++ plOf off (vs.map List.length)) (pre ++ rest) (enumS pl0.length vs) = pre ++ vs.flatten
  | [], pl0, pre, rest, off, _, hr => by
    have : rest = [] := List.eq_nil_of_length_eq_zero (by simpa using hr)
    simp [fillS, enumS, this]
  | v :: vs, pl0, pre, rest, off, hp, hr => by
    simp only [List.flatten_cons, List.length_append] at hr
    have h0 : (pl0 ++ plOf off ((v :: vs).map List.length)).getD pl0.length (0, 0) = (off, v.length) := by simp [plOf, List.getD]
    have hs : splice (pre ++ rest) off v = (pre ++ v) ++ rest.drop v.length := by
      have := splice_mid pre (rest.take v.length) (rest.drop v.length) v off hp (by simp; omega)
      rwa [List.take_append_drop, ← List.append_assoc] at this
    have ih := fillS_all vs (pl0 ++ [(off, v.length)]) (pre ++ v) (rest.drop v.length) (off + v.length) (by simp [hp]) (by rw [List.length_drop, hr]; omega)
    simp only [enumS, fillS, h0]
    rw [hs]
    simpa [plOf, List.append_assoc] using ih

theorem okS_all : ∀ (vs : List (List Value)) (pl0 : List (Nat × Nat)) (off size : Nat), off + vs.flatten.length ≤ size → ∀ p ∈ enumS pl0.length vs, okS (pl0 ++ plOf off (vs.map List.length)) size p
  | [], _, _, _, _, p, hp => by simp [enumS] at hp
  | v :: vs, pl0, off, size, h, p, hp => by
    simp only [List.flatten_cons, List.length_append] at h
    simp only [enumS, List.mem_cons] at hp
    rcases hp with rfl | hp
    · have h0 : (pl0 ++ plOf off ((v :: vs).map List.length)).getD pl0.length (0, 0) = (off, v.length) := by simp [plOf, List.getD]
      refine ⟨by simp [plOf], ?_, ?_⟩ <;> simp only [h0] <;> omega
    · have := okS_all vs (pl0 ++ [(off, v.length)]) (off + v.length) size (by omega) p (by simpa using hp)
      simpa [plOf, List.append_assoc] using this

theorem run_buildAll (t : TypeId) (parts : Array (Nat × Operand)) (ho : o.op = .build t parts) {size bytes : Nat} {z : List Value} (ht : TyI P t true size bytes z) {pl : List (Nat × Nat)} (hf : FlI P t pl)
    (vs : List (List Value)) (hv : parts.toList.map (fun p => (p.1, (a.eval p.2).cells.toList)) = enumS 0 vs) (hp : plOf 0 (vs.map List.length) = pl) (hl : vs.flatten.length = size) (cs : List Value) (hcs : vs.flatten = cs) : (execOp a.eval o).run P w = .ok (.value (.agg cs.toArray)) w := by
  subst hp
  refine run_build t parts ho ht hf _ hv (okS_all vs [] 0 size (by omega)) cs ?_
  have := fillS_all vs [] [] z 0 rfl (by rw [ht.len, hl])
  simpa [hcs] using this
theorem wp_buildAll (t : TypeId) (parts : Array (Nat × Operand)) (ho : o.op = .build t parts) {size bytes : Nat} {z : List Value} (ht : TyI P t true size bytes z) {pl : List (Nat × Nat)} (hf : FlI P t pl)
    (vs : List (List Value)) (hv : parts.toList.map (fun p => (p.1, (a.eval p.2).cells.toList)) = enumS 0 vs) (hp : plOf 0 (vs.map List.length) = pl) (hl : vs.flatten.length = size) (cs : List Value) (hcs : vs.flatten = cs) (h : K (a.put o.dst (.agg cs.toArray)) w) : Runs P o a w K Q := by
  subst hp
  refine wp_val (run_build t parts ho ht hf _ hv (okS_all vs [] 0 size (by omega)) cs ?_) h
  have := fillS_all vs [] [] z 0 rfl (by rw [ht.len, hl])
  simpa [hcs] using this
end

end Go.Proofs.YtpnhgmmijkjmlaaDoor

/-
  Slices written out; bytes that the library has made (they can be read).
-/
import Derived.Test.YtpnhgmmijkjmlaaDoorLawsD
import Derived.Test.YtpnhgmmijkjmlaaDoorTypes
namespace Go.Proofs.YtpnhgmmijkjmlaaDoor
open Go Go.RowKit

theorem plOf_len : ∀ (ns : List Nat) (off : Nat), (plOf off ns).length = ns.length
  | [], _ => rfl
  | _ :: ns, off => by simp [plOf, plOf_len ns]
theorem plOf_same (s : Nat) : ∀ (ns : List Nat) (off i : Nat), (∀ n ∈ ns, n = s) → i < ns.length → (plOf off ns).getD i (0, 0) = (off + i * s, s)
  | [], _, _, _, h => by simp at h
  | n :: ns, off, 0, hn, _ => by
    have := hn n (by simp)
    simp [plOf, this]
  | n :: ns, off, i + 1, hn, h => by
    have h0 := hn n (by simp)
    have ih := plOf_same s ns (off + n) i (fun m hm => hn m (by simp [hm])) (by simpa using h)
    simp only [plOf, List.getD_cons_succ, ih, Prod.mk.injEq, and_true]
    rw [h0, Nat.succ_mul]; omega
theorem flatten_same {α : Type} (s : Nat) : ∀ (vs : List (List α)), (∀ v ∈ vs, v.length = s) → vs.flatten.length = vs.length * s
  | [], _ => by simp
  | v :: vs, h => by
    have := h v (by simp)
    have ih := flatten_same s vs (fun u hu => h u (by simp [hu]))
    simp only [List.flatten_cons, List.length_append, List.length_cons, ih, this, Nat.succ_mul]; omega

section
variable {P : Program} {w0 w : World} {L : List Asn} {o : Oper} {a : Act} {K : Act → World → Prop} {Q : Exit → Act → World → Prop}
/-- A slice written out, all elements in their order. -/
theorem wp_buildSliceAll (t : TypeId) (n : Nat) (parts : Array (Nat × Operand)) (ho : o.op = .buildSlice t n parts) {e : TypeId} {agg : Bool} {size bytes : Nat} {z : List Value} (ht : SlI P t e agg size bytes z) (hs : St w0 w L)
    (vs : List (List Value)) (hn : n = vs.length) (h0 : 0 < n) (hv : parts.toList.map (fun p => (p.1, (a.eval p.2).cells.toList)) = enumS 0 vs) (hl : ∀ v ∈ vs, v.length = size)
    (hsz : n * size ≤ 16777216) (h : ∀ g w', St w0 w' (own e size (some ⟨g, 0, none⟩) n n vs.flatten :: L) → K (a.put o.dst (.slice (some ⟨g, 0, none⟩) n n)) w') : Runs P o a w K Q := by
  obtain ⟨zv, hz, hzl⟩ := ht.el.run_zero w
  have hzs : zv.cells.size = size := by rw [← ht.el.len, ← hzl]; simp
  have hpos := ht.el.pos
  have hfl := flatten_same size vs hl
  refine wp_val (v := .slice (some ⟨w.heap.size, 0, none⟩) n n) (w' := w.alloc (.cells vs.flatten.toArray e)) ?_ (h _ _ ?_)
  · obtain ⟨cells, hcells⟩ : ∃ cells, cells = (Array.range (n * size)).map fun x => zv.cells[x % zv.cells.size]! := ⟨_, rfl⟩
    have hcs : cells.size = n * size := by rw [hcells]; simp
    have hmap : (parts.map (fun x => match x with | (i, x) => (i, a.eval x))).toList.map (fun p => (p.1, p.2.cells.toList)) = enumS 0 vs := by
      rw [← hv]
      simp
    have hok := okS_all vs [] 0 (n * size) (by rw [hfl, hn]; omega)
    simp only [List.nil_append, List.length_nil] at hok
    have hr := fill_run (fun i => some (i * size, size)) (plOf 0 (vs.map List.length)) (fun i hi => by
      rw [plOf_same size _ 0 i (fun m hm => by obtain ⟨v, hv', rfl⟩ := List.mem_map.1 hm; exact hl v hv') (by rwa [plOf_len] at hi)]
      simp) (parts.map (fun x => match x with | (i, x) => (i, a.eval x))).toList cells (by rw [hmap, hcs]; exact hok)
    have hall := fillS_all vs [] [] cells.toList 0 rfl (by rw [hfl, ← hn]; simpa using hcs)
    simp only [List.nil_append, List.length_nil] at hall
    rw [hmap, hall] at hr
    have hn' : ¬ (n * size > 2 ^ 24) := by omega
    have hn0 : ¬ (n * size = 0) := by
      have := Nat.mul_pos h0 hpos
      omega
    simp only [execOp, ho, Instr.buildSlice, Sem.run_bind, run_underlying ht.sl, Result.andThen_ok, ht.el.run_size, hn', if_false, hn0, hz, Sem.run_pure]
    rw [hcells] at hr
    rw [hr]
    rfl
  · have := (hs.alloc vs.flatten.toArray e).turn 0 (P' := own e size (some ⟨w.heap.size, 0, none⟩) n n vs.flatten) rfl (fun F => blk.own (size := size) (n := n) (by rw [hn]; simpa using hfl) (by simp only [maxLen]; have := Nat.le_mul_of_pos_right n hpos; omega) _ F)
    simpa using this
end

/-- A function with a body of its own is entered. -/
theorem run_enter {P : Program} {f : FuncId} {fn : Func} (hf : P.funcs[f]? = some fn) (hname : (fn.name == "runtime.NumGoroutine") = false) (hb : fn.body.isSome = true) (args : Array Value) (w : World) : (callFunc f args).run P w = .ok (.enter f args) w := by
  have h1 : fn.name ≠ "runtime.NumGoroutine" := by simpa using hname
  obtain ⟨c, hc⟩ := Option.isSome_iff_exists.1 hb
  simp [callFunc, hf, h1, hc]

/-- A call of a function of the program. -/
theorem wp_callF {P : Program} {o : Oper} {a : Act} {w : World} {K : Act → World → Prop} {Q : Exit → Act → World → Prop} (f : FuncId) (xs : Array Operand) (ats : Array TypeId) (ho : o.op = .call { callee := .value (.func f), args := xs, argTypes := ats }) {fn : Func} (hf : P.funcs[f]? = some fn) (hname : (fn.name == "runtime.NumGoroutine") = false) (hb : fn.body.isSome = true)
    (args : List Value) (hx : xs.toList.map a.eval = args) (h : Calls P f args.toArray w fun e w' => ∃ v, e = .returned v ∧ K (a.put o.dst v) w') : Runs P o a w K Q := by
  refine wp_call f args.toArray ?_ h
  have e1 : execOp a.eval o = callFunc f (#[] ++ xs.map a.eval ++ #[]) := by
    cases o
    simp only at ho
    subst ho
    rfl
  have e2 : xs.map a.eval = args.toArray := Array.ext' (by rw [Array.toList_map, hx])
  rw [e1, e2, Array.empty_append, Array.append_empty]
  exact run_enter hf hname hb args.toArray w

/-- Cells of the call's own that can be read. -/
def rd (a : Option Addr) (xs : List Value) : Asn where
  holds w F := xs = [] ∨ ∃ g, F g ∧ a = some ⟨g, 0, none⟩ ∧ ∀ j u, xs[j]? = some u → w.cell? ⟨g, j, none⟩ = some u
  loc := by
    rintro w w' F (h | ⟨g, h1, h2, h3⟩) hs
    · exact .inl h
    · exact .inr ⟨g, h1, h2, fun j u hu => by rw [World.cell?_of_block (w := w) (hs g h1)]; exact h3 j u hu⟩
  mono := by
    rintro w F G (h | ⟨g, h1, h2⟩) hs
    · exact .inl h
    · exact .inr ⟨g, hs g h1, h2⟩
theorem rd.rc {a : Option Addr} {xs : List Value} {w : World} {F : Nat → Prop} (h : (rd a xs).holds w F) : Rc w a xs := by
  rcases h with h | ⟨g, _, h2, h3⟩
  · exact .inl h
  · exact .inr ⟨g, 0, h2, fun j u hu => by rw [Nat.zero_add]; exact h3 j u hu⟩
theorem St.rcRd {w0 w : World} {L : List Asn} (h : St w0 w L) (i : Nat) {a : Option Addr} {xs : List Value} (hi : L[i]? = some (rd a xs)) : Rc w a xs := h.know i hi (fun _ hF => rd.rc hF)
/-- Readable bytes in new memory are returned. -/
def RetR (l : List UInt8) (w : World) (e : Ending) (w' : World) : Prop := ∃ a cap, e = .returned (.slice a l.length cap) ∧ l.length ≤ cap ∧ St w w' [rd a (bvs l)]
def RetRE (l : List UInt8) (c : Int) (w : World) (e : Ending) (w' : World) : Prop := ∃ a cap, e = .returned (.tuple #[.slice a l.length cap, .int .i64 c]) ∧ l.length ≤ cap ∧ St w w' [rd a (bvs l)]
end Go.Proofs.YtpnhgmmijkjmlaaDoor

/-
  Laws for slices of the call's own: made, appended to, copied into, cut.
-/
import Derived.Test.YtpnhgmmijkjmlaaDoorLaws
namespace Go.Proofs.YtpnhgmmijkjmlaaDoor
open Go Go.RowKit

/-- A slice type and its element's row of the table. -/
class SlI (P : Program) (t : TypeId) (e : outParam TypeId) (agg : outParam Bool) (size bytes : outParam Nat) (z : outParam (List Value)) : Prop where
  sl : P.underlying t = some (.slice e)
  el : TyI P e agg size bytes z

theorem growSL {w w' : World} {P : Asn} (hz : w.heap.size ≤ w'.heap.size) (h0 : w'.os = w.os) (h1 : w'.tape = w.tape) (h2 : w'.output = w.output) (hb : ∀ k, k < w.heap.size → w'.heap[k]? = w.heap[k]?) (hp : P.holds w' (fun k => w.heap.size ≤ k ∧ k < w'.heap.size)) :
    St w w' [P] := ⟨⟨h0, h1, h2, hz, hb⟩, _, hp, fun _ hk => ⟨hk.1, hk.2, fun f => f⟩, trivial⟩

theorem take_append_eq {α : Type} (xs news tail : List α) : ((xs ++ news ++ tail).drop 0).take (xs.length + news.length) = xs ++ news := by
  rw [List.drop_zero, ← List.length_append]
  exact List.take_left

/-- What append does to an own slice: in its spare room, or in a new block. -/
theorem run_append {P : Program} {w0 w : World} {L : List Asn} (hs : St w0 w L) (i : Nat) {t ty e : TypeId} {agg : Bool} {size bytes : Nat} {z : List Value} (ht : SlI P t e agg size bytes z)
    {a0 : Option Addr} {n cap : Nat} {xs : List Value} (hi : L[i]? = some (own e size a0 n cap xs)) {ao : Option Addr} {m c : Nat} {news : List Value} (hl : news.length = m * size) (hrc : Rc w ao news) (h1 : ∀ u ∈ news, u.oneCell' = true)
    (h63 : n + m ≤ maxLen) (hbytes : (n + m) * bytes ≤ 140737488355328) :
    ∃ a' cap' w', (Builtin.append_ #[t, t] ty #[.slice a0 n cap, .slice ao m c]).run P w = .ok (.slice a' (n + m) cap') w' ∧ St w0 w' (L.set i (own e size a' (n + m) cap' (xs ++ news))) ∧ (n + m = 0 ∨ a' ≠ none) := by
  obtain ⟨inf, zv, hi1, hi2, hi3, hi4, hi5⟩ := ht.el.info
  have hpos := ht.el.pos
  have hzz := ht.el.len
  have hfirst : (Builtin.firstCells size m (.slice ao m c)).run P w = .ok news.toArray w := by
    rcases hrc with rfl | ⟨b, off, rfl, hc⟩
    · have hm : m = 0 := by
        rcases Nat.mul_eq_zero.1 hl.symm with h | h
        · exact h
        · omega
      subst hm
      cases ao <;> simp [Builtin.firstCells, loadCells, loadCellsFrom]
    · exact run_firstCells_some w size m ⟨b, off, none⟩ m c news hl (fun j v hv => by rw [addr_add]; exact hc j v hv)
  have hlen := hs.ownLen i hi
  have hzcells : zv.cells.size = size := by rw [← hzz, ← hi3]; simp
  by_cases hroom : n + m ≤ cap
  · -- in place
    rcases hs.know i hi (φ := (a0 = none ∧ n = 0 ∧ cap = 0) ∨ ∃ g off cs, a0 = some ⟨g, off, none⟩ ∧ w.heap[g]? = some (.cells (List.toArray cs) e (0, 0)) ∧ off + cap * size ≤ cs.length ∧ (cs.drop off).take (n * size) = xs)
      (fun F hF => hF.2.imp id (fun ⟨g, off, cs, q1, _, q3, _, _, q6, q7⟩ => ⟨g, off, cs, q1, q3, q6, q7⟩)) with ⟨rfl, rfl, rfl⟩ | ⟨g, off, cs, rfl, hg, hcap, hx⟩
    · have hm : m = 0 := by omega
      subst hm
      have hn : news = [] := List.eq_nil_of_length_eq_zero (by simpa using hl)
      subst hn
      have hxs : xs = [] := List.eq_nil_of_length_eq_zero (by simpa using hlen.1)
      subst hxs
      refine ⟨none, 0, w, ?_, ?_, .inl rfl⟩
      · simp [Builtin.append_, run_underlying ht.sl, sizeOf, typeInfo, hi1, hi4, Builtin.lenOf, hfirst]
      · have : L.set i (own e size none (0 + 0) 0 ([] ++ [])) = L := by
          simp only [Nat.add_zero, List.append_nil]
          apply List.ext_getElem?
          intro j
          rw [List.getElem?_set]
          split
          · rename_i h; subst h; split
            · exact hi.symm
            · rename_i h; rw [List.getElem?_eq_none (by omega)]
          · rfl
        rw [this]; exact hs
    · have hle : n * size + m * size ≤ cap * size := by rw [← Nat.add_mul]; exact Nat.mul_le_mul_right _ hroom
      have hst := run_storeCells_at P g (off + n * size) e news 0 cs.toArray w hg (by simp; omega) h1
      refine ⟨some ⟨g, off, none⟩, cap, w.setRow g (splice cs (off + n * size) news).toArray, ?_, hs.setRow i hi g _ (fun F hF => ?_) (fun F hF => ?_), .inr (by simp)⟩
      · simp only [Nat.add_zero] at hst
        simp [Builtin.append_, run_underlying ht.sl, sizeOf, typeInfo, hi1, hi4, Builtin.lenOf, hroom, hfirst, Addr.add_lit, hst, splice]
      · obtain ⟨_, ⟨e, _⟩ | ⟨g', off', cs, e, f, _⟩⟩ := hF
        · cases e
        · cases e; exact f
      · have hFg : F g := by
          obtain ⟨_, ⟨e, _⟩ | ⟨g', off', cs, e, f, _⟩⟩ := hF
          · cases e
          · cases e; exact f
        have hfit : off + n * size + news.length ≤ cs.length := by omega
        refine ⟨by rw [List.length_append, hlen.1, hl, Nat.add_mul], .inr ⟨g, off, _, rfl, hFg, setRow_heap w g _ _ e _ hg, hroom, hlen.2.2, by rw [length_splice _ _ _ hfit]; exact hcap, ?_⟩⟩
        apply List.ext_getElem?
        intro j
        rw [← hx, Nat.add_mul]
        have hln : ((cs.drop off).take (n * size)).length = n * size := by rw [hx]; exact hlen.1
        simp only [List.getElem?_take, List.getElem?_drop, splice, List.getElem?_append, List.length_take, List.length_drop]
        simp only [List.length_take, List.length_drop] at hln
        repeat' split
        all_goals first | rfl | (exfalso; omega) | (congr 1; omega) | (rw [List.getElem?_eq_none (by omega)]; done) | (symm; rw [List.getElem?_eq_none (by omega)]; done) | skip
  · -- a new block
    have hcut : ∀ (old : Nat), old < n + m → n + m ≤ grownCap w (n + m) old e ∧ grownCap w (n + m) old e ≤ maxLen := fun old _ => ⟨grownCap_ge w (n + m) old e, grownCap_le_maxLen w (n + m) old e h63⟩
    have hn0 : news.length = 0 → m = 0 := fun h => by
      rw [hl] at h
      rcases Nat.mul_eq_zero.1 h with h | h <;> omega
    have hsmall : ((n + m : Nat) : Int) ≤ 9223372036854775807 := by simp only [maxLen] at h63; omega
    -- the world behind, whatever the old capacity
    have fin : ∀ gc, n + m ≤ gc → gc ≤ maxLen → St w (w.drew.alloc (.cells (xs.toArray ++ news.toArray ++ Builtin.zeroCells zv.cells (gc - (n + m))) e)) [own e size (some ⟨w.heap.size, 0, none⟩) (n + m) gc (xs ++ news)] := by
      intro gc g1 g2
      refine growSL (by simp) rfl rfl rfl (fun k hk => Below.heap_alloc w.drew _ k hk) ⟨by rw [List.length_append, hlen.1, hl, Nat.add_mul], .inr ⟨w.heap.size, 0, xs ++ news ++ (Builtin.zeroCells zv.cells (gc - (n + m))).toList, rfl, ⟨Nat.le_refl _, by simp⟩, ?_, g1, g2, ?_, ?_⟩⟩
      · have := heap_alloc_new w.drew (.cells (xs.toArray ++ news.toArray ++ Builtin.zeroCells zv.cells (gc - (n + m))) e)
        rw [heap_drew] at this
        rw [this]
        simp
      · simp only [List.length_append, Array.length_toList, size_zeroCells, hzcells, hlen.1, hl, ← Nat.add_mul, Nat.zero_add]
        have : n + m + (gc - (n + m)) = gc := by omega
        rw [this]; exact Nat.le_refl _
      · have : (n + m) * size = xs.length + news.length := by rw [hlen.1, hl, Nat.add_mul]
        rw [this]; exact take_append_eq _ _ _
    have back : ∀ gc, n + m ≤ gc → gc ≤ maxLen → St w0 (w.drew.alloc (.cells (xs.toArray ++ news.toArray ++ Builtin.zeroCells zv.cells (gc - (n + m))) e)) (L.set i (own e size (some ⟨w.heap.size, 0, none⟩) (n + m) gc (xs ++ news))) := by
      intro gc g1 g2
      obtain ⟨hb, F, hF, hFb, _⟩ := fin gc g1 g2
      refine hs.upd i hi hb.size rfl rfl rfl (fun k hk => hb.block k (Nat.lt_of_lt_of_le hk hs.size)) (fun F' _ _ => ⟨fun k _ hk _ => hb.block k hk, Asn.mono _ hF (fun k hk => .inr ⟨(hFb k hk).1, (hFb k hk).2.1⟩)⟩)
    rcases hs.know i hi (φ := (a0 = none ∧ n = 0 ∧ cap = 0) ∨ ∃ g off cs, a0 = some ⟨g, off, none⟩ ∧ w.heap[g]? = some (.cells (List.toArray cs) e (0, 0)) ∧ off + cap * size ≤ cs.length ∧ (cs.drop off).take (n * size) = xs)
      (fun F hF => hF.2.imp id (fun ⟨g, off, cs, q1, _, q3, _, _, q6, q7⟩ => ⟨g, off, cs, q1, q3, q6, q7⟩)) with ⟨rfl, rfl, rfl⟩ | ⟨g, off, cs, rfl, hg, hcap, hx⟩
    · have hxs : xs = [] := List.eq_nil_of_length_eq_zero (by simpa using hlen.1)
      subst hxs
      have hm : 0 < m := by omega
      have hne : news ≠ [] := by rintro rfl; have := hn0 rfl; omega
      obtain ⟨b, off, rfl, hc⟩ := hrc.read hne
      have hr := run_append_nil (P := P) w t ty e inf zv ht.sl hi1 hi2 ⟨b, off, none⟩ m c news (by rw [hi4]; exact hl) (fun j v hv => by rw [addr_add]; exact hc j v hv) hm (by omega) (by rw [hi5]; exact Nat.le_trans (by simpa using hbytes) (by decide))
      have hq := hcut 0 (by omega)
      simp only [Nat.zero_add] at hq
      refine ⟨some ⟨w.heap.size, 0, none⟩, grownCap w m 0 e, _, by rw [hr, Nat.zero_add], ?_, .inr (by simp)⟩
      have := back (grownCap w m 0 e) (by omega) hq.2
      simpa using this
    · have hq := hcut cap (by omega)
      have hrx := hs.rcOwn i hi
      by_cases hm : m = 0
      · have := hlen.2.1; omega
      have hne : news ≠ [] := by
        rintro rfl
        rcases Nat.mul_eq_zero.1 hl.symm with h | h <;> omega
      obtain ⟨b, boff, rfl, hc⟩ := hrc.read hne
      have hold : ∀ j v, xs[j]? = some v → w.cell? ((⟨g, off, none⟩ : Addr).add j) = some v := by
        intro j v hv
        rw [addr_add]
        rcases hrx with rfl | ⟨b', off', e', hc'⟩
        · simp at hv
        · cases e'; exact hc' j v hv
      have hr := run_append_grow (P := P) w t ty e inf zv ht.sl hi1 hi2 ⟨g, off, none⟩ n cap xs (by rw [hi4]; exact hlen.1) hold ⟨b, boff, none⟩ m c news (by rw [hi4]; exact hl) (fun j v hv => by rw [addr_add]; exact hc j v hv) (by omega) hsmall (by rw [hi5]; exact growslice_fits (by omega) hbytes)
      exact ⟨_, _, _, hr, back _ hq.1 hq.2, .inr (by simp)⟩

section
variable {P : Program} {w0 w : World} {L : List Asn} {o : Oper} {a : Act} {K : Act → World → Prop} {Q : Exit → Act → World → Prop}

/-- append onto an own slice. -/
theorem wp_append (s x : Operand) (t : TypeId) (ho : o.op = .call { callee := .builtin .append, args := #[s, x], argTypes := #[t, t] }) {e : TypeId} {agg : Bool} {size bytes : Nat} {z : List Value} (ht : SlI P t e agg size bytes z)
    (hs : St w0 w L) (i : Nat) {a0 : Option Addr} {n cap : Nat} {xs : List Value} (ha : a.eval s = .slice a0 n cap) (hi : L[i]? = some (own e size a0 n cap xs)) {ao : Option Addr} {m c : Nat} (hx : a.eval x = .slice ao m c) (news : List Value) (hl : news.length = m * size) (hrc : Rc w ao news) (h1 : ∀ u ∈ news, u.oneCell' = true)
    (h63 : n + m ≤ maxLen) (hbytes : (n + m) * bytes ≤ 140737488355328)
    (h : ∀ a' cap' w', St w0 w' (L.set i (own e size a' (n + m) cap' (xs ++ news))) → (n + m = 0 ∨ a' ≠ none) → K (a.put o.dst (.slice a' (n + m) cap')) w') : Runs P o a w K Q := by
  obtain ⟨a', cap', w', hr, h2, h3⟩ := run_append (ty := o.type) (c := c) hs i ht hi hl hrc h1 h63 hbytes
  refine wp_val ?_ (h a' cap' w' h2 h3)
  simp [execOp, ho, resolve, invoke, builtin, ha, hx, hr, Result.andThen]

/-- append onto nil. -/
theorem wp_append0 (s x : Operand) (t : TypeId) (ho : o.op = .call { callee := .builtin .append, args := #[s, x], argTypes := #[t, t] }) {e : TypeId} {agg : Bool} {size bytes : Nat} {z : List Value} (ht : SlI P t e agg size bytes z)
    (hs : St w0 w L) (ha : a.eval s = .slice none 0 0) {ao : Option Addr} {m c : Nat} (hx : a.eval x = .slice ao m c) (news : List Value) (hl : news.length = m * size) (hrc : Rc w ao news) (h1 : ∀ u ∈ news, u.oneCell' = true)
    (h63 : m ≤ maxLen) (hbytes : m * bytes ≤ 140737488355328)
    (h : ∀ a' cap' w', St w0 w' (own e size a' m cap' news :: L) → (m = 0 ∨ a' ≠ none) → K (a.put o.dst (.slice a' m cap')) w') : Runs P o a w K Q := by
  refine wp_append s x t ho ht (hs.nil e size) 0 ha rfl hx news hl hrc h1 (by simpa using h63) (by simpa using hbytes) (fun a' cap' w' h2 h3 => ?_)
  simp only [Nat.zero_add, List.nil_append, List.set_cons_zero] at h2 h3 ⊢
  exact h a' cap' w' h2 h3

/-- A slice held against nil. -/
theorem run_eqNil (t ty : TypeId) (x y : Operand) (ho : o.op = .binOp .eql t x y ty) {e : TypeId} {agg : Bool} {size bytes : Nat} {z : List Value} (ht : SlI P t e agg size bytes z) {a0 : Option Addr} {n c : Nat} (hx : a.eval x = .slice a0 n c) (hy : a.eval y = .slice none 0 0)
    : (execOp a.eval o).run P w = .ok (.value (.bool a0.isNone)) w := by
  have h1 : (eqGuard .eql t x y (.slice a0 n c) (.slice none 0 0)).run P w = .ok () w := by simp [eqGuard]
  have h2 : (binOp .eql t (.slice a0 n c) (.slice none 0 0)).run P w = .ok (.bool a0.isNone) w := by
    have hu := run_underlying ht.sl w
    cases a0 with
    | none => show ((Op.equal t (.slice none n c) (.slice none 0 0)).bind _).run P w = _; rw [Sem.run_bind']; simp only [Op.equal, Op.maxDepth]; rw [show (10000 : Nat) = 9999 + 1 from rfl]; unfold Op.equalIn; rw [Sem.run_bind, hu]; rfl
    | some ad => show ((Op.equal t (.slice (some ad) n c) (.slice none 0 0)).bind _).run P w = _; rw [Sem.run_bind']; simp only [Op.equal, Op.maxDepth]; rw [show (10000 : Nat) = 9999 + 1 from rfl]; unfold Op.equalIn; rw [Sem.run_bind, hu]; rfl
  simp only [execOp, ho, hx, hy, Sem.run_bind, h1, h2, Result.andThen_ok, Sem.run_pure]
theorem wp_eqNil (t ty : TypeId) (x y : Operand) (ho : o.op = .binOp .eql t x y ty) {e : TypeId} {agg : Bool} {size bytes : Nat} {z : List Value} (ht : SlI P t e agg size bytes z) {a0 : Option Addr} {n c : Nat} (hx : a.eval x = .slice a0 n c) (hy : a.eval y = .slice none 0 0)
    (h : K (a.put o.dst (.bool a0.isNone)) w) : Runs P o a w K Q :=
  wp_val (run_eqNil t ty x y ho ht hx hy) h

/-- An empty slice, not nil. -/
theorem wp_buildSlice0 (t : TypeId) (ho : o.op = .buildSlice t 0 #[]) {e : TypeId} {agg : Bool} {size bytes : Nat} {z : List Value} (ht : SlI P t e agg size bytes z) (hs : St w0 w L)
    (h : ∀ g w', St w0 w' (own e size (some ⟨g, 0, none⟩) 0 0 [] :: L) → K (a.put o.dst (.slice (some ⟨g, 0, none⟩) 0 0)) w') : Runs P o a w K Q := by
  refine wp_val (v := .slice (some ⟨w.heap.size, 0, none⟩) 0 0) (w' := w.alloc (.cells #[] e)) ?_ (h _ _ ?_)
  · simp [execOp, ho, Instr.buildSlice, run_underlying ht.sl, ht.el.run_size, Instr.fill, newRow]
    congr 2
    exact Array.map_empty
  · have := hs.alloc #[] e
    exact this.turn 0 (P' := own e size (some ⟨w.heap.size, 0, none⟩) 0 0 []) rfl (fun F => blk.own (size := size) (n := 0) (by simp) (by simp [maxLen]) _ F)

/-- make([]T, n): n zero elements. -/
theorem wp_make (l c : Operand) (t : TypeId) (ho : o.op = .makeSlice t l c) {e : TypeId} {agg : Bool} {size bytes : Nat} {z : List Value} (ht : SlI P t e agg size bytes z)
    (hs : St w0 w L) (n : Nat) {kl kc : IntKind} {I J : Int} (hl : a.eval l = .int kl I) (hI : I = (n : Int)) (hc : a.eval c = .int kc J) (hJ : J = (n : Int)) (hb : bytes * n ≤ 281474976710656) (hm : n ≤ maxLen)
    (h : ∀ g w', St w0 w' (own e size (some ⟨g, 0, none⟩) n n (madeCells z.toArray (n * size)).toList :: L) → K (a.put o.dst (.slice (some ⟨g, 0, none⟩) n n)) w') : Runs P o a w K Q := by
  obtain ⟨inf, zv, hi1, hi2, hi3, hi4, hi5⟩ := ht.el.info
  subst hI; subst hJ
  obtain ⟨w', hr, h2, h3⟩ := run_make_full (P := P) w w.heap.size t e inf zv size ht.sl hi1 hi2 hi4 kl kc n (by rw [hi5]; exact hb) hm (Nat.le_refl _)
  have hzc : zv.cells = z.toArray := by rw [← hi3]
  rw [hzc] at h2
  refine wp_val (v := .slice (some ⟨w.heap.size, 0, none⟩) n n) (w' := w') (by simp [execOp, ho, hl, hc, hr, Result.andThen]) (h _ _ ?_)
  refine hs.comp (M := [_]) ?_
  obtain ⟨q1, ⟨q, _⟩ | ⟨g, cap, cur, q2, q3, q4, q5, q6, q7, q8⟩⟩ := h2
  · cases q
  · cases q2
    have hlt : w.heap.size < w'.heap.size := (Array.getElem?_eq_some_iff.1 q4).1
    refine growSL h3.size h3.os h3.tape h3.output (fun k hk => h3.block k hk (by simp)) ⟨q1, .inr ⟨w.heap.size, 0, cur.toList, rfl, ⟨Nat.le_refl _, hlt⟩, by simpa using q4, Nat.le_refl _, hm, by simp [q7], by simpa using q8⟩⟩

/-- copy into a block of the call's own (elements of one cell). -/
theorem wp_copyBlk (d s : Operand) (dT sT : TypeId) (ho : o.op = .call { callee := .builtin .copy, args := #[d, s], argTypes := #[dT, sT] }) {e : TypeId} {agg : Bool} {bytes : Nat} {z : List Value} (ht : SlI P dT e agg 1 bytes z)
    (hs : St w0 w L) (i : Nat) {g off dLen dCap : Nat} (hd : a.eval d = .slice (some ⟨g, off, none⟩) dLen dCap) {ao : Option Addr} {sLen sCap : Nat} (hx : a.eval s = .slice ao sLen sCap) {t : TypeId} {cs : List Value} (hi : L[i]? = some (blk g t cs))
    (vs : List Value) (hl : vs.length = min sLen dLen) (hrc : Rc w ao vs) (h1 : ∀ u ∈ vs, u.oneCell' = true) (cs' : List Value) (hcs : splice cs off vs = cs') (hfit : off + vs.length ≤ cs.length)
    (h : ∀ w', St w0 w' (L.set i (blk g t cs')) → K (a.put o.dst (.int .i64 (min sLen dLen : Nat))) w') : Runs P o a w K Q := by
  obtain ⟨inf, zv, hi1, hi2, hi3, hi4, hi5⟩ := ht.el.info
  have hg : w.heap[g]? = some (.cells cs.toArray t (0, 0)) := hs.know i hi (fun _ hF => hF.2)
  have hfirst : (Builtin.firstCells 1 (min sLen dLen) (.slice ao sLen sCap)).run P w = .ok vs.toArray w := by
    rcases hrc with rfl | ⟨b, boff, rfl, hc⟩
    · have hm : min sLen dLen = 0 := by simpa using hl.symm
      rw [hm]
      cases ao <;> simp [Builtin.firstCells, loadCells, loadCellsFrom]
    · exact run_firstCells_some w 1 _ ⟨b, boff, none⟩ sLen sCap vs (by omega) (fun j v hv => by rw [addr_add]; exact hc j v hv)
  have hst := run_storeCells_at P g off t vs 0 cs.toArray w hg (by simpa using hfit) h1
  have hst2 : (storeCells ⟨g, off, none⟩ vs).run P w = .ok () (w.setRow g cs'.toArray) := by rw [← hcs]; simpa [splice] using hst
  refine wp_val (v := .int .i64 (min sLen dLen : Nat)) (w' := w.setRow g cs'.toArray) ?_ (h _ (hs.setRow i hi g _ (fun F hF => hF.1) (fun F hF => ⟨hF.1, setRow_heap w g _ _ t _ hg⟩)))
  have hmin : Nat.min sLen dLen = min sLen dLen := rfl
  simp [execOp, ho, resolve, invoke, builtin, hd, hx, Builtin.copy_, run_underlying ht.sl, Builtin.lenOf, sizeOf, typeInfo, hi1, hi4, hmin, hfirst, hst2, goInt]

/-- A cut of a slice. -/
def bnd (a : Act) (x : Option Operand) (d n : Nat) : Prop := match x with
  | none => n = d
  | some x => ∃ k I, a.eval x = .int k I ∧ I = (n : Int)

theorem run_sliceSl (t : TypeId) (x : Operand) (lo hi mx : Option Operand) (ho : o.op = .slice t x lo hi mx) {e : TypeId} {agg : Bool} {size bytes : Nat} {z : List Value} (ht : SlI P t e agg size bytes z)
    {a0 : Option Addr} {n cap : Nat} (hx : a.eval x = .slice a0 n cap) (l h m : Nat) (hl : bnd a lo 0 l) (hh : bnd a hi n h) (hm : bnd a mx cap m) (hmh : mx.isSome = true → hi.isSome = true) (h1 : l ≤ h) (h2 : h ≤ m) (h3 : m ≤ cap) :
    (execOp a.eval o).run P w = .ok (.value (.slice (subA a0 l m size) (h - l) (m - l))) w := by
  have hu : P.underlying t = some (.slice (P.elem t)) := by
    have := ht.sl
    simp [Program.elem, this]
  have he : P.elem t = e := by
    have := ht.sl
    simp [Program.elem, this]
  have b0 : ∀ (k : IntKind) (i y : Nat) (code : BoundsCode), i ≤ y → (Instr.sliceBound (.int k (i : Int)) y code).run P w = .ok i w := fun k i y code hh => by
    have := run_sliceBound (P := P) w k (i : Int) y code (by omega) (by omega)
    simpa using this
  simp only [execOp, ho, hx, Sem.run_bind]
  rw [run_sliceAt_slice _ _ _ _ _ _ hu, run_slice_any w t a0 n cap hu]
  have hb : (Instr.sliceBounds true n cap (lo.map a.eval) (hi.map a.eval) (mx.map a.eval)).run P w = .ok (l, h, m) w := by
    cases lo <;> cases hi <;> cases mx <;> simp only [bnd] at hl hh hm <;> (try (simp at hmh; done))
    all_goals
      (try obtain ⟨k1, I1, e1, rfl⟩ := hl)
      (try obtain ⟨k2, I2, e2, rfl⟩ := hh)
      (try obtain ⟨k3, I3, e3, rfl⟩ := hm)
      (try subst hl)
      (try subst hh)
      (try subst hm)
      simp [Instr.sliceBounds, *]
  rw [hb]
  simp [he, ht.el.run_size, sliced, subA]

theorem wp_slice (t : TypeId) (x : Operand) (lo hi mx : Option Operand) (ho : o.op = .slice t x lo hi mx) {e : TypeId} {agg : Bool} {size bytes : Nat} {z : List Value} (ht : SlI P t e agg size bytes z)
    {a0 : Option Addr} {n cap : Nat} (hx : a.eval x = .slice a0 n cap) (l h m : Nat) (hl : bnd a lo 0 l) (hh : bnd a hi n h) (hm : bnd a mx cap m) (hmh : mx.isSome = true → hi.isSome = true) (h1 : l ≤ h) (h2 : h ≤ m) (h3 : m ≤ cap)
    (hk : K (a.put o.dst (.slice (subA a0 l m size) (h - l) (m - l))) w) : Runs P o a w K Q :=
  wp_val (run_sliceSl t x lo hi mx ho ht hx l h m hl hh hm hmh h1 h2 h3) hk

/-- The address of an element. -/
theorem run_indexSl (t : TypeId) (x i : Operand) (ho : o.op = .indexAddr t x i) {e : TypeId} {agg : Bool} {size bytes : Nat} {z : List Value} (ht : SlI P t e agg size bytes z)
    {b off n cap : Nat} (hx : a.eval x = .slice (some ⟨b, off, none⟩) n cap) (j : Nat) {k : IntKind} {I : Int} (hi : a.eval i = .int k I) (hI : I = (j : Int)) (hj : j < n)
    : (execOp a.eval o).run P w = .ok (.value (.pointer (some ⟨b, off + j * size, none⟩))) w := by
  subst hI
  simp [execOp, ho, hx, hi, Instr.indexAt, asIntOf, run_underlying ht.sl, ht.el.run_size, hj, addr_add]
theorem wp_indexSl (t : TypeId) (x i : Operand) (ho : o.op = .indexAddr t x i) {e : TypeId} {agg : Bool} {size bytes : Nat} {z : List Value} (ht : SlI P t e agg size bytes z)
    {b off n cap : Nat} (hx : a.eval x = .slice (some ⟨b, off, none⟩) n cap) (j : Nat) {k : IntKind} {I : Int} (hi : a.eval i = .int k I) (hI : I = (j : Int)) (hj : j < n)
    (h : K (a.put o.dst (.pointer (some ⟨b, off + j * size, none⟩))) w) : Runs P o a w K Q :=
  wp_val (run_indexSl t x i ho ht hx j hi hI hj) h

end

/-! ### What a function answers -/
def rvRun (P : Program) (tmps : Array Value) (w : World) (r : ResultVar) (v : Value) : Prop := match r with
  | .tmp t => tmps.getD t undef = v
  | .cell a t => ∃ ad, tmps.getD a undef = .pointer (some ad) ∧ (loadVar t ad).run P w = .ok v w

section
variable {P : Program} {w0 w : World} {L : List Asn} {tmps : Array Value} {fn : Func}
def rvVal (tmps : Array Value) (r : ResultVar) : Sem Value := match r with
  | .tmp t => pure (tmps.getD t undef)
  | .cell a t => do loadVar t (← asAddr (tmps.getD a undef))
theorem results_eq : results fn tmps = (do let vs ← fn.results.mapM (rvVal tmps); pure (if h : vs.size = 1 then vs[0] else .tuple vs)) := rfl
theorem rv_run {r : ResultVar} {v : Value} (h : rvRun P tmps w r v) : (rvVal tmps r).run P w = .ok v w := by
  cases r with
  | tmp t => have h : tmps.getD t undef = v := h; subst h; rfl
  | cell a t => obtain ⟨ad, h1, h2⟩ := h; simp only [rvVal, Sem.run_bind, h1, asAddr, Sem.run_pure, Result.andThen_ok, h2]

theorem results1 {r : ResultVar} {v : Value} (h : fn.results = #[r]) (h1 : rvRun P tmps w r v) : (results fn tmps).run P w = .ok v w := by
  have e1 := rv_run h1
  rw [results_eq, h]
  simp [Sem.run_bind, e1]
theorem results2 {r1 r2 : ResultVar} {v1 v2 : Value} (h : fn.results = #[r1, r2]) (h1 : rvRun P tmps w r1 v1) (h2 : rvRun P tmps w r2 v2) : (results fn tmps).run P w = .ok (.tuple #[v1, v2]) w := by
  have e1 := rv_run h1
  have e2 := rv_run h2
  rw [results_eq, h]
  simp [Sem.run_bind, e1, e2]
theorem results3 {r1 r2 r3 : ResultVar} {v1 v2 v3 : Value} (h : fn.results = #[r1, r2, r3]) (h1 : rvRun P tmps w r1 v1) (h2 : rvRun P tmps w r2 v2) (h3 : rvRun P tmps w r3 v3) : (results fn tmps).run P w = .ok (.tuple #[v1, v2, v3]) w := by
  have e1 := rv_run h1
  have e2 := rv_run h2
  have e3 := rv_run h3
  rw [results_eq, h]
  simp [Sem.run_bind, e1, e2, e3]

theorem loadAgg_run {ty : TypeId} {size bytes : Nat} {z : List Value} (ht : TyI P ty true size bytes z) {b off : Nat} {vs : List Value} (hl : vs.length = size) (hc : Rc w (some ⟨b, off, none⟩) vs) : (loadVar ty ⟨b, off, none⟩).run P w = .ok (.agg vs.toArray) w := by
  obtain ⟨b', off', e', hc⟩ := hc.read (by intro e; subst e; have := ht.pos; simp at hl; omega)
  cases e'
  have hr := run_loadCells_list (P := P) w ⟨b, off, none⟩ vs (fun j v hv => by rw [addr_add]; exact hc j v hv)
  simp [loadVar, ht.run_isAgg, ht.run_size, ← hl, hr]

theorem rvBlk (hs : St w0 w L) (i : Nat) {p : Tmp} {ty : TypeId} {g : Nat} {t : TypeId} {cs : List Value} (hp : tmps.getD p undef = .pointer (some ⟨g, 0, none⟩)) (hi : L[i]? = some (blk g t cs)) {size bytes : Nat} {z : List Value} (ht : TyI P ty true size bytes z) (hl : cs.length = size) :
    rvRun P tmps w (.cell p ty) (.agg cs.toArray) := ⟨_, hp, loadAgg_run ht hl (hs.rcBlk i hi)⟩
theorem rvBlk1 (hs : St w0 w L) (i : Nat) {p : Tmp} {ty : TypeId} {g : Nat} {t : TypeId} {v : Value} (hp : tmps.getD p undef = .pointer (some ⟨g, 0, none⟩)) (hi : L[i]? = some (blk g t [v])) {size bytes : Nat} {z : List Value} (ht : TyI P ty false size bytes z) :
    rvRun P tmps w (.cell p ty) v := by
  refine ⟨_, hp, ?_⟩
  have hc := (hs.rcBlk i hi).at 0 (by simp)
  obtain ⟨b, off, e, hc⟩ := hc
  cases e
  have hc' : w.cell? ⟨g, 0, none⟩ = some v := hc
  simp [loadVar, ht.run_isAgg, hc']
end
end Go.Proofs.YtpnhgmmijkjmlaaDoor

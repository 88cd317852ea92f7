/-
  Laws for slices.Insert and slices.Delete: copies into one's own slices, zeros put behind, what is cleared, whether slices overlap. What is the same is known to be. Bytes turned on. slices.Equal of bytes.
-/
import Derived.Test.YtcpndfffdbogbaaGreatDoorGC
import Derived.Lib.AppendZerosOnto
import Derived.Lib.Overlaps
import Derived.Test.YtcpndfffdbogbaaGreatDoorGF
set_option linter.unusedVariables false
set_option linter.unusedSimpArgs false
set_option linter.unusedSectionVars false

namespace Go.Proofs.YtcpndfffdbogbaaGreatDoor
open Go Go.RowKit

section
variable {P : Program} {w0 w : World} {L : List Asn} {o : Oper} {a : Act} {K : Act → World → Prop} {Q : Exit → Act → World → Prop}
theorem run_first {sz n : Nat} {ao : Option Addr} {m c : Nat} {vs : List Value} (hpos : 0 < sz) (hl : vs.length = n * sz) (hrc : Rc w ao vs) : (Builtin.firstCells sz n (.slice ao m c)).run P w = .ok vs.toArray w := by
  rcases hrc with rfl | ⟨b, boff, rfl, hc⟩
  · have hm : n = 0 := by
      rcases Nat.mul_eq_zero.1 hl.symm with h | h
      · exact h
      · omega
    subst hm
    cases ao <;> simp [Builtin.firstCells, loadCells, loadCellsFrom]
  · exact run_firstCells_some w sz _ ⟨b, boff, none⟩ m c vs hl (fun j v hv => by rw [addr_add]; exact hc j v hv)
/-- Copy into an own slice. -/
theorem wp_copyOwn (d s : Operand) (dT sT : TypeId) (ho : o.op = .call { callee := .builtin .copy, args := #[d, s], argTypes := #[dT, sT] }) {e : TypeId} {agg : Bool} {size bytes : Nat} {z : List Value} (ht : SlI P dT e agg size bytes z)
    (hs : St w0 w L) (i : Nat) {g off k dLen dCap : Nat} (hd : a.eval d = .slice (some ⟨g, off + k, none⟩) dLen dCap) {ao : Option Addr} {sLen sCap : Nat} (hx : a.eval s = .slice ao sLen sCap) {t : TypeId} {sz n cap : Nat} {xs : List Value} (hi : L[i]? = some (own t sz (some ⟨g, off, none⟩) n cap xs))
    (vs : List Value) (hl : vs.length = min sLen dLen * size) (hrc : Rc w ao vs) (h1 : ∀ u ∈ vs, u.oneCell' = true) (xs' : List Value) (hcs : splice xs k vs = xs') (hfit : k + vs.length ≤ xs.length)
    (h : ∀ w', St w0 w' (L.set i (own t sz (some ⟨g, off, none⟩) n cap xs')) → K (a.put o.dst (.int .i64 (min sLen dLen : Nat))) w') : Runs P o a w K Q := by
  obtain ⟨inf, zv, hi1, hi2, hi3, hi4, hi5⟩ := ht.el.info
  have hk : ∃ cs, w.heap[g]? = some (.cells (List.toArray cs) t (0, 0)) ∧ n ≤ cap ∧ cap ≤ maxLen ∧ off + cap * sz ≤ cs.length ∧ (cs.drop off).take (n * sz) = xs ∧ xs.length = n * sz := hs.know i hi (fun F hF => by
    obtain ⟨h0, hF⟩ := hF
    rcases hF with ⟨e, _⟩ | ⟨g', off', cs, e, _, hg, r1, r2, r3, r4⟩
    · cases e
    · cases e; exact ⟨cs, hg, r1, r2, r3, r4, h0⟩)
  obtain ⟨cs, hg, r1, r2, r3, r4, r5⟩ := hk
  have hle : n * sz ≤ cap * sz := Nat.mul_le_mul_right _ r1
  have hfirst := run_first (P := P) (m := sLen) (c := sCap) ht.el.pos hl hrc
  have hst := run_storeCells_at P g (off + k) t vs 0 cs.toArray w hg (by simp; omega) h1
  have hst2 : (storeCells ⟨g, off + k, none⟩ vs).run P w = .ok () (w.setRow g (splice cs (off + k) vs).toArray) := by simpa [splice] using hst
  refine wp_val (v := .int .i64 (min sLen dLen : Nat)) (w' := w.setRow g (splice cs (off + k) vs).toArray) ?_ (h _ (hs.setRow i hi g _ (fun F hF => ?_) (fun F hF => ?_)))
  · have hmin : Nat.min sLen dLen = min sLen dLen := rfl
    simp [execOp, ho, resolve, invoke, builtin, hd, hx, Builtin.copy_, run_underlying ht.sl, Builtin.lenOf, sizeOf, typeInfo, hi1, hi4, hmin, hfirst, hst2, goInt]
  · obtain ⟨_, hF⟩ := hF
    rcases hF with ⟨e, _⟩ | ⟨g', off', cs, e, f, _⟩
    · cases e
    · cases e; exact f
  · have hFg : F g := by
      obtain ⟨_, hF⟩ := hF
      rcases hF with ⟨e, _⟩ | ⟨g', off', cs, e, f, _⟩
      · cases e
      · cases e; exact f
    have hxl : xs'.length = xs.length := by rw [← hcs]; exact length_splice _ _ _ hfit
    refine ⟨by omega, .inr ⟨g, off, splice cs (off + k) vs, rfl, hFg, setRow_heap w g _ _ t _ hg, r1, r2, by rw [length_splice _ _ _ (by omega)]; exact r3, ?_⟩⟩
    have hcl := length_splice cs (off + k) vs (by omega)
    rw [← hcs, ← r4]
    apply List.ext_getElem?
    intro j
    have hk2 : k + vs.length ≤ ((cs.drop off).take (n * sz)).length := by rw [r4]; exact hfit
    simp only [List.getElem?_take, List.getElem?_drop, splice, List.getElem?_append, List.length_take, List.length_drop]
    simp only [List.length_take, List.length_drop] at hk2
    repeat' split
    all_goals first | rfl | omega | skip
    all_goals first | (congr 1; omega) | (rw [List.getElem?_eq_none (by omega)]; done) | (exfalso; omega) | skip

/-- Put behind, in the spare room: in place. -/
theorem run_appendRoom (hs : St w0 w L) (i : Nat) {t ty e : TypeId} {agg : Bool} {size bytes : Nat} {z : List Value} (ht : SlI P t e agg size bytes z)
    {a0 : Option Addr} {n cap : Nat} {xs : List Value} (hi : L[i]? = some (own e size a0 n cap xs)) {ao : Option Addr} {m c : Nat} {news : List Value} (hl : news.length = m * size) (hrc : Rc w ao news) (h1 : ∀ u ∈ news, u.oneCell' = true) (hroom : n + m ≤ cap) (h0 : 0 < cap) :
    ∃ w', (Builtin.append_ #[t, t] ty #[.slice a0 n cap, .slice ao m c]).run P w = .ok (.slice a0 (n + m) cap) w' ∧ St w0 w' (L.set i (own e size a0 (n + m) cap (xs ++ news))) := by
  obtain ⟨inf, zv, hi1, hi2, hi3, hi4, hi5⟩ := ht.el.info
  have hfirst := run_first (P := P) (m := m) (c := c) ht.el.pos hl hrc
  have hlen := hs.ownLen i hi
  rcases hs.know i hi (φ := (a0 = none ∧ n = 0 ∧ cap = 0) ∨ ∃ g off cs, a0 = some ⟨g, off, none⟩ ∧ w.heap[g]? = some (.cells (List.toArray cs) e (0, 0)) ∧ off + cap * size ≤ cs.length ∧ (cs.drop off).take (n * size) = xs)
      (fun F hF => hF.2.imp id (fun ⟨g, off, cs, q1, _, q3, _, _, q6, q7⟩ => ⟨g, off, cs, q1, q3, q6, q7⟩)) with ⟨rfl, rfl, rfl⟩ | ⟨g, off, cs, rfl, hg, hcap, hx⟩
  · omega
  · have hle : n * size + m * size ≤ cap * size := by rw [← Nat.add_mul]; exact Nat.mul_le_mul_right _ hroom
    have hst := run_storeCells_at P g (off + n * size) e news 0 cs.toArray w hg (by simp; omega) h1
    refine ⟨w.setRow g (splice cs (off + n * size) news).toArray, ?_, hs.setRow i hi g _ (fun F hF => ?_) (fun F hF => ?_)⟩
    · simp only [Nat.add_zero] at hst
      simp [Builtin.append_, run_underlying ht.sl, sizeOf, typeInfo, hi1, hi4, Builtin.lenOf, hroom, hfirst, Addr.add_lit, hst, splice]
    · obtain ⟨_, ⟨e, _⟩ | ⟨g', off', cs, e, f, _⟩⟩ := hF
      · cases e
      · cases e; exact f
    · have hFg : F g := by
        obtain ⟨_, ⟨e, _⟩ | ⟨g', off', cs, e, f, _⟩⟩ := hF
        · cases e
        · cases e; exact f
      have hfit : off + n * size + news.length ≤ cs.length := by omega
      refine ⟨by rw [List.length_append, hlen.1, hl, Nat.add_mul], .inr ⟨g, off, _, rfl, hFg, setRow_heap w g _ _ e _ hg, hroom, hlen.2.2, by rw [length_splice _ _ _ hfit]; exact hcap, ?_⟩⟩
      apply List.ext_getElem?
      intro j
      rw [← hx, Nat.add_mul]
      have hln : ((cs.drop off).take (n * size)).length = n * size := by rw [hx]; exact hlen.1
      simp only [List.getElem?_take, List.getElem?_drop, splice, List.getElem?_append, List.length_take, List.length_drop]
      simp only [List.length_take, List.length_drop] at hln
      repeat' split
      all_goals first | rfl | (exfalso; omega) | (congr 1; omega) | (rw [List.getElem?_eq_none (by omega)]; done) | (symm; rw [List.getElem?_eq_none (by omega)]; done) | skip
end

section
variable {P : Program} {ro : Option Nat} {w0 : World} {n : Nat} {ds : List Deferred} {fr : Fr} {L L' : List Asn} {Q : Exit → List Deferred → Fr → List Asn → Prop} {K : List Deferred → Fr → List Asn → Prop}
variable {dd : Nat} {ty : TypeId} {pos : String} {after : Array Edge} {gd : Option (Nat × Bool)} {e dT sT t : TypeId} {agg : Bool} {size bytes : Nat} {z : List Value} {dst : Option Nat}
theorem vq_capSl {x : Operand} {t e : TypeId} {a0 : Option Addr} {m c : Nat} [hu : UT P t (.slice e)] (hx : evA fr x = some (.slice a0 m c)) : VQ P w0 n ⟨dst, .call { callee := .builtin .cap, args := #[x], argTypes := #[t] }, ty, pos, after, gd⟩ (.int .i64 c) ds fr L := vq_val (fun a w hk _ => by
  simp [execOp, resolve, invoke, builtin, hk.ev hx, Builtin.cap_, run_underlying hu.out, goInt])
theorem own_some {a0 : Option Addr} {w : World} {i m c : Nat} {xs : List Value} (hs : St w0 w L) (hb : L[i]? = some (own e size a0 m c xs)) (h0 : 0 < xs.length) : ∃ g off, a0 = some ⟨g, off, none⟩ := by
  obtain ⟨b, off, e, _⟩ := (hs.rcOwn i hb).read (by rintro rfl; simp at h0)
  exact ⟨b, off, e⟩
theorem vo_copyO {d s : Operand} {a0 ao : Option Addr} {lo q dLen dCap sLen sCap m c i : Nat} {xs xs' us0 us : List Value} (hd : evA fr d = some (.slice (subA a0 lo q size) dLen dCap)) (hx : evA fr s = some (.slice ao sLen sCap)) (hdn : Nat.blt dd n = true) [hu : SlI P dT e agg size bytes z] [hb : HasOwn L a0 i e size m c xs] (hq : lo ≠ q) (h0 : 0 < xs.length) [hr : RdC w0 L ao us0] (hus : us0.take (min sLen dLen * size) = us) (hl : us.length = min sLen dLen * size) [oc : OC us] (hfit : lo * size + us.length ≤ xs.length) (hxs : splice xs (lo * size) us = xs') [hset : SetI L i (own e size a0 m c xs') L']
    (h : K ds ((dd, .int .i64 ((min sLen dLen : Nat) : Int)) :: fr) L') : VO P ro w0 n ⟨some dd, .call { callee := .builtin .copy, args := #[d, s], argTypes := #[dT, sT] }, ty, pos, after, gd⟩ K Q ds fr L :=
  vo_runs (fun _ => by simp) (fun a w hk hs => by
    obtain ⟨g, off, rfl⟩ := own_some hs hb.out h0
    have hd' : a.eval d = .slice (some ⟨g, off + lo * size, none⟩) dLen dCap := by
      rw [hk.ev hd]; simp [subA, Ne.symm hq, addr_add]
    have hrc : Rc w ao us := by
      rcases hr.out w hs with e | ⟨b, o, hb0, hc⟩
      · subst e; exact .inl (by rw [← hus]; simp)
      · refine .inr ⟨b, o, hb0, fun j u hu => hc j u ?_⟩
        rw [← hus, List.getElem?_take] at hu
        split at hu
        · exact hu
        · cases hu
    exact wp_copyOwn d s dT sT rfl hu hs i hd' (hk.ev hx) hb.out us hl hrc oc.out xs' hxs hfit (fun w' hs' => ⟨_, _, _, hk.put dd _ hdn, by rw [hset.out]; exact hs', h⟩))
/-- Put behind, where there is room (also from the same memory). -/
theorem vo_appendRoom {s x : Operand} {a0 ao : Option Addr} {m m0 c m' c' i : Nat} {xs news : List Value} (hs : evA fr s = some (.slice a0 m0 c)) (hx : evA fr x = some (.slice ao m' c')) (hdn : Nat.blt dd n = true) [hu : SlI P t e agg size bytes z] [hb : HasOwn L a0 i e size m c xs] (hm : m0 ≤ m) (hroom : m0 + m' ≤ c) (h0 : 0 < c) [hr : RdC w0 L ao news] [oc : OC news] (hl : news.length = m' * size)
    [hset : SetI L i (own e size a0 (m0 + m') c (xs.take (m0 * size) ++ news)) L']
    (h : K ds ((dd, .slice a0 (m0 + m') c) :: fr) L') :
    VO P ro w0 n ⟨some dd, .call { callee := .builtin .append, args := #[s, x], argTypes := #[t, t] }, ty, pos, after, gd⟩ K Q ds fr L :=
  vo_runs (fun _ => by simp) (fun a w hk hs1 => by
    have hrc := hr.out w hs1
    have hlen := hs1.ownLen i hb.out
    have hs2 := hs1.turn i hb.out (P' := own e size a0 m0 c (xs.take (m0 * size))) (own_cut m0 c hm (Nat.le_refl _) (by omega) w)
    have hi2 : (L.set i (own e size a0 m0 c (xs.take (m0 * size))))[i]? = some (own e size a0 m0 c (xs.take (m0 * size))) := by
      have := (List.getElem?_eq_some_iff.1 hb.out).1
      rw [List.getElem?_set_self (by simpa using this)]
    obtain ⟨w', hr', hs'⟩ := run_appendRoom (ty := ty) (c := c') hs2 i hu hi2 hl hrc oc.out hroom h0
    refine wp_val (v := .slice a0 (m0 + m') c) (w' := w') (by simp [execOp, resolve, invoke, builtin, hk.ev hs, hk.ev hx, hr', Result.andThen]) ⟨_, _, _, hk.put dd _ hdn, ?_, h⟩
    rw [hset.out]
    rw [List.set_set] at hs'
    exact hs')
/-- Zeros put behind, in a new block. -/
theorem vo_appendZ {s x : Operand} {a0 : Option Addr} {m c k : Nat} {I : Int} {kq kn : IntKind} {tn : TypeId} {olds : List Value} (hs : evA fr s = some (.slice a0 m c)) (hx : evA fr x = some (.int kq I)) (hI : I = (k : Int)) (hdn : Nat.blt dd n = true) [hu : SlI P t e agg size bytes z] [htn : UT P tn (.int kn)] [hr : RdC w0 L a0 olds] (hl : olds.length = m * size) (hk0 : 0 < k) (hg : c < m + k) (h63 : m + k ≤ maxLen) (hby : (m + k) * bytes ≤ 140737488355328)
    (h : ∀ g c' zs, zs.length = k * size → m + k ≤ c' → K ds ((dd, .slice (some ⟨g, 0, none⟩) (m + k) c') :: fr) (own e size (some ⟨g, 0, none⟩) (m + k) c' (olds ++ zs) :: L)) :
    VO P ro w0 n ⟨some dd, .call { callee := .builtin .append, args := #[s, x], argTypes := #[t, tn] }, ty, pos, after, gd⟩ K Q ds fr L :=
  vo_runs (fun _ => by simp) (fun a w hk hs1 => by
    subst hI
    obtain ⟨inf, zv, hi1, hi2, hi3, hi4, hi5⟩ := hu.el.info
    have hpos := hu.el.pos
    have hzcells : zv.cells.size = size := by rw [← hu.el.len, ← hi3]; simp
    have hrc : Rc w.drew a0 olds := hr.out w hs1
    have hold := run_first (P := P) (m := m) (c := c) (by rw [hi4]; exact hpos : 0 < inf.size) (by rw [hi4]; exact hl) hrc
    have hsmall : ((m + k : Nat) : Int) ≤ 9223372036854775807 := by simp only [maxLen] at h63; omega
    have hkb : k * inf.bytes ≤ 281474976710656 := by
      rw [hi5]
      have : k * bytes ≤ (m + k) * bytes := Nat.mul_le_mul_right _ (by omega)
      omega
    have hr' := Lib.run_append_grow_zeros (P := P) w t tn ty e inf zv kq kn hu.sl htn.out hi1 hi2 a0 m c olds hold k hk0 (by rw [hi4]; exact hpos) hg hsmall hkb (by rw [hi5]; exact growslice_fits (by omega) hby)
    have g1 := grownCap_ge w (m + k) c e
    have g2 := grownCap_le_maxLen w (m + k) c e h63
    generalize grownCap w (m + k) c e = gc at *
    have fin : St w (w.drew.alloc (.cells (olds.toArray ++ Builtin.zeroCells zv.cells k ++ Builtin.zeroCells zv.cells (gc - (m + k))) e)) [own e size (some ⟨w.heap.size, 0, none⟩) (m + k) gc (olds ++ (Builtin.zeroCells zv.cells k).toList)] := by
      refine growSL (by simp) rfl rfl rfl (fun j hj => Below.heap_alloc w.drew _ j hj) ⟨by simp [hl, size_zeroCells, hzcells, Nat.add_mul], .inr ⟨w.heap.size, 0, olds ++ (Builtin.zeroCells zv.cells k).toList ++ (Builtin.zeroCells zv.cells (gc - (m + k))).toList, rfl, ⟨Nat.le_refl _, by simp⟩, ?_, g1, g2, ?_, ?_⟩⟩
      · have := heap_alloc_new w.drew (.cells (olds.toArray ++ Builtin.zeroCells zv.cells k ++ Builtin.zeroCells zv.cells (gc - (m + k))) e)
        rw [heap_drew] at this
        rw [this]
        simp
      · simp only [List.length_append, Array.length_toList, size_zeroCells, hzcells, hl, ← Nat.add_mul, Nat.zero_add]
        have : m + k + (gc - (m + k)) = gc := by omega
        rw [this]; exact Nat.le_refl _
      · have : (m + k) * size = olds.length + (Builtin.zeroCells zv.cells k).toList.length := by simp [hl, size_zeroCells, hzcells, Nat.add_mul]
        rw [this]; exact take_append_eq _ _ _
    have fin2 := hs1.comp fin
    generalize w.drew.alloc (.cells (olds.toArray ++ Builtin.zeroCells zv.cells k ++ Builtin.zeroCells zv.cells (gc - (m + k))) e) = W at *
    exact wp_val (v := .slice (some ⟨w.heap.size, 0, none⟩) (m + k) gc) (w' := W) (by simp [execOp, resolve, invoke, builtin, hk.ev hs, hk.ev hx, hr', Result.andThen]) ⟨_, _, _, hk.put dd _ hdn, fin2, h w.heap.size gc (Builtin.zeroCells zv.cells k).toList (by simp [size_zeroCells, hzcells]) g1⟩)
/-- Two slices of one's own lie apart. -/
theorem vo_overlaps {x y : Operand} {f : FuncId} {fn : Func} {tS tR : TypeId} {g : Nat} {a2 : Option Addr} {lo q m1 c1 m2 c2 n1 k1 k2 : Nat} {xs ys : List Value} {e1 e2 : TypeId} {s1 s2 : Nat} {L0 : List Asn} {ts : Array TypeId}
    (hx : evA fr x = some (.slice (some ⟨g, 0, none⟩) m1 c1)) (hy : evA fr y = some (.slice (subA a2 lo q s2) m2 c2)) (hL : L = own e1 s1 (some ⟨g, 0, none⟩) n1 k1 xs :: own e2 s2 a2 k2 q ys :: L0) (h0 : 0 < ys.length) (hdn : Nat.blt dd n = true)
    (hf : P.funcs[f]? = some fn) (hname : (fn.name == "runtime.NumGoroutine") = false) (hbn : fn.body.isNone = true) (hn : Extern.findNext fn = none) (he : Extern.find fn = some (Extern.SlicesOverlaps.overlaps #[tS, tS] #[tR])) [hu : SlI P tS e agg size bytes z]
    (h : K ds ((dd, .bool false) :: fr) L) : VO P ro w0 n ⟨some dd, .call { callee := .value (.func f), args := #[x, y], argTypes := ts }, ty, pos, after, gd⟩ K Q ds fr L :=
  vo_runs (fun _ => by simp) (fun a w hk hs => by
    subst hL
    have hs0 := hs
    obtain ⟨hbl, F1, ⟨p1, p2⟩, hF1, F2, ⟨q1, q2⟩, hF2, _⟩ := hs
    rcases p2 with ⟨e', _⟩ | ⟨g1, o1, cs1, e', f1, hg1, _, _, _, _⟩
    · cases e'
    cases e'
    rcases q2 with ⟨rfl, rfl, rfl⟩ | ⟨g2, o2, cs2, rfl, f2, hg2, r1, _, r3, r4⟩
    · simp at q1; subst q1; simp at h0
    have hne : g ≠ g2 := fun e => by subst e; exact (hF2 g f2).2.2 (.inr f1)
    have hl2 : cs2.length ≠ 0 := by
      intro e0
      have hcs0 : cs2 = [] := List.eq_nil_of_length_eq_zero e0
      subst hcs0
      rw [← r4] at h0
      simp at h0
    have ha2 : ∃ o', subA (some ⟨g2, o2, none⟩) lo q s2 = some ⟨g2, o', none⟩ := by
      unfold subA
      split
      · exact ⟨_, rfl⟩
      · exact ⟨o2 + lo * s2, by simp [addr_add]⟩
    obtain ⟨o', ha2⟩ := ha2
    rw [ha2] at hy
    have hsa : w.shape? g = some (e1, cs1.length) := by unfold World.shape?; rw [hg1]; simp
    have hsb : w.shape? g2 = some (e2, cs2.length) := by unfold World.shape?; rw [hg2]; simp
    have hfz : ∀ off, w.frozen? ⟨g, off, none⟩ = false := fun off => by unfold World.frozen?; simp [hg1]
    have hrun : (callFunc f #[.slice (some ⟨g, 0, none⟩) m1 c1, .slice (some ⟨g2, o', none⟩) m2 c2]).run P w = .ok (.value (.bool false)) w := by
      rw [run_callFunc_extern hf hname hbn hn he, Lib.run_overlaps_apart w tS tR e hu.sl size (fun w => hu.el.run_size w) ⟨g, 0, none⟩ ⟨g2, o', none⟩ m1 c1 m2 c2 hne e1 e2 cs1.length cs2.length hsa hsb hl2 (hfz 0) (hfz cs1.length)]
      rfl
    refine wp_val (v := .bool false) (w' := w) ?_ ⟨_, _, _, hk.put dd _ hdn, hs0, h⟩
    show (callFunc f (#[] ++ #[x, y].map a.eval ++ #[])).run P w = _
    have e2 : #[x, y].map a.eval = #[.slice (some ⟨g, 0, none⟩) m1 c1, .slice (some ⟨g2, o', none⟩) m2 c2] := by
      simp [hk.ev hx, hk.ev hy]
    rw [e2, Array.empty_append, Array.append_empty]
    exact hrun)
/-- What lies behind an own slice is cleared. -/
theorem vo_clear {x : Operand} {a0 : Option Addr} {lo k q m i : Nat} {xs : List Value} (hx : evA fr x = some (.slice (subA a0 lo m size) k q)) [hu : SlI P t e agg size bytes z] [hb : HasOwn L a0 i e size lo m xs] [oc : OC z] (hk0 : 0 < k) (hfit : lo + k ≤ m) (h : K ds fr L) : VO P ro w0 n ⟨none, .call { callee := .builtin .clear, args := #[x], argTypes := #[t] }, ty, pos, after, gd⟩ K Q ds fr L :=
  vo_runs (fun _ => by simp) (fun a w hk hs => by
    obtain ⟨inf, zv, hi1, hi2, hi3, hi4, hi5⟩ := hu.el.info
    have hzcells : zv.cells.size = size := by rw [← hu.el.len, ← hi3]; simp
    have hlen := hs.ownLen i hb.out
    rcases hs.know i hb.out (φ := (a0 = none ∧ lo = 0 ∧ m = 0) ∨ ∃ g off cs, a0 = some ⟨g, off, none⟩ ∧ w.heap[g]? = some (.cells (List.toArray cs) e (0, 0)) ∧ off + m * size ≤ cs.length ∧ (cs.drop off).take (lo * size) = xs)
      (fun F hF => hF.2.imp id (fun ⟨g, off, cs, q1, _, q3, _, _, q6, q7⟩ => ⟨g, off, cs, q1, q3, q6, q7⟩)) with ⟨rfl, rfl, rfl⟩ | ⟨g, off, cs, rfl, hg, hcap, hxs⟩
    · omega
    have hle : lo * size + k * size ≤ m * size := by rw [← Nat.add_mul]; exact Nat.mul_le_mul_right _ hfit
    have hzl : (Builtin.zeroCells zv.cells k).toList.length = k * size := by simp [size_zeroCells, hzcells]
    have h1 : ∀ u ∈ (Builtin.zeroCells zv.cells k).toList, u.oneCell' = true := by
      intro u hu'
      have hpos := hu.el.pos
      simp only [Builtin.zeroCells, Array.toList_map, List.mem_map, Array.toList_range, List.mem_range] at hu'
      obtain ⟨j, _, rfl⟩ := hu'
      have hj : j % zv.cells.size < zv.cells.size := Nat.mod_lt _ (by omega)
      rw [getElem!_pos zv.cells _ hj]
      exact oc.out _ (by rw [← hi3]; simp)
    have hst := run_storeCells_at P g (off + lo * size) e (Builtin.zeroCells zv.cells k).toList 0 cs.toArray w hg (by simp only [Nat.add_zero, List.size_toArray, hzl]; omega) h1
    have hx' : a.eval x = .slice (some ⟨g, off + lo * size, none⟩) k q := by
      rw [hk.ev hx]; simp [subA, show ¬ m = lo by omega, addr_add]
    have hset : L.set i (own e size (some ⟨g, off, none⟩) lo m xs) = L := by
      apply List.ext_getElem?
      intro j
      rw [List.getElem?_set]
      split
      · rename_i h; subst h; split
        · exact hb.out.symm
        · rename_i h; rw [List.getElem?_eq_none (by omega)]
      · rfl
    refine wp_val (v := .tuple #[]) (w' := w.setRow g (splice cs (off + lo * size) (Builtin.zeroCells zv.cells k).toList).toArray) ?_ ⟨_, _, _, hk.put0 _, ?_, h⟩
    · simp only [Nat.add_zero] at hst
      obtain ⟨k', rfl⟩ : ∃ k', k = k' + 1 := ⟨k - 1, by omega⟩
      simp [execOp, resolve, invoke, builtin, hx', Builtin.clear_, run_underlying hu.sl, zeroValue, typeInfo, hi1, hi2, hst, splice]
    · rw [← hset]
      refine hs.setRow i hb.out g _ (fun F hF => ?_) (fun F hF => ?_)
      · obtain ⟨_, ⟨e, _⟩ | ⟨g', off', cs, e, f, _⟩⟩ := hF
        · cases e
        · cases e; exact f
      · have hFg : F g := by
          obtain ⟨_, ⟨e, _⟩ | ⟨g', off', cs, e, f, _⟩⟩ := hF
          · cases e
          · cases e; exact f
        refine ⟨hlen.1, .inr ⟨g, off, _, rfl, hFg, setRow_heap w g _ _ e _ hg, hlen.2.1, hlen.2.2, by rw [length_splice _ _ _ (by omega)]; exact hcap, ?_⟩⟩
        rw [← hxs]
        apply List.ext_getElem?
        intro j
        have hcl : lo * size ≤ m * size := by omega
        simp only [List.getElem?_take, List.getElem?_drop, splice, List.getElem?_append, List.length_take]
        repeat' split
        all_goals first | rfl | (exfalso; omega) | (congr 1; omega) | skip)
end
theorem subA_0 (a : Option Addr) (m s : Nat) : subA a 0 m s = a := by
  unfold subA
  split
  · rfl
  · cases a <;> simp [Addr.add]
/-- Something is drawn from the world at a call's begin. -/
theorem vc_ex {P : Program} {w0 : World} {f : FuncId} {args : List Value} {L : List Asn} {R : Value → List Asn → Prop} {X : Type} {M : X → List Asn} (hx : ∀ w, St w0 w L → ∃ x, St w0 w (M x)) (h : ∀ x, VC P w0 f args (M x) R) : VC P w0 f args L R :=
  ⟨fun w hs => by obtain ⟨x, hs'⟩ := hx w hs; exact (h x).out w hs'⟩
/-- All that an own slice has room for. -/
theorem own_room {e : TypeId} {size : Nat} {a : Option Addr} {m c : Nat} {xs : List Value} {w : World} {F : Nat → Prop} (h : (own e size a m c xs).holds w F) : ∃ ys : List Value, ys.length = (c - m) * size ∧ (own e size a c c (xs ++ ys)).holds w F := by
  obtain ⟨h1, ⟨rfl, rfl, rfl⟩ | ⟨g, off, cs, rfl, f, hg, q1, q2, q3, q4⟩⟩ := h
  · exact ⟨[], by simp, by simpa using h1, .inl ⟨rfl, rfl, rfl⟩⟩
  · have hmc : m * size ≤ c * size := Nat.mul_le_mul_right _ q1
    have hsub : (c - m) * size = c * size - m * size := Nat.sub_mul _ _ _
    refine ⟨((cs.drop off).drop (m * size)).take ((c - m) * size), by simp; omega, by simp [h1]; omega, .inr ⟨g, off, cs, rfl, f, hg, Nat.le_refl _, q2, q3, ?_⟩⟩
    rw [← q4, show c * size = m * size + (c - m) * size by omega, List.take_add]
theorem st_room {w0 w : World} {L : List Asn} {e : TypeId} {size : Nat} {a : Option Addr} {m c : Nat} {xs : List Value} (P1 : Asn) (h : St w0 w (P1 :: own e size a m c xs :: L)) : ∃ ys : { ys : List Value // ys.length = (c - m) * size }, St w0 w (P1 :: own e size a c c (xs ++ ys.1) :: L) := by
  obtain ⟨hb, F1, p1, hF1, F2, p2, hF2, h3⟩ := h
  obtain ⟨ys, hy, p2'⟩ := own_room p2
  exact ⟨⟨ys, hy⟩, hb, F1, p1, hF1, F2, p2', hF2, h3⟩
end Go.Proofs.YtcpndfffdbogbaaGreatDoor
namespace Go.Proofs.YtcpndfffdbogbaaGreatDoor
open Go Go.RowKit
open Classical

section
variable {P : Program} {ro : Option Nat} {w0 : World} {n : Nat} {ds : List Deferred} {fr : Fr} {L : List Asn} {Q : Exit → List Deferred → Fr → List Asn → Prop} {ops : Array Oper} {rest : List Oper} {d : Nat} {dst : Option Nat} {ty : TypeId} {pos : String} {after : Array Edge} {gd : Option (Nat × Bool)}
theorem vq_eqBoolS {t yt : TypeId} {x y : Operand} {b : Bool} (hx : evA fr x = some (.bool b)) (hy : evA fr y = some (.bool b)) [hu : UT P t .bool] : VQ P w0 n ⟨dst, .binOp .eql t x y yt, ty, pos, after, gd⟩ (.bool true) ds fr L := by
  have h := vq_eqBool (P := P) (w0 := w0) (n := n) (ds := ds) (L := L) (dst := dst) (ty := ty) (pos := pos) (after := after) (gd := gd) (t := t) (yt := yt) hx hy
  rwa [beq_self_eq_true] at h
/-- As vl_qA; numbers, truths and digests that are the same are known to be. -/
theorem vl_qE {o : Oper} {v : Value} (hg : o.guard = none) (hd : notDefer o.op = true) (hdst : o.dst = some d) (hdn : Nat.blt d n = true) (h : VL P ro w0 n ops Q rest ds ((d, v) :: fr) L) (hq : VQ P w0 n o v ds fr L := by first | (apply vq_isBin; first | (apply vq_isOp .neq; first | exact vq_neS rfl rfl | exact vq_neBoolS rfl rfl) | (apply vq_isOp .eql; first | exact vq_eqI rfl rfl | exact vq_eqBoolS rfl rfl | exact vq_eqBS rfl rfl (by first | assumption | (simp; done)))) | (first | exact vq_move rfl | exact vq_assign rfl | (apply vq_isBin; first | exact vq_lt rfl rfl | exact vq_eq rfl rfl | exact vq_ne rfl rfl | (apply vq_isOp .add; exact vq_add rfl rfl (by first | exact wr_add (by omega) | exact wu_add (by omega) | exact wr_id (by omega) (by omega) | rfl)) | (apply vq_isOp .sub; exact vq_minus rfl rfl (by first | exact wr_sub (by omega) (by omega) | exact wu_sub (by omega) (by omega) | exact wr_id (by omega) (by omega) | rfl)) | exact vq_gt rfl rfl | exact vq_le rfl rfl | exact vq_ge rfl rfl | (apply vq_isOp .mul; exact vq_mul rfl rfl (by first | exact wr_mul (by omega) | exact wr_id (by omega) (by omega) | rfl)) | (apply vq_isOp .or; exact vq_or rfl rfl (by rfl)) | (apply vq_isOp .and; exact vq_and rfl rfl (by rfl)) | (apply vq_isOp .xor; exact vq_xor rfl rfl (by rfl)) | (apply vq_isOp .shl; exact vq_shl rfl rfl (by omega) (by rfl)) | (apply vq_isOp .shr; exact vq_shr rfl rfl (by omega) (by rfl)) | (apply vq_isOp .quo; exact vq_quo rfl rfl (by decide) (by first | exact q8_i64 (by omega) | exact q2_u8 (by omega) | exact q4_i64 (by omega) | assumption | rfl)) | (apply vq_isOp .rem; exact vq_rem rfl rfl (by decide) (by first | exact r8 | exact r2 | exact r4 | exact r64 | assumption | rfl)) | exact vq_eqNil rfl rfl | exact vq_eqBool rfl rfl | (apply vq_isOp .eql; exact vq_eqB rfl rfl (by first | assumption | (simp; done)) (by first | assumption | (simp; done))) | (apply vq_isOp .neq; first | exact vq_neBool rfl rfl | exact vq_neB rfl rfl (by first | assumption | (simp; done)) (by first | assumption | (simp; done)))) | (apply vq_isLoad; first | (apply vq_isPt; exact rfl; first | (apply vq_isOne; exact vq_ldB rfl (by first | rfl | assumption)) | (apply vq_isPt0; exact rfl; apply vq_isAgg; exact vq_ldW rfl (by first | rfl | assumption | (simp; done) | (simp; assumption))) | (apply vq_isAgg; exact vq_ldP rfl (by assumption) (by first | assumption | (simp; done) | (simp; assumption)))) | (apply vq_isPtA; exact rfl; first | (apply vq_isOne; exact vq_ld1 rfl (by first | assumption | rfl)) | exact vq_ldA rfl (by assumption) (by first | assumption | (simp; done) | (simp; assumption))) | fail) | exact vq_lenSl rfl | (apply vq_isIx; first | (apply vq_ixSl; exact rfl; exact vq_index rfl rfl (by omega) (by omega) (by first | assumption | (simp; done) | (simp; omega) | (rw [bvs_length]; omega)) (by first | exact ix_1 | exact ix_s _ | rfl)) | (apply vq_ixPt; exact rfl; exact vq_indexArr rfl rfl (by omega) (by omega) (by first | exact ix_1 | exact ix_s _ | rfl)) | exact vq_indexArrA rfl rfl (by first | assumption | (simp; done) | (rw [bvs_length]; omega) | (simp; omega)) (by omega) (by omega) (by first | exact ix_1 | exact ix_s _ | rfl)) | exact vq_extract rfl rfl | exact vq_pickT rfl rfl | exact vq_pickF rfl rfl | exact vq_fieldAddr rfl (by rfl) rfl | exact vq_fieldAddrO rfl (by first | assumption | (simp; done) | (simp; omega)) (by rfl) rfl | exact vq_makeFunc rfl rfl | exact vq_nilCheck rfl | (apply vq_isConv; exact vq_conv rfl (by first | exact wi_id (by omega) | exact wu_id (by omega) | exact wr_id (by omega) (by omega) | rfl)) | (apply vq_isUn; first | exact vq_not rfl | exact vq_xorU rfl (by rfl) | exact vq_neg rfl (by rfl)) | (apply vq_isSlice; first | exact vq_slice rfl (by first | exact bnd_none | exact bnd_nat rfl) (by first | exact bnd_none | exact bnd_nat rfl) (by first | exact bnd_none | exact bnd_nat rfl) rfl (by omega) (by omega) (by omega) | exact vq_sliceArr rfl rfl | exact vq_sliceArrO rfl (by first | assumption | (simp; done) | (simp; omega)) rfl) | (apply vq_isBuild; first | exact vq_build0 | exact vq_buildArr0 | exact vq_build rfl rfl (by first | rfl | (simp [plOf]; done)) (by first | rfl | (simp; done)) | exact vq_buildP rfl (by first | (simp [okS, Value.cells]; done) | (simp [okS, Value.cells]; omega)) rfl) | fail)) : VL P ro w0 n ops Q (o :: rest) ds fr L := vl_q hg hd hdst hdn hq h
end
end Go.Proofs.YtcpndfffdbogbaaGreatDoor
namespace Go.Proofs.YtcpndfffdbogbaaGreatDoor
open Go Go.RowKit

end Go.Proofs.YtcpndfffdbogbaaGreatDoor
namespace Go.Proofs.YtcpndfffdbogbaaGreatDoor
open Go Go.RowKit

end Go.Proofs.YtcpndfffdbogbaaGreatDoor

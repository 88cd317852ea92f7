/-
  What a reading of the arguments says of slices of slices of bytes.
-/
import Derived.Test.YtjbjidopjhllbaaDoorOpen
import Derived.Test.YtjbjidopjhllbaaDoorVData
namespace Go.Proofs.YtjbjidopjhllbaaDoor
open Go Go.RowKit

/-- A slice of slices of bytes that can be read: ps. -/
structure Bss (w : World) (a : Option Addr) (n cap : Nat) (ps : List PB) : Prop where
  hn : n = ps.length
  hcap : ps.length ≤ cap
  hmax : cap ≤ maxLen
  rc : Rc w a (pbs ps)
  each : ∀ p ∈ ps, Bts w p.a p.l.length p.cap p.l

set_option maxRecDepth 100000 in
open Go.ChangeShapes Go.WideShapes Go.ChangeAt in
theorem bts_trod {H : Type} {enc : TypeId × Value → H} {W : World} {fuel : Nat} {v : Value} {x : DataW H × List MemPlace} (hf : DataW.trod enc Tryd.prog W 0 (fun _ => true) true fuel 24 [v] = some x) :
    ∃ a cap l, v = .slice a l.length cap ∧ Bts W a l.length cap l := by
  obtain ⟨a0, len0, cap0, z0, rfl, w0⟩ : ∃ a0 len0 cap0 zs, v = .slice a0 len0 cap0 ∧ IsRow .u8 W a0 len0 cap0 zs := by
    rcases open_ints Tryd.underlying24 Tryd.underlying5 (by kernel_rfl) hf with ⟨hcs, _⟩ | ⟨x, l, c, zs, hcs, _, hl, hm, hz, _, hcell, hwz⟩
    · simp only [List.cons.injEq, and_true] at hcs
      exact ⟨none, 0, 0, [], hcs, .inl ⟨rfl, rfl, rfl, rfl⟩⟩
    · simp only [List.cons.injEq, and_true] at hcs
      exact ⟨_, _, _, zs, hcs, .inr ⟨_, rfl, hl, hm, by simpa using hz, hcell, hwz⟩⟩
  obtain ⟨l, hb⟩ := bts_of_row w0
  have := hb.hn
  subst this
  exact ⟨_, _, l, rfl, hb⟩

set_option maxRecDepth 100000 in
open Go.ChangeShapes Go.WideShapes Go.ChangeAt in
/-- An argument that is a slice of slices of bytes. -/
theorem open_bss {H : Type} {enc : TypeId × Value → H} {W : World} {base : Nat} {v : Value} {d : DataW H} {p : List MemPlace} (hv : Value.okWide Tryd.prog W .any base 22 v) (h : DataW.Trod enc Tryd.prog W 0 (fun _ => true) true 22 v d p) :
    ∃ a n cap ps, v = .slice a n cap ∧ Bss W a n cap ps := by
  obtain ⟨a0, len0, cap0, rfl⟩ := okWide_slice Tryd.underlying22 hv
  obtain ⟨fuel, hf⟩ := h
  rcases DataW.trod_slice Tryd.underlying22 hf with ⟨hcs, _⟩ | ⟨a, len, cap, elems, rest, n, _, hcs, _, _, hl, hm, hlen, hel, _, _⟩
  · simp [Value.cells] at hcs
    obtain ⟨rfl, rfl, rfl⟩ := hcs
    exact ⟨_, _, _, [], rfl, rfl, Nat.le_refl _, Nat.zero_le _, .inl rfl, by simp⟩
  · simp [Value.cells] at hcs
    obtain ⟨rfl, rfl, rfl⟩ := hcs
    have hc : Tryd.prog.cellsOf 24 = 1 := by kernel_rfl
    have each : ∀ i, i < len0 → ∃ q : PB, W.cell? (a.add i) = some q.v ∧ Bts W q.a q.l.length q.cap q.l := by
      intro i hi
      have hE := hel i hi
      obtain ⟨y, hy⟩ : ∃ y, elems[i]? = some y := ⟨_, List.getElem?_eq_getElem (by omega)⟩
      rw [hy, hc, Nat.mul_one, Option.bind_eq_some_iff] at hE
      obtain ⟨cs', hcs', hy'⟩ := hE
      obtain ⟨c, rfl, hcell⟩ : ∃ c, cs' = [c] ∧ W.cell? (a.add i) = some c := by
        have e0 : (a.add i).add 0 = a.add i := by simp [Addr.add]
        unfold World.cells? at hcs'
        split at hcs'
        · simp only [List.range_succ, List.range_zero, List.nil_append, List.mapM_cons, List.mapM_nil, e0] at hcs'
          cases hcc : W.cell? (a.add i) with
          | none => simp [hcc] at hcs'
          | some c => simp [hcc] at hcs'; exact ⟨c, hcs'.symm, rfl⟩
        · cases hcs'
      obtain ⟨a1, c1, l1, rfl, hb⟩ := bts_trod hy'
      exact ⟨⟨a1, c1, l1⟩, hcell, hb⟩
    obtain ⟨ps, hpl, hps⟩ : ∃ ps : List PB, ps.length = len0 ∧ ∀ i (hi : i < ps.length), W.cell? (a.add i) = some (ps[i]).v ∧ Bts W (ps[i]).a (ps[i]).l.length (ps[i]).cap (ps[i]).l := by
      have : ∀ m, m ≤ len0 → ∃ ps : List PB, ps.length = m ∧ ∀ i (hi : i < ps.length), W.cell? (a.add i) = some (ps[i]).v ∧ Bts W (ps[i]).a (ps[i]).l.length (ps[i]).cap (ps[i]).l := by
        intro m
        induction m with
        | zero => exact fun _ => ⟨[], rfl, fun i hi => by simp at hi⟩
        | succ m ih =>
          intro hm'
          obtain ⟨ps, h1, h2⟩ := ih (by omega)
          obtain ⟨q, q1, q2⟩ := each m (by omega)
          refine ⟨ps ++ [q], by simp [h1], fun i hi => ?_⟩
          by_cases hi' : i < ps.length
          · rw [List.getElem_append_left hi']; exact h2 i hi'
          · obtain rfl : i = m := by simp at hi; omega
            rw [List.getElem_append_right (by omega)]
            simpa [h1] using ⟨q1, q2⟩
      exact this len0 (Nat.le_refl _)
    refine ⟨_, _, _, ps, rfl, hpl.symm, by omega, hm, ?_, fun p hp => ?_⟩
    · by_cases h0 : ps.length = 0
      · exact .inl (by rw [List.eq_nil_of_length_eq_zero h0]; rfl)
      · have hs : a.spot = none := cell?_spot (x := a) (by simpa [Addr.add] using (hps 0 (by omega)).1)
        obtain ⟨b, off, s⟩ := a
        simp only at hs
        subst hs
        refine .inr ⟨b, off, rfl, fun j u hu => ?_⟩
        have hj : j < ps.length := by
          rcases Nat.lt_or_ge j ps.length with h | h
          · exact h
          · rw [List.getElem?_eq_none (by simp; omega)] at hu; cases hu
        have := (hps j hj).1
        rw [addr_add] at this
        rw [this]
        rw [pbs_get ps j hj] at hu
        exact hu
    · obtain ⟨i, hi, rfl⟩ := List.getElem_of_mem hp
      exact (hps i hi).2

end Go.Proofs.YtjbjidopjhllbaaDoor

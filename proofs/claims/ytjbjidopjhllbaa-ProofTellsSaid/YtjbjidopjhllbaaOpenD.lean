/-
  What a reading of the arguments says of slices in general, and of digests.
-/
import Derived.Test.YtjbjidopjhllbaaOpenB
import Derived.Test.YtjbjidopjhllbaaPrfE
namespace Go.Proofs.Ytjbjidopjhllbaa
open Go Go.RowKit

theorem flat_get {c : Nat} (hc : 0 < c) : ∀ (ls : List (List Value)), (∀ l ∈ ls, l.length = c) → ∀ (j : Nat) (u : Value), ls.flatten[j]? = some u → ∃ l, ls[j / c]? = some l ∧ l[j % c]? = some u
  | [], _, j, u, h => by simp at h
  | l :: ls, hl, j, u, h => by
    have h0 := hl l (by simp)
    rw [List.flatten_cons] at h
    by_cases hj : j < c
    · rw [List.getElem?_append_left (by omega)] at h
      exact ⟨l, by rw [Nat.div_eq_of_lt hj]; rfl, by rw [Nat.mod_eq_of_lt hj]; exact h⟩
    · rw [List.getElem?_append_right (by omega), h0] at h
      obtain ⟨m, h1, h2⟩ := flat_get hc ls (fun x hx => hl x (by simp [hx])) (j - c) u h
      refine ⟨m, ?_, ?_⟩
      · rw [Nat.div_eq_sub_div hc (by omega), List.getElem?_cons_succ]; exact h1
      · rw [Nat.mod_eq_sub_mod (by omega)]; exact h2

theorem cells_len {w : World} {base n : Nat} {a : Addr} {cs : List Value} (h : w.cells? base a n = some cs) : cs.length = n := by
  unfold World.cells? at h
  split at h
  · simpa using mapM_some_length h
  · cases h
theorem cells_at {w : World} {base n : Nat} {a : Addr} {cs : List Value} (h : w.cells? base a n = some cs) (i : Nat) (hi : i < n) : w.cell? (a.add i) = cs[i]? := by
  unfold World.cells? at h
  split at h
  · exact mapM_some_get h i i (by simp [hi])
  · cases h

open Go.ChangeShapes Go.WideShapes Go.ChangeAt in
/-- A slice: its elements, each as f spells it. -/
theorem open_slice {α H : Type} {enc : TypeId × Value → H} {P : Program} {W : World} {fuel : Nat} {t e : TypeId} {c : Nat} {v : Value} {x : DataW H × List MemPlace} (ht : P.underlying t = some (.slice e)) (hc : P.cellsOf e = c) (hc0 : 0 < c) (f : α → List Value) (Q : α → Prop)
    (hel : ∀ (n : Nat) (cs : List Value) y, cs.length = c → DataW.trod enc P W 0 (fun _ => true) true n e cs = some y → ∃ z, cs = f z ∧ Q z)
    (h : DataW.trod enc P W 0 (fun _ => true) true fuel t [v] = some x) :
    ∃ a cap, ∃ zs : List α, v = .slice a zs.length cap ∧ zs.length ≤ cap ∧ cap ≤ maxLen ∧ Rc W a (zs.map f).flatten ∧ ∀ z ∈ zs, Q z ∧ (f z).length = c := by
  rcases DataW.trod_slice ht h with ⟨hcs, _⟩ | ⟨a, len, cap, elems, rest, n, _, hcs, _, _, hl, hm, hlen, hE, _, _⟩
  · simp only [List.cons.injEq, and_true] at hcs
    exact ⟨none, 0, [], hcs, Nat.le_refl _, Nat.zero_le _, .inl rfl, by simp⟩
  · simp only [List.cons.injEq, and_true] at hcs
    rw [hc] at hE
    have each : ∀ i, i < len → ∃ z, W.cells? 0 (a.add (i * c)) c = some (f z) ∧ Q z := by
      intro i hi
      have h1 := hE i hi
      obtain ⟨y, hy⟩ : ∃ y, elems[i]? = some y := ⟨_, List.getElem?_eq_getElem (by omega)⟩
      rw [hy, Option.bind_eq_some_iff] at h1
      obtain ⟨cs', hcs', hy'⟩ := h1
      obtain ⟨z, rfl, hq⟩ := hel n cs' y (cells_len hcs') hy'
      exact ⟨z, hcs', hq⟩
    obtain ⟨zs, hzl, hzs⟩ : ∃ zs : List α, zs.length = len ∧ ∀ i (hi : i < zs.length), W.cells? 0 (a.add (i * c)) c = some (f (zs[i])) ∧ Q (zs[i]) := by
      have : ∀ m, m ≤ len → ∃ zs : List α, zs.length = m ∧ ∀ i (hi : i < zs.length), W.cells? 0 (a.add (i * c)) c = some (f (zs[i])) ∧ Q (zs[i]) := by
        intro m
        induction m with
        | zero => exact fun _ => ⟨[], rfl, fun i hi => by simp at hi⟩
        | succ m ih =>
          intro hm'
          obtain ⟨ps, h1, h2⟩ := ih (by omega)
          obtain ⟨q, q1, q2⟩ := each m (by omega)
          refine ⟨ps ++ [q], by simp [h1], fun i hi => ?_⟩
          by_cases hi' : i < ps.length
          · rw [List.getElem_append_left hi']; exact h2 i hi'
          · obtain rfl : i = m := by simp at hi; omega
            rw [List.getElem_append_right (by omega)]
            simpa [h1] using ⟨q1, q2⟩
      exact this len (Nat.le_refl _)
    have hall : ∀ z ∈ zs, Q z ∧ (f z).length = c := by
      intro z hz
      obtain ⟨i, hi, rfl⟩ := List.getElem_of_mem hz
      exact ⟨(hzs i hi).2, cells_len (hzs i hi).1⟩
    refine ⟨some a, cap, zs, by rw [hcs, hzl], by omega, hm, ?_, hall⟩
    by_cases h0 : zs.length = 0
    · exact .inl (by rw [List.eq_nil_of_length_eq_zero h0]; rfl)
    · have hlen0 : 0 < zs.length := by omega
      have hs : a.spot = none := by
        have h1 := cells_at (hzs 0 hlen0).1 0 hc0
        have h2 := (hall _ (List.getElem_mem hlen0)).2
        rw [List.getElem?_eq_getElem (by omega)] at h1
        exact cell?_spot (x := a) (by simpa [Addr.add] using h1)
      obtain ⟨b, off, s⟩ := a
      simp only at hs
      subst hs
      refine .inr ⟨b, off, rfl, fun j u hu => ?_⟩
      obtain ⟨l, h1, h2⟩ := flat_get hc0 _ (by intro l hl; obtain ⟨z, hz, rfl⟩ := List.mem_map.1 hl; exact (hall z hz).2) j u hu
      rw [List.getElem?_map, Option.map_eq_some_iff] at h1
      obtain ⟨z, hz, rfl⟩ := h1
      obtain ⟨hi, rfl⟩ := List.getElem?_eq_some_iff.1 hz
      have h3 := cells_at (hzs _ hi).1 (j % c) (Nat.mod_lt _ hc0)
      rw [h2, addr_add, addr_add] at h3
      have e : off + j / c * c + j % c = off + j := by
        have := Nat.div_add_mod j c
        rw [Nat.mul_comm] at this
        omega
      rwa [e] at h3

theorem flat_bvs (xs : List (List UInt8)) : (xs.map bvs).flatten = bvs xs.flatten := by
  induction xs with
  | nil => rfl
  | cons x xs ih => rw [List.map_cons, List.flatten_cons, ih, List.flatten_cons]; simp [bvs]

theorem trod_dig {H : Type} {enc : TypeId × Value → H} {W : World} {n : Nat} {cs : List Value} {y : DataW H × List MemPlace} (hy : DataW.trod enc Try.prog W 0 (fun _ => true) true n 25 cs = some y) : ∃ l, cs = bvs l ∧ l.length = 32 := by
  obtain ⟨f, _, hf⟩ := (inferInstance : EqI Try.prog 25 (List.replicate 32 (some .u8))).shape
  exact FitsW.bytes (fits_of_trod f hf hy)

/-- A slice of digests. -/
theorem dgs_trod {H : Type} {enc : TypeId × Value → H} {W : World} {fuel : Nat} {v : Value} {x : DataW H × List MemPlace} (h : DataW.trod enc Try.prog W 0 (fun _ => true) true fuel 54 [v] = some x) :
    ∃ a cap, ∃ xs : List (List UInt8), v = .slice a xs.length cap ∧ xs.length ≤ cap ∧ cap ≤ maxLen ∧ Dg xs ∧ Rc W a (bvs xs.flatten) := by
  obtain ⟨a, cap, xs, rfl, h1, h2, h3, h4⟩ := open_slice Try.underlying54 (c := 32) (by kernel_rfl) (by decide) bvs (fun l => l.length = 32) (fun n cs y _ hy => trod_dig hy) h
  exact ⟨a, cap, xs, rfl, h1, h2, fun z hz => (h4 z hz).1, flat_bvs xs ▸ h3⟩
end Go.Proofs.Ytjbjidopjhllbaa

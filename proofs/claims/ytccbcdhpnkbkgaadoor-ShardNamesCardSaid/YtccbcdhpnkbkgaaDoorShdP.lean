/-
  Shards: what becomes of them, in plain terms.
-/
import Derived.Test.YtccbcdhpnkbkgaaDoorGX
import Derived.Test.YtccbcdhpnkbkgaaDoorShdB
set_option linter.unusedVariables false
set_option linter.unusedSimpArgs false
namespace Go.Proofs.YtccbcdhpnkbkgaaDoor
open Go Go.RowKit
set_option linter.unusedVariables false
set_option linter.unusedSimpArgs false
set_option linter.unusedSectionVars false
open Classical

/-- A sender and what it has. -/
abbrev LC := List UInt8 × List Tx
def Srt2 (cs : List LC) : Prop := cs.Pairwise (fun x y => Ahd x.1 y.1)
def K2 (cs : List LC) : Prop := ∀ c ∈ cs, c.1.length = 32
/-- What a sender may have. -/
structure GoodL (o : List UInt8) (xs : List Tx) : Prop where
  len : xs.length ≤ 256
  own : ∀ x ∈ xs, ownT x o = true
  up : UpT xs
structure MayC (cs : List LC) : Prop where
  ne : ∀ c ∈ cs, c.2 ≠ []
  good : ∀ c ∈ cs, GoodL c.1 c.2
  srt : Srt2 cs
def fromT (x : Tx) : List UInt8 := sha (tagB 3 [x.pub])
theorem fromT_len (x : Tx) : (fromT x).length = 32 := sha_length _
theorem ownT_iff {x : Tx} {o : List UInt8} : ownT x o = true ↔ x.sign = sgn x ∧ fromT x = o := by
  unfold ownT fromT
  simp
/-- Those ahead of a sender; those behind; its own; all with its own changed. -/
noncomputable def lowC (cs : List LC) (o : List UInt8) : List LC := cs.filter fun c => decide (Ahd c.1 o)
noncomputable def highC (cs : List LC) (o : List UInt8) : List LC := cs.filter fun c => decide (Ahd o c.1)
def ownC (o : List UInt8) (xs : List Tx) : List LC := if xs = [] then [] else [(o, xs)]
noncomputable def setC (cs : List LC) (o : List UInt8) (xs : List Tx) : List LC := lowC cs o ++ (ownC o xs ++ highC cs o)
noncomputable def lineC (cs : List LC) (o : List UInt8) : List Tx := ((cs.find? fun c => decide (c.1 = o)).map Prod.snd).getD []
noncomputable def fdC (cs : List LC) (o : List UInt8) : Nat := cs.findIdx fun c => !decide (Ahd c.1 o)
def cntC (cs : List LC) : Nat := (cs.map fun c => c.2.length).sum
theorem filter_cut {α : Type} {cs : List α} {k : Nat} {p : α → Bool} (h1 : ∀ j (hj : j < cs.length), j < k → p cs[j] = true) (h2 : ∀ j (hj : j < cs.length), k ≤ j → p cs[j] = false) : cs.filter p = cs.take k := by
  have e : cs.filter p = (cs.take k ++ cs.drop k).filter p := by rw [List.take_append_drop]
  rw [e, List.filter_append, List.filter_eq_self.2, List.filter_eq_nil_iff.2, List.append_nil]
  · intro x hx
    obtain ⟨i, hi, rfl⟩ := List.getElem_of_mem hx
    rw [List.length_drop] at hi
    rw [List.getElem_drop, h2 (k + i) (by omega) (by omega)]
    decide
  · intro x hx
    obtain ⟨i, hi, rfl⟩ := List.getElem_of_mem hx
    rw [List.length_take] at hi
    rw [List.getElem_take]
    exact h1 i (by omega) (by omega)
theorem filter_cut2 {α : Type} {cs : List α} {k : Nat} {p : α → Bool} (h1 : ∀ j (hj : j < cs.length), j < k → p cs[j] = false) (h2 : ∀ j (hj : j < cs.length), k ≤ j → p cs[j] = true) : cs.filter p = cs.drop k := by
  have e : cs.filter p = (cs.take k ++ cs.drop k).filter p := by rw [List.take_append_drop]
  rw [e, List.filter_append, List.filter_eq_nil_iff.2, List.filter_eq_self.2, List.nil_append]
  · intro x hx
    obtain ⟨i, hi, rfl⟩ := List.getElem_of_mem hx
    rw [List.length_drop] at hi
    rw [List.getElem_drop]
    exact h2 (k + i) (by omega) (by omega)
  · intro x hx
    obtain ⟨i, hi, rfl⟩ := List.getElem_of_mem hx
    rw [List.length_take] at hi
    rw [List.getElem_take, h1 i (by omega) (by omega)]
    decide
theorem srt2_at {cs : List LC} (h : Srt2 cs) {i j : Nat} (hij : i < j) (hj : j < cs.length) : Ahd (cs[i]'(by omega)).1 cs[j].1 := List.pairwise_iff_getElem.1 h i j (by omega) hj hij
theorem srt2_inj {cs : List LC} (h : Srt2 cs) {i j : Nat} (hi : i < cs.length) (hj : j < cs.length) (e : cs[i].1 = cs[j].1) : i = j := by
  rcases Nat.lt_trichotomy i j with a | a | a
  · exact absurd e (srt2_at h a hj).ne
  · exact a
  · exact absurd e.symm (srt2_at h a hi).ne
theorem fdC_le (cs : List LC) (o : List UInt8) : fdC cs o ≤ cs.length := List.findIdx_le_length
theorem fdC_lt {cs : List LC} {o : List UInt8} {j : Nat} (hj : j < cs.length) (h : j < fdC cs o) : Ahd cs[j].1 o := by
  have := List.not_of_lt_findIdx h
  simpa using this
theorem fdC_at {cs : List LC} {o : List UInt8} (h : fdC cs o < cs.length) : ¬ Ahd cs[fdC cs o].1 o := by
  have h2 : (fun c : LC => !decide (Ahd c.1 o)) cs[fdC cs o] = true := List.findIdx_getElem (w := h)
  simpa using h2
theorem fdC_ge {cs : List LC} (hs : Srt2 cs) {o : List UInt8} {j : Nat} (hj : j < cs.length) (h : fdC cs o ≤ j) : ¬ Ahd cs[j].1 o := by
  intro e
  rcases Nat.lt_or_ge (fdC cs o) j with a | a
  · exact fdC_at (by omega) ((srt2_at hs a hj).trans e)
  · obtain rfl : j = fdC cs o := by omega
    exact fdC_at hj e
theorem lowC_take {cs : List LC} (hs : Srt2 cs) (o : List UInt8) : lowC cs o = cs.take (fdC cs o) := filter_cut (fun j hj h => decide_eq_true (fdC_lt hj h)) (fun j hj h => decide_eq_false (fdC_ge hs hj h))
theorem find_none {cs : List LC} {o : List UInt8} (h : ∀ j (hj : j < cs.length), cs[j].1 ≠ o) : cs.find? (fun c => decide (c.1 = o)) = none := by
  rw [List.find?_eq_none]
  intro x hx
  obtain ⟨i, hi, rfl⟩ := List.getElem_of_mem hx
  simpa using h i hi
theorem find_some {cs : List LC} (hs : Srt2 cs) {o : List UInt8} {k : Nat} (hk : k < cs.length) (h : cs[k].1 = o) : cs.find? (fun c => decide (c.1 = o)) = some cs[k] := by
  cases hf : cs.find? (fun c => decide (c.1 = o)) with
  | none =>
    rw [List.find?_eq_none] at hf
    exact absurd h (by simpa using hf _ (List.getElem_mem hk))
  | some y =>
    have h1 := List.mem_of_find?_eq_some hf
    have h2 := List.find?_some hf
    obtain ⟨i, hi, rfl⟩ := List.getElem_of_mem h1
    have : i = k := srt2_inj hs hi hk (by rw [h]; simpa using h2)
    subst this
    rfl
theorem lineC_none {cs : List LC} {o : List UInt8} (h : ∀ j (hj : j < cs.length), cs[j].1 ≠ o) : lineC cs o = [] := by
  unfold lineC
  rw [find_none h]
  rfl
theorem lineC_some {cs : List LC} (hs : Srt2 cs) {o : List UInt8} {k : Nat} (hk : k < cs.length) (h : cs[k].1 = o) : lineC cs o = cs[k].2 := by
  unfold lineC
  rw [find_some hs hk h]
  rfl
/-- A sender's place: it stands there, or nowhere. -/
theorem fdC_is {cs : List LC} (hs : Srt2 cs) {o : List UInt8} (hk : fdC cs o < cs.length) (h : cs[fdC cs o].1 = o) : highC cs o = cs.drop (fdC cs o + 1) ∧ lineC cs o = cs[fdC cs o].2 := by
  refine ⟨filter_cut2 (fun j hj hl => decide_eq_false (fun e => ?_)) (fun j hj hl => decide_eq_true ?_), lineC_some hs hk h⟩
  · rcases Nat.lt_or_ge j (fdC cs o) with a | a
    · exact e.asymm (fdC_lt hj a)
    · obtain rfl : j = fdC cs o := by omega
      rw [h] at e
      exact Ahd.irrefl _ e
  · rw [← h]
    exact srt2_at hs (by omega) hj
theorem fdC_no {cs : List LC} (hs : Srt2 cs) (h32 : K2 cs) {o : List UInt8} (ho : o.length = 32) (h : ∀ hk : fdC cs o < cs.length, cs[fdC cs o].1 ≠ o) : highC cs o = cs.drop (fdC cs o) ∧ ∀ j (hj : j < cs.length), cs[j].1 ≠ o := by
  have key : ∀ j (hj : j < cs.length), fdC cs o ≤ j → Ahd o cs[j].1 := fun j hj hl => by
    rcases Ahd.tri (h32 _ (List.getElem_mem hj)) ho with e | e | e
    · exact absurd e (fdC_ge hs hj hl)
    · exfalso
      rcases Nat.lt_or_ge (fdC cs o) j with a | a
      · have hk : fdC cs o < cs.length := by omega
        rcases Ahd.tri (h32 _ (List.getElem_mem hk)) ho with f | f | f
        · exact fdC_at hk f
        · exact h hk f
        · exact (f.trans (srt2_at hs a hj)).ne e.symm
      · obtain rfl : j = fdC cs o := by omega
        exact h hj e
    · exact e
  refine ⟨filter_cut2 (fun j hj hl => decide_eq_false (fun e => e.asymm (fdC_lt hj hl))) (fun j hj hl => decide_eq_true (key j hj hl)), fun j hj e => ?_⟩
  rcases Nat.lt_or_ge j (fdC cs o) with a | a
  · exact (fdC_lt hj a).ne e
  · exact (key j hj a).ne e.symm
/-- The program's way to change one. -/
theorem setC_is0 {cs : List LC} (hs : Srt2 cs) {o : List UInt8} (hk : fdC cs o < cs.length) (h : cs[fdC cs o].1 = o) : cs.take (fdC cs o) ++ cs.drop (fdC cs o + 1) = setC cs o [] := by
  unfold setC
  rw [lowC_take hs, (fdC_is hs hk h).1]
  rfl
theorem setC_is1 {cs : List LC} (hs : Srt2 cs) {o : List UInt8} (hk : fdC cs o < cs.length) (h : cs[fdC cs o].1 = o) {xs : List Tx} (hx : xs ≠ []) : cs.set (fdC cs o) (o, xs) = setC cs o xs := by
  unfold setC ownC
  rw [lowC_take hs, (fdC_is hs hk h).1, if_neg hx, List.set_eq_take_append_cons_drop, if_pos hk]
  rfl
theorem setC_no0 {cs : List LC} (hs : Srt2 cs) (h32 : K2 cs) {o : List UInt8} (ho : o.length = 32) (h : ∀ hk : fdC cs o < cs.length, cs[fdC cs o].1 ≠ o) : cs = setC cs o [] := by
  unfold setC
  rw [lowC_take hs, (fdC_no hs h32 ho h).1]
  show cs = _ ++ ([] ++ _)
  rw [List.nil_append, List.take_append_drop]
theorem setC_no1 {cs : List LC} (hs : Srt2 cs) (h32 : K2 cs) {o : List UInt8} (ho : o.length = 32) (h : ∀ hk : fdC cs o < cs.length, cs[fdC cs o].1 ≠ o) {xs : List Tx} (hx : xs ≠ []) : cs.take (fdC cs o) ++ (o, xs) :: cs.drop (fdC cs o) = setC cs o xs := by
  unfold setC ownC
  rw [lowC_take hs, (fdC_no hs h32 ho h).1, if_neg hx]
  rfl
theorem mem_lowC {cs : List LC} {o : List UInt8} {c : LC} : c ∈ lowC cs o ↔ c ∈ cs ∧ Ahd c.1 o := by simp [lowC]
theorem mem_highC {cs : List LC} {o : List UInt8} {c : LC} : c ∈ highC cs o ↔ c ∈ cs ∧ Ahd o c.1 := by simp [highC]
theorem mem_ownC {o : List UInt8} {xs : List Tx} {c : LC} : c ∈ ownC o xs ↔ xs ≠ [] ∧ c = (o, xs) := by
  unfold ownC
  split
  · rename_i h
    simp [h]
  · rename_i h
    simp [h]
theorem mem_setC {cs : List LC} (h : K2 cs) {o : List UInt8} (ho : o.length = 32) {xs : List Tx} {c : LC} : c ∈ setC cs o xs ↔ (xs ≠ [] ∧ c = (o, xs)) ∨ (c ∈ cs ∧ c.1 ≠ o) := by
  simp only [setC, List.mem_append, mem_lowC, mem_highC, mem_ownC]
  constructor
  · rintro (⟨h1, h2⟩ | h1 | ⟨h1, h2⟩)
    · exact .inr ⟨h1, h2.ne⟩
    · exact .inl h1
    · exact .inr ⟨h1, h2.ne.symm⟩
  · rintro (h1 | ⟨h1, h2⟩)
    · exact .inr (.inl h1)
    · rcases Ahd.tri (h c h1) ho with e | e | e
      · exact .inl ⟨h1, e⟩
      · exact absurd e h2
      · exact .inr (.inr ⟨h1, e⟩)
theorem K2.set {cs : List LC} (h : K2 cs) {o : List UInt8} (ho : o.length = 32) (xs : List Tx) : K2 (setC cs o xs) := fun c hc => by
  rcases (mem_setC h ho).1 hc with ⟨_, rfl⟩ | ⟨h1, _⟩
  · exact ho
  · exact h c h1
theorem srt2_set {cs : List LC} (h : Srt2 cs) (o : List UInt8) (xs : List Tx) : Srt2 (setC cs o xs) := by
  unfold setC Srt2
  rw [List.pairwise_append, List.pairwise_append]
  refine ⟨h.sublist List.filter_sublist, ⟨?_, h.sublist List.filter_sublist, fun a ha b hb => ?_⟩, fun a ha b hb => ?_⟩
  · unfold ownC
    split
    · exact List.Pairwise.nil
    · exact List.pairwise_singleton _ _
  · obtain ⟨_, rfl⟩ := mem_ownC.1 ha
    exact (mem_highC.1 hb).2
  · rcases List.mem_append.1 hb with hb | hb
    · obtain ⟨_, rfl⟩ := mem_ownC.1 hb
      exact (mem_lowC.1 ha).2
    · exact (mem_lowC.1 ha).2.trans (mem_highC.1 hb).2
theorem MayC.set {cs : List LC} (h : MayC cs) (h32 : K2 cs) {o : List UInt8} (ho : o.length = 32) {xs : List Tx} (hg : GoodL o xs) : MayC (setC cs o xs) := by
  refine ⟨fun c hc => ?_, fun c hc => ?_, srt2_set h.srt o xs⟩
  · rcases (mem_setC h32 ho).1 hc with ⟨h1, rfl⟩ | ⟨h1, _⟩
    · exact h1
    · exact h.ne c h1
  · rcases (mem_setC h32 ho).1 hc with ⟨h1, rfl⟩ | ⟨h1, _⟩
    · exact hg
    · exact h.good c h1
theorem lineC_mem {cs : List LC} (hs : Srt2 cs) {o : List UInt8} {xs : List Tx} (h : (o, xs) ∈ cs) : lineC cs o = xs := by
  obtain ⟨i, hi, e⟩ := List.getElem_of_mem h
  rw [lineC_some hs hi (by rw [e]), e]
theorem lineC_in {cs : List LC} {o : List UInt8} (h : lineC cs o ≠ []) : (o, lineC cs o) ∈ cs := by
  unfold lineC at *
  cases hf : cs.find? (fun c => decide (c.1 = o)) with
  | none => rw [hf] at h; exact absurd rfl h
  | some y =>
    have h1 := List.mem_of_find?_eq_some hf
    have h2 := List.find?_some hf
    simp only [decide_eq_true_eq] at h2
    rw [← h2]
    exact h1
theorem lineC_set {cs : List LC} (hs : Srt2 cs) (h : K2 cs) {o : List UInt8} (ho : o.length = 32) (xs : List Tx) : lineC (setC cs o xs) o = xs := by
  by_cases hx : xs = []
  · subst hx
    refine lineC_none (fun j hj e => ?_)
    rcases (mem_setC h ho).1 (List.getElem_mem hj) with ⟨h1, _⟩ | ⟨_, h2⟩
    · exact h1 rfl
    · exact h2 e
  · exact lineC_mem (srt2_set hs o xs) ((mem_setC h ho).2 (.inl ⟨hx, rfl⟩))
theorem lineC_set_ne {cs : List LC} (hs : Srt2 cs) (h : K2 cs) {o : List UInt8} (ho : o.length = 32) (xs : List Tx) {p : List UInt8} (hp : p ≠ o) : lineC (setC cs o xs) p = lineC cs p := by
  by_cases hl : lineC cs p = []
  · rw [hl]
    by_cases hm : ∃ j, ∃ hj : j < (setC cs o xs).length, (setC cs o xs)[j].1 = p
    · obtain ⟨j, hj, e⟩ := hm
      rw [lineC_some (srt2_set hs o xs) hj e]
      rcases (mem_setC h ho).1 (List.getElem_mem hj) with ⟨_, h2⟩ | ⟨h1, _⟩
      · rw [h2] at e
        exact absurd e.symm hp
      · obtain ⟨i, hi, e2⟩ := List.getElem_of_mem h1
        rw [← hl, lineC_some hs hi (by rw [e2, e]), e2]
    · exact lineC_none (fun j hj e => hm ⟨j, hj, e⟩)
  · exact lineC_mem (srt2_set hs o xs) ((mem_setC h ho).2 (.inr ⟨lineC_in hl, hp⟩))
theorem GoodL.nil (o : List UInt8) : GoodL o [] := ⟨by simp, by simp, fun i j hj => absurd hj (by simp)⟩
theorem MayC.line {cs : List LC} (h : MayC cs) (o : List UInt8) : GoodL o (lineC cs o) := by
  by_cases hl : lineC cs o = []
  · rw [hl]
    exact GoodL.nil o
  · exact h.good _ (lineC_in hl)
theorem cntC_append (a b : List LC) : cntC (a ++ b) = cntC a + cntC b := by
  unfold cntC
  rw [List.map_append, List.sum_append]
theorem cntC_ownC (o : List UInt8) (xs : List Tx) : cntC (ownC o xs) = xs.length := by
  unfold ownC
  split
  · rename_i h
    rw [h]; rfl
  · simp [cntC]
/-- A map of senders in three. -/
theorem srt2_three {cs : List LC} (hs : Srt2 cs) (h : K2 cs) {o : List UInt8} (ho : o.length = 32) (hne : ∀ c ∈ cs, c.2 ≠ []) : cs = setC cs o (lineC cs o) := by
  by_cases hk : ∃ hk : fdC cs o < cs.length, cs[fdC cs o].1 = o
  · obtain ⟨hk, e⟩ := hk
    have h2 := (fdC_is hs hk e).2
    rw [h2, ← setC_is1 hs hk e (hne _ (List.getElem_mem hk))]
    have e0 : cs.set (fdC cs o) cs[fdC cs o] = cs := List.set_getElem_self hk
    conv => lhs; rw [← e0]
    rw [show cs[fdC cs o] = (o, cs[fdC cs o].2) from Prod.ext e rfl]
  · have hk' : ∀ hk : fdC cs o < cs.length, cs[fdC cs o].1 ≠ o := fun a b => hk ⟨a, b⟩
    rw [lineC_none (fdC_no hs h ho hk').2]
    exact setC_no0 hs h ho hk'
theorem cntC_set {cs : List LC} (hs : Srt2 cs) (h : K2 cs) {o : List UInt8} (ho : o.length = 32) (hne : ∀ c ∈ cs, c.2 ≠ []) (xs : List Tx) : cntC (setC cs o xs) + (lineC cs o).length = cntC cs + xs.length := by
  have e : cntC cs = cntC (setC cs o (lineC cs o)) := by rw [← srt2_three hs h ho hne]
  rw [e]
  unfold setC
  simp only [cntC_append, cntC_ownC]
  omega
theorem cntL_lls (ls : List Ln) : cntL ls = cntC (lls ls) := by
  unfold cntL cntC lls
  rw [List.map_map]
  rfl
theorem goodL_iff {l : Ln} : l.may = true ↔ GoodL l.own l.xs := by
  rw [Ln.may_iff]
  exact ⟨fun ⟨a, b, c⟩ => ⟨a, b, c⟩, fun ⟨a, b, c⟩ => ⟨a, b, c⟩⟩
theorem LsOk.k2 {ls : List Ln} (h : LsOk ls) : K2 (lls ls) := fun c hc => by
  obtain ⟨l, hl, rfl⟩ := List.mem_map.1 hc
  exact (h.ok l hl).own
theorem mayS_iff {ls : List Ln} : mayS ls = true ↔ MayC (lls ls) := by
  unfold mayS
  rw [decide_eq_true_iff]
  constructor
  · intro h
    have h1 : ∀ i (hi : i < ls.length), ls[i].xs.length ≠ 0 ∧ ls[i].may = true ∧ (i = 0 ∨ Ahd (ls[i - 1]'(by omega)).own ls[i].own) := fun i hi => by
      have := h i hi
      rw [lnAt_eq i hi] at this
      simpa using this
    have h2 : ∀ d i (hi : i + d < ls.length), 0 < d → Ahd (ls[i]'(by omega)).own ls[i + d].own := by
      intro d
      induction d with
      | zero => intro i hi h0; omega
      | succ d ih =>
        intro i hi _
        have e := (h1 (i + (d + 1)) hi).2.2
        rcases e with e | e
        · omega
        · have e' : Ahd ls[i + d].own ls[i + (d + 1)].own := e
          by_cases hd : d = 0
          · subst hd; exact e'
          · exact (ih i (by omega) (by omega)).trans e'
    refine ⟨fun c hc => ?_, fun c hc => ?_, ?_⟩
    · obtain ⟨l, hl, rfl⟩ := List.mem_map.1 hc
      obtain ⟨i, hi, rfl⟩ := List.getElem_of_mem hl
      intro e
      exact (h1 i hi).1 (by rw [show ls[i].xs = [] from e]; rfl)
    · obtain ⟨l, hl, rfl⟩ := List.mem_map.1 hc
      obtain ⟨i, hi, rfl⟩ := List.getElem_of_mem hl
      exact goodL_iff.1 (h1 i hi).2.1
    · refine List.pairwise_iff_getElem.2 (fun i j hi hj hij => ?_)
      have := h2 (j - i) i (by simp at hj; omega) (by omega)
      simp only [List.getElem_map]
      have e : i + (j - i) = j := by omega
      simp only [e] at this
      exact this
  · intro h i hi
    rw [lnAt_eq i hi]
    have hm : ls[i].pl ∈ lls ls := List.mem_map.2 ⟨_, List.getElem_mem hi, rfl⟩
    have h1 := h.ne _ hm
    have h2 := goodL_iff.2 (h.good _ hm)
    have h3 : i = 0 ∨ Ahd (ls[i - 1]'(by omega)).own ls[i].own := by
      by_cases e : i = 0
      · exact .inl e
      · refine .inr ?_
        have := srt2_at h.srt (i := i - 1) (j := i) (by omega) (by simpa using hi)
        simp only [List.getElem_map] at this
        exact this
    have h4 : ls[i].xs.length ≠ 0 := fun e => h1 (List.eq_nil_of_length_eq_zero e)
    simp [h2, h3, h4]
end Go.Proofs.YtccbcdhpnkbkgaaDoor

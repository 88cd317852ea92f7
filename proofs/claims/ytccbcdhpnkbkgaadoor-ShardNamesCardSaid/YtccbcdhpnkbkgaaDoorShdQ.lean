/-
  Shards: what Submit does, in plain terms; all else stays.
-/
import Derived.Test.YtccbcdhpnkbkgaaDoorShdP
set_option linter.unusedVariables false
set_option linter.unusedSimpArgs false
namespace Go.Proofs.YtccbcdhpnkbkgaaDoor
open Go Go.RowKit
set_option linter.unusedVariables false
set_option linter.unusedSimpArgs false
set_option linter.unusedSectionVars false
open Classical

def lastFee (xs : List Tx) : Nat := (xs.getLast?.map Tx.fee).getD 0
/-- The line whose last transaction goes. -/
noncomputable def worstG (o : List UInt8) : List LC → Nat → Int → Nat → Int
  | [], _, w, _ => w
  | c :: r, i, w, least => if c.1 ≠ o ∧ lastFee c.2 < least then worstG o r (i + 1) i (lastFee c.2) else worstG o r (i + 1) w least
noncomputable def worstC (cs : List LC) (o : List UInt8) (fee : Nat) : Int := worstG o cs 0 (-1) fee
theorem worstG_step {o : List UInt8} {cs : List LC} {i : Nat} (hi : i < cs.length) (w : Int) (least : Nat) : worstG o (cs.drop i) i w least = if cs[i].1 ≠ o ∧ lastFee cs[i].2 < least then worstG o (cs.drop (i + 1)) (i + 1) i (lastFee cs[i].2) else worstG o (cs.drop (i + 1)) (i + 1) w least := by
  rw [List.drop_eq_getElem_cons hi]
  rfl
theorem worstG_is {o : List UInt8} : ∀ (r : List LC) (i : Nat) (w : Int) (least : Nat), worstG o r i w least = w ∨ ∃ j, ∃ hj : j < r.length, worstG o r i w least = ((i + j : Nat) : Int) ∧ r[j].1 ≠ o
  | [], _, _, _ => .inl rfl
  | c :: r, i, w, least => by
    unfold worstG
    split
    · rename_i h
      rcases worstG_is r (i + 1) i (lastFee c.2) with e | ⟨j, hj, e, hn⟩
      · exact .inr ⟨0, by simp, by rw [e]; rfl, h.1⟩
      · exact .inr ⟨j + 1, by simpa using hj, by rw [e]; congr 1; omega, by simpa using hn⟩
    · rcases worstG_is r (i + 1) w least with e | ⟨j, hj, e, hn⟩
      · exact .inl e
      · exact .inr ⟨j + 1, by simpa using hj, by rw [e]; congr 1; omega, by simpa using hn⟩
theorem worstC_is {cs : List LC} {o : List UInt8} {fee : Nat} : worstC cs o fee = -1 ∨ ∃ k, ∃ hk : k < cs.length, worstC cs o fee = (k : Int) ∧ cs[k].1 ≠ o := by
  rcases worstG_is cs 0 (-1) fee with e | ⟨j, hj, e, hn⟩
  · exact .inl e
  · exact .inr ⟨j, hj, by rw [worstC, e, Nat.zero_add], hn⟩
/-- What Submit tells of a shard that may be. -/
noncomputable def submitC (cs : List LC) (cap : Int) (nonce : Nat) (x : Tx) : List LC × List Tx × Int :=
  if x.sign = sgn x then
    if x.nonce < nonce then ([], [], 200)
    else if 16 ≤ x.nonce - nonce ∨ x.nonce = 18446744073709551615 then ([], [], 201)
    else match atT (lineC cs (fromT x)) x.nonce with
      | some y => if x.fee ≤ y.fee then ([], [], 190) else (setC cs (fromT x) (withT (lineC cs (fromT x)) x), [y], 0)
      | none =>
        if 256 ≤ (lineC cs (fromT x)).length then ([], [], 9)
        else if (cntC cs : Int) < cap then (setC cs (fromT x) (withT (lineC cs (fromT x)) x), [], 0)
        else match cs[(worstC cs (fromT x) x.fee).toNat]? with
          | some w => if worstC cs (fromT x) x.fee < 0 then ([], [], 9) else (setC (setC cs w.1 (w.2.take (w.2.length - 1))) (fromT x) (withT (lineC cs (fromT x)) x), w.2.drop (w.2.length - 1), 0)
          | none => ([], [], 9)
  else ([], [], 110)
noncomputable def submitS (cs : List LC) (cap : Int) (nonce : Nat) (x : Tx) : List LC × List Tx × Int := if MayC cs then submitC cs cap nonce x else ([], [], 8)
theorem putT_good {a : Option Addr} {c : Nat} {xs : List Tx} {x : Tx} (h : GoodL (fromT x) xs) (hs : x.sign = sgn x) : putT (Ln.mk (fromT x) a c xs) x = match atT xs x.nonce with
    | some y => if x.fee ≤ y.fee then (z32, [], [], 190) else (fromT x, withT xs x, [y], 0)
    | none => if 256 ≤ xs.length then (z32, [], [], 9) else (fromT x, withT xs x, [], 0) := by
  unfold putT
  rw [if_pos (goodL_iff.2 h), if_pos (ownT_iff.2 ⟨hs, rfl⟩)]
  dsimp only
  cases atT xs x.nonce <;> rfl
theorem with_len0 {xs : List Tx} (hu : UpT xs) {x : Tx} (h : atT xs x.nonce = none) : (withT xs x).length = xs.length + 1 := by
  obtain ⟨m, hp⟩ := part_exists hu x.nonce
  have hn : ∀ i (hi : i < xs.length), (xs[i]).nonce ≠ x.nonce := fun i hi e => by
    rw [atT_some hu hi e] at h
    cases h
  rw [← hp.with0 hn]
  have := hp.le
  simp
  omega
theorem with_len1 {xs : List Tx} (hu : UpT xs) {x y : Tx} (h : atT xs x.nonce = some y) : (withT xs x).length = xs.length := by
  obtain ⟨m, hp⟩ := part_exists hu x.nonce
  by_cases hm : ∃ hm : m < xs.length, (xs[m]).nonce = x.nonce
  · obtain ⟨hm, e⟩ := hm
    rw [← hp.with1 hu hm e, List.length_set]
  · have := atT_none (hp.none hu (fun a b => hm ⟨a, b⟩))
    rw [this] at h
    cases h
theorem GoodL.with {xs : List Tx} {x : Tx} (h : GoodL (fromT x) xs) (hs : x.sign = sgn x) (hl : (withT xs x).length ≤ 256) : GoodL (fromT x) (withT xs x) := ⟨hl, fun y hy => by
  rcases withT_mem hy with rfl | hy
  · exact ownT_iff.2 ⟨hs, rfl⟩
  · exact h.own y hy, h.up.with x⟩
theorem GoodL.take {o : List UInt8} {xs : List Tx} (h : GoodL o xs) (k : Nat) : GoodL o (xs.take k) := ⟨by have := h.len; rw [List.length_take]; omega, fun y hy => h.own y (List.mem_of_mem_take hy), upT_pw.2 ((upT_pw.1 h.up).sublist (List.take_sublist _ _))⟩
theorem GoodL.drop {o : List UInt8} {xs : List Tx} (h : GoodL o xs) (k : Nat) : GoodL o (xs.drop k) := ⟨by have := h.len; rw [List.length_drop]; omega, fun y hy => h.own y (List.mem_of_mem_drop hy), upT_pw.2 ((upT_pw.1 h.up).sublist (List.drop_sublist _ _))⟩
theorem withT_ne (xs : List Tx) (x : Tx) : withT xs x ≠ [] := by
  unfold withT
  simp
/-- What holds of what comes of a Submit. -/
structure Kept (cs : List LC) (cap : Int) (x : Tx) (zs : List LC) (gone : List Tx) : Prop where
  there : atT (lineC zs (fromT x)) x.nonce = some x
  few : gone.length ≤ 1
  may : MayC zs
  k2 : K2 zs
  cnt : cntC zs + gone.length = cntC cs + 1
  stay : ∀ c ∈ cs, ∀ z ∈ c.2, atT (lineC zs c.1) z.nonce = some z ∨ gone = [z]
  room : (cntC zs : Int) ≤ cap ∨ cntC zs ≤ cntC cs
theorem kept_set {cs : List LC} (h : MayC cs) (h2 : K2 cs) {x : Tx} (hs : x.sign = sgn x) {cap : Int} (hl : (withT (lineC cs (fromT x)) x).length ≤ 256) {gone : List Tx} (hg : (∃ y, atT (lineC cs (fromT x)) x.nonce = some y ∧ gone = [y]) ∨ atT (lineC cs (fromT x)) x.nonce = none ∧ gone = [] ∧ (cntC cs : Int) < cap) : Kept cs cap x (setC cs (fromT x) (withT (lineC cs (fromT x)) x)) gone := by
  have hL := h.line (fromT x)
  have hc := cntC_set h.srt h2 (fromT_len x) h.ne (withT (lineC cs (fromT x)) x)
  refine ⟨?_, ?_, h.set h2 (fromT_len x) (hL.with hs hl), h2.set (fromT_len x) _, ?_, fun c hc z hz => ?_, ?_⟩
  · rw [lineC_set h.srt h2 (fromT_len x)]
    exact with_at hL.up x
  · rcases hg with ⟨y, _, rfl⟩ | ⟨_, rfl, _⟩ <;> simp
  · rcases hg with ⟨y, e, rfl⟩ | ⟨e, rfl, _⟩
    · rw [with_len1 hL.up e] at hc
      simp only [List.length_cons, List.length_nil]
      omega
    · rw [with_len0 hL.up e] at hc
      simp only [List.length_nil]
      omega
  · by_cases ho : c.1 = fromT x
    · rw [ho, lineC_set h.srt h2 (fromT_len x)]
      have hz2 : z ∈ lineC cs (fromT x) := by
        rw [← ho, lineC_mem h.srt (show (c.1, c.2) ∈ cs from hc)]
        exact hz
      by_cases hn : z.nonce = x.nonce
      · rcases hg with ⟨y, e, rfl⟩ | ⟨e, _, _⟩
        · rw [atT_mem hL.up hz2 hn] at e
          obtain rfl := Option.some.inj e
          exact .inr rfl
        · rw [atT_mem hL.up hz2 hn] at e
          cases e
      · exact .inl (with_at_ne hL.up x hz2 hn)
    · rw [lineC_set_ne h.srt h2 (fromT_len x) _ ho, lineC_mem h.srt (show (c.1, c.2) ∈ cs from hc)]
      exact .inl (atT_mem (h.good c hc).up hz rfl)
  · rcases hg with ⟨y, e, rfl⟩ | ⟨e, rfl, hcap⟩
    · rw [with_len1 hL.up e] at hc
      exact .inr (by omega)
    · rw [with_len0 hL.up e] at hc
      exact .inl (by omega)
theorem drop_last {xs : List Tx} (h : xs ≠ []) : ∃ y, xs.drop (xs.length - 1) = [y] ∧ xs = xs.take (xs.length - 1) ++ [y] := by
  have hl : 0 < xs.length := List.length_pos_iff.2 h
  refine ⟨xs[xs.length - 1], ?_, ?_⟩
  · rw [List.drop_eq_getElem_cons (by omega), List.drop_eq_nil_of_le (by omega)]
  · conv => lhs; rw [← List.take_append_drop (xs.length - 1) xs]
    rw [List.drop_eq_getElem_cons (by omega), List.drop_eq_nil_of_le (by omega)]
theorem kept_evict {cs : List LC} (h : MayC cs) (h2 : K2 cs) {x : Tx} (hs : x.sign = sgn x) {cap : Int} (hat : atT (lineC cs (fromT x)) x.nonce = none) (hl : (withT (lineC cs (fromT x)) x).length ≤ 256) {w : LC} (hw : w ∈ cs) (hwo : w.1 ≠ fromT x) : Kept cs cap x (setC (setC cs w.1 (w.2.take (w.2.length - 1))) (fromT x) (withT (lineC cs (fromT x)) x)) (w.2.drop (w.2.length - 1)) := by
  have hw32 : w.1.length = 32 := h2 w hw
  have hb : MayC (setC cs w.1 (w.2.take (w.2.length - 1))) := h.set h2 hw32 ((h.good w hw).take _)
  have hb2 : K2 (setC cs w.1 (w.2.take (w.2.length - 1))) := h2.set hw32 _
  have hLb : lineC (setC cs w.1 (w.2.take (w.2.length - 1))) (fromT x) = lineC cs (fromT x) := lineC_set_ne h.srt h2 hw32 _ (fun e => hwo e.symm)
  have hL := h.line (fromT x)
  have hwl := h.ne w hw
  obtain ⟨y, hy1, hy2⟩ := drop_last hwl
  have hlw : lineC cs w.1 = w.2 := lineC_mem h.srt (show (w.1, w.2) ∈ cs from hw)
  have hc1 := cntC_set h.srt h2 hw32 h.ne (w.2.take (w.2.length - 1))
  have hc2 := cntC_set hb.srt hb2 (fromT_len x) hb.ne (withT (lineC cs (fromT x)) x)
  have hpos : 0 < w.2.length := List.length_pos_iff.2 hwl
  rw [hlw, List.length_take] at hc1
  rw [hLb, with_len0 hL.up hat] at hc2
  have hcnt : cntC (setC (setC cs w.1 (w.2.take (w.2.length - 1))) (fromT x) (withT (lineC cs (fromT x)) x)) = cntC cs := by omega
  refine ⟨?_, by rw [hy1]; simp, hb.set hb2 (fromT_len x) (hL.with hs hl), hb2.set (fromT_len x) _, by rw [hcnt, hy1]; rfl, fun c hc z hz => ?_, .inr (by omega)⟩
  · rw [lineC_set hb.srt hb2 (fromT_len x)]
    exact with_at hL.up x
  · by_cases ho : c.1 = fromT x
    · rw [ho, lineC_set hb.srt hb2 (fromT_len x)]
      have hz2 : z ∈ lineC cs (fromT x) := by
        rw [← ho, lineC_mem h.srt (show (c.1, c.2) ∈ cs from hc)]
        exact hz
      have hn : z.nonce ≠ x.nonce := fun e => by
        rw [atT_mem hL.up hz2 e] at hat
        cases hat
      exact .inl (with_at_ne hL.up x hz2 hn)
    · rw [lineC_set_ne hb.srt hb2 (fromT_len x) _ ho]
      by_cases hcw : c.1 = w.1
      · have hcw2 : c.2 = w.2 := by
          rw [← hlw, ← hcw, lineC_mem h.srt (show (c.1, c.2) ∈ cs from hc)]
        rw [hcw, lineC_set h.srt h2 hw32]
        rw [hcw2, hy2] at hz
        rcases List.mem_append.1 hz with hz | hz
        · exact .inl (atT_mem ((h.good w hw).take _).up hz rfl)
        · rw [List.mem_singleton.1 hz]
          exact .inr hy1
      · rw [lineC_set_ne h.srt h2 hw32 _ hcw, lineC_mem h.srt (show (c.1, c.2) ∈ cs from hc)]
        exact .inl (atT_mem (h.good c hc).up hz rfl)
theorem submitC_kept {cs : List LC} (h : MayC cs) (h2 : K2 cs) {cap : Int} {nonce : Nat} {x : Tx} : (submitC cs cap nonce x).2.2 = 0 → Kept cs cap x (submitC cs cap nonce x).1 (submitC cs cap nonce x).2.1 := by
  have hL := h.line (fromT x)
  unfold submitC
  intro he
  split at he
  rotate_left
  · exact absurd he (by decide)
  rename_i hs
  rw [if_pos hs]
  split at he
  · exact absurd he (by decide)
  rename_i h1
  rw [if_neg h1]
  split at he
  · exact absurd he (by decide)
  rename_i h3
  rw [if_neg h3]
  cases hat : atT (lineC cs (fromT x)) x.nonce with
  | some y =>
    rw [hat] at he
    dsimp only at he ⊢
    split at he
    · exact absurd he (by decide)
    rename_i hf
    rw [if_neg hf]
    exact kept_set h h2 hs (by rw [with_len1 hL.up hat]; exact hL.len) (.inl ⟨y, hat, rfl⟩)
  | none =>
    rw [hat] at he
    dsimp only at he ⊢
    split at he
    · exact absurd he (by decide)
    rename_i hf
    rw [if_neg hf]
    have hwl : (withT (lineC cs (fromT x)) x).length ≤ 256 := by rw [with_len0 hL.up hat]; omega
    split at he
    · rename_i hcap
      rw [if_pos hcap]
      exact kept_set h h2 hs hwl (.inr ⟨hat, rfl, hcap⟩)
    · rename_i hcap
      rw [if_neg hcap]
      rcases worstC_is (cs := cs) (o := fromT x) (fee := x.fee) with e | ⟨k, hk, e, hn⟩
      · rw [e] at he ⊢
        cases hw : cs[((-1 : Int)).toNat]? with
        | none =>
          rw [hw] at he
          have he : (9 : Int) = 0 := he
          exact absurd he (by decide)
        | some w =>
          rw [hw] at he
          have he : (if (-1 : Int) < 0 then (([], [], 9) : List LC × List Tx × Int) else _).2.2 = 0 := he
          rw [if_pos (by decide)] at he
          exact absurd he (by decide)
      · rw [e] at he ⊢
        rw [show ((k : Int)).toNat = k from rfl, List.getElem?_eq_getElem hk]
        dsimp only
        rw [if_neg (by omega)]
        exact kept_evict h h2 hs hat hwl (List.getElem_mem hk) hn
end Go.Proofs.YtccbcdhpnkbkgaaDoor

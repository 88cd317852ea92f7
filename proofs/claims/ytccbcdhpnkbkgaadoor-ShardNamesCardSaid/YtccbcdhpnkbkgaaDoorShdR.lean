/-
  Shards: what Draw and Back do, in plain terms.
-/
import Derived.Test.YtccbcdhpnkbkgaaDoorShdQ
set_option linter.unusedVariables false
set_option linter.unusedSimpArgs false
namespace Go.Proofs.YtccbcdhpnkbkgaaDoor
open Go Go.RowKit
set_option linter.unusedVariables false
set_option linter.unusedSimpArgs false
set_option linter.unusedSectionVars false
open Classical

/-- How many of a run are drawn, with so much room, so many drawn. -/
def cutN (run : Nat) (room : Int) (d : Nat) : Nat := (max 0 (min (run : Int) (room - (d : Int)))).toNat
theorem cutN_le (run : Nat) (room : Int) (d : Nat) : cutN run room d ≤ run := by
  unfold cutN
  omega
theorem cutN_room (run : Nat) (room : Int) (d : Nat) : cutN run room d = 0 ∨ ((d + cutN run room d : Nat) : Int) ≤ room := by
  unfold cutN
  omega
/-- One sender's run, and how many of it are drawn. -/
def cutC (f : List UInt8 → Nat) (room : Int) (d : Nat) (c : LC) : Nat := cutN (readyT c.2 (f c.1)).length room d
def drawS (f : List UInt8 → Nat) (room : Int) (s : List LC × List Tx) (c : LC) : List LC × List Tx :=
  (s.1 ++ ownC c.1 ((hiT c.2 (f c.1)).drop (cutC f room s.2.length c)), s.2 ++ (readyT c.2 (f c.1)).take (cutC f room s.2.length c))
def drawC (f : List UInt8 → Nat) (room : Int) (cs : List LC) : List LC × List Tx := cs.foldl (drawS f room) ([], [])
theorem drawC_take {f : List UInt8 → Nat} {room : Int} {cs : List LC} {i : Nat} (hi : i < cs.length) : drawC f room (cs.take (i + 1)) = drawS f room (drawC f room (cs.take i)) cs[i] := by
  unfold drawC
  rw [List.take_succ_eq_append_getElem hi, List.foldl_append]
  rfl
theorem drawC_len (f : List UInt8 → Nat) (room : Int) : ∀ (cs : List LC) (s : List LC × List Tx), (cs.foldl (drawS f room) s).2.length ≤ s.2.length + cntC cs := by
  intro cs
  induction cs with
  | nil => intro s; simp [cntC]
  | cons c r ih =>
    intro s
    have h1 := ih (drawS f room s c)
    have h2 : (drawS f room s c).2.length ≤ s.2.length + c.2.length := by
      unfold drawS
      rw [List.length_append, List.length_take]
      have := ready_len c.2 (f c.1)
      omega
    have h3 : cntC (c :: r) = c.2.length + cntC r := by simp [cntC]
    simp only [List.foldl_cons]
    omega
theorem runT_take : ∀ (xs : List Tx) (k : Nat), runT xs k = xs.take (runT xs k).length
  | [], _ => by simp [runT]
  | x :: r, k => by
    unfold runT
    split
    · rw [List.length_cons, List.take_succ_cons, ← runT_take r (k + 1)]
    · rfl
theorem ready_take (xs : List Tx) (k m : Nat) (hm : m ≤ (readyT xs k).length) : (readyT xs k).take m = (hiT xs k).take m := by
  have e : readyT xs k = (hiT xs k).take (readyT xs k).length := runT_take _ _
  rw [e, List.take_take, Nat.min_eq_left hm]
theorem hiT_hiT (xs : List Tx) (k : Nat) : hiT (hiT xs k) k = hiT xs k := by
  unfold hiT
  rw [List.filter_filter]
  simp
theorem ready_hi (xs : List Tx) (k : Nat) : readyT (hiT xs k) k = readyT xs k := by
  unfold readyT
  rw [hiT_hiT]
theorem setC_mid {P r : List LC} {c : LC} (h : Srt2 (P ++ c :: r)) (xs : List Tx) : setC (P ++ c :: r) c.1 xs = P ++ (ownC c.1 xs ++ r) := by
  obtain ⟨h1, h2, h3⟩ := List.pairwise_append.1 h
  obtain ⟨h4, h5⟩ := List.pairwise_cons.1 h2
  have e1 : lowC (P ++ c :: r) c.1 = P := by
    unfold lowC
    rw [List.filter_append, List.filter_eq_self.2 (fun x hx => decide_eq_true (h3 x hx c (by simp))), List.filter_eq_nil_iff.2, List.append_nil]
    intro x hx
    rcases List.mem_cons.1 hx with rfl | hx
    · simpa using Ahd.irrefl _
    · simpa using (h4 x hx).asymm
  have e2 : highC (P ++ c :: r) c.1 = r := by
    unfold highC
    rw [List.filter_append, List.filter_eq_nil_iff.2 (fun x hx => by simpa using (h3 x hx c (by simp)).asymm), List.nil_append, List.filter_cons_of_neg (by simpa using Ahd.irrefl _), List.filter_eq_self.2]
    intro x hx
    exact decide_eq_true (h4 x hx)
  unfold setC
  rw [e1, e2]
theorem GoodL.hi {o : List UInt8} {xs : List Tx} (h : GoodL o xs) (k : Nat) : GoodL o (hiT xs k) := ⟨Nat.le_trans (List.length_filter_le _ _) h.len, fun y hy => h.own y (hiT_sub y hy), h.up.hi k⟩
/-- A shard that is drawn zs far zs a place. -/
noncomputable def drawAt (f : List UInt8 → Nat) (room : Int) (cs : List LC) (i : Nat) : List LC := (drawC f room (cs.take i)).1 ++ cs.drop i
theorem drawAt_may {f : List UInt8 → Nat} {room : Int} {cs : List LC} (h : MayC cs) (h2 : K2 cs) : ∀ i, i ≤ cs.length → MayC (drawAt f room cs i) ∧ K2 (drawAt f room cs i) ∧ ∀ hi : i < cs.length, drawAt f room cs (i + 1) = setC (drawAt f room cs i) cs[i].1 ((hiT cs[i].2 (f cs[i].1)).drop (cutC f room (drawC f room (cs.take i)).2.length cs[i])) := by
  have step : ∀ i (hi : i < cs.length), Srt2 (drawAt f room cs i) → drawAt f room cs (i + 1) = setC (drawAt f room cs i) cs[i].1 ((hiT cs[i].2 (f cs[i].1)).drop (cutC f room (drawC f room (cs.take i)).2.length cs[i])) := by
    intro i hi hs
    unfold drawAt at *
    rw [List.drop_eq_getElem_cons hi] at hs ⊢
    rw [setC_mid hs, drawC_take hi, drawS, List.append_assoc]
  intro i
  induction i with
  | zero =>
    intro _
    have e : drawAt f room cs 0 = cs := by simp [drawAt, drawC]
    refine ⟨by rw [e]; exact h, by rw [e]; exact h2, fun hi => step 0 hi (by rw [e]; exact h.srt)⟩
  | succ i ih =>
    intro hi
    obtain ⟨a, b, c⟩ := ih (by omega)
    have hc := c (by omega)
    have hm : MayC (drawAt f room cs (i + 1)) := by
      rw [hc]
      exact a.set b (h2 _ (List.getElem_mem (by omega))) (((h.good _ (List.getElem_mem (by omega))).hi _).drop _)
    refine ⟨hm, ?_, fun hj => step (i + 1) hj hm.srt⟩
    rw [hc]
    exact b.set (h2 _ (List.getElem_mem (by omega))) _
theorem drawAt_end (f : List UInt8 → Nat) (room : Int) (cs : List LC) : drawAt f room cs cs.length = (drawC f room cs).1 := by
  unfold drawAt
  rw [List.take_length, List.drop_length, List.append_nil]
/-- What holds of what is drawn. -/
structure Drn (f : List UInt8 → Nat) (room : Int) (cs : List LC) (zs : List LC) (dr : List Tx) : Prop where
  from' : ∀ i (hi : i < dr.length), (∃ c ∈ cs, fromT dr[i] = c.1 ∧ dr[i] ∈ c.2 ∧ ∀ xs, (c.1, xs) ∈ zs → ∀ z ∈ xs, z.nonce ≠ dr[i].nonce) ∧ dr[i].nonce = (if 0 < i ∧ fromT (dr[i - 1]'(by omega)) = fromT dr[i] then (dr[i - 1]'(by omega)).nonce + 1 else f (fromT dr[i]))
  left : ∀ a ∈ zs, ∃ c ∈ cs, a.1 = c.1 ∧ ∀ z ∈ a.2, z ∈ c.2 ∧ f c.1 ≤ z.nonce
  few : dr.length = 0 ∨ (dr.length : Int) ≤ room
theorem upT_split {xs : List Tx} (h : UpT xs) (m : Nat) : ∀ y ∈ xs.take m, ∀ z ∈ xs.drop m, z.nonce ≠ y.nonce := by
  intro y hy z hz
  obtain ⟨i, hi, him, rfl⟩ := mem_take_lt hy
  obtain ⟨j, hj, hmj, rfl⟩ := mem_drop_le hz
  have := h i j hj (by omega)
  omega
theorem drn_step {f : List UInt8 → Nat} {room : Int} {cs zs : List LC} {dr : List Tx} {c : LC} (h : Drn f room cs zs dr) (hg : GoodL c.1 c.2) (hn : ∀ d ∈ cs, d.1 ≠ c.1) : Drn f room (cs ++ [c]) (drawS f room (zs, dr) c).1 (drawS f room (zs, dr) c).2 := by
  obtain ⟨m, hm⟩ : ∃ m, m = cutC f room dr.length c := ⟨_, rfl⟩
  have hmle : m ≤ (readyT c.2 (f c.1)).length := by rw [hm]; exact cutN_le _ _ _
  have hroom : m = 0 ∨ ((dr.length + m : Nat) : Int) ≤ room := by rw [hm]; exact cutN_room _ _ _
  obtain ⟨r1, r2⟩ := ready_at hg.up (f c.1)
  have hrt := ready_take c.2 (f c.1) m hmle
  have hhi := (hg.hi (f c.1)).up
  have hasn : ∀ a ∈ zs, a.1 ≠ c.1 := fun a ha e => by
    obtain ⟨d, hd, e2, _⟩ := h.left a ha
    exact hn d hd (by rw [← e2, e])
  have hmem : ∀ p (hp : p < m), ((readyT c.2 (f c.1))[p]'(by omega)) ∈ c.2 := fun p hp => by
    have : (readyT c.2 (f c.1))[p]'(by omega) ∈ readyT c.2 (f c.1) := List.getElem_mem _
    exact hiT_sub _ (runT_sub _ this)
  have hown : ∀ p (hp : p < m), fromT ((readyT c.2 (f c.1))[p]'(by omega)) = c.1 := fun p hp => (ownT_iff.1 (hg.own _ (hmem p hp))).2
  have hdl : (dr ++ (readyT c.2 (f c.1)).take m).length = dr.length + m := by
    rw [List.length_append, List.length_take, Nat.min_eq_left hmle]
  unfold drawS
  dsimp only
  rw [← hm]
  refine ⟨fun i hi => ?_, fun a ha => ?_, ?_⟩
  · rw [hdl] at hi
    by_cases hlt : i < dr.length
    · have e1 : (dr ++ (readyT c.2 (f c.1)).take m)[i]'(by rw [hdl]; omega) = dr[i] := List.getElem_append_left hlt
      have e2 : (dr ++ (readyT c.2 (f c.1)).take m)[i - 1]'(by rw [hdl]; omega) = dr[i - 1]'(by omega) := List.getElem_append_left (by omega)
      rw [e1, e2]
      obtain ⟨⟨d, hd, h1, h2, h3⟩, h4⟩ := h.from' i hlt
      refine ⟨⟨d, by simp [hd], h1, h2, fun xs hx => ?_⟩, h4⟩
      rcases List.mem_append.1 hx with hx | hx
      · exact h3 xs hx
      · obtain ⟨_, e⟩ := mem_ownC.1 hx
        exact absurd (congrArg Prod.fst e) (hn d hd)
    · obtain ⟨p, rfl⟩ : ∃ p, i = dr.length + p := ⟨i - dr.length, by omega⟩
      have hp : p < m := by omega
      have e1 : (dr ++ (readyT c.2 (f c.1)).take m)[dr.length + p]'(by rw [hdl]; omega) = (readyT c.2 (f c.1))[p]'(by omega) := by
        rw [List.getElem_append_right (by omega), List.getElem_take]
        congr 1
        omega
      rw [e1]
      have hN := (r1 p (by omega)).1
      refine ⟨⟨c, by simp, hown p hp, hmem p hp, fun xs hx z hz => ?_⟩, ?_⟩
      · rcases List.mem_append.1 hx with hx | hx
        · exact absurd (rfl : ((c.1, xs) : LC).1 = c.1) (hasn (c.1, xs) hx)
        · obtain ⟨_, e⟩ := mem_ownC.1 hx
          have e' : xs = (hiT c.2 (f c.1)).drop m := congrArg Prod.snd e
          rw [e'] at hz
          refine upT_split hhi m _ ?_ z hz
          rw [← hrt]
          have : ((readyT c.2 (f c.1)).take m)[p]'(by rw [List.length_take]; omega) ∈ (readyT c.2 (f c.1)).take m := List.getElem_mem _
          rwa [List.getElem_take] at this
      · by_cases hp0 : p = 0
        · subst hp0
          rw [if_neg, hown 0 hp, hN, Nat.add_zero]
          rintro ⟨h0, he⟩
          have e2 : (dr ++ (readyT c.2 (f c.1)).take m)[dr.length + 0 - 1]'(by rw [hdl]; omega) = dr[dr.length - 1]'(by omega) := List.getElem_append_left (by omega)
          rw [e2, hown 0 hp] at he
          obtain ⟨⟨d, hd, h1, _⟩, _⟩ := h.from' (dr.length - 1) (by omega)
          exact hn d hd (by rw [← h1, he])
        · have e2 : (dr ++ (readyT c.2 (f c.1)).take m)[dr.length + p - 1]'(by rw [hdl]; omega) = (readyT c.2 (f c.1))[p - 1]'(by omega) := by
            rw [List.getElem_append_right (by omega), List.getElem_take]
            congr 1
            omega
          rw [e2, hown p hp, hown (p - 1) (by omega), if_pos ⟨by omega, rfl⟩, hN, (r1 (p - 1) (by omega)).1]
          omega
  · rcases List.mem_append.1 ha with ha | ha
    · obtain ⟨d, hd, h1⟩ := h.left a ha
      exact ⟨d, by simp [hd], h1⟩
    · obtain ⟨_, rfl⟩ := mem_ownC.1 ha
      refine ⟨c, by simp, rfl, fun z hz => ?_⟩
      have hz := List.mem_of_mem_drop hz
      exact ⟨hiT_sub z hz, by simpa using (List.mem_filter.1 hz).2⟩
  · rw [hdl]
    rcases hroom with e | e
    · rw [e, Nat.add_zero]
      exact h.few
    · exact .inr e
theorem drawC_drn {f : List UInt8 → Nat} {room : Int} {cs : List LC} (h : MayC cs) : ∀ i, i ≤ cs.length → Drn f room (cs.take i) (drawC f room (cs.take i)).1 (drawC f room (cs.take i)).2 := by
  intro i
  induction i with
  | zero =>
    intro _
    exact ⟨fun i hi => absurd hi (by simp [drawC]), fun a ha => by simp [drawC] at ha, .inl (by simp [drawC])⟩
  | succ i ih =>
    intro hi
    rw [drawC_take (by omega), List.take_succ_eq_append_getElem (by omega)]
    refine drn_step (ih (by omega)) (h.good _ (List.getElem_mem _)) (fun d hd e => ?_)
    obtain ⟨j, hj, rfl⟩ := List.getElem_of_mem hd
    rw [List.length_take] at hj
    rw [List.getElem_take] at e
    exact (srt2_at h.srt (i := j) (j := i) (by omega) (by omega)).ne e
/-! ### Back -/
noncomputable def backS (f : List UInt8 → Nat) (cs : List LC) (x : Tx) : Option (List LC) :=
  if x.nonce < f (fromT x) then some cs
  else match atT (lineC cs (fromT x)) x.nonce with
    | some y => if x.fee ≤ y.fee then some cs else some (setC cs (fromT x) (withT (lineC cs (fromT x)) x))
    | none => if 256 ≤ (lineC cs (fromT x)).length then none else some (setC cs (fromT x) (withT (lineC cs (fromT x)) x))
noncomputable def backC (f : List UInt8 → Nat) (cs : List LC) (l : List Tx) : Option (List LC) := l.foldl (fun s x => s.bind fun cs => backS f cs x) (some cs)
theorem backC_take {f : List UInt8 → Nat} {cs : List LC} {l : List Tx} {i : Nat} (hi : i < l.length) : backC f cs (l.take (i + 1)) = (backC f cs (l.take i)).bind fun cs => backS f cs l[i] := by
  unfold backC
  rw [List.take_succ_eq_append_getElem hi, List.foldl_append]
  rfl
theorem backC_none {f : List UInt8 → Nat} {cs : List LC} {l : List Tx} {i : Nat} (h : backC f cs (l.take i) = none) : backC f cs l = none := by
  have e : ∀ l : List Tx, l.foldl (fun s x => s.bind fun cs => backS f cs x) (none : Option (List LC)) = none := by
    intro l
    induction l with
    | nil => rfl
    | cons x l ih => exact ih
  unfold backC at *
  conv => lhs; rw [← List.take_append_drop i l]
  rw [List.foldl_append, h, e]
/-- As good for every sender and nonce. -/
def Better (cs zs : List LC) : Prop := ∀ o n y, atT (lineC cs o) n = some y → ∃ z, atT (lineC zs o) n = some z ∧ (z = y ∨ y.fee < z.fee)
theorem Better.refl (cs : List LC) : Better cs cs := fun o n y h => ⟨y, h, .inl rfl⟩
theorem Better.trans {a b c : List LC} (h : Better a b) (k : Better b c) : Better a c := fun o n y hy => by
  obtain ⟨z, hz, e⟩ := h o n y hy
  obtain ⟨w, hw, e2⟩ := k o n z hz
  refine ⟨w, hw, ?_⟩
  rcases e with rfl | e
  · exact e2
  · rcases e2 with rfl | e2
    · exact .inr e
    · exact .inr (by omega)
theorem atT_both {xs : List Tx} {k : Nat} {y : Tx} (h : atT xs k = some y) : y ∈ xs ∧ y.nonce = k := by
  unfold atT at h
  exact ⟨List.mem_of_find?_eq_some h, by simpa using List.find?_some h⟩
theorem backS_set {cs : List LC} (h : MayC cs) (h2 : K2 cs) {x : Tx} (hw : ∀ y, atT (lineC cs (fromT x)) x.nonce = some y → ¬ x.fee ≤ y.fee) : Better cs (setC cs (fromT x) (withT (lineC cs (fromT x)) x)) := fun o n y hy => by
  by_cases ho : o = fromT x
  · subst ho
    rw [lineC_set h.srt h2 (fromT_len x)]
    have hL := (h.line (fromT x)).up
    obtain ⟨m1, m2⟩ := atT_both hy
    by_cases hn : n = x.nonce
    · subst hn
      have := hw y hy
      exact ⟨x, with_at hL x, .inr (by omega)⟩
    · have := with_at_ne hL x m1 (by omega)
      rw [m2] at this
      exact ⟨y, this, .inl rfl⟩
  · rw [lineC_set_ne h.srt h2 (fromT_len x) _ ho]
    exact ⟨y, hy, .inl rfl⟩
theorem backS_law {f : List UInt8 → Nat} {cs zs : List LC} {x : Tx} (h : MayC cs) (h2 : K2 cs) (hs : x.sign = sgn x) (he : backS f cs x = some zs) : MayC zs ∧ K2 zs ∧ Better cs zs ∧ (f (fromT x) ≤ x.nonce → ∃ z, atT (lineC zs (fromT x)) x.nonce = some z ∧ x.fee ≤ z.fee) := by
  have hL := h.line (fromT x)
  have fin : ∀ (hl : (withT (lineC cs (fromT x)) x).length ≤ 256) (hw : ∀ y, atT (lineC cs (fromT x)) x.nonce = some y → ¬ x.fee ≤ y.fee), zs = setC cs (fromT x) (withT (lineC cs (fromT x)) x) → MayC zs ∧ K2 zs ∧ Better cs zs ∧ (f (fromT x) ≤ x.nonce → ∃ z, atT (lineC zs (fromT x)) x.nonce = some z ∧ x.fee ≤ z.fee) := by
    intro hl hw e
    rw [e]
    refine ⟨h.set h2 (fromT_len x) (hL.with hs hl), h2.set (fromT_len x) _, backS_set h h2 hw, fun _ => ⟨x, ?_, Nat.le_refl _⟩⟩
    rw [lineC_set h.srt h2 (fromT_len x)]
    exact with_at hL.up x
  unfold backS at he
  split at he
  · rename_i hlt
    obtain rfl := Option.some.inj he
    exact ⟨h, h2, Better.refl _, fun hh => absurd hh (by omega)⟩
  cases hat : atT (lineC cs (fromT x)) x.nonce with
  | some y =>
    rw [hat] at he
    dsimp only at he
    split at he
    · rename_i hf
      obtain rfl := Option.some.inj he
      exact ⟨h, h2, Better.refl _, fun _ => ⟨y, hat, hf⟩⟩
    · rename_i hf
      exact fin (by rw [with_len1 hL.up hat]; exact hL.len) (fun y' hy' => by rw [hat] at hy'; obtain rfl := Option.some.inj hy'; exact hf) (Option.some.inj he).symm
  | none =>
    rw [hat] at he
    dsimp only at he
    split at he
    · cases he
    · rename_i hf
      exact fin (by rw [with_len0 hL.up hat]; omega) (fun y' hy' => by rw [hat] at hy'; cases hy') (Option.some.inj he).symm
theorem backC_law {f : List UInt8 → Nat} {cs : List LC} (h : MayC cs) (h2 : K2 cs) {l : List Tx} (hs : ∀ x ∈ l, x.sign = sgn x) : ∀ i, i ≤ l.length → ∀ zs, backC f cs (l.take i) = some zs → MayC zs ∧ K2 zs ∧ Better cs zs ∧ ∀ j (hj : j < l.length), j < i → f (fromT l[j]) ≤ l[j].nonce → ∃ z, atT (lineC zs (fromT l[j])) l[j].nonce = some z ∧ l[j].fee ≤ z.fee := by
  intro i
  induction i with
  | zero =>
    intro _ zs he
    rw [List.take_zero] at he
    obtain rfl := Option.some.inj he
    exact ⟨h, h2, Better.refl _, fun j hj h0 => by omega⟩
  | succ i ih =>
    intro hi zs he
    rw [backC_take (by omega)] at he
    cases hb : backC f cs (l.take i) with
    | none => rw [hb] at he; cases he
    | some bs =>
      rw [hb] at he
      obtain ⟨a1, a2, a3, a4⟩ := ih (by omega) bs hb
      obtain ⟨b1, b2, b3, b4⟩ := backS_law a1 a2 (hs _ (List.getElem_mem (by omega))) (show backS f bs l[i] = some zs from he)
      refine ⟨b1, b2, a3.trans b3, fun j hj hji hf => ?_⟩
      by_cases e : j = i
      · subst e
        exact b4 hf
      · obtain ⟨z, hz, hfz⟩ := a4 j hj (by omega) hf
        obtain ⟨z', hz', e'⟩ := b3 _ _ _ hz
        refine ⟨z', hz', ?_⟩
        rcases e' with rfl | e'
        · exact hfz
        · omega
end Go.Proofs.YtccbcdhpnkbkgaaDoor

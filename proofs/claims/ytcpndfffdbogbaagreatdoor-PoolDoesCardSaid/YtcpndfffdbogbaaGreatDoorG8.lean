/-
  Shards, the document's: a sender's line; a shard with a line in its place. Shards, the document's: the line whose last transaction goes; a shard with a transaction. Shards, the document's Submit; a shard's transactions are written over.
-/
import Derived.Test.YtcpndfffdbogbaaGreatDoorGU
import Derived.Test.YtcpndfffdbogbaaGreatDoorGZA
import Derived.Test.YtcpndfffdbogbaaGreatDoorGZ
set_option linter.unusedVariables false
set_option linter.unusedSimpArgs false
set_option linter.unusedSectionVars false
set_option maxRecDepth 100000
set_option maxHeartbeats 8000000
namespace Go.Proofs.YtcpndfffdbogbaaGreatDoor
open Go Go.RowKit
open Classical

/-- The document's way: line by line. -/
noncomputable def wS (o : List UInt8) (xs : List Tx) (s : List LC × Bool) (c : LC) : List LC × Bool :=
  ((if s.2 = false ∧ ¬ Ahd c.1 o then s.1 ++ [(o, xs)] else s.1) ++ (if c.1 = o then [] else [c]), s.2 || !decide (Ahd c.1 o))
noncomputable def wF (o : List UInt8) (xs : List Tx) (cs : List LC) : List LC × Bool := cs.foldl (wS o xs) ([], decide (xs.length = 0))
noncomputable def wC (o : List UInt8) (xs : List Tx) (cs : List LC) : List LC := if (wF o xs cs).2 = true then (wF o xs cs).1 else (wF o xs cs).1 ++ [(o, xs)]
theorem wF_take {o : List UInt8} {xs : List Tx} {cs : List LC} {i : Nat} (hi : i < cs.length) : wF o xs (cs.take (i + 1)) = wS o xs (wF o xs (cs.take i)) cs[i] := by
  unfold wF
  rw [List.take_succ_eq_append_getElem hi, List.foldl_append]
  rfl
theorem wS_low {o : List UInt8} {xs : List Tx} : ∀ (A : List LC) (s : List LC × Bool), (∀ c ∈ A, Ahd c.1 o) → A.foldl (wS o xs) s = (s.1 ++ A, s.2)
  | [], s, _ => by simp
  | c :: A, s, h => by
    have hc := h c (by simp)
    have e : wS o xs s c = (s.1 ++ [c], s.2) := by
      unfold wS
      rw [if_neg (fun e => e.2 hc), if_neg hc.ne, decide_eq_true hc]
      simp
    rw [List.foldl_cons, e, wS_low A _ (fun d hd => h d (by simp [hd]))]
    simp
theorem wS_high {o : List UInt8} {xs : List Tx} : ∀ (H : List LC) (out : List LC), (∀ c ∈ H, Ahd o c.1) → H.foldl (wS o xs) (out, true) = (out ++ H, true)
  | [], s, _ => by simp
  | c :: H, out, h => by
    have hc := h c (by simp)
    have e : wS o xs (out, true) c = (out ++ [c], true) := by
      unfold wS
      rw [if_neg (fun e => by cases e.1), if_neg hc.ne.symm]
      simp
    rw [List.foldl_cons, e, wS_high H _ (fun d hd => h d (by simp [hd]))]
    simp
theorem wC_set {cs : List LC} (hs : Srt2 cs) (h2 : K2 cs) (hne : ∀ c ∈ cs, c.2 ≠ []) {o : List UInt8} (ho : o.length = 32) (xs : List Tx) : wC o xs cs = setC cs o xs := by
  have e3 := srt2_three hs h2 ho hne
  have hlow : ∀ c ∈ lowC cs o, Ahd c.1 o := fun c hc => (mem_lowC.1 hc).2
  have hhigh : ∀ c ∈ highC cs o, Ahd o c.1 := fun c hc => (mem_highC.1 hc).2
  have hW : wF o xs cs = ((ownC o (lineC cs o) ++ highC cs o).foldl (wS o xs) (lowC cs o, decide (xs.length = 0))) := by
    unfold wF
    conv => lhs; rw [e3]
    unfold setC
    rw [List.foldl_append, wS_low _ _ hlow]
    simp
  by_cases hx : xs = []
  · have hd : decide (xs.length = 0) = true := by rw [hx]; rfl
    have e : wF o xs cs = (lowC cs o ++ highC cs o, true) := by
      rw [hW, hd, List.foldl_append]
      have e1 : (ownC o (lineC cs o)).foldl (wS o xs) (lowC cs o, true) = (lowC cs o, true) := by
        unfold ownC
        split
        · rfl
        · show wS o xs (lowC cs o, true) (o, _) = _
          unfold wS
          rw [if_neg (fun e => by cases e.1), if_pos rfl]
          simp
      rw [e1, wS_high _ _ hhigh]
    unfold wC
    rw [e, if_pos rfl, hx]
    rfl
  · have hd : decide (xs.length = 0) = false := decide_eq_false (fun e => hx (List.eq_nil_of_length_eq_zero e))
    have hown : ownC o xs = [(o, xs)] := if_neg hx
    unfold setC
    rw [hown]
    have hnn : ¬ Ahd o o := Ahd.irrefl o
    by_cases hl : lineC cs o = []
    · have e1 : ownC o (lineC cs o) = [] := if_pos hl
      rw [e1, List.nil_append, hd] at hW
      cases hH : highC cs o with
      | nil =>
        rw [hH] at hW
        have hW : wF o xs cs = (lowC cs o, false) := hW
        unfold wC
        rw [hW, if_neg (fun e => by cases e)]
        rfl
      | cons c H =>
        have hc : Ahd o c.1 := hhigh c (by rw [hH]; simp)
        rw [hH, List.foldl_cons] at hW
        have e2 : wS o xs (lowC cs o, false) c = (lowC cs o ++ [(o, xs)] ++ [c], true) := by
          unfold wS
          rw [if_pos ⟨rfl, hc.asymm⟩, if_neg hc.ne.symm, decide_eq_false hc.asymm]
          rfl
        rw [e2, wS_high _ _ (fun d hd => hhigh d (by rw [hH]; simp [hd]))] at hW
        unfold wC
        rw [hW, if_pos rfl]
        simp
    · have e1 : ownC o (lineC cs o) = [(o, lineC cs o)] := if_neg hl
      rw [e1, List.singleton_append, List.foldl_cons, hd] at hW
      have e2 : wS o xs (lowC cs o, false) (o, lineC cs o) = (lowC cs o ++ [(o, xs)], true) := by
        unfold wS
        rw [if_pos ⟨rfl, hnn⟩, if_pos rfl, decide_eq_false hnn]
        simp
      rw [e2, wS_high _ _ hhigh] at hW
      unfold wC
      rw [hW, if_pos rfl]
      simp
theorem wS_lo {o : List UInt8} {xs : List Tx} (out : List LC) (d : Bool) {c : LC} (hc : Ahd c.1 o) : wS o xs (out, d) c = (out ++ [c], d) := by
  unfold wS
  rw [if_neg (fun e => e.2 hc), if_neg hc.ne, decide_eq_true hc]
  simp
theorem wS_skip {o : List UInt8} {xs : List Tx} (out : List LC) {c : LC} (hc : c.1 = o) : wS o xs (out, true) c = (out, true) := by
  unfold wS
  rw [if_neg (fun e => by cases e.1), if_pos hc]
  simp
theorem wS_add {o : List UInt8} {xs : List Tx} (out : List LC) {c : LC} (hc : ¬ c.1 = o) : wS o xs (out, true) c = (out ++ [c], true) := by
  unfold wS
  rw [if_neg (fun e => by cases e.1), if_neg hc]
  simp
theorem wS_inE {o : List UInt8} {xs : List Tx} (out : List LC) {c : LC} (hA : ¬ Ahd c.1 o) (hc : c.1 = o) : wS o xs (out, false) c = (out ++ [(o, xs)], true) := by
  unfold wS
  rw [if_pos ⟨rfl, hA⟩, if_pos hc, decide_eq_false hA]
  simp
theorem wS_inN {o : List UInt8} {xs : List Tx} (out : List LC) {c : LC} (hA : ¬ Ahd c.1 o) (hc : ¬ c.1 = o) : wS o xs (out, false) c = (out ++ [(o, xs)] ++ [c], true) := by
  unfold wS
  rw [if_pos ⟨rfl, hA⟩, if_neg hc, decide_eq_false hA]
  simp
theorem rline20_vc (w0 : World) (L : List Asn) (a : Option Addr) (c : Nat) (ms : List Ln) (o : List UInt8) {n : Nat} (hn : n = ms.length) (h : LsOk ms) (hs : Srt2 (lls ms)) (ho : o.length = 32) [hr : RdC w0 L a (lnc ms)] :
    VC Tryz.prog w0 94 [.agg #[.slice a n c], .agg (bvs o).toArray] L fun v L' => ∃ l : Ln, v = .agg l.cells.toArray ∧ l.own = o ∧ l.xs = lineC (lls ms) o ∧ (l ∈ ms ∨ l.a = none ∧ l.xs = []) ∧ L' = L := by
  subst hn
  have hlen := h.len
  refine vc_ent ?_
  refine vc_in rfl rfl ?_
  repeat' (first | (refine go1 ?_; intros) | (refine goCC ?_ ?_ <;> (intro hb; (try simp only [hSQ] at hb); try (exfalso; omega))) | fail)
  refine v_loopS Nat [2, 3, 4] rfl (fun i => [(5, .int .i64 i)]) (fun i => i ≤ ms.length ∧ ∀ j (hj : j < ms.length), j < i → ms[j].own ≠ o) (fun i => ms.length - i) 0 ⟨Nat.zero_le _, fun j _ h => by omega⟩ (by (exact sbS)) (fun i ⟨hi, hno⟩ => ?_)
  by_cases hlt : i < ms.length
  rotate_left
  · obtain rfl : i = ms.length := by omega
    have hl0 : lineC (lls ms) o = [] := lineC_none (fun j hj e => hno j (by rwa [List.length_map] at hj) (by rwa [List.length_map] at hj) (by rwa [List.getElem_map] at e))
    repeat' (first | (refine goB ?_; intros) | (refine goCC ?_ ?_ <;> (intro hb; (try simp only [hSQ] at hb); try (exfalso; omega))) | fail)
    have hzl : (Ln.mk o none 0 []).cells.length = 33 := Ln.len ho
    haveI hzo : OC (Ln.mk o none 0 []).cells := oc_ln _
    refine vl_q rfl rfl rfl rfl (vq_buildP (cs := (Ln.mk o none 0 []).cells) rfl (by simp [okS, Value.cells, ho]) (fill_line ho)) ?_
    generalize hzc : (Ln.mk o none 0 []).cells = zc at *
    repeat' (first | (refine go1 ?_; intros) | (refine goCC ?_ ?_ <;> (intro hb; (try simp only [hSQ] at hb); try (exfalso; omega))) | fail)
    exact ⟨_, sei _ _ L, ⟨o, none, 0, []⟩, by rw [hzc], rfl, hl0.symm, .inr ⟨rfl, rfl⟩, rfl⟩
  have e0 := h.e0 i hlt
  have ei := h.e i hlt
  have hpos := h.pos i hlt
  have hol := (h.at i hlt).own
  have hLC := lineC_ms hs hlt
  have hmem : ms[i] ∈ ms := List.getElem_mem hlt
  have hcl := Ln.len hol
  have hnext : ms[i].own ≠ o → ∀ j (hj : j < ms.length), j < i + 1 → ms[j].own ≠ o := fun hq j hj hji => by
    by_cases e2 : j = i
    · subst e2; exact hq
    · exact hno j hj (by omega)
  generalize ms[i] = l at *
  haveI hoc : OC l.cells := oc_ln _
  by_cases hlo : l.own = o
  · rw [hlo] at hLC
    obtain ⟨cs, hcs⟩ : ∃ cs, cs = l.cells := ⟨_, rfl⟩
    rw [← hcs] at ei hcl hoc
    repeat' (first | (refine go1 ?_; intros) | (refine goCC ?_ ?_ <;> (intro hb; (try simp only [hSQ] at hb); try (exfalso; omega))) | fail)
    (refine v_draw0 [] (by kernel_rfl) ?_ <;> (refine tA 0 ?_) <;> (refine tA 1 ?_) <;> (refine tA 2 ?_) <;> (refine tA 3 ?_) <;> (refine tA 4 ?_) <;> (refine tA 5 ?_) <;> (refine tA 6 ?_) <;> (refine va_take 7 rfl rfl rfl rfl (by kernel_rfl) (fun _ _ _ _ h => h) entD (by exact qX0) ?_) <;> (refine va_done (by kernel_rfl) ?_))
    repeat' (first | (refine go1 ?_; intros) | (refine goCC ?_ ?_ <;> (intro hb; (try simp only [hSQ] at hb); try (exfalso; omega))) | fail)
    exact ⟨_, sei _ _ L, l, by rw [hcs], hlo, hLC.symm, .inl hmem, rfl⟩
  · repeat' (first | (refine go1 ?_; intros) | (refine goCC ?_ ?_ <;> (intro hb; (try simp only [hSQ] at hb); try (exfalso; omega))) | fail)
    (refine v_draw0 [] (by kernel_rfl) ?_ <;> (refine tA 0 ?_) <;> (refine tA 1 ?_) <;> (refine tA 2 ?_) <;> (refine tA 3 ?_) <;> (refine tA 4 ?_) <;> (refine tA 5 ?_) <;> (refine tA 6 ?_) <;> (refine va_take 7 rfl rfl rfl rfl (by kernel_rfl) (fun _ _ _ _ h => h) entD (by exact qX0) ?_) <;> (refine va_done (by kernel_rfl) ?_))
    repeat' (first | (refine go1 ?_; intros) | (refine goCC ?_ ?_ <;> (intro hb; (try simp only [hSQ] at hb); try (exfalso; omega))) | fail)
    exact ⟨rfl, i + 1, ⟨by omega, hnext hlo⟩, by omega, by (exact sbS), Ent.refl _ _⟩
theorem se_snocL (a3 : Option Addr) (c3 : Nat) (pm : List Ln) (x : Ln) (a2 : Option Addr) (c2 : Nat) (rest : List Asn) : SE (ownTs a2 c2 x.xs :: tsA pm :: own 69 33 a3 (pm.length + 1) c3 (lnc pm ++ (Ln.mk x.own a2 c2 x.xs).cells) :: rest) (ownLs a3 c3 (pm ++ [x.to a2 c2]) :: tsA (pm ++ [x.to a2 c2]) :: rest) := by
  rw [ownLs_snoc]
  exact (se_tsA_snoc pm _ (x.to a2 c2)).trans (se_swap _ _ _)
theorem LsOk.snoc {pm : List Ln} {x : Ln} (h : LsOk pm) (hx : x.ok) (hl : pm.length ≤ 999999) : LsOk (pm ++ [x]) := ⟨fun p hp => by
  rcases List.mem_append.1 hp with hp | hp
  · exact h.ok p hp
  · rw [List.mem_singleton.1 hp]; exact hx, by simp; omega⟩
theorem rwithS_vc (w0 : World) (L : List Asn) (a : Option Addr) (c : Nat) (ms : List Ln) (l : Ln) {n : Nat} (hn : n = ms.length) (h : LsOk ms) (hmc : MayC (lls ms)) (hl : l.ok) (h5 : ms.length ≤ 900000) [hr : RdC w0 L a (lnc ms)] [hv : RdLs w0 L ms] [hrl : RdC w0 L l.a (txc l.xs)] :
    VC Tryz.prog w0 86 [.agg #[.slice a n c], .agg l.cells.toArray] L (RShC (setC (lls ms) l.own l.xs) L) := by
  subst hn
  have hlen := h.len
  have ho := hl.own
  have l0 := Ln.f0 ho
  have l1 := Ln.f1 ho
  have hll := Ln.len ho
  haveI olc : OC l.cells := oc_ln _
  refine vc_ent ?_
  refine vc_in rfl rfl ?_
  rw [← wC_set hmc.srt h.k2 hmc.ne ho]
  obtain ⟨lc, hlc⟩ : ∃ lc, lc = l.cells := ⟨_, rfl⟩
  rw [← hlc] at l0 l1 hll olc ⊢
  repeat' (first | (refine go1 ?_; intros) | (refine goCC ?_ ?_ <;> (intro hb; (try simp only [hSQ] at hb); try (exfalso; omega))) | fail)
  rename_i g2 g3 g4 g5
  refine v_loopF (Nat × List Ln × Option Addr × Nat × Bool) [2, 3, 4, 5] rfl (fun z => [(7, .int .i64 z.1), (6, .bool z.2.2.2.2)]) (fun _ z => blk g5 24 [.slice z.2.2.1 z.2.1.length z.2.2.2.1] :: ownLs z.2.2.1 z.2.2.2.1 z.2.1 :: tsA z.2.1 :: blk g4 24 [.slice none 0 0] :: blk g3 69 lc :: blk g2 24 [.slice a ms.length c] :: L) (fun z => z.1 ≤ ms.length ∧ (lls z.2.1, z.2.2.2.2) = wF l.own l.xs ((lls ms).take z.1) ∧ LsOk z.2.1 ∧ z.2.1.length ≤ z.1 + 1 ∧ (z.2.2.2.2 = false → z.2.1.length ≤ z.1)) (fun z => ms.length - z.1) (0, [], none, 0, decide (l.xs.length = 0)) ⟨Nat.zero_le _, rfl, LsOk.nil, by simp, fun _ => by simp⟩ ?_ ?_ ?_
  · dsimp only
    rw [show decide ((l.xs.length : Int) = 0) = decide (l.xs.length = 0) from decide_eq_decide.2 (by omega)]
    (exact sbS)
  · exact (SE.cons _ (se_ls_nil _)).ent w0
  rintro ⟨i, pm, pa, pc, pd⟩ ⟨hi, hw, hpo, hpl, hpf⟩
  dsimp only at hi hw hpo hpl hpf ⊢
  have hwl := hpo.wide.len
  by_cases hlt : i < ms.length
  rotate_left
  · obtain rfl : i = ms.length := by omega
    rw [List.take_of_length_le (by rw [List.length_map]; exact Nat.le_refl _)] at hw
    unfold wC
    rw [← hw]
    dsimp only
    cases pd
    · rw [if_neg (by decide)]
      repeat' (first | (refine go1 ?_; intros) | (refine goCC ?_ ?_ <;> (intro hb; (try simp only [hSQ] at hb); try (exfalso; omega))) | fail)
      refine v_draw0 [5, 7] (by kernel_rfl) ?_
      refine tA 0 ?_
      refine tA 1 ?_
      refine tA 2 ?_
      refine va_one 3 (by kernel_rfl) rfl rfl ?_
      first | refine vo_call rfl rfl ?_ | refine vo_callV rfl rfl rfl ?_
      rw [hlc]
      refine vc_mono (rtwinL_vc w0 _ l hl) ?_
      rintro v L' ⟨a2, c2, rfl, rfl⟩
      have hcl2 : (Ln.mk l.own a2 c2 l.xs).cells.length = 33 := Ln.len ho
      refine ⟨.inr (sei _ _ _), ?_⟩
      refine va_one 4 (by kernel_rfl) rfl rfl ?_
      (refine goV ?_; intros)
      refine ⟨.inr (sei _ _ _), ?_⟩
      refine va_one 5 (by kernel_rfl) rfl rfl ?_
      (refine goV ?_; intros)
      refine ⟨.inl (by kernel_rfl), ?_⟩
      refine tP 6 ?_
      refine va_one 7 (by kernel_rfl) rfl rfl ?_
      (refine goV ?_; intros)
      refine ⟨.inl (by kernel_rfl), ?_⟩
      refine va_done (by kernel_rfl) ?_
      skip
      repeat' (first | (refine go1 ?_; intros) | (refine goCC ?_ ?_ <;> (intro hb; (try simp only [hSQ] at hb); try (exfalso; omega))) | fail)
      rename_i a3 c3 _ _
      simp only [List.append_nil]
      refine ⟨ownLs a3 c3 (pm ++ [l.to a2 c2]) :: tsA (pm ++ [l.to a2 c2]) :: L, ?_, a3, c3, pm ++ [l.to a2 c2], by rw [List.length_append]; rfl, by rw [lls_app]; rfl, hpo.snoc (x := l.to a2 c2) ⟨ho, hl.ts⟩ (by omega), rfl⟩
      exact (sei w0 _ (ownTs a2 c2 l.xs :: tsA pm :: own 69 33 a3 (pm.length + 1) c3 (lnc pm ++ (Ln.mk l.own a2 c2 l.xs).cells) :: L)).trans ((se_snocL a3 c3 pm l a2 c2 _).ent w0)
    · rw [if_pos rfl]
      repeat' (first | (refine go1 ?_; intros) | (refine goCC ?_ ?_ <;> (intro hb; (try simp only [hSQ] at hb); try (exfalso; omega))) | fail)
      exact ⟨_, sei w0 _ (ownLs pa pc pm :: tsA pm :: L), pa, pc, pm, rfl, rfl, hpo, rfl⟩
  have hstep := wF_take (o := l.own) (xs := l.xs) (cs := lls ms) (i := i) (by rwa [List.length_map])
  rw [← hw, List.getElem_map] at hstep
  have e0 := h.e0 i hlt
  have ei := h.e i hlt
  have hpos := h.pos i hlt
  have lok := h.at i hlt
  have hol := lok.own
  have hcl := Ln.len hol
  haveI := hv.at i hlt
  generalize ms[i] = x at *
  haveI hoc : OC x.cells := oc_ln _
  have x0 := Ln.f0 hol
  obtain ⟨xcs, hxcs⟩ : ∃ cs, cs = x.cells := ⟨_, rfl⟩
  rw [← hxcs] at ei hcl hoc x0
  cases pd
  · by_cases hA : Ahd x.own l.own
    · have hne : ¬ x.own = l.own := hA.ne
      have hstep2 : wF l.own l.xs ((lls ms).take (i + 1)) = (lls pm ++ [x.pl], false) := by
        rw [hstep, wS_lo (c := x.pl) _ _ hA]
      repeat' (first | (refine go1 ?_; intros) | (refine goCC ?_ ?_ <;> (intro hb; (try simp only [hSQ] at hb); try (exfalso; omega))) | fail)
      refine clV ?_
      refine vc_mono (rahead_vc w0 _ x.own l.own hol ho) ?_
      rintro v L' ⟨rfl, rfl⟩
      rw [decide_eq_true hA]
      repeat' (first | (refine go1 ?_; intros) | (refine goCC ?_ ?_ <;> (intro hb; (try simp only [hSQ] at hb); try (exfalso; omega))) | fail)
      all_goals first | (exfalso; exact hne (by assumption)) | skip
      repeat' (first | (refine go1 ?_; intros) | (refine goCC ?_ ?_ <;> (intro hb; (try simp only [hSQ] at hb); try (exfalso; omega))) | fail)
      refine v_draw0 [5, 7] (by kernel_rfl) ?_
      refine tA 0 ?_
      refine tA 1 ?_
      refine tA 2 ?_
      refine va_one 3 (by kernel_rfl) rfl rfl ?_
      first | refine vo_call rfl rfl ?_ | refine vo_callV rfl rfl rfl ?_
      rw [hxcs]
      refine vc_mono (rtwinL_vc w0 _ x lok) ?_
      rintro v L' ⟨a2, c2, rfl, rfl⟩
      have hcl2 : (Ln.mk x.own a2 c2 x.xs).cells.length = 33 := Ln.len lok.own
      refine ⟨.inr (sei _ _ _), ?_⟩
      refine va_one 4 (by kernel_rfl) rfl rfl ?_
      (refine goV ?_; intros)
      refine ⟨.inr (sei _ _ _), ?_⟩
      refine va_one 5 (by kernel_rfl) rfl rfl ?_
      (refine goV ?_; intros)
      refine ⟨.inl (by kernel_rfl), ?_⟩
      refine tP 6 ?_
      refine va_one 7 (by kernel_rfl) rfl rfl ?_
      (refine goV ?_; intros)
      refine ⟨.inl (by kernel_rfl), ?_⟩
      refine va_done (by kernel_rfl) ?_
      skip
      repeat' (first | (refine go1 ?_; intros) | (refine goCC ?_ ?_ <;> (intro hb; (try simp only [hSQ] at hb); try (exfalso; omega))) | fail)
      rename_i a3 c3 _ _
      refine ⟨rfl, (i + 1, pm ++ [x.to a2 c2], a3, c3, false), ⟨by dsimp only; omega, ?_, hpo.snoc (x := x.to a2 c2) ⟨lok.own, lok.ts⟩ (by omega), by have := hpf rfl; simp; omega, fun _ => by have := hpf rfl; simp; omega⟩, by dsimp only; omega, ?_, ?_⟩
      · rw [hstep2]
        show (lls (pm ++ [x.to a2 c2]), false) = _
        rw [lls_app]
        rfl
      · simp only [List.length_append, List.length_cons, List.length_nil, Nat.zero_add]
        (exact sbS)
      · dsimp only
        rw [List.length_append]
        simp only [List.append_nil]
        exact (sei w0 _ (ownTs a2 c2 x.xs :: tsA pm :: own 69 33 a3 (pm.length + 1) c3 (lnc pm ++ (Ln.mk x.own a2 c2 x.xs).cells) :: blk g5 24 [.slice a3 (pm.length + 1) c3] :: blk g4 24 [.slice none 0 0] :: blk g3 69 lc :: blk g2 24 [.slice a ms.length c] :: L)).trans (((se_snocL a3 c3 pm x a2 c2 _).ent w0).trans (sei w0 _ _))
    · repeat' (first | (refine go1 ?_; intros) | (refine goCC ?_ ?_ <;> (intro hb; (try simp only [hSQ] at hb); try (exfalso; omega))) | fail)
      rename_i gx
      refine clV ?_
      refine vc_mono (rahead_vc w0 _ x.own l.own hol ho) ?_
      rintro v L' ⟨rfl, rfl⟩
      rw [decide_eq_false hA]
      repeat' (first | (refine go1 ?_; intros) | (refine goCC ?_ ?_ <;> (intro hb; (try simp only [hSQ] at hb); try (exfalso; omega))) | fail)
      refine v_draw0 [5, 7] (by kernel_rfl) ?_
      refine tA 0 ?_
      refine tA 1 ?_
      refine tA 2 ?_
      refine va_one 3 (by kernel_rfl) rfl rfl ?_
      first | refine vo_call rfl rfl ?_ | refine vo_callV rfl rfl rfl ?_
      rw [hlc]
      refine vc_mono (rtwinL_vc w0 _ l hl) ?_
      rintro v L' ⟨a2, c2, rfl, rfl⟩
      have hcl2 : (Ln.mk l.own a2 c2 l.xs).cells.length = 33 := Ln.len ho
      refine ⟨.inr (sei _ _ _), ?_⟩
      refine va_one 4 (by kernel_rfl) rfl rfl ?_
      (refine goV ?_; intros)
      refine ⟨.inr (sei _ _ _), ?_⟩
      refine va_one 5 (by kernel_rfl) rfl rfl ?_
      (refine goV ?_; intros)
      refine ⟨.inl (by kernel_rfl), ?_⟩
      refine tP 6 ?_
      refine va_one 7 (by kernel_rfl) rfl rfl ?_
      (refine goV ?_; intros)
      refine ⟨.inl (by kernel_rfl), ?_⟩
      refine va_done (by kernel_rfl) ?_
      skip
      repeat' (first | (refine go1 ?_; intros) | (refine goCC ?_ ?_ <;> (intro hb; (try simp only [hSQ] at hb); try (exfalso; omega))) | fail)
      rename_i gq a3 c3 _ _
      rw [← hlc]
      have hpf2 := hpf rfl
      refine vl_ent (L' := blk gx 69 xcs :: blk g5 24 [.slice a3 (pm.length + 1) c3] :: ownLs a3 c3 (pm ++ [l.to a2 c2]) :: tsA (pm ++ [l.to a2 c2]) :: blk g4 24 [.slice none 0 0] :: blk g3 69 lc :: blk g2 24 [.slice a ms.length c] :: L) ?_ ?_
      · simp only [List.append_nil]
        exact (sei w0 _ (ownTs a2 c2 l.xs :: tsA pm :: own 69 33 a3 (pm.length + 1) c3 (lnc pm ++ (Ln.mk l.own a2 c2 l.xs).cells) :: blk gx 69 xcs :: blk g5 24 [.slice a3 (pm.length + 1) c3] :: blk g4 24 [.slice none 0 0] :: blk g3 69 lc :: blk g2 24 [.slice a ms.length c] :: L)).trans (((se_snocL a3 c3 pm l a2 c2 _).ent w0).trans (sei w0 _ _))
      have hp9 : (pm ++ [l.to a2 c2]).length = pm.length + 1 := by rw [List.length_append]; rfl
      have ho9 : LsOk (pm ++ [l.to a2 c2]) := hpo.snoc (x := l.to a2 c2) ⟨ho, hl.ts⟩ (by omega)
      have hl9 : lls (pm ++ [l.to a2 c2]) = lls pm ++ [(l.own, l.xs)] := by rw [lls_app]; rfl
      rw [← hp9]
      have hpl9 : (pm ++ [l.to a2 c2]).length ≤ i + 1 := by omega
      clear hpo hpl hpf hpf2 hwl
      generalize pm ++ [l.to a2 c2] = p9 at *
      have hwl := ho9.wide.len
      by_cases hne : x.own = l.own
      · have hstep2 : wF l.own l.xs ((lls ms).take (i + 1)) = (lls p9, true) := by
          rw [hstep, wS_inE (c := x.pl) _ hA hne, hl9]
        repeat' (first | (refine go1 ?_; intros) | (refine goCC ?_ ?_ <;> (intro hb; (try simp only [hSQ] at hb); try (exfalso; omega))) | fail)
        all_goals first | (exfalso; exact (by assumption : ¬ x.own = l.own) hne) | skip
        exact ⟨rfl, (i + 1, p9, a3, c3, true), ⟨by dsimp only; omega, hstep2.symm, ho9, by dsimp only; omega, fun e => by cases e⟩, by dsimp only; omega, by (exact sbS), sei _ _ _⟩
      · have hstep2 : wF l.own l.xs ((lls ms).take (i + 1)) = (lls p9 ++ [x.pl], true) := by
          rw [hstep, wS_inN (c := x.pl) _ hA hne, hl9]
        repeat' (first | (refine go1 ?_; intros) | (refine goCC ?_ ?_ <;> (intro hb; (try simp only [hSQ] at hb); try (exfalso; omega))) | fail)
        all_goals first | (exfalso; exact hne (by assumption)) | skip
        have hpo := ho9
        have hpl := hpl9
        obtain ⟨pm, hpm⟩ : ∃ pm, pm = p9 := ⟨_, rfl⟩
        subst hpm
        repeat' (first | (refine go1 ?_; intros) | (refine goCC ?_ ?_ <;> (intro hb; (try simp only [hSQ] at hb); try (exfalso; omega))) | fail)
        refine v_draw0 [5, 7] (by kernel_rfl) ?_
        refine tA 0 ?_
        refine tA 1 ?_
        refine tA 2 ?_
        refine va_one 3 (by kernel_rfl) rfl rfl ?_
        first | refine vo_call rfl rfl ?_ | refine vo_callV rfl rfl rfl ?_
        rw [hxcs]
        refine vc_mono (rtwinL_vc w0 _ x lok) ?_
        rintro v L' ⟨a2, c2, rfl, rfl⟩
        have hcl2 : (Ln.mk x.own a2 c2 x.xs).cells.length = 33 := Ln.len lok.own
        refine ⟨.inr (sei _ _ _), ?_⟩
        refine va_one 4 (by kernel_rfl) rfl rfl ?_
        (refine goV ?_; intros)
        refine ⟨.inr (sei _ _ _), ?_⟩
        refine va_one 5 (by kernel_rfl) rfl rfl ?_
        (refine goV ?_; intros)
        refine ⟨.inl (by kernel_rfl), ?_⟩
        refine tP 6 ?_
        refine va_one 7 (by kernel_rfl) rfl rfl ?_
        (refine goV ?_; intros)
        refine ⟨.inl (by kernel_rfl), ?_⟩
        refine va_done (by kernel_rfl) ?_
        skip
        repeat' (first | (refine go1 ?_; intros) | (refine goCC ?_ ?_ <;> (intro hb; (try simp only [hSQ] at hb); try (exfalso; omega))) | fail)
        rename_i a3 c3 _ _
        refine ⟨rfl, (i + 1, pm ++ [x.to a2 c2], a3, c3, true), ⟨by dsimp only; omega, ?_, hpo.snoc (x := x.to a2 c2) ⟨lok.own, lok.ts⟩ (by omega), by simp; omega, fun e => by cases e⟩, by dsimp only; omega, ?_, ?_⟩
        · rw [hstep2]
          show (lls (pm ++ [x.to a2 c2]), true) = _
          rw [lls_app]
          rfl
        · simp only [List.length_append, List.length_cons, List.length_nil, Nat.zero_add]
          (exact sbS)
        · dsimp only
          rw [List.length_append]
          simp only [List.append_nil]
          exact (sei w0 _ (ownTs a2 c2 x.xs :: tsA pm :: own 69 33 a3 (pm.length + 1) c3 (lnc pm ++ (Ln.mk x.own a2 c2 x.xs).cells) :: blk g5 24 [.slice a3 (pm.length + 1) c3] :: blk g4 24 [.slice none 0 0] :: blk g3 69 lc :: blk g2 24 [.slice a ms.length c] :: L)).trans (((se_snocL a3 c3 pm x a2 c2 _).ent w0).trans (sei w0 _ _))
  · by_cases hne : x.own = l.own
    · have hstep2 : wF l.own l.xs ((lls ms).take (i + 1)) = (lls pm, true) := by
        rw [hstep, wS_skip (c := x.pl) _ hne]
      repeat' (first | (refine go1 ?_; intros) | (refine goCC ?_ ?_ <;> (intro hb; (try simp only [hSQ] at hb); try (exfalso; omega))) | fail)
      all_goals first | (exfalso; exact (by assumption : ¬ x.own = l.own) hne) | skip
      exact ⟨rfl, (i + 1, pm, pa, pc, true), ⟨by dsimp only; omega, hstep2.symm, hpo, by dsimp only; omega, fun e => by cases e⟩, by dsimp only; omega, by (exact sbS), sei _ _ _⟩
    · have hstep2 : wF l.own l.xs ((lls ms).take (i + 1)) = (lls pm ++ [x.pl], true) := by
        rw [hstep, wS_add (c := x.pl) _ hne]
      repeat' (first | (refine go1 ?_; intros) | (refine goCC ?_ ?_ <;> (intro hb; (try simp only [hSQ] at hb); try (exfalso; omega))) | fail)
      all_goals first | (exfalso; exact hne (by assumption)) | skip
      repeat' (first | (refine go1 ?_; intros) | (refine goCC ?_ ?_ <;> (intro hb; (try simp only [hSQ] at hb); try (exfalso; omega))) | fail)
      refine v_draw0 [5, 7] (by kernel_rfl) ?_
      refine tA 0 ?_
      refine tA 1 ?_
      refine tA 2 ?_
      refine va_one 3 (by kernel_rfl) rfl rfl ?_
      first | refine vo_call rfl rfl ?_ | refine vo_callV rfl rfl rfl ?_
      rw [hxcs]
      refine vc_mono (rtwinL_vc w0 _ x lok) ?_
      rintro v L' ⟨a2, c2, rfl, rfl⟩
      have hcl2 : (Ln.mk x.own a2 c2 x.xs).cells.length = 33 := Ln.len lok.own
      refine ⟨.inr (sei _ _ _), ?_⟩
      refine va_one 4 (by kernel_rfl) rfl rfl ?_
      (refine goV ?_; intros)
      refine ⟨.inr (sei _ _ _), ?_⟩
      refine va_one 5 (by kernel_rfl) rfl rfl ?_
      (refine goV ?_; intros)
      refine ⟨.inl (by kernel_rfl), ?_⟩
      refine tP 6 ?_
      refine va_one 7 (by kernel_rfl) rfl rfl ?_
      (refine goV ?_; intros)
      refine ⟨.inl (by kernel_rfl), ?_⟩
      refine va_done (by kernel_rfl) ?_
      skip
      repeat' (first | (refine go1 ?_; intros) | (refine goCC ?_ ?_ <;> (intro hb; (try simp only [hSQ] at hb); try (exfalso; omega))) | fail)
      rename_i a3 c3 _ _
      refine ⟨rfl, (i + 1, pm ++ [x.to a2 c2], a3, c3, true), ⟨by dsimp only; omega, ?_, hpo.snoc (x := x.to a2 c2) ⟨lok.own, lok.ts⟩ (by omega), by simp; omega, fun e => by cases e⟩, by dsimp only; omega, ?_, ?_⟩
      · rw [hstep2]
        show (lls (pm ++ [x.to a2 c2]), true) = _
        rw [lls_app]
        rfl
      · simp only [List.length_append, List.length_cons, List.length_nil, Nat.zero_add]
        (exact sbS)
      · dsimp only
        rw [List.length_append]
        simp only [List.append_nil]
        exact (sei w0 _ (ownTs a2 c2 x.xs :: tsA pm :: own 69 33 a3 (pm.length + 1) c3 (lnc pm ++ (Ln.mk x.own a2 c2 x.xs).cells) :: blk g5 24 [.slice a3 (pm.length + 1) c3] :: blk g4 24 [.slice none 0 0] :: blk g3 69 lc :: blk g2 24 [.slice a ms.length c] :: L)).trans (((se_snocL a3 c3 pm x a2 c2 _).ent w0).trans (sei w0 _ _))
end Go.Proofs.YtcpndfffdbogbaaGreatDoor
namespace Go.Proofs.YtcpndfffdbogbaaGreatDoor
open Go Go.RowKit
open Classical

theorem rworst20_vc (w0 : World) (L : List Asn) (a : Option Addr) (c : Nat) (ms : List Ln) (x : Tx) {n : Nat} (hn : n = ms.length) (hx : x.ok) (h : LsOk ms) (hne : ∀ l ∈ ms, 0 < l.xs.length) [hr : RdC w0 L a (lnc ms)] [hv : RdLs w0 L ms] :
    VC Tryz.prog w0 137 [.agg #[.slice a n c], .agg x.cells.toArray] L fun v L' => v = .int .i64 (worstC (lls ms) (fromT x) x.fee) ∧ L' = L := by
  subst hn
  have hlen := h.len
  have hxl := Tx.len hx
  have hx4 := Tx.f4 hx
  have hol := fromT_len x
  haveI oxc : OC x.cells := oc_tx _
  refine vc_ent ?_
  refine vc_in rfl rfl ?_
  obtain ⟨xc, hxc⟩ : ∃ xc, xc = x.cells := ⟨_, rfl⟩
  rw [← hxc] at hxl hx4 oxc ⊢
  repeat' (first | (refine go1 ?_; intros) | (refine goCC ?_ ?_ <;> (intro hb; (try simp only [hSQ] at hb); try (exfalso; omega))) | fail)
  refine v_loopF (Nat × Int × Nat) [2, 3, 4] rfl (fun s => [(7, .int .i64 s.1), (5, .int .i64 s.2.1), (6, .int .u64 s.2.2)]) (fun M _ => M) (fun s => s.1 ≤ ms.length ∧ worstG (fromT x) ((lls ms).drop s.1) s.1 s.2.1 s.2.2 = worstC (lls ms) (fromT x) x.fee) (fun s => ms.length - s.1) (0, -1, x.fee) ⟨Nat.zero_le _, rfl⟩ (by (exact sbS)) (Ent.refl _ _) ?_
  rintro ⟨i, w, least⟩ ⟨hi, hinv⟩
  dsimp only at hi hinv ⊢
  by_cases hlt : i < ms.length
  rotate_left
  · obtain rfl : i = ms.length := by omega
    rw [worstG_end] at hinv
    repeat' (first | (refine go1 ?_; intros) | (refine goCC ?_ ?_ <;> (intro hb; (try simp only [hSQ] at hb); try (exfalso; omega))) | fail)
    exact ⟨_, sei _ _ L, by rw [hinv], rfl⟩
  have hstep := worstG_ms (o := fromT x) hlt w least
  rw [hstep] at hinv
  have e := h.e i hlt
  have hpos := h.pos i hlt
  have lok := h.at i hlt
  have hn := hne _ (List.getElem_mem hlt)
  haveI := hv.at i hlt
  have hts := lok.ts
  have htl := hts.len
  have e4 := hts.e4 (ms[i].xs.length - 1) (by omega)
  have hp4 := hts.pos (ms[i].xs.length - 1) (by omega)
  have hlf := lastFee_at hn
  have lf0 := Ln.f0 lok.own
  have lf1 := Ln.f1 lok.own
  have hql := lok.own
  have hcl := Ln.len lok.own
  rw [← hlf] at e4
  generalize lastFee ms[i].xs = lf at *
  generalize ms[i] = l at *
  haveI olc : OC l.cells := oc_ln _
  obtain ⟨cs, hcs⟩ : ∃ cs, cs = l.cells := ⟨_, rfl⟩
  rw [← hcs] at e lf0 lf1 hcl olc
  by_cases hqo : l.own = fromT x
  · rw [if_neg (fun e => e.1 hqo)] at hinv
    repeat' (first | (refine go1 ?_; intros) | (refine goCC ?_ ?_ <;> (intro hb; (try simp only [hSQ] at hb); try (exfalso; omega))) | fail)
    (refine v_draw0 [] (by kernel_rfl) ?_ <;> (refine tA 0 ?_) <;> (refine tA 1 ?_) <;> (refine tA 2 ?_))
    first | refine va_one 3 (by kernel_rfl) rfl rfl (vo_call rfl rfl ?_) | refine va_one 3 (by kernel_rfl) rfl rfl (vo_callV rfl rfl rfl ?_)
    rw [hxc]
    refine vc_mono (rFrom_vc w0 _ x hx) ?_
    rintro v L' ⟨rfl, rfl⟩
    rw [← hxc, show sha (tagB 3 [x.pub]) = fromT x from rfl]
    refine ⟨.inr entD, ?_⟩
    ((refine va_take 4 rfl rfl rfl rfl (by kernel_rfl) (fun _ _ _ _ h => h) entD (by exact qX0) ?_) <;> (refine tA 5 ?_) <;> (first | refine tG 6 ?_ | refine pG 6 ?_ | (refine va_caseG 6 rfl rfl rfl rfl rfl ?_ ?_ <;> (intro hb; (try simp only [hSQ] at hb); try (exfalso; omega)) <;> first | refine tG 6 ?_ | refine pG 6 ?_)) <;> (first | refine tG 7 ?_ | refine pG 7 ?_ | (refine va_caseG 7 rfl rfl rfl rfl rfl ?_ ?_ <;> (intro hb; (try simp only [hSQ] at hb); try (exfalso; omega)) <;> first | refine tG 7 ?_ | refine pG 7 ?_)) <;> (first | refine va_takeG 8 rfl rfl rfl rfl rfl rfl rfl rfl (by kernel_rfl) (fun _ _ _ _ h => h) entD (by exact qX0) ?_ | refine pG 8 ?_ | (refine va_caseG 8 rfl rfl rfl rfl rfl ?_ ?_ <;> (intro hb; (try simp only [hSQ] at hb); try (exfalso; omega)) <;> first | refine va_takeG 8 rfl rfl rfl rfl rfl rfl rfl rfl (by kernel_rfl) (fun _ _ _ _ h => h) entD (by exact qX0) ?_ | refine pG 8 ?_)) <;> (refine tA 9 ?_) <;> (refine va_done (by kernel_rfl) ?_))
    repeat' (first | (refine go1 ?_; intros) | (refine goCC ?_ ?_ <;> (intro hb; (try simp only [hSQ] at hb); try (exfalso; omega))) | fail)
    exact ⟨rfl, (i + 1, w, least), ⟨by dsimp only; omega, hinv⟩, by dsimp only; omega, by (exact sbS), sei _ _ _⟩
  by_cases hlt2 : lf < least
  · rw [if_pos ⟨hqo, hlt2⟩] at hinv
    repeat' (first | (refine go1 ?_; intros) | (refine goCC ?_ ?_ <;> (intro hb; (try simp only [hSQ] at hb); try (exfalso; omega))) | fail)
    (refine v_draw0 [] (by kernel_rfl) ?_ <;> (refine tA 0 ?_) <;> (refine tA 1 ?_) <;> (refine tA 2 ?_))
    first | refine va_one 3 (by kernel_rfl) rfl rfl (vo_call rfl rfl ?_) | refine va_one 3 (by kernel_rfl) rfl rfl (vo_callV rfl rfl rfl ?_)
    rw [hxc]
    refine vc_mono (rFrom_vc w0 _ x hx) ?_
    rintro v L' ⟨rfl, rfl⟩
    rw [← hxc, show sha (tagB 3 [x.pub]) = fromT x from rfl]
    refine ⟨.inr entD, ?_⟩
    ((refine va_take 4 rfl rfl rfl rfl (by kernel_rfl) (fun _ _ _ _ h => h) entD (by exact qX0) ?_) <;> (refine tA 5 ?_) <;> (first | refine tG 6 ?_ | refine pG 6 ?_ | (refine va_caseG 6 rfl rfl rfl rfl rfl ?_ ?_ <;> (intro hb; (try simp only [hSQ] at hb); try (exfalso; omega)) <;> first | refine tG 6 ?_ | refine pG 6 ?_)) <;> (first | refine tG 7 ?_ | refine pG 7 ?_ | (refine va_caseG 7 rfl rfl rfl rfl rfl ?_ ?_ <;> (intro hb; (try simp only [hSQ] at hb); try (exfalso; omega)) <;> first | refine tG 7 ?_ | refine pG 7 ?_)) <;> (first | refine va_takeG 8 rfl rfl rfl rfl rfl rfl rfl rfl (by kernel_rfl) (fun _ _ _ _ h => h) entD (by exact qX0) ?_ | refine pG 8 ?_ | (refine va_caseG 8 rfl rfl rfl rfl rfl ?_ ?_ <;> (intro hb; (try simp only [hSQ] at hb); try (exfalso; omega)) <;> first | refine va_takeG 8 rfl rfl rfl rfl rfl rfl rfl rfl (by kernel_rfl) (fun _ _ _ _ h => h) entD (by exact qX0) ?_ | refine pG 8 ?_)) <;> (refine tA 9 ?_) <;> (refine va_done (by kernel_rfl) ?_))
    repeat' (first | (refine go1 ?_; intros) | (refine goCC ?_ ?_ <;> (intro hb; (try simp only [hSQ] at hb); try (exfalso; omega))) | fail)
    all_goals first | (exfalso; omega) | skip
    exact ⟨rfl, (i + 1, (i : Int), lf), ⟨by dsimp only; omega, hinv⟩, by dsimp only; omega, by (exact sbS), sei _ _ _⟩
  · rw [if_neg (fun e => hlt2 e.2)] at hinv
    repeat' (first | (refine go1 ?_; intros) | (refine goCC ?_ ?_ <;> (intro hb; (try simp only [hSQ] at hb); try (exfalso; omega))) | fail)
    (refine v_draw0 [] (by kernel_rfl) ?_ <;> (refine tA 0 ?_) <;> (refine tA 1 ?_) <;> (refine tA 2 ?_))
    first | refine va_one 3 (by kernel_rfl) rfl rfl (vo_call rfl rfl ?_) | refine va_one 3 (by kernel_rfl) rfl rfl (vo_callV rfl rfl rfl ?_)
    rw [hxc]
    refine vc_mono (rFrom_vc w0 _ x hx) ?_
    rintro v L' ⟨rfl, rfl⟩
    rw [← hxc, show sha (tagB 3 [x.pub]) = fromT x from rfl]
    refine ⟨.inr entD, ?_⟩
    ((refine va_take 4 rfl rfl rfl rfl (by kernel_rfl) (fun _ _ _ _ h => h) entD (by exact qX0) ?_) <;> (refine tA 5 ?_) <;> (first | refine tG 6 ?_ | refine pG 6 ?_ | (refine va_caseG 6 rfl rfl rfl rfl rfl ?_ ?_ <;> (intro hb; (try simp only [hSQ] at hb); try (exfalso; omega)) <;> first | refine tG 6 ?_ | refine pG 6 ?_)) <;> (first | refine tG 7 ?_ | refine pG 7 ?_ | (refine va_caseG 7 rfl rfl rfl rfl rfl ?_ ?_ <;> (intro hb; (try simp only [hSQ] at hb); try (exfalso; omega)) <;> first | refine tG 7 ?_ | refine pG 7 ?_)) <;> (first | refine va_takeG 8 rfl rfl rfl rfl rfl rfl rfl rfl (by kernel_rfl) (fun _ _ _ _ h => h) entD (by exact qX0) ?_ | refine pG 8 ?_ | (refine va_caseG 8 rfl rfl rfl rfl rfl ?_ ?_ <;> (intro hb; (try simp only [hSQ] at hb); try (exfalso; omega)) <;> first | refine va_takeG 8 rfl rfl rfl rfl rfl rfl rfl rfl (by kernel_rfl) (fun _ _ _ _ h => h) entD (by exact qX0) ?_ | refine pG 8 ?_)) <;> (refine tA 9 ?_) <;> (refine va_done (by kernel_rfl) ?_))
    repeat' (first | (refine go1 ?_; intros) | (refine goCC ?_ ?_ <;> (intro hb; (try simp only [hSQ] at hb); try (exfalso; omega))) | fail)
    all_goals first | (exfalso; omega) | skip
    exact ⟨rfl, (i + 1, w, least), ⟨by dsimp only; omega, hinv⟩, by dsimp only; omega, by (exact sbS), sei _ _ _⟩
theorem rput20_vc (w0 : World) (L : List Asn) (a : Option Addr) (c : Nat) (ls : List Ln) (cap : Int) (nonce : Nat) (x : Tx) {n : Nat} (hn : n = ls.length) (h : LsOk ls) (hmc : MayC (lls ls)) (h9 : ls.length ≤ 800000) (hx : x.ok) (hnn : nonce < 18446744073709551616) [hr : RdC w0 L a (lnc ls)] [hv : RdLs w0 L ls] :
    VC Tryz.prog w0 101 [.agg #[.slice a n c], .int .i64 cap, .int .u64 nonce, .agg x.cells.toArray] L (RSub (submitC (lls ls) cap nonce x) L) := by
  subst hn
  have hlen := h.len
  have hs := hmc.srt
  have hxl := Tx.len hx
  have hx2 := Tx.f2 hx
  have hx4 := Tx.f4 hx
  have hxn := hx.nonce
  have hfl := fromT_len x
  haveI oxc : OC x.cells := oc_tx _
  have hcnt : cntL ls = cntC (lls ls) := cntL_lls ls
  refine vc_ent ?_
  refine vc_in rfl rfl ?_
  unfold submitC
  obtain ⟨xc, hxc⟩ : ∃ xc, xc = x.cells := ⟨_, rfl⟩
  rw [← hxc] at hxl hx2 hx4 oxc ⊢
  repeat' (first | (refine go1 ?_; intros) | (refine goCC ?_ ?_ <;> (intro hb; (try simp only [hSQ] at hb); try (exfalso; omega))) | fail)
  refine clV ?_
  rw [hxc]
  refine vc_mono (rCheck_vc w0 _ x hx) ?_
  rintro v L' ⟨rfl, rfl⟩
  rw [← hxc]
  by_cases hsg : x.sign = sgn x
  rotate_left
  · rw [if_neg hsg, if_neg hsg]
    repeat' (first | (refine go1 ?_; intros) | (refine goCC ?_ ?_ <;> (intro hb; (try simp only [hSQ] at hb); try (exfalso; omega))) | fail)
    all_goals first | (exfalso; omega) | exact RSub.bad w0 L 110 (sei _ _ _)
  rw [if_pos hsg, if_pos hsg]
  by_cases hst : x.nonce < nonce
  · rw [if_pos hst]
    repeat' (first | (refine go1 ?_; intros) | (refine goCC ?_ ?_ <;> (intro hb; (try simp only [hSQ] at hb); try (exfalso; omega))) | fail)
    all_goals first | (exfalso; omega) | exact RSub.bad w0 L 200 (sei _ _ _)
  rw [if_neg hst]
  by_cases hfar : 16 ≤ x.nonce - nonce ∨ x.nonce = 18446744073709551615
  · rw [if_pos hfar]
    repeat' (first | (refine go1 ?_; intros) | (refine goCC ?_ ?_ <;> (intro hb; (try simp only [hSQ] at hb); try (exfalso; omega))) | fail)
    all_goals first | (exfalso; omega) | exact RSub.bad w0 L 201 (sei _ _ _)
  rw [if_neg hfar]
  repeat' (first | (refine go1 ?_; intros) | (refine goCC ?_ ?_ <;> (intro hb; (try simp only [hSQ] at hb); try (exfalso; omega))) | fail)
  all_goals first | (exfalso; omega) | skip
  rename_i g4 g7 g8 _ _
  refine v_cut (Nat × {l : Ln // l.own = fromT x ∧ l.xs = lineC (lls ls) (fromT x) ∧ (l ∈ ls ∨ l.a = none ∧ l.xs = [])}) [1, 2, 4, 7, 8, 9, 10] rfl (fun z => [(11, .pointer (some ⟨z.1, 0, none⟩))]) (fun z => blk z.1 69 z.2.1.cells :: blk g8 24 [.slice none 0 0] :: blk g7 50 xc :: blk g4 24 [.slice a ls.length c] :: L) ?_ ?_
  · refine v_id ?_
    refine v_draw0 [] (by kernel_rfl) ?_
    refine tA 0 ?_
    refine tA 1 ?_
    refine va_two 2 4 (by kernel_rfl) rfl rfl rfl rfl ?_ ?_
    · first | refine vo_call rfl rfl ?_ | refine vo_callV rfl rfl rfl ?_
      rw [hxc]
      refine vc_mono (rFrom_vc w0 _ x hx) ?_
      rintro v L' ⟨rfl, rfl⟩
      rw [← hxc, show sha (tagB 3 [x.pub]) = fromT x from rfl]
      refine ⟨.inr (sei _ _ _), ?_⟩
      refine va_two 3 4 (by kernel_rfl) rfl rfl rfl rfl ?_ ?_
      · first | refine vo_call rfl rfl ?_ | refine vo_callV rfl rfl rfl ?_
        refine vc_mono (rline20_vc w0 _ a c ls (fromT x) rfl h hs hfl) ?_
        rintro v L' ⟨l, rfl, hlo, hlx, hlm, rfl⟩
        have hll : l.cells.length = 33 := Ln.len (by rw [hlo]; exact hfl)
        refine ⟨.inr (sei _ _ _), ?_⟩
        refine va_one 4 (by kernel_rfl) rfl rfl ?_
        (refine goV ?_; intros)
        refine ⟨.inr (sei _ _ _), ?_⟩
        refine va_one 5 (by kernel_rfl) rfl rfl ?_
        (refine goV ?_; intros)
        refine ⟨.inr (sei _ _ _), ?_⟩
        refine va_done (by kernel_rfl) ?_
        refine ⟨rfl, (_, ⟨l, hlo, hlx, hlm⟩), by (exact sbS), ?_⟩
        dsimp only
        exact sei _ _ _
      · (refine goV ?_; intros)
        refine ⟨.inr (sei _ _ _), ?_⟩
        refine va_one 3 (by kernel_rfl) rfl rfl ?_
        first | refine vo_call rfl rfl ?_ | refine vo_callV rfl rfl rfl ?_
        refine vc_mono (rline20_vc w0 _ a c ls (fromT x) rfl h hs hfl) ?_
        rintro v L' ⟨l, rfl, hlo, hlx, hlm, rfl⟩
        have hll : l.cells.length = 33 := Ln.len (by rw [hlo]; exact hfl)
        refine ⟨.inr (sei _ _ _), ?_⟩
        refine va_one 5 (by kernel_rfl) rfl rfl ?_
        (refine goV ?_; intros)
        refine ⟨.inr (sei _ _ _), ?_⟩
        refine va_done (by kernel_rfl) ?_
        refine ⟨rfl, (_, ⟨l, hlo, hlx, hlm⟩), by (exact sbS), ?_⟩
        dsimp only
        exact sei _ _ _
    · (refine goV ?_; intros)
      refine ⟨.inr (sei _ _ _), ?_⟩
      refine va_one 2 (by kernel_rfl) rfl rfl ?_
      first | refine vo_call rfl rfl ?_ | refine vo_callV rfl rfl rfl ?_
      rw [hxc]
      refine vc_mono (rFrom_vc w0 _ x hx) ?_
      rintro v L' ⟨rfl, rfl⟩
      rw [← hxc, show sha (tagB 3 [x.pub]) = fromT x from rfl]
      refine ⟨.inr (sei _ _ _), ?_⟩
      refine va_one 3 (by kernel_rfl) rfl rfl ?_
      first | refine vo_call rfl rfl ?_ | refine vo_callV rfl rfl rfl ?_
      refine vc_mono (rline20_vc w0 _ a c ls (fromT x) rfl h hs hfl) ?_
      rintro v L' ⟨l, rfl, hlo, hlx, hlm, rfl⟩
      have hll : l.cells.length = 33 := Ln.len (by rw [hlo]; exact hfl)
      refine ⟨.inr (sei _ _ _), ?_⟩
      refine va_one 5 (by kernel_rfl) rfl rfl ?_
      (refine goV ?_; intros)
      refine ⟨.inr (sei _ _ _), ?_⟩
      refine va_done (by kernel_rfl) ?_
      refine ⟨rfl, (_, ⟨l, hlo, hlx, hlm⟩), by (exact sbS), ?_⟩
      dsimp only
      exact sei _ _ _
  rintro ⟨g11, l, hlo, hlx, hlm⟩
  dsimp only
  have hLok := lineC_ok h (fromT x)
  have hlok : l.ok := ⟨by rw [hlo]; exact hfl, by rw [hlx]; exact hLok⟩
  haveI hrl : ∀ M [RdLs w0 M ls], RdC w0 M l.a (txc l.xs) := fun M k => by
    rcases hlm with e | ⟨_, e⟩
    · exact k.out l e
    · rw [e]; exact rdC_nil _ _ _
  have hgood := hmc.line (fromT x)
  have hup := hgood.up
  rw [← hlx] at hgood hup hLok
  rw [← hlx]
  have hl1 := Ln.f1 hlok.own
  have hll := Ln.len hlok.own
  have hltl := hlok.ts.len
  have hg256 := hgood.len
  haveI olc : OC l.cells := oc_ln _
  obtain ⟨lc, hlc⟩ : ∃ lc, lc = l.cells := ⟨_, rfl⟩
  rw [← hlc] at hl1 hll olc ⊢
  repeat' (first | (refine go1 ?_; intros) | (refine goCC ?_ ?_ <;> (intro hb; (try simp only [hSQ] at hb); try (exfalso; omega))) | fail)
  refine clV ?_
  rw [hlc]
  refine vc_mono (rfind19_vc w0 _ l hlok x.nonce hxn) ?_
  rintro v L' ⟨m, rfl, hm, rfl⟩
  rw [← hlc]
  have hWok := hLok.with (by omega) hx
  have hwne := withT_ne l.xs x
  rcases find_ge hm hup with ⟨rfl, hat⟩ | ⟨k, hk, rfl, hkn, hat⟩
  · rw [hat]
    dsimp only
    by_cases hfu : 256 ≤ l.xs.length
    · rw [if_pos hfu]
      repeat' (first | (refine go1 ?_; intros) | (refine goCC ?_ ?_ <;> (intro hb; (try simp only [hSQ] at hb); try (exfalso; omega))) | fail)
      all_goals first | (exfalso; omega) | exact RSub.bad w0 L 9 (sei _ _ _)
    rw [if_neg hfu]
    generalize hW : withT l.xs x = W at *
    obtain ⟨bG, dG, G, hG⟩ : ∃ bG dG G, (bG, dG, G) = ((none, 0, []) : Option Addr × Nat × List Tx) := ⟨_, _, _, rfl⟩
    obtain ⟨aM, cM, mm, hMM⟩ : ∃ aM cM mm, (aM, cM, mm) = (a, c, ls) := ⟨_, _, _, rfl⟩
    by_cases hcap : (cntC (lls ls) : Int) < cap
    · rw [if_pos hcap]
      repeat' (first | (refine go1 ?_; intros) | (refine goCC ?_ ?_ <;> (intro hb; (try simp only [hSQ] at hb); try (exfalso; omega))) | fail)
      all_goals first | (exfalso; omega) | skip
      refine clV ?_
      refine vc_mono (rcount20_vc w0 _ a c ls rfl h) ?_
      rintro v L' ⟨rfl, rfl⟩
      rw [hcnt]
      repeat' (first | (refine go1 ?_; intros) | (refine goCC ?_ ?_ <;> (intro hb; (try simp only [hSQ] at hb); try (exfalso; omega))) | fail)
      all_goals first | (exfalso; omega) | skip
      refine v_ent (L' := blk g11 69 lc :: blk g8 24 [.slice none 0 0] :: blk g7 50 xc :: blk g4 24 [.slice a ls.length c] :: ownTs none 0 [] :: L) ((SE.cons _ (SE.cons _ (SE.cons _ (SE.cons _ (se_own_nil 50 99 L))))).ent w0) ?_
      refine v_drawX [4, 6] 1 (by kernel_rfl) ?_
      refine tA 0 ?_
      refine tA 1 ?_
      refine tA 2 ?_
      refine va_takeP 5 rfl rfl rfl rfl (by kernel_rfl) (fun _ _ _ _ h => h) (.inl (sei _ _ _)) (by exact qX2) ?_
      refine va_one 3 (by kernel_rfl) rfl rfl ?_
      first | refine vo_call rfl rfl ?_ | refine vo_callV rfl rfl rfl ?_
      rw [hlc, hxc]
      refine vc_mono (rwithL_vc w0 _ l hlok hup (by omega) x hx) ?_
      rw [hW, ← hlc, ← hxc]
      rintro v L' ⟨a2, c2, rfl, rfl⟩
      refine ⟨.inr (sei _ _ _), ?_⟩
      refine va_one 4 (by kernel_rfl) rfl rfl ?_
      first | refine vo_call rfl rfl ?_ | refine vo_callV rfl rfl rfl ?_
      refine vc_mono (rwithS_vc w0 _ a c ls (Ln.mk l.own a2 c2 W) rfl h hmc ⟨hlok.own, hWok⟩ (by omega)) ?_
      rintro v L' ⟨a5, c5, m5, rfl, hm5, ho5, rfl⟩
      refine ⟨.inl (by kernel_rfl), ?_⟩
      refine va_one 6 (by kernel_rfl) rfl rfl ?_
      (refine goV ?_; intros)
      refine ⟨.inl (by kernel_rfl), ?_⟩
      refine tP 7 ?_
      refine tP 8 ?_
      refine va_done (by kernel_rfl) ?_
      repeat' (first | (refine go1 ?_; intros) | (refine goCC ?_ ?_ <;> (intro hb; (try simp only [hSQ] at hb); try (exfalso; omega))) | fail)
      refine ⟨ownLs a5 c5 m5 :: tsA m5 :: ownTs none 0 [] :: L, sei _ _ _, a5, c5, m5, none, 0, rfl, ?_, ho5, rfl⟩
      show lls m5 = setC (lls ls) (fromT x) W
      rw [hm5, ← hlo]
    rw [if_neg hcap]
    have hneL : ∀ l ∈ ls, 0 < l.xs.length := fun l hl => Nat.pos_of_ne_zero (fun e => hmc.ne l.pl (List.mem_map.2 ⟨l, hl, rfl⟩) (List.eq_nil_of_length_eq_zero e))
    repeat' (first | (refine go1 ?_; intros) | (refine goCC ?_ ?_ <;> (intro hb; (try simp only [hSQ] at hb); try (exfalso; omega))) | fail)
    all_goals first | (exfalso; omega) | skip
    refine clV ?_
    refine vc_mono (rcount20_vc w0 _ a c ls rfl h) ?_
    rintro v L' ⟨rfl, rfl⟩
    rw [hcnt]
    repeat' (first | (refine go1 ?_; intros) | (refine goCC ?_ ?_ <;> (intro hb; (try simp only [hSQ] at hb); try (exfalso; omega))) | fail)
    all_goals first | (exfalso; omega) | skip
    refine clV ?_
    rw [hxc]
    refine vc_mono (rworst20_vc w0 _ a c ls x rfl hx h hneL) ?_
    rintro v L' ⟨rfl, rfl⟩
    rw [← hxc]
    rcases worstC_is (cs := lls ls) (o := fromT x) (fee := x.fee) with e | ⟨k, hk, e, hkn⟩
    · rw [e]
      cases (lls ls)[(-1 : Int).toNat]?
      · dsimp only
        repeat' (first | (refine go1 ?_; intros) | (refine goCC ?_ ?_ <;> (intro hb; (try simp only [hSQ] at hb); try (exfalso; omega))) | fail)
        all_goals first | (exfalso; omega) | exact RSub.bad w0 L 9 (sei _ _ _)
      · dsimp only
        rw [if_pos (by decide)]
        repeat' (first | (refine go1 ?_; intros) | (refine goCC ?_ ?_ <;> (intro hb; (try simp only [hSQ] at hb); try (exfalso; omega))) | fail)
        all_goals first | (exfalso; omega) | exact RSub.bad w0 L 9 (sei _ _ _)
    have hk' : k < ls.length := by rwa [List.length_map] at hk
    rw [e, Int.toNat_natCast, List.getElem?_eq_getElem hk]
    dsimp only
    rw [if_neg (by omega), List.getElem_map]
    rw [List.getElem_map] at hkn
    have hkn : ls[k].own ≠ fromT x := hkn
    have hn0 := hneL _ (List.getElem_mem hk')
    have he := h.e k hk'
    have hpos := h.pos k hk'
    have hwo := h.at k hk'
    haveI := hv.at k hk'
    have hpl : ls[k].pl = (ls[k].own, ls[k].xs) := rfl
    rw [hpl]
    have hgw : GoodL ls[k].own ls[k].xs := hmc.good ls[k].pl (List.mem_map.2 ⟨_, List.getElem_mem hk', rfl⟩)
    generalize ls[k] = w at *
    obtain ⟨N, hN⟩ : ∃ N, N = w.xs.length - 1 := ⟨_, rfl⟩
    have hN1 : w.xs.length = N + 1 := by omega
    have hel := hwo.ts.el N (by omega)
    have hwtl := hwo.ts.len
    have hpe := hwo.ts.pos N (by omega)
    have hyo := hwo.ts.at N (by omega)
    have hdl : w.xs.drop (w.xs.length - 1) = [w.xs[N]'(by omega)] := by
      rw [← hN, List.drop_eq_getElem_cons (by omega), List.drop_of_length_le (by omega)]
    rw [hdl, ← hN]
    generalize w.xs[N] = y at *
    have hyl := Tx.len hyo
    haveI hyc : OC y.cells := oc_tx _
    have htl : (w.xs.take N).length = N := by rw [List.length_take]; omega
    have hwl := Ln.len hwo.own
    haveI hwcc : OC w.cells := oc_ln _
    obtain ⟨wwc, hwwc⟩ : ∃ wwc, wwc = w.cells := ⟨_, rfl⟩
    rw [← hwwc] at hwl hwcc he
    repeat' (first | (refine go1 ?_; intros) | (refine goCC ?_ ?_ <;> (intro hb; (try simp only [hSQ] at hb); try (exfalso; omega))) | fail)
    all_goals first | (exfalso; omega) | skip
    refine clV ?_
    rw [hwwc]
    refine vc_mono (rtwinL_vc w0 _ w hwo) ?_
    rintro v L' ⟨a3, c3, rfl, rfl⟩
    have h3o : (Ln.mk w.own a3 c3 w.xs).ok := ⟨hwo.own, hwo.ts⟩
    have h3l := Ln.len h3o.own
    have h31 := Ln.f1 h3o.own
    have h3set := Ln.setTs (l := Ln.mk w.own a3 c3 w.xs) (n := N) hwo.own a3 c3 (xs := w.xs.take N) htl.symm
    haveI h3c : OC (Ln.mk w.own a3 c3 w.xs).cells := oc_ln _
    obtain ⟨wc3, hwc3⟩ : ∃ wc3, wc3 = (Ln.mk w.own a3 c3 w.xs).cells := ⟨_, rfl⟩
    rw [← hwc3] at h3l h31 h3set h3c ⊢
    dsimp only at h31 h3set
    have hel2 : ((txc w.xs).drop ((w.xs.length - 1) * 99)).take 99 = y.cells := by rw [← hN]; exact hel
    refine vl_know (φ := w.xs.length ≤ c3) (fun w hs => (hs.ownLen 0 rfl).2.1) (fun hcapW => ?_)
    repeat' (first | (refine go1 ?_; intros) | (refine goCC ?_ ?_ <;> (intro hb; (try simp only [hSQ] at hb); try (exfalso; omega))) | fail)
    all_goals first | (exfalso; omega) | skip
    rename_i g15 gq aG cG _ _
    rw [subA_0, Nat.sub_zero, Nat.sub_zero, ← hN, h3set]
    have hvo : (Ln.mk w.own a3 c3 (w.xs.take N)).ok := ⟨hwo.own, ⟨fun z hz => hwo.ts.ok z (List.mem_of_mem_take hz), by rw [htl]; omega⟩⟩
    have hvl := Ln.len hvo.own
    haveI hvc : OC (Ln.mk w.own a3 c3 (w.xs.take N)).cells := oc_ln _
    obtain ⟨vc, hvcs⟩ : ∃ vc, vc = (Ln.mk w.own a3 c3 (w.xs.take N)).cells := ⟨_, rfl⟩
    rw [← hvcs] at hvl hvc ⊢
    refine vl_ent (L' := ownTs a3 c3 (w.xs.take N) :: ownTs aG cG [y] :: blk g15 69 vc :: blk g11 69 lc :: blk g8 24 [.slice none 0 0] :: blk g7 50 xc :: blk g4 24 [.slice a ls.length c] :: L) ?_ ?_
    · refine (sei w0 _ (ownTs a3 c3 w.xs :: own 50 99 aG 1 cG (y.cells ++ []) :: blk g15 69 vc :: blk g11 69 lc :: blk g8 24 [.slice none 0 0] :: blk g7 50 xc :: blk g4 24 [.slice a ls.length c] :: L)).trans ?_
      have hgy : own 50 99 aG 1 cG (y.cells ++ []) = ownTs aG cG [y] := by
        unfold ownTs
        rw [flat_one, List.append_nil]
        rfl
      rw [hgy]
      refine (se_head _ (P' := ownTs a3 c3 (w.xs.take N)) (fun u F hF => ?_)).ent w0
      have := own_cut N c3 (by omega) (Nat.le_refl _) (by omega) u F hF
      unfold ownTs
      rw [htl]
      rwa [hwo.ts.wide.take] at this
    repeat' (first | (refine go1 ?_; intros) | (refine goCC ?_ ?_ <;> (intro hb; (try simp only [hSQ] at hb); try (exfalso; omega))) | fail)
    refine clV ?_
    rw [hvcs]
    refine vc_mono (rwithS_vc w0 _ a c ls (Ln.mk w.own a3 c3 (w.xs.take N)) rfl h hmc hvo (by omega)) ?_
    rintro v L' ⟨a6, c6, m6, rfl, hm6, ho6, rfl⟩
    have hm6 : lls m6 = setC (lls ls) w.own (w.xs.take N) := hm6
    have hmc6 : MayC (lls m6) := by
      rw [hm6]
      exact hmc.set h.k2 hwo.own (hgw.take N)
    have hml6 : m6.length ≤ 900000 := by
      have e1 := congrArg List.length hm6
      have e2 := setC_len hs h.k2 hwo.own (w.xs.take N)
      rw [List.length_map] at e1 e2
      omega
    repeat' (first | (refine go1 ?_; intros) | (refine goCC ?_ ?_ <;> (intro hb; (try simp only [hSQ] at hb); try (exfalso; omega))) | fail)
    refine v_ent (L' := blk g11 69 lc :: blk g8 24 [.slice none 0 0] :: blk g7 50 xc :: blk g4 24 [.slice a6 m6.length c6] :: ownTs aG cG [y] :: ownLs a6 c6 m6 :: tsA m6 :: L) (sei w0 _ _) ?_
    refine v_drawX [4, 6] 1 (by kernel_rfl) ?_
    refine tA 0 ?_
    refine tA 1 ?_
    refine tA 2 ?_
    refine va_takeP 5 rfl rfl rfl rfl (by kernel_rfl) (fun _ _ _ _ h => h) (.inl (sei _ _ _)) (by exact qX2) ?_
    refine va_one 3 (by kernel_rfl) rfl rfl ?_
    first | refine vo_call rfl rfl ?_ | refine vo_callV rfl rfl rfl ?_
    rw [hlc, hxc]
    refine vc_mono (rwithL_vc w0 _ l hlok hup (by omega) x hx) ?_
    rw [hW, ← hlc, ← hxc]
    rintro v L' ⟨a2, c2, rfl, rfl⟩
    refine ⟨.inr (sei _ _ _), ?_⟩
    refine va_one 4 (by kernel_rfl) rfl rfl ?_
    first | refine vo_call rfl rfl ?_ | refine vo_callV rfl rfl rfl ?_
    refine vc_mono (rwithS_vc w0 _ a6 c6 m6 (Ln.mk l.own a2 c2 W) rfl ho6 hmc6 ⟨hlok.own, hWok⟩ hml6) ?_
    rintro v L' ⟨a5, c5, m5, rfl, hm5, ho5, rfl⟩
    refine ⟨.inl (by kernel_rfl), ?_⟩
    refine va_one 6 (by kernel_rfl) rfl rfl ?_
    (refine goV ?_; intros)
    refine ⟨.inl (by kernel_rfl), ?_⟩
    refine tP 7 ?_
    refine tP 8 ?_
    refine va_done (by kernel_rfl) ?_
    repeat' (first | (refine go1 ?_; intros) | (refine goCC ?_ ?_ <;> (intro hb; (try simp only [hSQ] at hb); try (exfalso; omega))) | fail)
    refine ⟨ownLs a5 c5 m5 :: tsA m5 :: ownTs aG cG [y] :: L, sei _ _ _, a5, c5, m5, aG, cG, rfl, ?_, ho5, rfl⟩
    show lls m5 = setC (setC (lls ls) w.own (w.xs.take N)) (fromT x) W
    rw [hm5, ← hlo, hm6]
  · rw [hat]
    dsimp only
    have e4 := hLok.e4 k hk
    have el := hLok.el k hk
    have hpk := hLok.pos k hk
    have hyo := hLok.at k hk
    generalize l.xs[k] = y at *
    have hyl := Tx.len hyo
    haveI oyc : OC y.cells := oc_tx _
    by_cases hf : x.fee ≤ y.fee
    · rw [if_pos hf]
      repeat' (first | (refine go1 ?_; intros) | (refine goCC ?_ ?_ <;> (intro hb; (try simp only [hSQ] at hb); try (exfalso; omega))) | fail)
      all_goals first | (exfalso; omega) | skip
      (refine v_draw0 [] (by kernel_rfl) ?_ <;> (refine tA 0 ?_) <;> (refine tA 1 ?_) <;> (refine tA 2 ?_) <;> (refine tA 3 ?_) <;> (refine tA 4 ?_) <;> (refine tA 5 ?_) <;> (refine tA 6 ?_) <;> (refine tA 7 ?_) <;> (refine tA 8 ?_) <;> (refine va_done (by kernel_rfl) ?_))
      repeat' (first | (refine go1 ?_; intros) | (refine goCC ?_ ?_ <;> (intro hb; (try simp only [hSQ] at hb); try (exfalso; omega))) | fail)
      all_goals first | (exfalso; omega) | exact RSub.bad w0 L 190 (sei _ _ _)
    rw [if_neg hf]
    generalize hW : withT l.xs x = W at *
    repeat' (first | (refine go1 ?_; intros) | (refine goCC ?_ ?_ <;> (intro hb; (try simp only [hSQ] at hb); try (exfalso; omega))) | fail)
    all_goals first | (exfalso; omega) | skip
    (refine v_draw0 [] (by kernel_rfl) ?_ <;> (refine tA 0 ?_) <;> (refine tA 1 ?_) <;> (refine tA 2 ?_) <;> (refine tA 3 ?_) <;> (refine tA 4 ?_) <;> (refine tA 5 ?_) <;> (refine tA 6 ?_) <;> (refine tA 7 ?_) <;> (refine tA 8 ?_) <;> (refine va_done (by kernel_rfl) ?_))
    repeat' (first | (refine go1 ?_; intros) | (refine goCC ?_ ?_ <;> (intro hb; (try simp only [hSQ] at hb); try (exfalso; omega))) | fail)
    all_goals first | (exfalso; omega) | skip
    refine v_drawX [] 1 (by kernel_rfl) ?_
    refine tA 0 ?_
    refine tA 1 ?_
    refine tA 2 ?_
    refine tA 5 ?_
    refine tA 6 ?_
    refine tA 7 ?_
    refine tA 8 ?_
    refine tA 9 ?_
    refine va_two 3 10 (by kernel_rfl) rfl rfl rfl rfl ?_ ?_
    · first | refine vo_call rfl rfl ?_ | refine vo_callV rfl rfl rfl ?_
      rw [hlc, hxc]
      refine vc_mono (rwithL_vc w0 _ l hlok hup (by omega) x hx) ?_
      rw [hW, ← hlc, ← hxc]
      rintro v L' ⟨a2, c2, rfl, rfl⟩
      refine ⟨.inr (sei _ _ _), ?_⟩
      refine va_two 4 10 (by kernel_rfl) rfl rfl rfl rfl ?_ ?_
      · first | refine vo_call rfl rfl ?_ | refine vo_callV rfl rfl rfl ?_
        refine vc_mono (rwithS_vc w0 _ a c ls (Ln.mk l.own a2 c2 W) rfl h hmc ⟨hlok.own, hWok⟩ (by omega)) ?_
        rintro v L' ⟨a5, c5, m5, rfl, hm5, ho5, rfl⟩
        refine ⟨.inr (sei _ _ _), ?_⟩
        refine va_two 10 11 (by kernel_rfl) rfl rfl rfl rfl ?_ ?_
        · (refine goV ?_; intros)
          rename_i gb
          refine ⟨.inr (sei _ _ _), ?_⟩
          refine va_one 11 (by kernel_rfl) rfl rfl ?_
          (refine goV ?_; intros)
          refine ⟨.inr (sei _ _ _), ?_⟩
          refine tA 12 ?_
          refine tA 13 ?_
          refine va_done (by kernel_rfl) ?_
          repeat' (first | (refine go1 ?_; intros) | (refine goCC ?_ ?_ <;> (intro hb; (try simp only [hSQ] at hb); try (exfalso; omega))) | fail)
          refine ⟨ownLs a5 c5 m5 :: tsA m5 :: ownTs (some ⟨gb, 0, none⟩) 1 [y] :: L, ?_, a5, c5, m5, some ⟨gb, 0, none⟩, 1, rfl, ?_, ho5, rfl⟩
          · rw [ownTs_one]
            exact sei _ _ _
          · show lls m5 = setC (lls ls) (fromT x) W
            rw [hm5, ← hlo]
        · (refine goV ?_; intros)
          refine ⟨.inr (sei _ _ _), ?_⟩
          refine va_one 10 (by kernel_rfl) rfl rfl ?_
          (refine goV ?_; intros)
          rename_i gb
          refine ⟨.inr (sei _ _ _), ?_⟩
          refine tA 12 ?_
          refine tA 13 ?_
          refine va_done (by kernel_rfl) ?_
          repeat' (first | (refine go1 ?_; intros) | (refine goCC ?_ ?_ <;> (intro hb; (try simp only [hSQ] at hb); try (exfalso; omega))) | fail)
          refine ⟨ownLs a5 c5 m5 :: tsA m5 :: ownTs (some ⟨gb, 0, none⟩) 1 [y] :: L, ?_, a5, c5, m5, some ⟨gb, 0, none⟩, 1, rfl, ?_, ho5, rfl⟩
          · rw [ownTs_one]
            exact sei _ _ _
          · show lls m5 = setC (lls ls) (fromT x) W
            rw [hm5, ← hlo]
      · (refine goV ?_; intros)
        rename_i gb
        refine ⟨.inr (sei _ _ _), ?_⟩
        refine va_one 4 (by kernel_rfl) rfl rfl ?_
        first | refine vo_call rfl rfl ?_ | refine vo_callV rfl rfl rfl ?_
        refine vc_mono (rwithS_vc w0 _ a c ls (Ln.mk l.own a2 c2 W) rfl h hmc ⟨hlok.own, hWok⟩ (by omega)) ?_
        rintro v L' ⟨a5, c5, m5, rfl, hm5, ho5, rfl⟩
        refine ⟨.inr (sei _ _ _), ?_⟩
        refine va_one 11 (by kernel_rfl) rfl rfl ?_
        (refine goV ?_; intros)
        refine ⟨.inr (sei _ _ _), ?_⟩
        refine tA 12 ?_
        refine tA 13 ?_
        refine va_done (by kernel_rfl) ?_
        repeat' (first | (refine go1 ?_; intros) | (refine goCC ?_ ?_ <;> (intro hb; (try simp only [hSQ] at hb); try (exfalso; omega))) | fail)
        refine ⟨ownLs a5 c5 m5 :: tsA m5 :: ownTs (some ⟨gb, 0, none⟩) 1 [y] :: L, ?_, a5, c5, m5, some ⟨gb, 0, none⟩, 1, rfl, ?_, ho5, rfl⟩
        · rw [ownTs_one]
          exact sei _ _ _
        · show lls m5 = setC (lls ls) (fromT x) W
          rw [hm5, ← hlo]
    · (refine goV ?_; intros)
      rename_i gb
      refine ⟨.inr (sei _ _ _), ?_⟩
      refine va_one 3 (by kernel_rfl) rfl rfl ?_
      first | refine vo_call rfl rfl ?_ | refine vo_callV rfl rfl rfl ?_
      rw [hlc, hxc]
      refine vc_mono (rwithL_vc w0 _ l hlok hup (by omega) x hx) ?_
      rw [hW, ← hlc, ← hxc]
      rintro v L' ⟨a2, c2, rfl, rfl⟩
      refine ⟨.inr (sei _ _ _), ?_⟩
      refine va_one 4 (by kernel_rfl) rfl rfl ?_
      first | refine vo_call rfl rfl ?_ | refine vo_callV rfl rfl rfl ?_
      refine vc_mono (rwithS_vc w0 _ a c ls (Ln.mk l.own a2 c2 W) rfl h hmc ⟨hlok.own, hWok⟩ (by omega)) ?_
      rintro v L' ⟨a5, c5, m5, rfl, hm5, ho5, rfl⟩
      refine ⟨.inr (sei _ _ _), ?_⟩
      refine va_one 11 (by kernel_rfl) rfl rfl ?_
      (refine goV ?_; intros)
      refine ⟨.inr (sei _ _ _), ?_⟩
      refine tA 12 ?_
      refine tA 13 ?_
      refine va_done (by kernel_rfl) ?_
      repeat' (first | (refine go1 ?_; intros) | (refine goCC ?_ ?_ <;> (intro hb; (try simp only [hSQ] at hb); try (exfalso; omega))) | fail)
      refine ⟨ownLs a5 c5 m5 :: tsA m5 :: ownTs (some ⟨gb, 0, none⟩) 1 [y] :: L, ?_, a5, c5, m5, some ⟨gb, 0, none⟩, 1, rfl, ?_, ho5, rfl⟩
      · rw [ownTs_one]
        exact sei _ _ _
      · show lls m5 = setC (lls ls) (fromT x) W
        rw [hm5, ← hlo]
end Go.Proofs.YtcpndfffdbogbaaGreatDoor
namespace Go.Proofs.YtcpndfffdbogbaaGreatDoor
open Go Go.RowKit
open Classical

end Go.Proofs.YtcpndfffdbogbaaGreatDoor

/-
  Shards, the document's: a sender's line; a shard with a line in its place. Shards, the document's: the line whose last transaction goes; a shard with a transaction. Shards, the document's Submit; a shard's transactions are written over.
-/
import Derived.Test.YtcpndfffdbogbaaGreatDoorGU
import Derived.Test.YtcpndfffdbogbaaGreatDoorGZA
import Derived.Test.YtcpndfffdbogbaaGreatDoorGZ
set_option linter.unusedVariables false
set_option linter.unusedSimpArgs false
namespace Go.Proofs.YtcpndfffdbogbaaGreatDoor
open Go Go.RowKit
set_option linter.unusedVariables false
set_option linter.unusedSimpArgs false
set_option linter.unusedSectionVars false
open Classical

/-- The document's way: line by line. -/
noncomputable def wS (o : List UInt8) (xs : List Tx) (s : List LC × Bool) (c : LC) : List LC × Bool :=
  ((if s.2 = false ∧ ¬ Ahd c.1 o then s.1 ++ [(o, xs)] else s.1) ++ (if c.1 = o then [] else [c]), s.2 || !decide (Ahd c.1 o))
noncomputable def wF (o : List UInt8) (xs : List Tx) (cs : List LC) : List LC × Bool := cs.foldl (wS o xs) ([], decide (xs.length = 0))
noncomputable def wC (o : List UInt8) (xs : List Tx) (cs : List LC) : List LC := if (wF o xs cs).2 = true then (wF o xs cs).1 else (wF o xs cs).1 ++ [(o, xs)]
theorem wF_take {o : List UInt8} {xs : List Tx} {cs : List LC} {i : Nat} (hi : i < cs.length) : wF o xs (cs.take (i + 1)) = wS o xs (wF o xs (cs.take i)) cs[i] := by
  unfold wF
  rw [List.take_succ_eq_append_getElem hi, List.foldl_append]
  rfl
theorem wS_low {o : List UInt8} {xs : List Tx} : ∀ (A : List LC) (s : List LC × Bool), (∀ c ∈ A, Ahd c.1 o) → A.foldl (wS o xs) s = (s.1 ++ A, s.2)
  | [], s, _ => by simp
  | c :: A, s, h => by
    have hc := h c (by simp)
    have e : wS o xs s c = (s.1 ++ [c], s.2) := by
      unfold wS
      rw [if_neg (fun e => e.2 hc), if_neg hc.ne, decide_eq_true hc]
      simp
    rw [List.foldl_cons, e, wS_low A _ (fun d hd => h d (by simp [hd]))]
    simp
theorem wS_high {o : List UInt8} {xs : List Tx} : ∀ (H : List LC) (out : List LC), (∀ c ∈ H, Ahd o c.1) → H.foldl (wS o xs) (out, true) = (out ++ H, true)
  | [], s, _ => by simp
  | c :: H, out, h => by
    have hc := h c (by simp)
    have e : wS o xs (out, true) c = (out ++ [c], true) := by
      unfold wS
      rw [if_neg (fun e => by cases e.1), if_neg hc.ne.symm]
      simp
    rw [List.foldl_cons, e, wS_high H _ (fun d hd => h d (by simp [hd]))]
    simp
theorem wC_set {cs : List LC} (hs : Srt2 cs) (h2 : K2 cs) (hne : ∀ c ∈ cs, c.2 ≠ []) {o : List UInt8} (ho : o.length = 32) (xs : List Tx) : wC o xs cs = setC cs o xs := by
  have e3 := srt2_three hs h2 ho hne
  have hlow : ∀ c ∈ lowC cs o, Ahd c.1 o := fun c hc => (mem_lowC.1 hc).2
  have hhigh : ∀ c ∈ highC cs o, Ahd o c.1 := fun c hc => (mem_highC.1 hc).2
  have hW : wF o xs cs = ((ownC o (lineC cs o) ++ highC cs o).foldl (wS o xs) (lowC cs o, decide (xs.length = 0))) := by
    unfold wF
    conv => lhs; rw [e3]
    unfold setC
    rw [List.foldl_append, wS_low _ _ hlow]
    simp
  by_cases hx : xs = []
  · have hd : decide (xs.length = 0) = true := by rw [hx]; rfl
    have e : wF o xs cs = (lowC cs o ++ highC cs o, true) := by
      rw [hW, hd, List.foldl_append]
      have e1 : (ownC o (lineC cs o)).foldl (wS o xs) (lowC cs o, true) = (lowC cs o, true) := by
        unfold ownC
        split
        · rfl
        · show wS o xs (lowC cs o, true) (o, _) = _
          unfold wS
          rw [if_neg (fun e => by cases e.1), if_pos rfl]
          simp
      rw [e1, wS_high _ _ hhigh]
    unfold wC
    rw [e, if_pos rfl, hx]
    rfl
  · have hd : decide (xs.length = 0) = false := decide_eq_false (fun e => hx (List.eq_nil_of_length_eq_zero e))
    have hown : ownC o xs = [(o, xs)] := if_neg hx
    unfold setC
    rw [hown]
    have hnn : ¬ Ahd o o := Ahd.irrefl o
    by_cases hl : lineC cs o = []
    · have e1 : ownC o (lineC cs o) = [] := if_pos hl
      rw [e1, List.nil_append, hd] at hW
      cases hH : highC cs o with
      | nil =>
        rw [hH] at hW
        have hW : wF o xs cs = (lowC cs o, false) := hW
        unfold wC
        rw [hW, if_neg (fun e => by cases e)]
        rfl
      | cons c H =>
        have hc : Ahd o c.1 := hhigh c (by rw [hH]; simp)
        rw [hH, List.foldl_cons] at hW
        have e2 : wS o xs (lowC cs o, false) c = (lowC cs o ++ [(o, xs)] ++ [c], true) := by
          unfold wS
          rw [if_pos ⟨rfl, hc.asymm⟩, if_neg hc.ne.symm, decide_eq_false hc.asymm]
          rfl
        rw [e2, wS_high _ _ (fun d hd => hhigh d (by rw [hH]; simp [hd]))] at hW
        unfold wC
        rw [hW, if_pos rfl]
        simp
    · have e1 : ownC o (lineC cs o) = [(o, lineC cs o)] := if_neg hl
      rw [e1, List.singleton_append, List.foldl_cons, hd] at hW
      have e2 : wS o xs (lowC cs o, false) (o, lineC cs o) = (lowC cs o ++ [(o, xs)], true) := by
        unfold wS
        rw [if_pos ⟨rfl, hnn⟩, if_pos rfl, decide_eq_false hnn]
        simp
      rw [e2, wS_high _ _ hhigh] at hW
      unfold wC
      rw [hW, if_pos rfl]
      simp
theorem wS_lo {o : List UInt8} {xs : List Tx} (out : List LC) (d : Bool) {c : LC} (hc : Ahd c.1 o) : wS o xs (out, d) c = (out ++ [c], d) := by
  unfold wS
  rw [if_neg (fun e => e.2 hc), if_neg hc.ne, decide_eq_true hc]
  simp
theorem wS_skip {o : List UInt8} {xs : List Tx} (out : List LC) {c : LC} (hc : c.1 = o) : wS o xs (out, true) c = (out, true) := by
  unfold wS
  rw [if_neg (fun e => by cases e.1), if_pos hc]
  simp
theorem wS_add {o : List UInt8} {xs : List Tx} (out : List LC) {c : LC} (hc : ¬ c.1 = o) : wS o xs (out, true) c = (out ++ [c], true) := by
  unfold wS
  rw [if_neg (fun e => by cases e.1), if_neg hc]
  simp
theorem wS_inE {o : List UInt8} {xs : List Tx} (out : List LC) {c : LC} (hA : ¬ Ahd c.1 o) (hc : c.1 = o) : wS o xs (out, false) c = (out ++ [(o, xs)], true) := by
  unfold wS
  rw [if_pos ⟨rfl, hA⟩, if_pos hc, decide_eq_false hA]
  simp
theorem wS_inN {o : List UInt8} {xs : List Tx} (out : List LC) {c : LC} (hA : ¬ Ahd c.1 o) (hc : ¬ c.1 = o) : wS o xs (out, false) c = (out ++ [(o, xs)] ++ [c], true) := by
  unfold wS
  rw [if_pos ⟨rfl, hA⟩, if_neg hc, decide_eq_false hA]
  simp
set_option maxRecDepth 100000 in
set_option maxHeartbeats 1000000 in
theorem rline20_vc (w0 : World) (L : List Asn) (a : Option Addr) (c : Nat) (ms : List Ln) (o : List UInt8) {n : Nat} (hn : n = ms.length) (h : LsOk ms) (hs : Srt2 (lls ms)) (ho : o.length = 32) [hr : RdC w0 L a (lnc ms)] :
    VC Tryz.prog w0 94 [.agg #[.slice a n c], .agg (bvs o).toArray] L fun v L' => ∃ l : Ln, v = .agg l.cells.toArray ∧ l.own = o ∧ l.xs = lineC (lls ms) o ∧ (l ∈ ms ∨ l.a = none ∧ l.xs = []) ∧ L' = L := by
  subst hn
  have hlen := h.len
  refine vc_ent ?_
  refine vc_in rfl rfl ?_
  repeat' (first | (refine go1 ?_; intros) | (refine goCC ?_ ?_ <;> (intro hb; (try simp only [hSQ] at hb); try (exfalso; omega))) | fail)
  refine v_loopS Nat [2, 3, 4] rfl (fun i => [(5, .int .i64 i)]) (fun i => i ≤ ms.length ∧ ∀ j (hj : j < ms.length), j < i → ms[j].own ≠ o) (fun i => ms.length - i) 0 ⟨Nat.zero_le _, fun j _ h => by omega⟩ (by (repeat' (first | exact Sub.nil _ | refine Sub.cons rfl rfl ?_ | refine Sub.cons rfl ?_ ?_))) (fun i ⟨hi, hno⟩ => ?_)
  by_cases hlt : i < ms.length
  rotate_left
  · obtain rfl : i = ms.length := by omega
    have hl0 : lineC (lls ms) o = [] := lineC_none (fun j hj e => hno j (by rwa [List.length_map] at hj) (by rwa [List.length_map] at hj) (by rwa [List.getElem_map] at e))
    repeat' (first | (refine goB ?_; intros) | (refine goCC ?_ ?_ <;> (intro hb; (try simp only [hSQ] at hb); try (exfalso; omega))) | fail)
    have hzl : (Ln.mk o none 0 []).cells.length = 33 := Ln.len ho
    haveI hzo : OC (Ln.mk o none 0 []).cells := oc_ln _
    refine vl_q rfl rfl rfl rfl (vq_buildP (cs := (Ln.mk o none 0 []).cells) rfl (by simp [okS, Value.cells, ho]) (fill_line ho)) ?_
    generalize hzc : (Ln.mk o none 0 []).cells = zc at *
    repeat' (first | (refine go1 ?_; intros) | (refine goCC ?_ ?_ <;> (intro hb; (try simp only [hSQ] at hb); try (exfalso; omega))) | fail)
    exact ⟨_, sei _ _ L, ⟨o, none, 0, []⟩, by rw [hzc], rfl, hl0.symm, .inr ⟨rfl, rfl⟩, rfl⟩
  have e0 := h.e0 i hlt
  have ei := h.e i hlt
  have hpos := h.pos i hlt
  have hol := (h.at i hlt).own
  have hLC := lineC_ms hs hlt
  have hmem : ms[i] ∈ ms := List.getElem_mem hlt
  have hcl := Ln.len hol
  have hnext : ms[i].own ≠ o → ∀ j (hj : j < ms.length), j < i + 1 → ms[j].own ≠ o := fun hq j hj hji => by
    by_cases e2 : j = i
    · subst e2; exact hq
    · exact hno j hj (by omega)
  generalize ms[i] = l at *
  haveI hoc : OC l.cells := oc_ln _
  by_cases hlo : l.own = o
  · rw [hlo] at hLC
    obtain ⟨cs, hcs⟩ : ∃ cs, cs = l.cells := ⟨_, rfl⟩
    rw [← hcs] at ei hcl hoc
    repeat' (first | (refine go1 ?_; intros) | (refine goCC ?_ ?_ <;> (intro hb; (try simp only [hSQ] at hb); try (exfalso; omega))) | fail)
    (refine v_draw0 [] (by kernel_rfl) ?_ <;> (refine tA 0 ?_) <;> (refine tA 1 ?_) <;> (refine tA 2 ?_) <;> (refine tA 3 ?_) <;> (refine tA 4 ?_) <;> (refine tA 5 ?_) <;> (refine tA 6 ?_) <;> (refine va_take 7 rfl rfl rfl rfl (by kernel_rfl) (fun _ _ _ _ h => h) entD (by (first | (apply vq_isBin; first | (apply vq_isOp .neq; first | exact vq_neTxD rfl rfl (by assumption) (by assumption) (by assumption) | exact vq_neD rfl rfl (by first | assumption | (simp; done)) (by first | assumption | (simp; done)) (by assumption) | exact vq_neE' rfl rfl (by first | assumption | (simp; done)) (by first | assumption | (simp; done)) (by assumption)) | (apply vq_isOp .eql; first | exact vq_eqTxD rfl rfl (by assumption) (by assumption) (by assumption) | exact vq_eqTxE rfl rfl (by assumption) (by assumption) (by first | assumption | rfl) | exact vq_eqD rfl rfl (by first | assumption | (simp; done)) (by first | assumption | (simp; done)) (by assumption) | exact vq_eqE' rfl rfl (by first | assumption | (simp; done)) (by first | assumption | (simp; done)) (by assumption))) | (apply vq_isBin; first | exact vq_lt rfl rfl | exact vq_eq rfl rfl | exact vq_ne rfl rfl | (apply vq_isOp .add; exact vq_add rfl rfl (by first | exact wr_add (by omega) | exact wu_add (by omega) | exact wr_id (by omega) (by omega) | rfl)) | (apply vq_isOp .sub; exact vq_minus rfl rfl (by first | exact wr_sub (by omega) (by omega) | exact wu_sub (by omega) (by omega) | exact wr_id (by omega) (by omega) | rfl)) | exact vq_gt rfl rfl | exact vq_le rfl rfl | exact vq_ge rfl rfl | (apply vq_isOp .mul; exact vq_mul rfl rfl (by first | exact wr_mul (by omega) | exact wr_id (by omega) (by omega) | rfl)) | (apply vq_isOp .or; exact vq_or rfl rfl (by rfl)) | (apply vq_isOp .and; exact vq_and rfl rfl (by rfl)) | (apply vq_isOp .xor; exact vq_xor rfl rfl (by rfl)) | (apply vq_isOp .shl; exact vq_shl rfl rfl (by omega) (by rfl)) | (apply vq_isOp .shr; exact vq_shr rfl rfl (by omega) (by rfl)) | (apply vq_isOp .quo; exact vq_quo rfl rfl (by decide) (by first | exact q8_i64 (by omega) | exact q2_u8 (by omega) | exact q4_i64 (by omega) | assumption | rfl)) | (apply vq_isOp .rem; exact vq_rem rfl rfl (by decide) (by first | exact r8 | exact r2 | exact r4 | exact r64 | assumption | rfl)) | exact vq_eqNil rfl rfl | exact vq_eqBool rfl rfl | (apply vq_isOp .eql; exact vq_eqB rfl rfl (by first | assumption | (simp; done)) (by first | assumption | (simp; done))) | (apply vq_isOp .neq; first | exact vq_neBool rfl rfl | exact vq_neB rfl rfl (by first | assumption | (simp; done)) (by first | assumption | (simp; done)))))) ?_) <;> (refine va_done (by kernel_rfl) ?_))
    repeat' (first | (refine go1 ?_; intros) | (refine goCC ?_ ?_ <;> (intro hb; (try simp only [hSQ] at hb); try (exfalso; omega))) | fail)
    exact ⟨_, sei _ _ L, l, by rw [hcs], hlo, hLC.symm, .inl hmem, rfl⟩
  · repeat' (first | (refine go1 ?_; intros) | (refine goCC ?_ ?_ <;> (intro hb; (try simp only [hSQ] at hb); try (exfalso; omega))) | fail)
    (refine v_draw0 [] (by kernel_rfl) ?_ <;> (refine tA 0 ?_) <;> (refine tA 1 ?_) <;> (refine tA 2 ?_) <;> (refine tA 3 ?_) <;> (refine tA 4 ?_) <;> (refine tA 5 ?_) <;> (refine tA 6 ?_) <;> (refine va_take 7 rfl rfl rfl rfl (by kernel_rfl) (fun _ _ _ _ h => h) entD (by (first | (apply vq_isBin; first | (apply vq_isOp .neq; first | exact vq_neTxD rfl rfl (by assumption) (by assumption) (by assumption) | exact vq_neD rfl rfl (by first | assumption | (simp; done)) (by first | assumption | (simp; done)) (by assumption) | exact vq_neE' rfl rfl (by first | assumption | (simp; done)) (by first | assumption | (simp; done)) (by assumption)) | (apply vq_isOp .eql; first | exact vq_eqTxD rfl rfl (by assumption) (by assumption) (by assumption) | exact vq_eqTxE rfl rfl (by assumption) (by assumption) (by first | assumption | rfl) | exact vq_eqD rfl rfl (by first | assumption | (simp; done)) (by first | assumption | (simp; done)) (by assumption) | exact vq_eqE' rfl rfl (by first | assumption | (simp; done)) (by first | assumption | (simp; done)) (by assumption))) | (apply vq_isBin; first | exact vq_lt rfl rfl | exact vq_eq rfl rfl | exact vq_ne rfl rfl | (apply vq_isOp .add; exact vq_add rfl rfl (by first | exact wr_add (by omega) | exact wu_add (by omega) | exact wr_id (by omega) (by omega) | rfl)) | (apply vq_isOp .sub; exact vq_minus rfl rfl (by first | exact wr_sub (by omega) (by omega) | exact wu_sub (by omega) (by omega) | exact wr_id (by omega) (by omega) | rfl)) | exact vq_gt rfl rfl | exact vq_le rfl rfl | exact vq_ge rfl rfl | (apply vq_isOp .mul; exact vq_mul rfl rfl (by first | exact wr_mul (by omega) | exact wr_id (by omega) (by omega) | rfl)) | (apply vq_isOp .or; exact vq_or rfl rfl (by rfl)) | (apply vq_isOp .and; exact vq_and rfl rfl (by rfl)) | (apply vq_isOp .xor; exact vq_xor rfl rfl (by rfl)) | (apply vq_isOp .shl; exact vq_shl rfl rfl (by omega) (by rfl)) | (apply vq_isOp .shr; exact vq_shr rfl rfl (by omega) (by rfl)) | (apply vq_isOp .quo; exact vq_quo rfl rfl (by decide) (by first | exact q8_i64 (by omega) | exact q2_u8 (by omega) | exact q4_i64 (by omega) | assumption | rfl)) | (apply vq_isOp .rem; exact vq_rem rfl rfl (by decide) (by first | exact r8 | exact r2 | exact r4 | exact r64 | assumption | rfl)) | exact vq_eqNil rfl rfl | exact vq_eqBool rfl rfl | (apply vq_isOp .eql; exact vq_eqB rfl rfl (by first | assumption | (simp; done)) (by first | assumption | (simp; done))) | (apply vq_isOp .neq; first | exact vq_neBool rfl rfl | exact vq_neB rfl rfl (by first | assumption | (simp; done)) (by first | assumption | (simp; done)))))) ?_) <;> (refine va_done (by kernel_rfl) ?_))
    repeat' (first | (refine go1 ?_; intros) | (refine goCC ?_ ?_ <;> (intro hb; (try simp only [hSQ] at hb); try (exfalso; omega))) | fail)
    exact ⟨rfl, i + 1, ⟨by omega, hnext hlo⟩, by omega, by (repeat' (first | exact Sub.nil _ | refine Sub.cons rfl rfl ?_ | refine Sub.cons rfl ?_ ?_)), Ent.refl _ _⟩
theorem se_snocL (a3 : Option Addr) (c3 : Nat) (pm : List Ln) (x : Ln) (a2 : Option Addr) (c2 : Nat) (rest : List Asn) : SE (ownTs a2 c2 x.xs :: tsA pm :: own 69 33 a3 (pm.length + 1) c3 (lnc pm ++ (Ln.mk x.own a2 c2 x.xs).cells) :: rest) (ownLs a3 c3 (pm ++ [x.to a2 c2]) :: tsA (pm ++ [x.to a2 c2]) :: rest) := by
  rw [ownLs_snoc]
  exact (se_tsA_snoc pm _ (x.to a2 c2)).trans (se_swap _ _ _)
theorem LsOk.snoc {pm : List Ln} {x : Ln} (h : LsOk pm) (hx : x.ok) (hl : pm.length ≤ 999999) : LsOk (pm ++ [x]) := ⟨fun p hp => by
  rcases List.mem_append.1 hp with hp | hp
  · exact h.ok p hp
  · rw [List.mem_singleton.1 hp]; exact hx, by simp; omega⟩
set_option maxRecDepth 100000 in
set_option maxHeartbeats 4000000 in
theorem rwithS_vc (w0 : World) (L : List Asn) (a : Option Addr) (c : Nat) (ms : List Ln) (l : Ln) {n : Nat} (hn : n = ms.length) (h : LsOk ms) (hmc : MayC (lls ms)) (hl : l.ok) (h5 : ms.length ≤ 900000) [hr : RdC w0 L a (lnc ms)] [hv : RdLs w0 L ms] [hrl : RdC w0 L l.a (txc l.xs)] :
    VC Tryz.prog w0 86 [.agg #[.slice a n c], .agg l.cells.toArray] L (RShC (setC (lls ms) l.own l.xs) L) := by
  subst hn
  have hlen := h.len
  have ho := hl.own
  have l0 := Ln.f0 ho
  have l1 := Ln.f1 ho
  have hll := Ln.len ho
  haveI olc : OC l.cells := oc_ln _
  refine vc_ent ?_
  refine vc_in rfl rfl ?_
  rw [← wC_set hmc.srt h.k2 hmc.ne ho]
  obtain ⟨lc, hlc⟩ : ∃ lc, lc = l.cells := ⟨_, rfl⟩
  rw [← hlc] at l0 l1 hll olc ⊢
  repeat' (first | (refine go1 ?_; intros) | (refine goCC ?_ ?_ <;> (intro hb; (try simp only [hSQ] at hb); try (exfalso; omega))) | fail)
  rename_i g2 g3 g4 g5
  refine v_loopF (Nat × List Ln × Option Addr × Nat × Bool) [2, 3, 4, 5] rfl (fun z => [(7, .int .i64 z.1), (6, .bool z.2.2.2.2)]) (fun _ z => blk g5 24 [.slice z.2.2.1 z.2.1.length z.2.2.2.1] :: ownLs z.2.2.1 z.2.2.2.1 z.2.1 :: tsA z.2.1 :: blk g4 24 [.slice none 0 0] :: blk g3 69 lc :: blk g2 24 [.slice a ms.length c] :: L) (fun z => z.1 ≤ ms.length ∧ (lls z.2.1, z.2.2.2.2) = wF l.own l.xs ((lls ms).take z.1) ∧ LsOk z.2.1 ∧ z.2.1.length ≤ z.1 + 1 ∧ (z.2.2.2.2 = false → z.2.1.length ≤ z.1)) (fun z => ms.length - z.1) (0, [], none, 0, decide (l.xs.length = 0)) ⟨Nat.zero_le _, rfl, LsOk.nil, by simp, fun _ => by simp⟩ ?_ ?_ ?_
  · dsimp only
    rw [show decide ((l.xs.length : Int) = 0) = decide (l.xs.length = 0) from decide_eq_decide.2 (by omega)]
    (repeat' (first | exact Sub.nil _ | refine Sub.cons rfl rfl ?_ | refine Sub.cons rfl ?_ ?_))
  · exact (SE.cons _ (se_ls_nil _)).ent w0
  rintro ⟨i, pm, pa, pc, pd⟩ ⟨hi, hw, hpo, hpl, hpf⟩
  dsimp only at hi hw hpo hpl hpf ⊢
  have hwl := hpo.wide.len
  by_cases hlt : i < ms.length
  rotate_left
  · obtain rfl : i = ms.length := by omega
    rw [List.take_of_length_le (by rw [List.length_map]; exact Nat.le_refl _)] at hw
    unfold wC
    rw [← hw]
    dsimp only
    cases pd
    · rw [if_neg (by decide)]
      repeat' (first | (refine go1 ?_; intros) | (refine goCC ?_ ?_ <;> (intro hb; (try simp only [hSQ] at hb); try (exfalso; omega))) | fail)
      refine v_draw0 [5, 7] (by kernel_rfl) ?_
      refine tA 0 ?_
      refine tA 1 ?_
      refine tA 2 ?_
      refine va_one 3 (by kernel_rfl) rfl rfl ?_
      first | refine vo_call rfl rfl ?_ | refine vo_callV rfl rfl rfl ?_
      rw [hlc]
      refine vc_mono (rtwinL_vc w0 _ l hl) ?_
      rintro v L' ⟨a2, c2, rfl, rfl⟩
      have hcl2 : (Ln.mk l.own a2 c2 l.xs).cells.length = 33 := Ln.len ho
      refine ⟨.inr (sei _ _ _), ?_⟩
      refine va_one 4 (by kernel_rfl) rfl rfl ?_
      (refine goV ?_; intros)
      refine ⟨.inr (sei _ _ _), ?_⟩
      refine va_one 5 (by kernel_rfl) rfl rfl ?_
      (refine goV ?_; intros)
      refine ⟨.inl (by kernel_rfl), ?_⟩
      refine tP 6 ?_
      refine va_one 7 (by kernel_rfl) rfl rfl ?_
      (refine goV ?_; intros)
      refine ⟨.inl (by kernel_rfl), ?_⟩
      refine va_done (by kernel_rfl) ?_
      skip
      repeat' (first | (refine go1 ?_; intros) | (refine goCC ?_ ?_ <;> (intro hb; (try simp only [hSQ] at hb); try (exfalso; omega))) | fail)
      rename_i a3 c3 _ _
      simp only [List.append_nil]
      refine ⟨ownLs a3 c3 (pm ++ [l.to a2 c2]) :: tsA (pm ++ [l.to a2 c2]) :: L, ?_, a3, c3, pm ++ [l.to a2 c2], by rw [List.length_append]; rfl, by rw [lls_app]; rfl, hpo.snoc (x := l.to a2 c2) ⟨ho, hl.ts⟩ (by omega), rfl⟩
      exact (sei w0 _ (ownTs a2 c2 l.xs :: tsA pm :: own 69 33 a3 (pm.length + 1) c3 (lnc pm ++ (Ln.mk l.own a2 c2 l.xs).cells) :: L)).trans ((se_snocL a3 c3 pm l a2 c2 _).ent w0)
    · rw [if_pos rfl]
      repeat' (first | (refine go1 ?_; intros) | (refine goCC ?_ ?_ <;> (intro hb; (try simp only [hSQ] at hb); try (exfalso; omega))) | fail)
      exact ⟨_, sei w0 _ (ownLs pa pc pm :: tsA pm :: L), pa, pc, pm, rfl, rfl, hpo, rfl⟩
  have hstep := wF_take (o := l.own) (xs := l.xs) (cs := lls ms) (i := i) (by rwa [List.length_map])
  rw [← hw, List.getElem_map] at hstep
  have e0 := h.e0 i hlt
  have ei := h.e i hlt
  have hpos := h.pos i hlt
  have lok := h.at i hlt
  have hol := lok.own
  have hcl := Ln.len hol
  haveI := hv.at i hlt
  generalize ms[i] = x at *
  haveI hoc : OC x.cells := oc_ln _
  have x0 := Ln.f0 hol
  obtain ⟨xcs, hxcs⟩ : ∃ cs, cs = x.cells := ⟨_, rfl⟩
  rw [← hxcs] at ei hcl hoc x0
  cases pd
  · by_cases hA : Ahd x.own l.own
    · have hne : ¬ x.own = l.own := hA.ne
      have hstep2 : wF l.own l.xs ((lls ms).take (i + 1)) = (lls pm ++ [x.pl], false) := by
        rw [hstep, wS_lo (c := x.pl) _ _ hA]
      repeat' (first | (refine go1 ?_; intros) | (refine goCC ?_ ?_ <;> (intro hb; (try simp only [hSQ] at hb); try (exfalso; omega))) | fail)
      refine vl_o rfl (vo_call rfl rfl ?_)
      refine vc_mono (rahead_vc w0 _ x.own l.own hol ho) ?_
      rintro v L' ⟨rfl, rfl⟩
      rw [decide_eq_true hA]
      repeat' (first | (refine go1 ?_; intros) | (refine goCC ?_ ?_ <;> (intro hb; (try simp only [hSQ] at hb); try (exfalso; omega))) | fail)
      all_goals first | (exfalso; exact hne (by assumption)) | skip
      repeat' (first | (refine go1 ?_; intros) | (refine goCC ?_ ?_ <;> (intro hb; (try simp only [hSQ] at hb); try (exfalso; omega))) | fail)
      refine v_draw0 [5, 7] (by kernel_rfl) ?_
      refine tA 0 ?_
      refine tA 1 ?_
      refine tA 2 ?_
      refine va_one 3 (by kernel_rfl) rfl rfl ?_
      first | refine vo_call rfl rfl ?_ | refine vo_callV rfl rfl rfl ?_
      rw [hxcs]
      refine vc_mono (rtwinL_vc w0 _ x lok) ?_
      rintro v L' ⟨a2, c2, rfl, rfl⟩
      have hcl2 : (Ln.mk x.own a2 c2 x.xs).cells.length = 33 := Ln.len lok.own
      refine ⟨.inr (sei _ _ _), ?_⟩
      refine va_one 4 (by kernel_rfl) rfl rfl ?_
      (refine goV ?_; intros)
      refine ⟨.inr (sei _ _ _), ?_⟩
      refine va_one 5 (by kernel_rfl) rfl rfl ?_
      (refine goV ?_; intros)
      refine ⟨.inl (by kernel_rfl), ?_⟩
      refine tP 6 ?_
      refine va_one 7 (by kernel_rfl) rfl rfl ?_
      (refine goV ?_; intros)
      refine ⟨.inl (by kernel_rfl), ?_⟩
      refine va_done (by kernel_rfl) ?_
      skip
      repeat' (first | (refine go1 ?_; intros) | (refine goCC ?_ ?_ <;> (intro hb; (try simp only [hSQ] at hb); try (exfalso; omega))) | fail)
      rename_i a3 c3 _ _
      refine ⟨rfl, (i + 1, pm ++ [x.to a2 c2], a3, c3, false), ⟨by dsimp only; omega, ?_, hpo.snoc (x := x.to a2 c2) ⟨lok.own, lok.ts⟩ (by omega), by have := hpf rfl; simp; omega, fun _ => by have := hpf rfl; simp; omega⟩, by dsimp only; omega, ?_, ?_⟩
      · rw [hstep2]
        show (lls (pm ++ [x.to a2 c2]), false) = _
        rw [lls_app]
        rfl
      · simp only [List.length_append, List.length_cons, List.length_nil, Nat.zero_add]
        (repeat' (first | exact Sub.nil _ | refine Sub.cons rfl rfl ?_ | refine Sub.cons rfl ?_ ?_))
      · dsimp only
        rw [List.length_append]
        simp only [List.append_nil]
        exact (sei w0 _ (ownTs a2 c2 x.xs :: tsA pm :: own 69 33 a3 (pm.length + 1) c3 (lnc pm ++ (Ln.mk x.own a2 c2 x.xs).cells) :: blk g5 24 [.slice a3 (pm.length + 1) c3] :: blk g4 24 [.slice none 0 0] :: blk g3 69 lc :: blk g2 24 [.slice a ms.length c] :: L)).trans (((se_snocL a3 c3 pm x a2 c2 _).ent w0).trans (sei w0 _ _))
    · repeat' (first | (refine go1 ?_; intros) | (refine goCC ?_ ?_ <;> (intro hb; (try simp only [hSQ] at hb); try (exfalso; omega))) | fail)
      rename_i gx
      refine vl_o rfl (vo_call rfl rfl ?_)
      refine vc_mono (rahead_vc w0 _ x.own l.own hol ho) ?_
      rintro v L' ⟨rfl, rfl⟩
      rw [decide_eq_false hA]
      repeat' (first | (refine go1 ?_; intros) | (refine goCC ?_ ?_ <;> (intro hb; (try simp only [hSQ] at hb); try (exfalso; omega))) | fail)
      refine v_draw0 [5, 7] (by kernel_rfl) ?_
      refine tA 0 ?_
      refine tA 1 ?_
      refine tA 2 ?_
      refine va_one 3 (by kernel_rfl) rfl rfl ?_
      first | refine vo_call rfl rfl ?_ | refine vo_callV rfl rfl rfl ?_
      rw [hlc]
      refine vc_mono (rtwinL_vc w0 _ l hl) ?_
      rintro v L' ⟨a2, c2, rfl, rfl⟩
      have hcl2 : (Ln.mk l.own a2 c2 l.xs).cells.length = 33 := Ln.len ho
      refine ⟨.inr (sei _ _ _), ?_⟩
      refine va_one 4 (by kernel_rfl) rfl rfl ?_
      (refine goV ?_; intros)
      refine ⟨.inr (sei _ _ _), ?_⟩
      refine va_one 5 (by kernel_rfl) rfl rfl ?_
      (refine goV ?_; intros)
      refine ⟨.inl (by kernel_rfl), ?_⟩
      refine tP 6 ?_
      refine va_one 7 (by kernel_rfl) rfl rfl ?_
      (refine goV ?_; intros)
      refine ⟨.inl (by kernel_rfl), ?_⟩
      refine va_done (by kernel_rfl) ?_
      skip
      repeat' (first | (refine go1 ?_; intros) | (refine goCC ?_ ?_ <;> (intro hb; (try simp only [hSQ] at hb); try (exfalso; omega))) | fail)
      rename_i gq a3 c3 _ _
      rw [← hlc]
      have hpf2 := hpf rfl
      refine vl_ent (L' := blk gx 69 xcs :: blk g5 24 [.slice a3 (pm.length + 1) c3] :: ownLs a3 c3 (pm ++ [l.to a2 c2]) :: tsA (pm ++ [l.to a2 c2]) :: blk g4 24 [.slice none 0 0] :: blk g3 69 lc :: blk g2 24 [.slice a ms.length c] :: L) ?_ ?_
      · simp only [List.append_nil]
        exact (sei w0 _ (ownTs a2 c2 l.xs :: tsA pm :: own 69 33 a3 (pm.length + 1) c3 (lnc pm ++ (Ln.mk l.own a2 c2 l.xs).cells) :: blk gx 69 xcs :: blk g5 24 [.slice a3 (pm.length + 1) c3] :: blk g4 24 [.slice none 0 0] :: blk g3 69 lc :: blk g2 24 [.slice a ms.length c] :: L)).trans (((se_snocL a3 c3 pm l a2 c2 _).ent w0).trans (sei w0 _ _))
      have hp9 : (pm ++ [l.to a2 c2]).length = pm.length + 1 := by rw [List.length_append]; rfl
      have ho9 : LsOk (pm ++ [l.to a2 c2]) := hpo.snoc (x := l.to a2 c2) ⟨ho, hl.ts⟩ (by omega)
      have hl9 : lls (pm ++ [l.to a2 c2]) = lls pm ++ [(l.own, l.xs)] := by rw [lls_app]; rfl
      rw [← hp9]
      have hpl9 : (pm ++ [l.to a2 c2]).length ≤ i + 1 := by omega
      clear hpo hpl hpf hpf2 hwl
      generalize pm ++ [l.to a2 c2] = p9 at *
      have hwl := ho9.wide.len
      by_cases hne : x.own = l.own
      · have hstep2 : wF l.own l.xs ((lls ms).take (i + 1)) = (lls p9, true) := by
          rw [hstep, wS_inE (c := x.pl) _ hA hne, hl9]
        repeat' (first | (refine go1 ?_; intros) | (refine goCC ?_ ?_ <;> (intro hb; (try simp only [hSQ] at hb); try (exfalso; omega))) | fail)
        all_goals first | (exfalso; exact (by assumption : ¬ x.own = l.own) hne) | skip
        exact ⟨rfl, (i + 1, p9, a3, c3, true), ⟨by dsimp only; omega, hstep2.symm, ho9, by dsimp only; omega, fun e => by cases e⟩, by dsimp only; omega, by (repeat' (first | exact Sub.nil _ | refine Sub.cons rfl rfl ?_ | refine Sub.cons rfl ?_ ?_)), sei _ _ _⟩
      · have hstep2 : wF l.own l.xs ((lls ms).take (i + 1)) = (lls p9 ++ [x.pl], true) := by
          rw [hstep, wS_inN (c := x.pl) _ hA hne, hl9]
        repeat' (first | (refine go1 ?_; intros) | (refine goCC ?_ ?_ <;> (intro hb; (try simp only [hSQ] at hb); try (exfalso; omega))) | fail)
        all_goals first | (exfalso; exact hne (by assumption)) | skip
        have hpo := ho9
        have hpl := hpl9
        obtain ⟨pm, hpm⟩ : ∃ pm, pm = p9 := ⟨_, rfl⟩
        subst hpm
        repeat' (first | (refine go1 ?_; intros) | (refine goCC ?_ ?_ <;> (intro hb; (try simp only [hSQ] at hb); try (exfalso; omega))) | fail)
        refine v_draw0 [5, 7] (by kernel_rfl) ?_
        refine tA 0 ?_
        refine tA 1 ?_
        refine tA 2 ?_
        refine va_one 3 (by kernel_rfl) rfl rfl ?_
        first | refine vo_call rfl rfl ?_ | refine vo_callV rfl rfl rfl ?_
        rw [hxcs]
        refine vc_mono (rtwinL_vc w0 _ x lok) ?_
        rintro v L' ⟨a2, c2, rfl, rfl⟩
        have hcl2 : (Ln.mk x.own a2 c2 x.xs).cells.length = 33 := Ln.len lok.own
        refine ⟨.inr (sei _ _ _), ?_⟩
        refine va_one 4 (by kernel_rfl) rfl rfl ?_
        (refine goV ?_; intros)
        refine ⟨.inr (sei _ _ _), ?_⟩
        refine va_one 5 (by kernel_rfl) rfl rfl ?_
        (refine goV ?_; intros)
        refine ⟨.inl (by kernel_rfl), ?_⟩
        refine tP 6 ?_
        refine va_one 7 (by kernel_rfl) rfl rfl ?_
        (refine goV ?_; intros)
        refine ⟨.inl (by kernel_rfl), ?_⟩
        refine va_done (by kernel_rfl) ?_
        skip
        repeat' (first | (refine go1 ?_; intros) | (refine goCC ?_ ?_ <;> (intro hb; (try simp only [hSQ] at hb); try (exfalso; omega))) | fail)
        rename_i a3 c3 _ _
        refine ⟨rfl, (i + 1, pm ++ [x.to a2 c2], a3, c3, true), ⟨by dsimp only; omega, ?_, hpo.snoc (x := x.to a2 c2) ⟨lok.own, lok.ts⟩ (by omega), by simp; omega, fun e => by cases e⟩, by dsimp only; omega, ?_, ?_⟩
        · rw [hstep2]
          show (lls (pm ++ [x.to a2 c2]), true) = _
          rw [lls_app]
          rfl
        · simp only [List.length_append, List.length_cons, List.length_nil, Nat.zero_add]
          (repeat' (first | exact Sub.nil _ | refine Sub.cons rfl rfl ?_ | refine Sub.cons rfl ?_ ?_))
        · dsimp only
          rw [List.length_append]
          simp only [List.append_nil]
          exact (sei w0 _ (ownTs a2 c2 x.xs :: tsA pm :: own 69 33 a3 (pm.length + 1) c3 (lnc pm ++ (Ln.mk x.own a2 c2 x.xs).cells) :: blk g5 24 [.slice a3 (pm.length + 1) c3] :: blk g4 24 [.slice none 0 0] :: blk g3 69 lc :: blk g2 24 [.slice a ms.length c] :: L)).trans (((se_snocL a3 c3 pm x a2 c2 _).ent w0).trans (sei w0 _ _))
  · by_cases hne : x.own = l.own
    · have hstep2 : wF l.own l.xs ((lls ms).take (i + 1)) = (lls pm, true) := by
        rw [hstep, wS_skip (c := x.pl) _ hne]
      repeat' (first | (refine go1 ?_; intros) | (refine goCC ?_ ?_ <;> (intro hb; (try simp only [hSQ] at hb); try (exfalso; omega))) | fail)
      all_goals first | (exfalso; exact (by assumption : ¬ x.own = l.own) hne) | skip
      exact ⟨rfl, (i + 1, pm, pa, pc, true), ⟨by dsimp only; omega, hstep2.symm, hpo, by dsimp only; omega, fun e => by cases e⟩, by dsimp only; omega, by (repeat' (first | exact Sub.nil _ | refine Sub.cons rfl rfl ?_ | refine Sub.cons rfl ?_ ?_)), sei _ _ _⟩
    · have hstep2 : wF l.own l.xs ((lls ms).take (i + 1)) = (lls pm ++ [x.pl], true) := by
        rw [hstep, wS_add (c := x.pl) _ hne]
      repeat' (first | (refine go1 ?_; intros) | (refine goCC ?_ ?_ <;> (intro hb; (try simp only [hSQ] at hb); try (exfalso; omega))) | fail)
      all_goals first | (exfalso; exact hne (by assumption)) | skip
      repeat' (first | (refine go1 ?_; intros) | (refine goCC ?_ ?_ <;> (intro hb; (try simp only [hSQ] at hb); try (exfalso; omega))) | fail)
      refine v_draw0 [5, 7] (by kernel_rfl) ?_
      refine tA 0 ?_
      refine tA 1 ?_
      refine tA 2 ?_
      refine va_one 3 (by kernel_rfl) rfl rfl ?_
      first | refine vo_call rfl rfl ?_ | refine vo_callV rfl rfl rfl ?_
      rw [hxcs]
      refine vc_mono (rtwinL_vc w0 _ x lok) ?_
      rintro v L' ⟨a2, c2, rfl, rfl⟩
      have hcl2 : (Ln.mk x.own a2 c2 x.xs).cells.length = 33 := Ln.len lok.own
      refine ⟨.inr (sei _ _ _), ?_⟩
      refine va_one 4 (by kernel_rfl) rfl rfl ?_
      (refine goV ?_; intros)
      refine ⟨.inr (sei _ _ _), ?_⟩
      refine va_one 5 (by kernel_rfl) rfl rfl ?_
      (refine goV ?_; intros)
      refine ⟨.inl (by kernel_rfl), ?_⟩
      refine tP 6 ?_
      refine va_one 7 (by kernel_rfl) rfl rfl ?_
      (refine goV ?_; intros)
      refine ⟨.inl (by kernel_rfl), ?_⟩
      refine va_done (by kernel_rfl) ?_
      skip
      repeat' (first | (refine go1 ?_; intros) | (refine goCC ?_ ?_ <;> (intro hb; (try simp only [hSQ] at hb); try (exfalso; omega))) | fail)
      rename_i a3 c3 _ _
      refine ⟨rfl, (i + 1, pm ++ [x.to a2 c2], a3, c3, true), ⟨by dsimp only; omega, ?_, hpo.snoc (x := x.to a2 c2) ⟨lok.own, lok.ts⟩ (by omega), by simp; omega, fun e => by cases e⟩, by dsimp only; omega, ?_, ?_⟩
      · rw [hstep2]
        show (lls (pm ++ [x.to a2 c2]), true) = _
        rw [lls_app]
        rfl
      · simp only [List.length_append, List.length_cons, List.length_nil, Nat.zero_add]
        (repeat' (first | exact Sub.nil _ | refine Sub.cons rfl rfl ?_ | refine Sub.cons rfl ?_ ?_))
      · dsimp only
        rw [List.length_append]
        simp only [List.append_nil]
        exact (sei w0 _ (ownTs a2 c2 x.xs :: tsA pm :: own 69 33 a3 (pm.length + 1) c3 (lnc pm ++ (Ln.mk x.own a2 c2 x.xs).cells) :: blk g5 24 [.slice a3 (pm.length + 1) c3] :: blk g4 24 [.slice none 0 0] :: blk g3 69 lc :: blk g2 24 [.slice a ms.length c] :: L)).trans (((se_snocL a3 c3 pm x a2 c2 _).ent w0).trans (sei w0 _ _))
end Go.Proofs.YtcpndfffdbogbaaGreatDoor
namespace Go.Proofs.YtcpndfffdbogbaaGreatDoor
open Go Go.RowKit
set_option linter.unusedVariables false
set_option linter.unusedSimpArgs false
set_option linter.unusedSectionVars false
open Classical

end Go.Proofs.YtcpndfffdbogbaaGreatDoor
namespace Go.Proofs.YtcpndfffdbogbaaGreatDoor
open Go Go.RowKit
set_option linter.unusedVariables false
set_option linter.unusedSimpArgs false
set_option linter.unusedSectionVars false
open Classical

set_option maxRecDepth 100000 in
set_option maxHeartbeats 2000000 in
theorem lspoil20_vc (w0 : World) (L : List Asn) (a : Option Addr) (c : Nat) (ms : List Ln) {n : Nat} (hn : n = ms.length) (h : LsOk ms) :
    VC Tryz.prog w0 15 [.agg #[.slice a n c]] (ownLs a c ms :: tsA ms :: L) fun v L' => L' = L := by
  subst hn
  have hlen := h.len
  refine vc_ent ?_
  refine vc_in rfl rfl ?_
  repeat' (first | (refine go1 ?_; intros) | (refine goCC ?_ ?_ <;> (intro hb; (try simp only [hSQ] at hb); try (exfalso; omega))) | fail)
  rename_i g1
  refine v_loopF (List Ln × Nat) [1] rfl (fun x => [(2, .int .i64 x.2)]) (fun _ x => blk g1 24 [.slice a ms.length c] :: ownLs a c ms :: tsA x.1 :: L) (fun x => x.2 ≤ ms.length ∧ lnc x.1 = lnc ms ∧ x.1.length = ms.length ∧ LsOk x.1) (fun x => ms.length - x.2) (ms, 0) ⟨Nat.zero_le _, rfl, rfl, h⟩ (by (repeat' (first | exact Sub.nil _ | refine Sub.cons rfl rfl ?_ | refine Sub.cons rfl ?_ ?_))) (Ent.refl _ _) ?_
  rintro ⟨ws, i⟩ ⟨hi, hlw, hl, okw⟩
  dsimp only at hi hlw hl okw ⊢
  by_cases hlt : i < ms.length
  rotate_left
  · obtain rfl : i = ms.length := by omega
    repeat' (first | (refine go1 ?_; intros) | (refine goCC ?_ ?_ <;> (intro hb; (try simp only [hSQ] at hb); try (exfalso; omega))) | fail)
    exact ⟨L, sei _ _ _, rfl⟩
  have hiw : i < ws.length := by omega
  have e1 := okw.e1 i hiw
  have hpos := okw.pos i hiw
  have lok := okw.at i hiw
  have hpull := se_tsA_pull ws (ownLs a c ms :: blk g1 24 [.slice a ms.length c] :: L) i hiw
  have hpush : ∀ (zs : List Tx), zs.length = ws[i].xs.length → lnc (ws.set i (Ln.mk ws[i].own ws[i].a ws[i].c zs)) = lnc ws := fun zs hz => by
    show flat Ln.cells (ws.set i (Ln.mk ws[i].own ws[i].a ws[i].c zs)) = flat Ln.cells ws
    rw [← okw.wide.spl (x := Ln.mk ws[i].own ws[i].a ws[i].c zs) (Ln.len (l := Ln.mk ws[i].own ws[i].a ws[i].c zs) lok.own) i hiw]
    have e2 : (Ln.mk ws[i].own ws[i].a ws[i].c zs).cells = ws[i].cells := by
      unfold Ln.cells
      dsimp only
      rw [hz]
    rw [e2, okw.wide.spl (x := ws[i]) (Ln.len lok.own) i hiw, List.set_getElem_self]
  rw [hlw] at e1 hpos hpush
  obtain ⟨l, hle⟩ : ∃ l, l = ws[i] := ⟨_, rfl⟩
  rw [← hle] at e1 lok hpull hpush
  have hlt0 := lok.ts.len
  repeat' (first | (refine go1 ?_; intros) | (refine goCC ?_ ?_ <;> (intro hb; (try simp only [hSQ] at hb); try (exfalso; omega))) | fail)
  refine v_ent (L' := own 50 99 l.a l.xs.length l.c (txc l.xs) :: tsA (ws.eraseIdx i) :: ownLs a c ms :: blk g1 24 [.slice a ms.length c] :: L) ?_ ?_
  · exact (sei w0 _ (tsA ws :: ownLs a c ms :: blk g1 24 [.slice a ms.length c] :: L)).trans (hpull.ent w0)
  refine v_loopF (Nat × List Tx) [1, 2] rfl (fun x => [(3, .int .i64 x.1)]) (fun _ x => own 50 99 l.a l.xs.length l.c (txc x.2) :: tsA (ws.eraseIdx i) :: ownLs a c ms :: blk g1 24 [.slice a ms.length c] :: L) (fun x => x.1 ≤ l.xs.length ∧ x.2.length = l.xs.length ∧ TsOk x.2) (fun x => l.xs.length - x.1) (0, l.xs) ⟨Nat.zero_le _, rfl, lok.ts⟩ (by (repeat' (first | exact Sub.nil _ | refine Sub.cons rfl rfl ?_ | refine Sub.cons rfl ?_ ?_))) (Ent.refl _ _) ?_
  rintro ⟨j, zs⟩ ⟨hj, hzl, hzo⟩
  dsimp only at hj hzl hzo ⊢
  by_cases hlt2 : j < l.xs.length
  rotate_left
  · obtain rfl : j = l.xs.length := by omega
    repeat' (first | (refine go1 ?_; intros) | (refine goCC ?_ ?_ <;> (intro hb; (try simp only [hSQ] at hb); try (exfalso; omega))) | fail)
    have hset := set_perm hiw (Ln.mk l.own l.a l.c zs)
    rw [← List.eraseIdx_eq_take_drop_succ] at hset
    have hsl : (ws.set i (Ln.mk l.own l.a l.c zs)).length = ms.length := by rw [List.length_set, hl]
    refine ⟨rfl, (ws.set i (Ln.mk l.own l.a l.c zs), i + 1), ⟨by dsimp only; omega, hpush zs hzl, hsl, ⟨fun p hp => ?_, by rw [hsl]; exact hlen⟩⟩, by dsimp only; omega, by (repeat' (first | exact Sub.nil _ | refine Sub.cons rfl rfl ?_ | refine Sub.cons rfl ?_ ?_)), ?_⟩
    · rcases List.mem_or_eq_of_mem_set hp with hp | rfl
      · exact okw.ok p hp
      · exact ⟨lok.own, hzo⟩
    · dsimp only
      rw [← hzl]
      exact (sei w0 _ (ownTs l.a l.c zs :: tsA (ws.eraseIdx i) :: blk g1 24 [.slice a ms.length c] :: ownLs a c ms :: L)).trans (((se_tsA_push (ws.eraseIdx i) (ws.set i (Ln.mk l.own l.a l.c zs)) _ (Ln.mk l.own l.a l.c zs) hset).ent w0).trans (sei w0 _ _))
  have hjz : j < zs.length := by omega
  obtain ⟨hz1, hz2⟩ := hzo.zero hjz
  have hzs : (zs.set j { zs[j] with nonce := 0 }).length = l.xs.length := by rw [List.length_set]; exact hzl
  generalize zs.set j { zs[j] with nonce := 0 } = ys at *
  have hbd : j * 99 + 99 ≤ (txc zs).length := hzo.wide.mul j hjz
  have hpz := hzo.pos j hjz
  repeat' (first | (refine go1 ?_; intros) | (refine goCC ?_ ?_ <;> (intro hb; (try simp only [hSQ] at hb); try (exfalso; omega))) | fail)
  rw [hz2]
  exact ⟨rfl, (j + 1, ys), ⟨by dsimp only; omega, hzs, hz1⟩, by dsimp only; omega, by (repeat' (first | exact Sub.nil _ | refine Sub.cons rfl rfl ?_ | refine Sub.cons rfl ?_ ?_)), sei _ _ _⟩
end Go.Proofs.YtcpndfffdbogbaaGreatDoor

/-
  A shard that is drawn (the program's).
-/
import Derived.Test.YtccbcdhpnkbkgaaDoorShdH
import Derived.Test.YtccbcdhpnkbkgaaDoorShdJ
import Derived.Test.YtccbcdhpnkbkgaaDoorGS
import Derived.Test.YtccbcdhpnkbkgaaDoorGP
import Derived.Test.YtccbcdhpnkbkgaaDoorGY
set_option linter.unusedVariables false
set_option linter.unusedSimpArgs false
namespace Go.Proofs.YtccbcdhpnkbkgaaDoor
open Go Go.RowKit
set_option linter.unusedVariables false
set_option linter.unusedSimpArgs false
set_option linter.unusedSectionVars false
open Classical

section
variable {P : Program} {w0 : World} {n : Nat} {ds : List Deferred} {fr : Fr} {L : List Asn} {dst : Option Nat} {ty : TypeId} {pos : String} {after : Array Edge} {gd : Option (Nat × Bool)}
theorem vq_minI {ts : Array TypeId} {x y : Operand} {m k : Int} (hx : evA fr x = some (.int .i64 m)) (hy : evA fr y = some (.int .i64 k)) : VQ P w0 n ⟨dst, .call { callee := .builtin .min, args := #[x, y], argTypes := ts }, ty, pos, after, gd⟩ (.int .i64 (min m k)) ds fr L := vq_val (fun a w hk _ => by
  have e : (if k < m then k else m) = min m k := by split <;> omega
  simp only [← e]
  simp [execOp, resolve, invoke, builtin, hk.ev hx, hk.ev hy, Builtin.min_, Builtin.min2])
theorem vq_maxI {ts : Array TypeId} {x y : Operand} {m k : Int} (hx : evA fr x = some (.int .i64 m)) (hy : evA fr y = some (.int .i64 k)) : VQ P w0 n ⟨dst, .call { callee := .builtin .max, args := #[x, y], argTypes := ts }, ty, pos, after, gd⟩ (.int .i64 (max m k)) ds fr L := vq_val (fun a w hk _ => by
  have e : (if m < k then k else m) = max m k := by split <;> omega
  simp only [← e]
  simp [execOp, resolve, invoke, builtin, hk.ev hx, hk.ev hy, Builtin.max_, Builtin.max2])
end
/-- What is drawn of a shard, by a tree. -/
noncomputable def nonceA (ns : List Nd) (r : Int) (k : List UInt8) : Nat := (accG ns r k).1
theorem nonceA_lt (ns : List Nd) (r : Int) (k : List UInt8) : nonceA ns r k < 18446744073709551616 := by
  unfold nonceA accG
  split
  · exact (inP_lt _ _).1
  · exact (show (0 : Nat) < 18446744073709551616 by decide)
noncomputable def drawQ (cs : List LC) (ns : List Nd) (r : Int) (room : Int) : List LC × List Tx × Int := if MayC cs ∧ StP ns r then ((drawC (nonceA ns r) room cs).1, (drawC (nonceA ns r) room cs).2, 0) else ([], [], 8)
theorem cntC_le20 {cs : List LC} (h : ∀ c ∈ cs, c.2.length ≤ 20) : cntC cs ≤ cs.length * 20 := by
  induction cs with
  | nil => simp [cntC]
  | cons c r ih =>
    have h1 := ih (fun d hd => h d (by simp [hd]))
    have h2 := h c (by simp)
    have h3 : cntC (c :: r) = c.2.length + cntC r := by simp [cntC]
    rw [h3, List.length_cons]
    omega
theorem drawC_len1 (f : List UInt8 → Nat) (room : Int) : ∀ (cs : List LC) (s : List LC × List Tx), (cs.foldl (drawS f room) s).1.length ≤ s.1.length + cs.length
  | [], s => by simp
  | c :: r, s => by
    have h1 := drawC_len1 f room r (drawS f room s c)
    have h2 : (drawS f room s c).1.length ≤ s.1.length + 1 := by
      unfold drawS ownC
      dsimp only
      rw [List.length_append]
      split <;> simp
    rw [List.foldl_cons, List.length_cons]
    omega
theorem drawAt_len (f : List UInt8 → Nat) (room : Int) (cs : List LC) (i : Nat) : (drawAt f room cs i).length ≤ cs.length := by
  have h := drawC_len1 f room (cs.take i) ([], [])
  unfold drawAt
  rw [List.length_append, List.length_drop]
  have h2 : (drawC f room (cs.take i)).1.length ≤ (cs.take i).length := by
    unfold drawC
    simpa using h
  rw [List.length_take] at h2
  omega
set_option maxRecDepth 100000 in
set_option maxHeartbeats 8000000 in
theorem sdraw_vc (w0 : World) (L : List Asn) (a : Option Addr) (c : Nat) (ls : List Ln) (ta : Option Addr) (tc : Nat) (ns : List Nd) (r : Int) (room : Int) {n tn : Nat} (hn : n = ls.length) (htn : tn = ns.length) (h : LsOk ls) (h9 : ls.length ≤ 6) (hx20 : ∀ l ∈ ls, l.xs.length ≤ 20) (hcaps : ∀ l ∈ ls, l.xs.length ≤ l.c) (hok : NsOk ns) (hro : -9223372036854775808 ≤ room ∧ room < 9223372036854775808) [hK : RdA w0 (some ⟨0, 0, none⟩) (wds K64)] [hr : RdC w0 L a (lnc ls)] [hv : RdLs w0 L ls] [hr2 : RdC w0 L ta (ndc ns)] [hv2 : RdNs w0 L ns] :
    VC Tryd.prog w0 29 [.agg #[.slice a n c], .agg #[.slice ta tn tc, .int .i64 r], .int .i64 room] L (RSub (drawQ (lls ls) ns r room) L) := by
  subst hn
  subst htn
  have hlen := h.len
  refine vc_ent ?_
  refine vc_in rfl rfl ?_
  unfold drawQ
  repeat' (first | (refine go1 ?_; intros) | ((first | refine vl_caseG rfl rfl rfl rfl ?_ ?_ | refine v_cond rfl ?_ ?_) <;> (intro hb; (try simp only [hq1, hq2, hq3, hq4, ne_eq, hq5, hq6, hq7, hq8] at hb); try (exfalso; omega))) | fail)
  refine vl_o rfl (vo_call rfl rfl ?_)
  refine vc_mono (scheck_vc w0 _ a c ls rfl h) ?_
  rintro v L' ⟨rfl, rfl⟩
  by_cases hm : mayS ls = true
  rotate_left
  · rw [if_neg hm, if_neg (fun e => hm (mayS_iff.2 e.1))]
    repeat' (first | (refine go1 ?_; intros) | ((first | refine vl_caseG rfl rfl rfl rfl ?_ ?_ | refine v_cond rfl ?_ ?_) <;> (intro hb; (try simp only [hq1, hq2, hq3, hq4, ne_eq, hq5, hq6, hq7, hq8] at hb); try (exfalso; omega))) | fail)
    all_goals first | (exfalso; omega) | exact RSub.bad w0 L 8 (sei _ _ _)
  have hmc := mayS_iff.1 hm
  rw [if_pos hm]
  repeat' (first | (refine go1 ?_; intros) | ((first | refine vl_caseG rfl rfl rfl rfl ?_ ?_ | refine v_cond rfl ?_ ?_) <;> (intro hb; (try simp only [hq1, hq2, hq3, hq4, ne_eq, hq5, hq6, hq7, hq8] at hb); try (exfalso; omega))) | fail)
  all_goals first | (exfalso; omega) | skip
  refine vl_o rfl (vo_call rfl rfl ?_)
  refine vc_mono (acheck_vc w0 _ ta tc ns r rfl hok) ?_
  rintro v L' ⟨rfl, rfl⟩
  by_cases hst : StP ns r
  rotate_left
  · rw [if_neg hst, if_neg (fun e => hst e.2)]
    repeat' (first | (refine go1 ?_; intros) | ((first | refine vl_caseG rfl rfl rfl rfl ?_ ?_ | refine v_cond rfl ?_ ?_) <;> (intro hb; (try simp only [hq1, hq2, hq3, hq4, ne_eq, hq5, hq6, hq7, hq8] at hb); try (exfalso; omega))) | fail)
    all_goals first | (exfalso; omega) | exact RSub.bad w0 L 8 (sei _ _ _)
  rw [if_pos hst, if_pos ⟨hmc, hst⟩]
  repeat' (first | (refine go1 ?_; intros) | ((first | refine vl_caseG rfl rfl rfl rfl ?_ ?_ | refine v_cond rfl ?_ ?_) <;> (intro hb; (try simp only [hq1, hq2, hq3, hq4, ne_eq, hq5, hq6, hq7, hq8] at hb); try (exfalso; omega))) | fail)
  all_goals first | (exfalso; omega) | skip
  refine vl_o rfl (vo_call rfl rfl ?_)
  refine vc_mono (stwin_vc w0 _ a c ls rfl h) ?_
  rintro v L' ⟨a1, c1, ms0, rfl, hms0, rfl⟩
  have hmo0 := h.of_lls hms0
  repeat' (first | (refine go1 ?_; intros) | ((first | refine vl_caseG rfl rfl rfl rfl ?_ ?_ | refine v_cond rfl ?_ ?_) <;> (intro hb; (try simp only [hq1, hq2, hq3, hq4, ne_eq, hq5, hq6, hq7, hq8] at hb); try (exfalso; omega))) | fail)
  rename_i g3 g4 g6 gp
  rw [List.append_nil]
  refine v_loopF (Nat × (Option Addr × Nat × List Ln) × Option Addr × Nat) [2, 4, 6, 8, 9, 33, 34] rfl (fun z => [(35, .int .i64 z.1), (7, .slice z.2.2.1 (drawC (nonceA ns r) room ((lls ls).take z.1)).2.length z.2.2.2)]) (fun _ z => partB gp z.2.1.1 z.2.1.2.1 z.2.1.2.2 :: ownLs z.2.1.1 z.2.1.2.1 z.2.1.2.2 :: tsA z.2.1.2.2 :: ownTs z.2.2.1 z.2.2.2 (drawC (nonceA ns r) room ((lls ls).take z.1)).2 :: blk g6 24 [.slice none 0 0] :: blk g4 53 [.slice ta ns.length tc, .int .i64 r] :: L) (fun z => z.1 ≤ ls.length ∧ lls z.2.1.2.2 = drawAt (nonceA ns r) room (lls ls) z.1 ∧ LsOk z.2.1.2.2) (fun z => ls.length - z.1) (0, (a1, c1, ms0), none, 0) ?_ ?_ ?_ ?_
  · refine ⟨Nat.zero_le _, ?_, hmo0⟩
    dsimp only
    rw [hms0]
    simp [drawAt, drawC]
  · dsimp only
    rw [List.take_zero]
    (repeat' (first | exact Sub.nil _ | refine Sub.cons rfl rfl ?_ | refine Sub.cons rfl ?_ ?_))
  · dsimp only
    rw [List.take_zero]
    exact (sei w0 _ (partB gp a1 c1 ms0 :: ownLs a1 c1 ms0 :: tsA ms0 :: blk g6 24 [.slice none 0 0] :: blk g4 53 [.slice ta ns.length tc, .int .i64 r] :: L)).trans ((SE.cons _ (SE.cons _ (SE.cons _ (se_own_nil 29 99 _)))).ent w0)
  rintro ⟨i, ⟨aM, cM, mm⟩, aD, cD⟩ ⟨hi, hmm, hmo⟩
  dsimp only at hi hmm hmo ⊢
  obtain ⟨D, hD⟩ : ∃ D, D = (drawC (nonceA ns r) room ((lls ls).take i)).2 := ⟨_, rfl⟩
  by_cases hlt : i < ls.length
  rotate_left
  · obtain rfl : i = ls.length := by omega
    have e1 : (lls ls).take ls.length = lls ls := List.take_of_length_le (by rw [List.length_map]; exact Nat.le_refl _)
    have e2 := drawAt_end (nonceA ns r) room (lls ls)
    rw [List.length_map] at e2
    rw [e2] at hmm
    rw [e1]
    repeat' (first | (refine go1 ?_; intros) | ((first | refine vl_caseG rfl rfl rfl rfl ?_ ?_ | refine v_cond rfl ?_ ?_) <;> (intro hb; (try simp only [hq1, hq2, hq3, hq4, ne_eq, hq5, hq6, hq7, hq8] at hb); try (exfalso; omega))) | fail)
    exact ⟨_, sei w0 _ (ownLs aM cM mm :: tsA mm :: ownTs aD cD (drawC (nonceA ns r) room (lls ls)).2 :: L), aM, cM, mm, aD, cD, rfl, hmm, hmo, rfl⟩
  rw [← hD]
  have hi' : i < (lls ls).length := by rwa [List.length_map]
  have hstep := (drawAt_may (f := nonceA ns r) (room := room) hmc h.k2 i (by omega)).2.2 hi'
  have hmmc := (drawAt_may (f := nonceA ns r) (room := room) hmc h.k2 i (by omega)).1
  have hdt := drawC_take (f := nonceA ns r) (room := room) hi'
  have hfew := (drawC_drn (f := nonceA ns r) (room := room) hmc i (by omega)).few
  have hDl := drawC_len (nonceA ns r) room ((lls ls).take i) ([], [])
  have hD20 : cntC ((lls ls).take i) ≤ 120 := by
    have := cntC_le20 (cs := (lls ls).take i) (fun c hc => by
      obtain ⟨l, hl, rfl⟩ := List.mem_map.1 (List.mem_of_mem_take hc)
      exact hx20 l hl)
    rw [List.length_take, List.length_map] at this
    omega
  rw [show ((lls ls).take i).foldl (drawS (nonceA ns r) room) ([], []) = drawC (nonceA ns r) room ((lls ls).take i) from rfl] at hDl
  rw [← hD] at hstep hfew hDl
  rw [← hmm] at hstep hmmc
  have hDl : D.length ≤ 120 := by
    simp only [List.length_nil, Nat.zero_add] at hDl
    omega
  have hgl : GoodL ls[i].own ls[i].xs := hmc.good ls[i].pl (List.mem_map.2 ⟨_, List.getElem_mem hlt, rfl⟩)
  have hlm : ls[i].may = true := goodL_iff.2 hgl
  have e := h.e i hlt
  have hpos := h.pos i hlt
  have lok := h.at i hlt
  have hol := lok.own
  have hcapl := hcaps _ (List.getElem_mem hlt)
  have h20 := hx20 _ (List.getElem_mem hlt)
  haveI := hv.at i hlt
  have hpl : (lls ls)[i]'hi' = ls[i].pl := List.getElem_map ..
  rw [hpl] at hstep hdt
  generalize ls[i] = l at *
  have hll := Ln.len hol
  have hl0 := Ln.f0 hol
  haveI olc : OC l.cells := oc_ln _
  obtain ⟨lc, hlc⟩ : ∃ lc, lc = l.cells := ⟨_, rfl⟩
  rw [← hlc] at hll hl0 olc e
  obtain ⟨K, hK⟩ : ∃ K, K = nonceA ns r l.own := ⟨_, rfl⟩
  have hKlt : K < 18446744073709551616 := by rw [hK]; exact nonceA_lt _ _ _
  repeat' (first | (refine go1 ?_; intros) | ((first | refine vl_caseG rfl rfl rfl rfl ?_ ?_ | refine v_cond rfl ?_ ?_) <;> (intro hb; (try simp only [hq1, hq2, hq3, hq4, ne_eq, hq5, hq6, hq7, hq8] at hb); try (exfalso; omega))) | fail)
  refine vl_o rfl (vo_call rfl rfl ?_)
  refine vc_mono (aget_vc w0 _ ta tc ns r l.own rfl hok hol) ?_
  rintro v L' ⟨rfl, rfl⟩
  rw [show (accG ns r l.own).1 = K from hK.symm]
  generalize (accG ns r l.own).2 = bal at *
  repeat' (first | (refine go1 ?_; intros) | ((first | refine vl_caseG rfl rfl rfl rfl ?_ ?_ | refine v_cond rfl ?_ ?_) <;> (intro hb; (try simp only [hq1, hq2, hq3, hq4, ne_eq, hq5, hq6, hq7, hq8] at hb); try (exfalso; omega))) | fail)
  refine vl_o rfl (vo_call rfl rfl ?_)
  rw [hlc]
  refine vc_mono (qpast_vc w0 _ l lok hcapl K hKlt) ?_
  rw [show pastQ l K = (l.own, hiT l.xs K, loT l.xs K, 0) from if_pos hlm, ← hlc]
  rintro v L' ⟨ah, ch, al, cl, rfl, rfl⟩
  dsimp only
  have hgh := hgl.hi K
  have hrest : (Ln.mk l.own ah ch (hiT l.xs K)).ok := ⟨hol, ⟨fun y hy => lok.ts.ok y (hiT_sub y hy), by have := hgh.len; show (hiT l.xs K).length ≤ 1000000; omega⟩⟩
  have hrm : (Ln.mk l.own ah ch (hiT l.xs K)).may = true := goodL_iff.2 hgh
  have hrl := Ln.len hrest.own
  have hr1 := Ln.f1 hrest.own
  haveI hrc : OC (Ln.mk l.own ah ch (hiT l.xs K)).cells := oc_ln _
  have hrset := fun a c n (xs : List Tx) (hn : n = xs.length) => Ln.setTs (l := Ln.mk l.own ah ch (hiT l.xs K)) hol a c (xs := xs) hn
  obtain ⟨rc, hrcs⟩ : ∃ rc, rc = (Ln.mk l.own ah ch (hiT l.xs K)).cells := ⟨_, rfl⟩
  rw [← hrcs] at hrl hr1 hrc hrset ⊢
  dsimp only at hr1 hrset
  refine vl_know (φ := (hiT l.xs K).length ≤ ch) (fun w hs => (hs.ownLen 1 rfl).2.1) (fun hch => ?_)
  repeat' (first | (refine go1 ?_; intros) | ((first | refine vl_caseG rfl rfl rfl rfl ?_ ?_ | refine v_cond rfl ?_ ?_) <;> (intro hb; (try simp only [hq1, hq2, hq3, hq4, ne_eq, hq5, hq6, hq7, hq8] at hb); try (exfalso; omega))) | fail)
  refine vl_o rfl (vo_call rfl rfl ?_)
  rw [hrcs]
  refine vc_mono (qready_vc w0 _ (Ln.mk l.own ah ch (hiT l.xs K)) hrest hch K hKlt) ?_
  rw [show readyQ (Ln.mk l.own ah ch (hiT l.xs K)) K = (readyT (hiT l.xs K) K, 0) from if_pos hrm, ready_hi, ← hrcs]
  rintro v L' ⟨ar, cr, rfl, rfl⟩
  dsimp only
  have hcut : max 0 (min (((readyT l.xs K).length : Nat) : Int) (room - (D.length : Int))) = ((cutN (readyT l.xs K).length room D.length : Nat) : Int) := by
    unfold cutN
    omega
  have hmle := cutN_le (readyT l.xs K).length room D.length
  have hcutC : cutC (nonceA ns r) room D.length l.pl = cutN (readyT l.xs K).length room D.length := by rw [hK]; rfl
  rw [hcutC] at hstep
  generalize cutN (readyT l.xs K).length room D.length = m at *
  have hrle := ready_len l.xs K
  refine vl_know (φ := (readyT l.xs K).length ≤ cr) (fun w hs => (hs.ownLen 0 rfl).2.1) (fun hcr => ?_)
  repeat' (first | (refine go1 ?_; intros) | ((first | refine vl_caseG rfl rfl rfl rfl ?_ ?_ | refine v_cond rfl ?_ ?_) <;> (intro hb; (try simp only [hq1, hq2, hq3, hq4, ne_eq, hq5, hq6, hq7, hq8] at hb); try (exfalso; omega))) | fail)
  refine vl_q rfl rfl rfl rfl (vq_minI rfl rfl) ?_
  repeat' (first | (refine go1 ?_; intros) | ((first | refine vl_caseG rfl rfl rfl rfl ?_ ?_ | refine v_cond rfl ?_ ?_) <;> (intro hb; (try simp only [hq1, hq2, hq3, hq4, ne_eq, hq5, hq6, hq7, hq8] at hb); try (exfalso; omega))) | fail)
  refine vl_q rfl rfl rfl rfl (vq_maxI rfl rfl) ?_
  rw [hcut]
  repeat' (first | (refine go1 ?_; intros) | ((first | refine vl_caseG rfl rfl rfl rfl ?_ ?_ | refine v_cond rfl ?_ ?_) <;> (intro hb; (try simp only [hq1, hq2, hq3, hq4, ne_eq, hq5, hq6, hq7, hq8] at hb); try (exfalso; omega))) | fail)
  rename_i g11 g12 g14
  have hRo : TsOk (readyT l.xs K) := ⟨fun y hy => lok.ts.ok y (hiT_sub y (runT_sub y hy)), by omega⟩
  have hRtake := ready_take l.xs K m hmle
  have hRm : ((readyT l.xs K).take m).length = m := by rw [List.length_take, Nat.min_eq_left hmle]
  have hmh : m ≤ (hiT l.xs K).length := by
    have := congrArg List.length hRtake
    rw [hRm, List.length_take] at this
    omega
  have hRT : TsOk ((readyT l.xs K).take m) := ⟨fun y hy => hRo.ok y (List.mem_of_mem_take hy), by rw [hRm]; omega⟩
  have hrt : ∀ M [RdC w0 M ar (txc (readyT l.xs K))], RdC w0 M ar (txc ((readyT l.xs K).take m)) := fun M _ => rdF_take hRo.wide m
  have hnl : (txc ((readyT l.xs K).take m)).length = m * 99 := by rw [hRT.wide.len, hRm]
  have hra : ∀ M, RdC w0 (ownTs ar cr (readyT l.xs K) :: M) ar (txc (readyT l.xs K)) := fun M => rdC_own w0 _ ar 0 29 99 (readyT l.xs K).length cr (txc (readyT l.xs K))
  rw [subA_0, Nat.sub_zero, Nat.sub_zero]
  refine vl_o rfl ?_
  refine vo_append (hr := @hrt _ (hra _)) rfl rfl hnl (by omega) (by omega) rfl ?_
  intro aE cE _ hcE
  have hDE : (drawC (nonceA ns r) room ((lls ls).take (i + 1))).2 = D ++ (readyT l.xs K).take m := by
    rw [hdt]
    unfold drawS
    dsimp only
    rw [← hD, hcutC, hK]
    rfl
  have hownE : own 29 99 aE (D.length + m) cE (txc D ++ txc ((readyT l.xs K).take m)) = ownTs aE cE (D ++ (readyT l.xs K).take m) := by
    unfold ownTs
    rw [flat_append, List.length_append, hRm]
  have hdl : ((hiT l.xs K).drop m).length = (hiT l.xs K).length - m := List.length_drop
  have hset2 := hrset (subA ah m ch 99) (ch - m) ((hiT l.xs K).length - m) ((hiT l.xs K).drop m) hdl.symm
  repeat' (first | (refine go1 ?_; intros) | ((first | refine vl_caseG rfl rfl rfl rfl ?_ ?_ | refine v_cond rfl ?_ ?_) <;> (intro hb; (try simp only [hq1, hq2, hq3, hq4, ne_eq, hq5, hq6, hq7, hq8] at hb); try (exfalso; omega))) | fail)
  rw [hset2]
  have hvo : (Ln.mk l.own (subA ah m ch 99) (ch - m) ((hiT l.xs K).drop m)).ok := ⟨hol, ⟨fun y hy => hrest.ts.ok y (List.mem_of_mem_drop hy), by have := hgh.len; show ((hiT l.xs K).drop m).length ≤ 1000000; omega⟩⟩
  have hvl := Ln.len hvo.own
  haveI hvc : OC (Ln.mk l.own (subA ah m ch 99) (ch - m) ((hiT l.xs K).drop m)).cells := oc_ln _
  obtain ⟨vc, hvcs⟩ : ∃ vc, vc = (Ln.mk l.own (subA ah m ch 99) (ch - m) ((hiT l.xs K).drop m)).cells := ⟨_, rfl⟩
  rw [← hvcs] at hvl hvc ⊢
  repeat' (first | (refine go1 ?_; intros) | ((first | refine vl_caseG rfl rfl rfl rfl ?_ ?_ | refine v_cond rfl ?_ ?_) <;> (intro hb; (try simp only [hq1, hq2, hq3, hq4, ne_eq, hq5, hq6, hq7, hq8] at hb); try (exfalso; omega))) | fail)
  refine vl_o rfl (vo_call rfl rfl ?_)
  refine vc_pre (L2 := partB gp aM cM mm :: ownLs aM cM mm :: ownTs (subA ah m ch 99) (ch - m) ((hiT l.xs K).drop m) :: tsA (offL mm l.own) :: ownTs aE cE (D ++ (readyT l.xs K).take m) :: blk g6 24 [.slice none 0 0] :: blk g4 53 [.slice ta ns.length tc, .int .i64 r] :: L) ?_ ?_
  · rw [hownE]
    refine (sei w0 _ (ownTs ah ch (hiT l.xs K) :: tsA mm :: partB gp aM cM mm :: ownLs aM cM mm :: ownTs aE cE (D ++ (readyT l.xs K).take m) :: blk g6 24 [.slice none 0 0] :: blk g4 53 [.slice ta ns.length tc, .int .i64 r] :: L)).trans (((se_head _ (P' := ownTs (subA ah m ch 99) (ch - m) ((hiT l.xs K).drop m)) (fun u F hF => ?_)).ent w0).trans (((SE.cons _ (se_tsA_off mm l.own _)).ent w0).trans (sei w0 _ _)))
    have := own_drop m hmh u F hF
    unfold ownTs
    rw [hdl]
    rwa [hrest.ts.wide.drop] at this
  rw [hvcs]
  have hmo5 : mm.length ≤ 999999 := by
    have e1 := congrArg List.length hmm
    have e2 := drawAt_len (nonceA ns r) room (lls ls) i
    rw [List.length_map] at e1 e2
    omega
  refine vc_mono (sset_vc w0 _ gp aM cM mm (Ln.mk l.own (subA ah m ch 99) (ch - m) ((hiT l.xs K).drop m)) hmo hmmc.srt hvo hmo5) ?_
  rintro v L' ⟨a5, c5, m5, hm5, ho5, rfl⟩
  have hm5 : lls m5 = setC (lls mm) l.own ((hiT l.xs K).drop m) := hm5
  unfold shP
  repeat' (first | (refine go1 ?_; intros) | ((first | refine vl_caseG rfl rfl rfl rfl ?_ ?_ | refine v_cond rfl ?_ ?_) <;> (intro hb; (try simp only [hq1, hq2, hq3, hq4, ne_eq, hq5, hq6, hq7, hq8] at hb); try (exfalso; omega))) | fail)
  refine ⟨rfl, (i + 1, (a5, c5, m5), aE, cE), ⟨by dsimp only; omega, ?_, ho5⟩, by dsimp only; omega, ?_, ?_⟩
  · dsimp only
    rw [hm5, hstep, hK]
    rfl
  · dsimp only
    rw [hDE, List.length_append, hRm]
    (repeat' (first | exact Sub.nil _ | refine Sub.cons rfl rfl ?_ | refine Sub.cons rfl ?_ ?_))
  · dsimp only
    rw [hDE]
    exact sei _ _ _
end Go.Proofs.YtccbcdhpnkbkgaaDoor

/-
  A request's parts are read.
-/
import Derived.Test.YtcpcbgfnglnkcaaDoorWirE
set_option linter.unusedVariables false
set_option linter.unusedSimpArgs false
set_option linter.unusedSectionVars false

namespace Go.Proofs.YtcpcbgfnglnkcaaDoor
open Go Go.RowKit
open Classical

theorem foldP_snoc (ps : List Pt) (p : Pt) (s : RS) : foldP (ps ++ [p]) s = p.step (foldP ps s) := by
  unfold foldP
  rw [List.foldl_append]
  rfl
theorem foldP_take {ps : List Pt} {i : Nat} (hi : i < ps.length) (s : RS) : foldP (ps.take (i + 1)) s = (ps[i]).step (foldP (ps.take i) s) := by
  rw [List.take_succ_eq_append_getElem hi, foldP_snoc]
theorem foldP_ok (ps : List Pt) {s : RS} (h : s.a.ok) : (foldP ps s).a.ok := by
  induction ps generalizing s with
  | nil => exact h
  | cons p ps ih => exact ih (p.step_ok h)
theorem dropX_le (n : Nat) (r : List UInt8) : (dropX n r).length ≤ r.length := by
  unfold dropX
  split
  · simp
  · simp
theorem step_le (p : Pt) (s : RS) : (p.step s).r.length ≤ s.r.length := by
  cases p <;> exact dropX_le _ _
theorem foldP_le (ps : List Pt) (s : RS) : (foldP ps s).r.length ≤ s.r.length := by
  induction ps generalizing s with
  | nil => exact Nat.le_refl _
  | cons p ps ih => exact Nat.le_trans (ih (p.step s)) (step_le p s)
abbrev rsM (gr : Nat) (ar : Option Addr) (cr : Nat) (s : RS) (ap : Option Addr) (cp g gp : Nat) (ps : List Pt) (L : List Asn) : List Asn := blk gr 66 [.slice ar s.r.length cr, .bool s.bad] :: ownPt ap cp g gp ps :: askM gp g s.a L
section
variable {P : Program} {w0 : World} {n : Nat} {ds : List Deferred} {fr : Fr} {L : List Asn} {dst : Option Nat} {ty : TypeId} {pos : String} {after : Array Edge} {gd : Option (Nat × Bool)}
theorem vq_minU {ts : Array TypeId} {x y : Operand} {m k : Nat} (hx : evA fr x = some (.int .u64 m)) (hy : evA fr y = some (.int .u64 k)) : VQ P w0 n ⟨dst, .call { callee := .builtin .min, args := #[x, y], argTypes := ts }, ty, pos, after, gd⟩ (.int .u64 ((min m k : Nat) : Int)) ds fr L := vq_val (fun a w hk _ => by
  have e : (if (k : Int) < (m : Int) then (k : Int) else (m : Int)) = ((min m k : Nat) : Int) := by split <;> omega
  simp only [← e]
  simp [execOp, resolve, invoke, builtin, hk.ev hx, hk.ev hy, Builtin.min_, Builtin.min2])
end
set_option maxRecDepth 100000 in
set_option maxHeartbeats 4000000 in
theorem wparts_vc (w0 : World) (L : List Asn) [hK : RdA w0 (some ⟨1, 0, none⟩) (wds K64)] (gr : Nat) (ar : Option Addr) (cr : Nat) (s : RS) (ap : Option Addr) (cp g gp : Nat) (ps : List Pt) (h : s.a.ok) (hc : s.r.length ≤ cr) (hl : s.r.length ≤ 1000000) (hpl : ps.length ≤ 10) [hr : RdC w0 L ar (bvs s.r)] :
    VC Tryd.prog w0 18 [.pointer (some ⟨gr, 0, none⟩), .slice ap ps.length cp] (rsM gr ar cr s ap cp g gp ps L) fun v L' => ∃ ar' cr', L' = rsM gr ar' cr' (foldP ps s) ap cp g gp ps L := by
  refine vc_ent ?_
  refine vc_in rfl rfl ?_
  unfold rsM askM
  repeat' (first | (refine go1 ?_; intros) | (refine goCC ?_ ?_ <;> (intro hb; (try simp only [hSQ] at hb); try (exfalso; omega))) | fail)
  refine v_loopF {x : Nat × Option Addr × Nat // RdC w0 L x.2.1 (bvs (foldP (ps.take x.1) s).r) ∧ x.1 ≤ ps.length ∧ (foldP (ps.take x.1) s).r.length ≤ x.2.2} [0, 4, 18, 19] rfl (fun x => [(20, .int .i64 x.1.1)]) (fun _ x => rsM gr x.1.2.1 x.1.2.2 (foldP (ps.take x.1.1) s) ap cp g gp ps L) (fun x => True) (fun x => ps.length - x.1.1) ⟨(0, ar, cr), hr, Nat.zero_le _, hc⟩ trivial (by (exact sbS)) (Ent.refl _ _) ?_
  rintro ⟨⟨i, ar, cr⟩, hrd, hi, hcr⟩ -
  dsimp only at hrd hi hcr ⊢
  by_cases hlt : i < ps.length
  rotate_left
  · obtain rfl : i = ps.length := by omega
    rw [List.take_length]
    unfold rsM askM
    repeat' (first | (refine go1 ?_; intros) | (refine goCC ?_ ?_ <;> (intro hb; (try simp only [hSQ] at hb); try (exfalso; omega))) | fail)
    exact ⟨_, Ent.refl _ _, ar, cr, rfl⟩
  have hst := foldP_take hlt s
  have hok := foldP_ok (ps.take i) h
  have hle := foldP_le (ps.take i) s
  have hv : (ps.map (Pt.val g gp))[i]? = some (Pt.val g gp ps[i]) := by simp [hlt]
  have hvp : 0 < (ps.map (Pt.val g gp)).length := by simp; omega
  haveI := hrd
  generalize foldP (ps.take i) s = S at *
  have hlenR : S.r.length ≤ 1000000 := by omega
  have hokS := (ps[i]).step_ok hok
  have hcl := Ask.len hok
  generalize hp : ps[i] = p at *
  have hsp : ∀ (u v x : Value), splice [u, v] (0 + 1) [x] = [u, x] := fun _ _ _ => rfl
  unfold rsM askM ownPt
  cases p with
  | h =>
    rw [show Pt.val g gp Pt.h = .iface 70 (.agg #[.pointer (some ⟨g, 0 + 132, none⟩), .int .i64 8, .int .i64 1073741824]) from rfl] at hv
    generalize (ps.map (Pt.val g gp)) = vals at *
    have hset := fun N => Ask.set3 hok N
    have htl := takeX_len 8 S.r
    repeat' (first | (refine go1 ?_; intros) | (refine goCC ?_ ?_ <;> (intro hb; (try simp only [hSQ] at hb); try (exfalso; omega))) | fail)
    refine vl_q rfl rfl rfl rfl (vq_asT rfl) ?_
    repeat' (first | (refine go1 ?_; intros) | (refine goCC ?_ ?_ <;> (intro hb; (try simp only [hSQ] at hb); try (exfalso; omega))) | fail)
    (refine v_drawX [] 1 (by kernel_rfl) ?_ <;> (refine tA 0 ?_) <;> (refine tA 1 ?_) <;> (refine tA 2 ?_) <;> (refine tA 4 ?_) <;> (refine tA 5 ?_))
    refine va_one 3 (by kernel_rfl) rfl rfl (vo_callM rfl rfl rfl ?_)
    refine vc_pre ((se_swap _ _ _).ent w0) ?_
    refine vc_mono (wtake_vc w0 _ L inferInstance gr ar cr S.r S.bad 8 (by decide) (by decide) hcr hlenR hrd) ?_
    rintro v L' ⟨a2, c2, az, cz, Z, ar2, cr2, rfl, q1, q2, hX, hR2, rfl⟩
    haveI hXI : ∀ M [k : SEI M (ownB az cz Z :: L)], RdC w0 M a2 (bvs (takeX 8 S.r)) := fun M k => rdC_sei hX k
    refine ⟨.inr entD, ?_⟩
    skip
    first | refine va_one 6 (by kernel_rfl) rfl rfl (vo_call rfl rfl ?_) | refine va_one 6 (by kernel_rfl) rfl rfl (vo_callV rfl rfl rfl ?_)
    refine vc_mono (take_vc w0 _ a2 c2 (takeX 8 S.r) 8 (by omega) (by decide) (by decide) (by omega) (by omega) (by omega)) ?_
    rintro v L' ⟨a3, c3, q3, rfl, rfl⟩
    refine ⟨.inr entD, ?_⟩
    ((refine tA 7 ?_) <;> (refine tA 8 ?_) <;> (refine tA 9 ?_) <;> (refine tA 10 ?_) <;> (refine tA 11 ?_) <;> (refine tA 12 ?_) <;> (refine tA 13 ?_) <;> (refine va_done (by kernel_rfl) ?_))
    rw [List.take_of_length_le (show (takeX 8 S.r).length ≤ 8 by omega)]
    have hnl := numOf_lt (takeX 8 S.r)
    have eS : Pt.h.step S = ⟨dropX 8 S.r, S.bad || decide (S.r.length < 8) || decide (1073741824 < numOf (takeX 8 S.r)), { S.a with height := (min (numOf (takeX 8 S.r)) 1073741824 : Nat) }⟩ := rfl
    generalize numOf (takeX 8 S.r) = N at *
    have hset := hset ((min N 1073741824 : Nat) : Int)
    cases hbd : (S.bad || decide (S.r.length < 8))
    · repeat' (first | (refine go1 ?_; intros) | (refine goCC ?_ ?_ <;> (intro hb; (try simp only [hSQ] at hb); try (exfalso; omega))) | fail)
      refine vl_q rfl rfl rfl rfl (vq_minU (k := 1073741824) rfl rfl) ?_
      repeat' (first | (refine go1 ?_; intros) | (refine goCC ?_ ?_ <;> (intro hb; (try simp only [hSQ] at hb); try (exfalso; omega))) | fail)
      refine ⟨rfl, ⟨(i + 1, ar2, cr2), by rw [hst, eS]; exact hR2, by omega, by rw [hst, eS]; exact q2⟩, trivial, by dsimp only; omega, by (exact sbS), ?_⟩
      dsimp only
      rw [hst, eS]
      dsimp only
      rw [hsp, hset, hbd, Bool.false_or, show decide (1073741824 < N) = decide (((1073741824 : Nat) : Int) < (N : Int)) from decide_eq_decide.2 (by omega)]
      exact sei _ _ _
    · repeat' (first | (refine go1 ?_; intros) | (refine goCC ?_ ?_ <;> (intro hb; (try simp only [hSQ] at hb); try (exfalso; omega))) | fail)
      refine vl_q rfl rfl rfl rfl (vq_minU (k := 1073741824) rfl rfl) ?_
      repeat' (first | (refine go1 ?_; intros) | (refine goCC ?_ ?_ <;> (intro hb; (try simp only [hSQ] at hb); try (exfalso; omega))) | fail)
      refine ⟨rfl, ⟨(i + 1, ar2, cr2), by rw [hst, eS]; exact hR2, by omega, by rw [hst, eS]; exact q2⟩, trivial, by dsimp only; omega, by (exact sbS), ?_⟩
      dsimp only
      rw [hst, eS]
      dsimp only
      rw [hsp, hset, hbd, Bool.true_or]
      exact sei _ _ _
  | s =>
    rw [show Pt.val g gp Pt.s = .iface 70 (.agg #[.pointer (some ⟨g, 0 + 133, none⟩), .int .i64 4, .int .i64 1073741823]) from rfl] at hv
    generalize (ps.map (Pt.val g gp)) = vals at *
    have hset := fun N => Ask.set4 hok N
    have htl := takeX_len 4 S.r
    repeat' (first | (refine go1 ?_; intros) | (refine goCC ?_ ?_ <;> (intro hb; (try simp only [hSQ] at hb); try (exfalso; omega))) | fail)
    refine vl_q rfl rfl rfl rfl (vq_asT rfl) ?_
    repeat' (first | (refine go1 ?_; intros) | (refine goCC ?_ ?_ <;> (intro hb; (try simp only [hSQ] at hb); try (exfalso; omega))) | fail)
    (refine v_drawX [] 1 (by kernel_rfl) ?_ <;> (refine tA 0 ?_) <;> (refine tA 1 ?_) <;> (refine tA 2 ?_) <;> (refine tA 4 ?_) <;> (refine tA 5 ?_))
    refine va_one 3 (by kernel_rfl) rfl rfl (vo_callM rfl rfl rfl ?_)
    refine vc_pre ((se_swap _ _ _).ent w0) ?_
    refine vc_mono (wtake_vc w0 _ L inferInstance gr ar cr S.r S.bad 4 (by decide) (by decide) hcr hlenR hrd) ?_
    rintro v L' ⟨a2, c2, az, cz, Z, ar2, cr2, rfl, q1, q2, hX, hR2, rfl⟩
    haveI hXI : ∀ M [k : SEI M (ownB az cz Z :: L)], RdC w0 M a2 (bvs (takeX 4 S.r)) := fun M k => rdC_sei hX k
    refine ⟨.inr entD, ?_⟩
    skip
    first | refine va_one 6 (by kernel_rfl) rfl rfl (vo_call rfl rfl ?_) | refine va_one 6 (by kernel_rfl) rfl rfl (vo_callV rfl rfl rfl ?_)
    refine vc_mono (take_vc w0 _ a2 c2 (takeX 4 S.r) 4 (by omega) (by decide) (by decide) (by omega) (by omega) (by omega)) ?_
    rintro v L' ⟨a3, c3, q3, rfl, rfl⟩
    refine ⟨.inr entD, ?_⟩
    ((refine tA 7 ?_) <;> (refine tA 8 ?_) <;> (refine tA 9 ?_) <;> (refine tA 10 ?_) <;> (refine tA 11 ?_) <;> (refine tA 12 ?_) <;> (refine tA 13 ?_) <;> (refine va_done (by kernel_rfl) ?_))
    rw [List.take_of_length_le (show (takeX 4 S.r).length ≤ 4 by omega)]
    have hnl := numOf_lt (takeX 4 S.r)
    have eS : Pt.s.step S = ⟨dropX 4 S.r, S.bad || decide (S.r.length < 4) || decide (1073741823 < numOf (takeX 4 S.r)), { S.a with sub := (min (numOf (takeX 4 S.r)) 1073741823 : Nat) }⟩ := rfl
    generalize numOf (takeX 4 S.r) = N at *
    have hset := hset ((min N 1073741823 : Nat) : Int)
    cases hbd : (S.bad || decide (S.r.length < 4))
    · repeat' (first | (refine go1 ?_; intros) | (refine goCC ?_ ?_ <;> (intro hb; (try simp only [hSQ] at hb); try (exfalso; omega))) | fail)
      refine vl_q rfl rfl rfl rfl (vq_minU (k := 1073741823) rfl rfl) ?_
      repeat' (first | (refine go1 ?_; intros) | (refine goCC ?_ ?_ <;> (intro hb; (try simp only [hSQ] at hb); try (exfalso; omega))) | fail)
      refine ⟨rfl, ⟨(i + 1, ar2, cr2), by rw [hst, eS]; exact hR2, by omega, by rw [hst, eS]; exact q2⟩, trivial, by dsimp only; omega, by (exact sbS), ?_⟩
      dsimp only
      rw [hst, eS]
      dsimp only
      rw [hsp, hset, hbd, Bool.false_or, show decide (1073741823 < N) = decide (((1073741823 : Nat) : Int) < (N : Int)) from decide_eq_decide.2 (by omega)]
      exact sei _ _ _
    · repeat' (first | (refine go1 ?_; intros) | (refine goCC ?_ ?_ <;> (intro hb; (try simp only [hSQ] at hb); try (exfalso; omega))) | fail)
      refine vl_q rfl rfl rfl rfl (vq_minU (k := 1073741823) rfl rfl) ?_
      repeat' (first | (refine go1 ?_; intros) | (refine goCC ?_ ?_ <;> (intro hb; (try simp only [hSQ] at hb); try (exfalso; omega))) | fail)
      refine ⟨rfl, ⟨(i + 1, ar2, cr2), by rw [hst, eS]; exact hR2, by omega, by rw [hst, eS]; exact q2⟩, trivial, by dsimp only; omega, by (exact sbS), ?_⟩
      dsimp only
      rw [hst, eS]
      dsimp only
      rw [hsp, hset, hbd, Bool.true_or]
      exact sei _ _ _
  | d =>
    rw [show Pt.val g gp Pt.d = .iface 85 (.agg #[.pointer (some ⟨g, 0 + 100, none⟩)]) from rfl] at hv
    generalize (ps.map (Pt.val g gp)) = vals at *
    have htl := takeX_len 32 S.r
    have hset := Ask.set2 hok (takeX 32 S.r) htl
    have eS : Pt.d.step S = ⟨dropX 32 S.r, S.bad || decide (S.r.length < 32), { S.a with key := takeX 32 S.r }⟩ := rfl
    repeat' (first | (refine go1 ?_; intros) | (refine goCC ?_ ?_ <;> (intro hb; (try simp only [hSQ] at hb); try (exfalso; omega))) | fail)
    refine vl_q rfl rfl rfl rfl (vq_asF rfl (by decide)) ?_
    repeat' (first | (refine go1 ?_; intros) | (refine goCC ?_ ?_ <;> (intro hb; (try simp only [hSQ] at hb); try (exfalso; omega))) | fail)
    refine vl_q rfl rfl rfl rfl (vq_asT rfl) ?_
    repeat' (first | (refine go1 ?_; intros) | (refine goCC ?_ ?_ <;> (intro hb; (try simp only [hSQ] at hb); try (exfalso; omega))) | fail)
    (refine v_drawX [6] 1 (by kernel_rfl) ?_ <;> (refine tA 0 ?_) <;> (refine tA 1 ?_) <;> (refine tA 2 ?_) <;> (refine tA 3 ?_) <;> (refine tA 4 ?_))
    refine va_one 5 (by kernel_rfl) rfl rfl (vo_callM rfl rfl rfl ?_)
    refine vc_pre ((se_swap _ _ _).ent w0) ?_
    refine vc_mono (wtake_vc w0 _ L inferInstance gr ar cr S.r S.bad 32 (by decide) (by decide) hcr hlenR hrd) ?_
    rintro v L' ⟨a2, c2, az, cz, Z, ar2, cr2, rfl, q1, q2, hX, hR2, rfl⟩
    haveI hXI : ∀ M [k : SEI M (ownB az cz Z :: L)], RdC w0 M a2 (bvs (takeX 32 S.r)) := fun M k => rdC_sei hX k
    refine ⟨.inr entD, ?_⟩
    refine va_one 6 (by kernel_rfl) rfl rfl (vo_copyB (xs := takeX 32 S.r) (ys := takeX 32 S.r) rfl rfl rfl (List.take_of_length_le (by simp [htl])) (by simp [htl]) hset (by simp [htl, hcl]) ?_)
    refine ⟨.inl (by kernel_rfl), ?_⟩
    refine va_done (by kernel_rfl) ?_
    repeat' (first | (refine go1 ?_; intros) | (refine goCC ?_ ?_ <;> (intro hb; (try simp only [hSQ] at hb); try (exfalso; omega))) | fail)
    refine ⟨rfl, ⟨(i + 1, ar2, cr2), by rw [hst, eS]; exact hR2, by omega, by rw [hst, eS]; exact q2⟩, trivial, by dsimp only; omega, by (exact sbS), ?_⟩
    dsimp only
    rw [hst, eS]
    exact sei _ _ _
  | t =>
    rw [show Pt.val g gp Pt.t = .iface 92 (.agg #[.func (.func 51) #[] #[.pointer (some ⟨gp, 0, none⟩)], .func (.func 49) #[] #[.pointer (some ⟨gp, 0, none⟩)], .int .i64 120]) from rfl] at hv
    generalize (ps.map (Pt.val g gp)) = vals at *
    have htl := takeX_len 120 S.r
    have eS : Pt.t.step S = ⟨dropX 120 S.r, S.bad || decide (S.r.length < 120) || !decide ((txRead (takeX 120 S.r)).2 = 0), rdT S⟩ := rfl
    repeat' (first | (refine go1 ?_; intros) | (refine goCC ?_ ?_ <;> (intro hb; (try simp only [hSQ] at hb); try (exfalso; omega))) | fail)
    refine vl_q rfl rfl rfl rfl (vq_asF rfl (by decide)) ?_
    repeat' (first | (refine go1 ?_; intros) | (refine goCC ?_ ?_ <;> (intro hb; (try simp only [hSQ] at hb); try (exfalso; omega))) | fail)
    refine vl_q rfl rfl rfl rfl (vq_asF rfl (by decide)) ?_
    repeat' (first | (refine go1 ?_; intros) | (refine goCC ?_ ?_ <;> (intro hb; (try simp only [hSQ] at hb); try (exfalso; omega))) | fail)
    refine vl_q rfl rfl rfl rfl (vq_asF rfl (by decide)) ?_
    repeat' (first | (refine go1 ?_; intros) | (refine goCC ?_ ?_ <;> (intro hb; (try simp only [hSQ] at hb); try (exfalso; omega))) | fail)
    refine vl_q rfl rfl rfl rfl (vq_asT rfl) ?_
    repeat' (first | (refine go1 ?_; intros) | (refine goCC ?_ ?_ <;> (intro hb; (try simp only [hSQ] at hb); try (exfalso; omega))) | fail)
    refine vl_o rfl (vo_callM rfl rfl rfl ?_)
    refine vc_pre ((se_swap _ _ _).ent w0) ?_
    refine vc_mono (wtake_vc w0 _ L inferInstance gr ar cr S.r S.bad 120 (by decide) (by decide) hcr hlenR hrd) ?_
    rintro v L' ⟨a2, c2, az, cz, Z, ar2, cr2, rfl, q1, q2, hX, hR2, rfl⟩
    haveI hXI : ∀ M [k : SEI M (ownB az cz Z :: L)], RdC w0 M a2 (bvs (takeX 120 S.r)) := fun M k => rdC_sei hX k
    cases hbd : (S.bad || decide (S.r.length < 120))
    · repeat' (first | (refine go1 ?_; intros) | (refine goCC ?_ ?_ <;> (intro hb; (try simp only [hSQ] at hb); try (exfalso; omega))) | fail)
      refine clV ?_
      refine vc_mono (txread_vc w0 _ a2 c2 (takeX 120 S.r) htl.symm (by omega) (by omega)) ?_
      rintro v L' ⟨rfl, rfl⟩
      have hxo := txRead_ok (takeX 120 S.r)
      have hxl := Tx.len hxo
      have hset := Ask.set1 hok (txRead (takeX 120 S.r)).1 hxo
      have eT : rdT S = { S.a with tx := (txRead (takeX 120 S.r)).1 } := by unfold rdT; rw [if_neg (by rw [hbd]; decide)]
      rw [eT] at eS
      generalize (txRead (takeX 120 S.r)).1 = x at *
      generalize (txRead (takeX 120 S.r)).2 = E at *
      repeat' (first | (refine go1 ?_; intros) | (refine goCC ?_ ?_ <;> (intro hb; (try simp only [hSQ] at hb); try (exfalso; omega))) | fail)
      refine vl_o rfl (vo_stB rfl rfl rfl hxl (by omega) hset ?_)
      repeat' (first | (refine go1 ?_; intros) | (refine goCC ?_ ?_ <;> (intro hb; (try simp only [hSQ] at hb); try (exfalso; omega))) | fail)
      refine ⟨rfl, ⟨(i + 1, ar2, cr2), by rw [hst, eS]; exact hR2, by omega, by rw [hst, eS]; exact q2⟩, trivial, by dsimp only; omega, by (exact sbS), ?_⟩
      dsimp only
      rw [hst, eS]
      dsimp only
      rw [hsp, hbd, Bool.false_or]
      exact sei _ _ _
    · have eT : rdT S = S.a := by unfold rdT; rw [if_pos hbd]
      rw [eT] at eS
      repeat' (first | (refine go1 ?_; intros) | (refine goCC ?_ ?_ <;> (intro hb; (try simp only [hSQ] at hb); try (exfalso; omega))) | fail)
      refine ⟨rfl, ⟨(i + 1, ar2, cr2), by rw [hst, eS]; exact hR2, by omega, by rw [hst, eS]; exact q2⟩, trivial, by dsimp only; omega, by (exact sbS), ?_⟩
      dsimp only
      rw [hst, eS]
      dsimp only
      rw [hsp, hbd, Bool.true_or]
      exact sei _ _ _
end Go.Proofs.YtcpcbgfnglnkcaaDoor

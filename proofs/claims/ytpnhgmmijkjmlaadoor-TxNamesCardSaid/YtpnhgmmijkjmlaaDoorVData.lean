/-
  Contracts of the small functions, in the logic without worlds; lists of slices of bytes.
-/
import Derived.Test.YtpnhgmmijkjmlaaDoorVTypes
import Derived.Test.YtpnhgmmijkjmlaaDoorVAny
import Derived.Test.YtpnhgmmijkjmlaaDoorNumB
namespace Go.Proofs.YtpnhgmmijkjmlaaDoor
open Go Go.RowKit

/-- A slice of bytes: where it lies, its capacity, its bytes. -/
structure PB where
  a : Option Addr
  cap : Nat
  l : List UInt8
instance : Inhabited PB := ⟨⟨none, 0, []⟩⟩
def PB.v (p : PB) : Value := .slice p.a p.l.length p.cap
def pbs (ps : List PB) : List Value := ps.map PB.v
@[simp] theorem pbs_length (ps : List PB) : (pbs ps).length = ps.length := by simp [pbs]
theorem pbs_get (ps : List PB) (k : Nat) (h : k < ps.length) : (pbs ps)[k]? = some (.slice (ps[k]).a (ps[k]).l.length (ps[k]).cap) := by simp [pbs, PB.v, h]
theorem pbs_one (ps : List PB) : ∀ u ∈ pbs ps, u.oneCell' = true := by
  intro u hu
  obtain ⟨c, _, rfl⟩ := List.mem_map.1 hu
  rfl
instance oc_pbs (ps : List PB) : OC (pbs ps) := ⟨pbs_one ps⟩
/-- Each one can be read. -/
class RdPs (w0 : World) (L : List Asn) (ps : List PB) : Prop where
  out : ∀ p ∈ ps, RdC w0 L p.a (bvs p.l)
instance (priority := 50) rdPs_cons (w0 : World) (A : Asn) (L : List Asn) (ps : List PB) [h : RdPs w0 L ps] : RdPs w0 (A :: L) ps := ⟨fun p hp => by
  haveI := h.out p hp
  infer_instance⟩
theorem RdPs.at {w0 : World} {L : List Asn} {ps : List PB} (h : RdPs w0 L ps) (k : Nat) (hk : k < ps.length) : RdC w0 L (ps[k]).a (bvs (ps[k]).l) := h.out _ (List.getElem_mem hk)
theorem bvs_at (l : List UInt8) (k : Nat) (h : k < l.length) : (bvs l)[k]? = some (.int .u8 (l[k]).toNat) := by simp [bvs, bv, h]

theorem rd_cut {w0 : World} {L : List Asn} {a : Option Addr} {l : List UInt8} [h : RdC w0 L a (bvs l)] (lo hi m : Nat) (hm : hi ≤ m) : RdC w0 L (subA a lo m 1) (bvs ((l.take hi).drop lo)) := ⟨fun w hs => (h.out w hs).cut lo hi m hm⟩
theorem rd_drop {w0 : World} {L : List Asn} {a : Option Addr} {l : List UInt8} [h : RdC w0 L a (bvs l)] (lo m : Nat) (hm : l.length ≤ m) : RdC w0 L (subA a lo m 1) (bvs (l.drop lo)) := ⟨fun w hs => (h.out w hs).cutTo lo m hm⟩

section
variable (w0 : World) (L : List Asn)
theorem twin_vc (a : Option Addr) (cap : Nat) (l : List UInt8) {n : Nat} (hn : n = l.length) (hl : l.length ≤ 1000000000000) [hr : RdC w0 L a (bvs l)] :
    VC Tryd.prog w0 25 [.slice a n cap] L fun v L' => ∃ a' cap', l.length ≤ cap' ∧ v = .slice a' l.length cap' ∧ L' = ownB a' cap' l :: L := by
  subst hn
  refine vc_in rfl rfl ?_
  repeat' (first | (refine vl_id ?_; first | refine vl_nil ?_ | refine vl_q rfl rfl rfl rfl (by (first | exact vq_move rfl | exact vq_assign rfl | (apply vq_isBin; first | exact vq_lt rfl rfl | exact vq_eq rfl rfl | exact vq_ne rfl rfl | exact vq_add rfl rfl (by first | exact wr_add (by omega) | exact wu_add (by omega) | exact wr_id (by omega) (by omega) | rfl) | exact vq_minus rfl rfl (by first | exact wr_sub (by omega) (by omega) | exact wu_sub (by omega) (by omega) | exact wr_id (by omega) (by omega) | rfl) | exact vq_gt rfl rfl | exact vq_le rfl rfl | exact vq_ge rfl rfl | exact vq_mul rfl rfl (by first | exact wr_mul (by omega) | exact wr_id (by omega) (by omega) | rfl) | exact vq_or rfl rfl (by rfl) | exact vq_and rfl rfl (by rfl) | exact vq_xor rfl rfl (by rfl) | exact vq_shl rfl rfl (by omega) (by rfl) | exact vq_shr rfl rfl (by omega) (by rfl) | exact vq_quo rfl rfl (by decide) (by first | exact q8_i64 (by omega) | exact q2_u8 (by omega) | exact q4_i64 (by omega) | rfl) | exact vq_rem rfl rfl (by decide) (by first | exact r8 | exact r2 | exact r4 | exact r64 | rfl) | exact vq_eqNil rfl rfl | exact vq_eqBool rfl rfl | exact vq_eqB rfl rfl (by first | assumption | (simp; done)) (by first | assumption | (simp; done)) | exact vq_neB rfl rfl (by first | assumption | (simp; done)) (by first | assumption | (simp; done))) | (apply vq_isLoad; first | exact vq_ldB rfl (by first | rfl | assumption) | exact vq_ldW rfl (by first | rfl | assumption | (simp; done) | (simp; assumption)) | exact vq_ld1 rfl (by first | assumption | rfl) | exact vq_ldA rfl (by assumption) (by first | assumption | (simp; done) | (simp; assumption)) | exact vq_ldP rfl (by assumption) (by first | assumption | (simp; done) | (simp; assumption)) | fail) | exact vq_lenSl rfl | exact vq_index rfl rfl (by omega) (by omega) (by first | (simp; done) | (simp; omega) | (rw [bvs_length]; omega)) (by first | exact ix_1 | exact ix_s _ | rfl) | exact vq_extract rfl rfl | exact vq_pickT rfl rfl | exact vq_pickF rfl rfl | exact vq_fieldAddr rfl (by rfl) rfl | exact vq_makeFunc rfl rfl | exact vq_nilCheck rfl | exact vq_conv rfl (by first | exact wi_id (by omega) | exact wu_id (by omega) | exact wr_id (by omega) (by omega) | rfl) | (apply vq_isUn; first | exact vq_not rfl | exact vq_xorU rfl (by rfl) | exact vq_neg rfl (by rfl)) | exact vq_slice rfl (by first | exact bnd_none | exact bnd_nat rfl) (by first | exact bnd_none | exact bnd_nat rfl) (by first | exact bnd_none | exact bnd_nat rfl) rfl (by omega) (by omega) (by omega) | exact vq_indexArr rfl rfl (by omega) (by omega) (by first | exact ix_1 | exact ix_s _ | rfl) | exact vq_indexArrA rfl rfl (by first | (simp; done) | (rw [bvs_length]; omega) | (simp; omega)) (by omega) (by omega) (by first | exact ix_1 | exact ix_s _ | rfl) | exact vq_build rfl rfl (by first | rfl | simp [plOf]) (by first | rfl | simp) | exact vq_build0 | exact vq_buildArr0 | fail)) ?_ | (refine vl_o rfl ?_; (first | (refine vo_box rfl rfl rfl ?_; intro _) | (refine vo_alloc rfl ?_; intro _) | (refine vo_isStore ?_; first | refine vo_stW rfl rfl (by rfl) (by first | rfl | assumption | (simp; done) | (simp; assumption)) (by first | rfl | assumption | (simp; done) | (simp; assumption)) ?_ | refine vo_stB rfl rfl (by rfl) (by rfl) (by first | decide | (simp; done) | (simp; omega) | omega | assumption) (by rfl) ?_ | (refine vo_stO rfl rfl (by rfl) (by rfl) (by simp; omega) rfl ?_; skip)) | (refine vo_isCall ?_; first | (refine vo_append0 rfl rfl (by first | (simp; done) | (rw [bvs_length]; assumption) | simp) (by omega) (by omega) rfl ?_; intro _ _ _ _) | (refine vo_append rfl rfl (by first | (simp; done) | (rw [bvs_length]; assumption) | simp) (by omega) (by omega) rfl ?_; intro _ _ _ _) | refine vo_yield rfl rfl rfl rfl rfl ?_ | refine vo_callV rfl rfl rfl (vc_in rfl rfl ?_)) | refine vo_convRow rfl rfl ?_ | (refine vo_buildSlice rfl rfl rfl (by decide) (by repeat' (first | exact trivial | rfl | refine ⟨?_, ?_⟩ | (simp; done) | (simp; omega))) (by decide) rfl ?_; intro _) | (refine vo_buildSlice0 rfl ?_; intro _) | fail)) | refine vl_guard rfl rfl rfl rfl rfl ?_ | refine vl_pass rfl rfl rfl rfl rfl rfl rfl ?_ | (refine vl_caseG rfl rfl rfl rfl ?_ ?_ <;> (intro hb; (try simp only [decide_eq_true_eq, decide_eq_false_iff_not, Bool.not_eq_true', Bool.not_eq_false', ne_eq, Decidable.not_not, Option.isNone_iff_eq_none, not_true_eq_false, not_false_eq_true] at hb); try (exfalso; omega)))) | (refine v_id ?_; first | refine v_seq ?_ | refine v_region ?_ | refine v_condT rfl ?_ | refine v_condF rfl ?_ | (refine v_cond rfl ?_ ?_ <;> (intro hb; (try simp only [decide_eq_true_eq, decide_eq_false_iff_not, Bool.not_eq_true', Bool.not_eq_false', ne_eq, Decidable.not_not, Option.isNone_iff_eq_none, not_true_eq_false, not_false_eq_true] at hb); try (exfalso; omega))) | refine v_block ?_ | refine v_skip ?_ | refine v_ret ?_ | refine v_exit ?_ | refine v_label ?_ | refine v_scope (fun _ _ _ _ h => h) ?_ | refine v_code ?_) | refine thn_n ?_ | refine inb_n ?_ | refine inb_r ?_ | refine thn_r ?_ | refine thn_e ?_ | refine inb_e rfl ?_ | refine inb_o rfl ?_ | refine beginR ?_ | refine rangeEnd_done (by decide) ?_ | refine rangeEnd_jump (by decide) ?_ | refine ret_mark ?_ | refine roundQ_n ?_ | refine roundQ_r ?_ | refine roundQ_e ?_ | refine ret0 rfl ?_ | refine ret1 rfl (by first | exact rv_tmp rfl | exact rv_blk1 rfl | exact rv_blk rfl (by first | rfl | assumption | (simp; done) | (simp; assumption))) ?_ | refine ret2 rfl (by first | exact rv_tmp rfl | exact rv_blk1 rfl | exact rv_blk rfl (by first | rfl | assumption | (simp; done) | (simp; assumption))) (by first | exact rv_tmp rfl | exact rv_blk1 rfl | exact rv_blk rfl (by first | rfl | assumption | (simp; done) | (simp; assumption))) ?_ | refine ret3 rfl (by first | exact rv_tmp rfl | exact rv_blk1 rfl | exact rv_blk rfl (by first | rfl | assumption | (simp; done) | (simp; assumption))) (by first | exact rv_tmp rfl | exact rv_blk1 rfl | exact rv_blk rfl (by first | rfl | assumption | (simp; done) | (simp; assumption))) (by first | exact rv_tmp rfl | exact rv_blk1 rfl | exact rv_blk rfl (by first | rfl | assumption | (simp; done) | (simp; assumption))) ?_ | fail )
  exact ⟨_, _, by omega, rfl, rfl⟩
theorem clone_vc (a : Option Addr) (cap : Nat) (l : List UInt8) {n : Nat} (hn : n = l.length) (hl : l.length ≤ 1000000000000) [hr : RdC w0 L a (bvs l)] :
    VC Tryd.prog w0 69 [.slice a n cap] L fun v L' => ∃ a' cap', l.length ≤ cap' ∧ v = .slice a' l.length cap' ∧ L' = ownB a' cap' l :: L := by
  refine vc_mono (vc_fresh (R := fun v M => ∃ a' cap', l.length ≤ cap' ∧ v = .slice a' l.length cap' ∧ M = [ownB a' cap' l]) (fun w hs => (clone_calls a cap l w hn hl (hr.out w hs)).mono ?_)) ?_
  · rintro e w' ⟨a', cap', rfl, hs⟩; exact ⟨_, _, rfl, hs, _, _, by simpa using (hs.ownLen 0 rfl).2.1, rfl, rfl⟩
  · rintro v L' ⟨M, rfl, a', cap', h, rfl, rfl⟩; exact ⟨_, _, h, rfl, rfl⟩
theorem same_vc (a : Option Addr) (cap : Nat) (l : List UInt8) (b : Option Addr) (cbp : Nat) (m : List UInt8) {n k : Nat} (hn : n = l.length) (hk : k = m.length) [hr : RdC w0 L a (bvs l)] [hq : RdC w0 L b (bvs m)] :
    VC Tryd.prog w0 15 [.slice a n cap, .slice b k cbp] L fun v L' => v = .bool (decide (l = m)) ∧ L' = L :=
  vc_pure (fun w hs => same_calls a cap l b cbp m w hn hk (hr.out w hs) (hq.out w hs))
theorem number_vc (a : Option Addr) (cap : Nat) (l : List UInt8) {n : Nat} (hn : n = l.length) (hl : l.length ≤ 1000000000000) [hr : RdC w0 L a (bvs l)] :
    VC Tryd.prog w0 50 [.slice a n cap] L fun v L' => v = .int .u64 (numOf l) ∧ L' = L :=
  vc_pure (fun w hs => number_calls a cap l w hn hl (hr.out w hs))
theorem take_vc (a : Option Addr) (cap : Nat) (l : List UInt8) (n : Nat) {ln : Nat} (hn : ln = l.length) (h0 : 0 < n) (h8 : n ≤ 8) (h1 : n ≤ l.length) (hcap : l.length ≤ cap) (hl : l.length ≤ 1000000000000) [hr : RdC w0 L a (bvs l)] :
    VC Tryd.prog w0 47 [.slice a ln cap, .int .i64 n] L fun v L' => ∃ a' cap', l.length - n ≤ cap' ∧ v = .tuple #[.int .u64 (numOf (l.take n)), .slice a' (l.length - n) cap', .int .i64 0] ∧ L' = ownB a' cap' (l.drop n) :: L := by
  refine vc_mono (vc_fresh (R := fun v M => ∃ a' cap', l.length - n ≤ cap' ∧ v = .tuple #[.int .u64 (numOf (l.take n)), .slice a' (l.length - n) cap', .int .i64 0] ∧ M = [ownB a' cap' (l.drop n)]) (fun w hs => (take_calls a cap l n hn h0 h8 h1 hcap w hl (hr.out w hs)).mono ?_)) ?_
  · rintro e w' ⟨a', cap', rfl, hs⟩; exact ⟨_, _, rfl, hs, _, _, by simpa using (hs.ownLen 0 rfl).2.1, by simp, rfl⟩
  · rintro v L' ⟨M, rfl, a', cap', h, rfl, rfl⟩; exact ⟨_, _, h, rfl, rfl⟩
theorem take_short_vc (a : Option Addr) (cap : Nat) (l : List UInt8) (n : Nat) {ln : Nat} (hn : ln = l.length) (h0 : 0 < n) (h8 : n ≤ 8) (h1 : l.length < n) :
    VC Tryd.prog w0 47 [.slice a ln cap, .int .i64 n] L fun v L' => v = .tuple #[.int .u64 0, .slice none 0 0, .int .i64 10] ∧ L' = L :=
  vc_pure (fun w hs => take_short a cap l n hn h0 h8 h1 w)
end
end Go.Proofs.YtpnhgmmijkjmlaaDoor

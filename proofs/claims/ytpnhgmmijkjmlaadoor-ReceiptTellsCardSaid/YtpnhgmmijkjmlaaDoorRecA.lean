/-
  Receipts: their cells; whether one may be; its bytes; the program's walks.
-/
import Derived.Test.YtpnhgmmijkjmlaaDoorVCopy
import Derived.Test.YtpnhgmmijkjmlaaDoorVEqB
import Derived.Test.YtpnhgmmijkjmlaaDoorDigs
namespace Go.Proofs.YtpnhgmmijkjmlaaDoor
open Go Go.RowKit
set_option linter.unusedVariables false
set_option linter.unusedSimpArgs false

structure Rec where
  kind : Nat
  id : List UInt8
  code : Int
deriving DecidableEq
def Rec.cells (r : Rec) : List Value := .int .u8 (r.kind : Int) :: (bvs r.id ++ [.int .i64 r.code])
structure Rec.ok (r : Rec) : Prop where
  kind : r.kind < 256
  id : r.id.length = 32
theorem Rec.len {r : Rec} (o : r.ok) : r.cells.length = 34 := by simp [Rec.cells, o.id]
instance oc_rec (r : Rec) : OC r.cells := (inferInstance : OC (.int .u8 (r.kind : Int) :: (bvs r.id ++ [.int .i64 r.code])))
theorem Rec.f0 (r : Rec) : r.cells[0 + 0]? = some (.int .u8 (r.kind : Int)) := rfl
theorem Rec.f1 {r : Rec} (o : r.ok) : (r.cells.drop (0 + 1)).take 32 = bvs r.id := by
  simp only [Rec.cells, Nat.zero_add, List.drop_succ_cons, List.drop_zero]
  rw [List.take_left' (by simp [o.id])]
theorem Rec.f2 {r : Rec} (o : r.ok) : r.cells[0 + 33]? = some (.int .i64 r.code) := by
  have e : r.cells = (.int .u8 (r.kind : Int) :: bvs r.id) ++ [.int .i64 r.code] := by simp [Rec.cells]
  rw [e, List.getElem?_append_right (by simp [o.id])]
  simp [o.id]
/-- Whether one may be. -/
def Rec.may (r : Rec) : Bool := decide ((r.kind = 1 ∧ (r.code = 0 ∨ r.code = 151)) ∨ (r.kind = 2 ∧ (r.code = 0 ∨ r.code = 151 ∨ r.code = 150)))
def recBytes (r : Rec) : List UInt8 := UInt8.ofNat r.kind :: (r.id ++ digs r.code.toNat 2)
theorem recBytes_length {r : Rec} (o : r.ok) : (recBytes r).length = 35 := by simp [recBytes, o.id, digs_length]

theorem Rec.set0 (r : Rec) (k : Nat) : splice r.cells (0 + 0) [.int .u8 (k : Int)] = ({ r with kind := k } : Rec).cells := by
  simp [Rec.cells, splice]
theorem Rec.set1 {r : Rec} (o : r.ok) (d : List UInt8) (hd : d.length = 32) : splice r.cells (0 + 1) (bvs d) = ({ r with id := d } : Rec).cells := by
  have e : r.cells = [.int .u8 (r.kind : Int)] ++ (bvs r.id ++ [.int .i64 r.code]) := by simp [Rec.cells]
  rw [e, splice_mid (α := Value) [.int .u8 (r.kind : Int)] (bvs r.id) [.int .i64 r.code] (bvs d) (0 + 1) (by simp) (by simp [o.id, hd])]
  simp [Rec.cells]
theorem Rec.set2 {r : Rec} (o : r.ok) (c : Int) : splice r.cells (0 + 33) [.int .i64 c] = ({ r with code := c } : Rec).cells := by
  have e : r.cells = (.int .u8 (r.kind : Int) :: bvs r.id) ++ ([.int .i64 r.code] ++ []) := by simp [Rec.cells]
  rw [e, splice_mid (α := Value) (.int .u8 (r.kind : Int) :: bvs r.id) [.int .i64 r.code] [] [.int .i64 c] (0 + 33) (by simp [o.id]) (by simp)]
  simp [Rec.cells]
def recZero : Rec := ⟨0, List.replicate 32 0, 0⟩
theorem recZero_ok : recZero.ok := ⟨by decide, by simp [recZero]⟩
/-- The receipt of bytes, and the error. -/
def recOf (l : List UInt8) : Rec := ⟨(l.getD 0 0).toNat, (l.drop 1).take 32, (numOf (l.drop 33) : Int)⟩
def recRead (l : List UInt8) : Rec × Int := if l.length < 35 then (recZero, 10) else if 35 < l.length then (recZero, 11) else if (recOf l).may then (recOf l, 0) else (recZero, 8)
theorem recOf_ok {l : List UInt8} (h : l.length = 35) : (recOf l).ok := ⟨(l.getD 0 0).toNat_lt, by simp [recOf, h]⟩
theorem recRead_ok (l : List UInt8) : (recRead l).1.ok := by
  unfold recRead
  split
  · exact recZero_ok
  split
  · exact recZero_ok
  split
  · exact recOf_ok (by omega)
  · exact recZero_ok

set_option maxRecDepth 100000 in
set_option maxHeartbeats 1000000 in
theorem rcCheck_vc (w0 : World) (L : List Asn) (r : Rec) (o : r.ok) :
    VC Tryd.prog w0 22 [.agg r.cells.toArray] L fun v L' => v = .int .i64 (if r.may then 0 else 8) ∧ L' = L := by
  have f0 := Rec.f0 r
  have f2 := Rec.f2 o
  unfold Rec.may
  generalize r.cells = cs at *
  generalize r.kind = k at *
  generalize r.code = c at *
  refine vc_ent ?_
  refine vc_in rfl rfl ?_
  repeat' (first | (refine vl_id ?_; first | refine vl_nil ?_ | refine vl_qA rfl rfl rfl rfl ?_ | (refine vl_o rfl ?_; (first | (refine vo_box rfl rfl rfl ?_; intro _) | (refine vo_alloc rfl ?_; intro _) | (refine vo_isStore ?_; first | (refine vo_isPt0 rfl ?_; refine vo_stWA rfl rfl ?_) | (refine vo_isPt rfl ?_; refine vo_stBA rfl rfl ?_) | (refine vo_stO rfl rfl (by rfl) (by rfl) (by first | (simp; done) | (simp; omega) | omega) rfl ?_; skip)) | (refine vo_isCall ?_; first | (refine vo_isApp ?_; first | (refine vo_append0A rfl rfl rfl ?_; intro _ _ _ _) | (refine vo_appendA rfl rfl rfl ?_; intro _ _ _ _)) | (refine vo_isCopy ?_; refine vo_copyB rfl rfl rfl (by assumption) (by assumption) (by assumption) (by assumption) ?_) | refine vo_yield rfl rfl rfl rfl rfl ?_ | refine vo_callV rfl rfl rfl (vc_in rfl rfl ?_)) | refine vo_convRow rfl rfl ?_ | (refine vo_isBs ?_; refine vo_buildSlice rfl rfl rfl (by decide) (by repeat' (first | exact trivial | rfl | refine ⟨?_, ?_⟩ | (simp; done) | (simp; omega))) (by decide) rfl ?_; intro _) | (refine vo_buildSlice0 rfl ?_; intro _) | fail)) | refine vl_guard rfl rfl rfl rfl rfl ?_ | refine vl_pass rfl rfl rfl rfl rfl rfl rfl ?_ | (refine vl_caseG rfl rfl rfl rfl ?_ ?_ <;> (intro hb; (try simp only [decide_eq_true_eq, decide_eq_false_iff_not, Bool.not_eq_true', Bool.not_eq_false', ne_eq, Decidable.not_not, Option.isNone_iff_eq_none, not_true_eq_false, not_false_eq_true] at hb); try (exfalso; omega)))) | (refine v_id ?_; first | refine v_seq ?_ | refine v_region ?_ | refine v_condT rfl ?_ | refine v_condF rfl ?_ | (refine v_cond rfl ?_ ?_ <;> (intro hb; (try simp only [decide_eq_true_eq, decide_eq_false_iff_not, Bool.not_eq_true', Bool.not_eq_false', ne_eq, Decidable.not_not, Option.isNone_iff_eq_none, not_true_eq_false, not_false_eq_true] at hb); try (exfalso; omega))) | refine v_block ?_ | refine v_skip ?_ | refine v_ret ?_ | refine v_exit ?_ | refine v_label ?_ | refine v_scope (fun _ _ _ _ h => h) ?_ | refine v_code ?_) | refine thn_n ?_ | refine inb_n ?_ | refine inb_r ?_ | refine thn_r ?_ | refine thn_e ?_ | refine inb_e rfl ?_ | refine inb_o rfl ?_ | refine beginR ?_ | refine rangeEnd_done (by decide) ?_ | refine rangeEnd_jump (by decide) ?_ | refine ret_mark ?_ | refine roundQ_n ?_ | refine roundQ_r ?_ | refine roundQ_e ?_ | refine ret0 rfl ?_ | refine ret1A rfl ?_ | refine ret2A rfl ?_ | refine ret3A rfl ?_ | fail )
  all_goals refine ⟨_, (se_drop _ _).ent w0, ?_, rfl⟩
  all_goals first | (rw [decide_eq_true (by omega)]; rfl) | (rw [decide_eq_false (by omega)]; rfl)
end Go.Proofs.YtpnhgmmijkjmlaaDoor

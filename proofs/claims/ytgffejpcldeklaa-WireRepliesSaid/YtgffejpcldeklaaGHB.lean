/-
  Receipts: their cells; whether one may be; its bytes; the program's walks. Bytes of receipts, receipts of bytes: the program's walks.
-/
import Derived.Test.YtgffejpcldeklaaGC
set_option linter.unusedVariables false
set_option linter.unusedSimpArgs false
set_option linter.unusedSectionVars false
set_option maxRecDepth 100000
set_option maxHeartbeats 1000000
namespace Go.Proofs.Ytgffejpcldeklaa
open Go Go.RowKit

structure Rec where
  kind : Nat
  id : List UInt8
  code : Int
deriving DecidableEq
def Rec.cells (r : Rec) : List Value := .int .u8 (r.kind : Int) :: (bvs r.id ++ [.int .i64 r.code])
structure Rec.ok (r : Rec) : Prop where
  kind : r.kind < 256
  id : r.id.length = 32
theorem Rec.len {r : Rec} (o : r.ok) : r.cells.length = 34 := by simp [Rec.cells, o.id]
instance oc_rec (r : Rec) : OC r.cells := (inferInstance : OC (.int .u8 (r.kind : Int) :: (bvs r.id ++ [.int .i64 r.code])))
theorem Rec.f0 (r : Rec) : r.cells[0 + 0]? = some (.int .u8 (r.kind : Int)) := rfl
theorem Rec.f1 {r : Rec} (o : r.ok) : (r.cells.drop (0 + 1)).take 32 = bvs r.id := by
  simp only [Rec.cells, Nat.zero_add, List.drop_succ_cons, List.drop_zero]
  rw [List.take_left' (by simp [o.id])]
theorem Rec.f2 {r : Rec} (o : r.ok) : r.cells[0 + 33]? = some (.int .i64 r.code) := by
  have e : r.cells = (.int .u8 (r.kind : Int) :: bvs r.id) ++ [.int .i64 r.code] := by simp [Rec.cells]
  rw [e, List.getElem?_append_right (by simp [o.id])]
  simp [o.id]
/-- Whether one may be. -/
def Rec.may (r : Rec) : Bool := decide ((r.kind = 1 ∧ (r.code = 0 ∨ r.code = 151)) ∨ (r.kind = 2 ∧ (r.code = 0 ∨ r.code = 151 ∨ r.code = 150)))
def recBytes (r : Rec) : List UInt8 := UInt8.ofNat r.kind :: (r.id ++ digs r.code.toNat 2)
theorem recBytes_length {r : Rec} (o : r.ok) : (recBytes r).length = 35 := by simp [recBytes, o.id, digs_length]

theorem Rec.set0 (r : Rec) (k : Nat) : splice r.cells (0 + 0) [.int .u8 (k : Int)] = ({ r with kind := k } : Rec).cells := by
  simp [Rec.cells, splice]
theorem Rec.set1 {r : Rec} (o : r.ok) (d : List UInt8) (hd : d.length = 32) : splice r.cells (0 + 1) (bvs d) = ({ r with id := d } : Rec).cells := by
  have e : r.cells = [.int .u8 (r.kind : Int)] ++ (bvs r.id ++ [.int .i64 r.code]) := by simp [Rec.cells]
  rw [e, splice_mid (α := Value) [.int .u8 (r.kind : Int)] (bvs r.id) [.int .i64 r.code] (bvs d) (0 + 1) (by simp) (by simp [o.id, hd])]
  simp [Rec.cells]
theorem Rec.set2 {r : Rec} (o : r.ok) (c : Int) : splice r.cells (0 + 33) [.int .i64 c] = ({ r with code := c } : Rec).cells := by
  have e : r.cells = (.int .u8 (r.kind : Int) :: bvs r.id) ++ ([.int .i64 r.code] ++ []) := by simp [Rec.cells]
  rw [e, splice_mid (α := Value) (.int .u8 (r.kind : Int) :: bvs r.id) [.int .i64 r.code] [] [.int .i64 c] (0 + 33) (by simp [o.id]) (by simp)]
  simp [Rec.cells]
def recZero : Rec := ⟨0, List.replicate 32 0, 0⟩
theorem recZero_ok : recZero.ok := ⟨by decide, by simp [recZero]⟩
/-- The receipt of bytes, and the error. -/
def recOf (l : List UInt8) : Rec := ⟨(l.getD 0 0).toNat, (l.drop 1).take 32, (numOf (l.drop 33) : Int)⟩
def recRead (l : List UInt8) : Rec × Int := if l.length < 35 then (recZero, 10) else if 35 < l.length then (recZero, 11) else if (recOf l).may then (recOf l, 0) else (recZero, 8)
theorem recOf_ok {l : List UInt8} (h : l.length = 35) : (recOf l).ok := ⟨(l.getD 0 0).toNat_lt, by simp [recOf, h]⟩
theorem recRead_ok (l : List UInt8) : (recRead l).1.ok := by
  unfold recRead
  split
  · exact recZero_ok
  split
  · exact recZero_ok
  split
  · exact recOf_ok (by omega)
  · exact recZero_ok

theorem rcCheck_vc (w0 : World) (L : List Asn) (r : Rec) (o : r.ok) :
    VC Try.prog w0 70 [.agg r.cells.toArray] L fun v L' => v = .int .i64 (if r.may then 0 else 8) ∧ L' = L := by
  have f0 := Rec.f0 r
  have f2 := Rec.f2 o
  unfold Rec.may
  generalize r.cells = cs at *
  generalize r.kind = k at *
  generalize r.code = c at *
  refine vc_ent ?_
  refine vc_in rfl rfl ?_
  repeat' (first | (refine go1 ?_; intros) | (refine goCC ?_ ?_ <;> (intro hb; (try simp only [hSQ] at hb); try (exfalso; omega))) | fail)
  all_goals refine ⟨_, (se_drop _ _).ent w0, ?_, rfl⟩
  all_goals first | (rw [decide_eq_true (by omega)]; rfl) | (rw [decide_eq_false (by omega)]; rfl)
end Go.Proofs.Ytgffejpcldeklaa
namespace Go.Proofs.Ytgffejpcldeklaa
open Go Go.RowKit

theorem rcBytes_err_vc (w0 : World) (L : List Asn) (r : Rec) (o : r.ok) (hm : r.may = false) :
    VC Try.prog w0 41 [.agg r.cells.toArray] L fun v L' => v = .tuple #[.slice none 0 0, .int .i64 8] ∧ L' = L := by
  have hlen := Rec.len o
  refine vc_ent ?_
  refine vc_in rfl rfl ?_
  repeat' (first | (refine go1 ?_; intros) | (refine goCC ?_ ?_ <;> (intro hb; (try simp only [hSQ] at hb); try (exfalso; omega))) | fail)
  refine clV ?_
  refine vc_mono (rcCheck_vc w0 _ r o) ?_
  rintro v L' ⟨rfl, rfl⟩
  rw [hm]
  simp only [Bool.false_eq_true, if_false]
  repeat' (first | (refine go1 ?_; intros) | (refine goCC ?_ ?_ <;> (intro hb; (try simp only [hSQ] at hb); try (exfalso; omega))) | fail)
  exact ⟨_, (se_drop _ _).ent w0, rfl, rfl⟩
theorem rcBytes_vc (w0 : World) (L : List Asn) (r : Rec) (o : r.ok) (hm : r.may = true) :
    VC Try.prog w0 41 [.agg r.cells.toArray] L fun v L' => ∃ a c, v = .tuple #[.slice a (recBytes r).length c, .int .i64 0] ∧ (recBytes r).length ≤ c ∧ L' = ownB a c (recBytes r) :: L := by
  have hlen := Rec.len o
  have hmay := of_decide_eq_true hm
  obtain ⟨C, hC⟩ : ∃ C : Nat, r.code = (C : Int) := ⟨r.code.toNat, by omega⟩
  have f0 := Rec.f0 r
  have f1 := Rec.f1 o
  have f2 := Rec.f2 o
  rw [hC] at f2
  have hCl : C ≤ 151 := by omega
  have hk := o.kind
  have oi : r.id.length = 32 * 1 := o.id
  have hd2 := digs_length C 2
  have hBl := recBytes_length o
  have hBv : bvs (recBytes r) = [.int .u8 (r.kind : Int)] ++ bvs r.id ++ bvs (digs C 2) := by
    unfold recBytes
    rw [hC]
    simp [bvs, bv]
    omega
  refine vc_ent ?_
  refine vc_in rfl rfl ?_
  repeat' (first | (refine go1 ?_; intros) | (refine goCC ?_ ?_ <;> (intro hb; (try simp only [hSQ] at hb); try (exfalso; omega))) | fail)
  rename_i g1
  refine clV ?_
  refine vc_mono (rcCheck_vc w0 _ r o) ?_
  rintro v L' ⟨rfl, rfl⟩
  rw [hm]
  simp only [if_true]
  generalize r.cells = cs at *
  repeat' (first | (refine go1 ?_; intros) | (refine goCC ?_ ?_ <;> (intro hb; (try simp only [hSQ] at hb); try (exfalso; omega))) | fail)
  refine clV ?_
  refine vc_mono (put_vc w0 _ C 2 (by decide) (by decide) (by omega)) ?_
  rintro v L' ⟨a2, c2, rfl, rfl⟩
  repeat' (first | (refine go1 ?_; intros) | (refine goCC ?_ ?_ <;> (intro hb; (try simp only [hSQ] at hb); try (exfalso; omega))) | fail)
  haveI r1 : ∀ L, RdC w0 (blk g1 29 cs :: L) (some ⟨g1, 0 + 1, none⟩) (bvs r.id) := fun L => rdC_part (0 + 1) 32 f1
  (refine v_draw0 [7] (by kernel_rfl) ?_ <;> (refine va_takeW 0 rfl rfl rfl rfl ?_) <;> (refine va_takeW 1 rfl rfl rfl rfl ?_) <;> (refine va_takeW 3 rfl rfl rfl rfl ?_) <;> (refine va_takeW 4 rfl rfl rfl rfl ?_) <;> (refine va_takeW 6 rfl rfl rfl rfl ?_) <;> (refine va_one 2 (by kernel_rfl) rfl rfl ?_; (refine goV ?_; intros); refine ⟨.inr entD, ?_⟩) <;> (refine va_one 5 (by kernel_rfl) rfl rfl ?_; (refine goV ?_; intros); refine ⟨.inr entD, ?_⟩) <;> (refine va_one 7 (by kernel_rfl) rfl rfl ?_; (refine goV ?_; intros); refine ⟨.inl (by kernel_rfl), ?_⟩) <;> (refine va_takePW 8 rfl rfl rfl rfl ?_) <;> (refine va_takePW 9 rfl rfl rfl rfl ?_) <;> (refine va_done (by kernel_rfl) ?_))
  repeat' (first | (refine go1 ?_; intros) | (refine goCC ?_ ?_ <;> (intro hb; (try simp only [hSQ] at hb); try (exfalso; omega))) | fail)
  rename_i g2 a3 c3 _ _ a4 c4 _ hc4
  refine ⟨_, ?_, a4, c4, ?_, by omega, rfl⟩
  · unfold ownB
    rw [hBl, hBv]
    exact (SE.cons _ ((se_drop _ _).trans (se_drop _ _))).ent w0
  · rw [hBl]

theorem rcRead_vc (w0 : World) (L : List Asn) (a : Option Addr) (cap : Nat) (l : List UInt8) {n : Nat} (hn : n = l.length) (hcap : l.length ≤ cap) (hl : l.length ≤ 1000000000) [hr : RdC w0 L a (bvs l)] :
    VC Try.prog w0 38 [.slice a n cap] L fun v L' => v = .tuple #[.agg (recRead l).1.cells.toArray, .int .i64 (recRead l).2] ∧ L' = L := by
  subst hn
  have hzlen := Rec.len recZero_ok
  refine vc_ent ?_
  refine vc_in rfl rfl ?_
  by_cases h1 : l.length < 35
  · have e : recRead l = (recZero, 10) := by simp [recRead, h1]
    rw [e]
    repeat' (first | (refine go1 ?_; intros) | (refine goCC ?_ ?_ <;> (intro hb; (try simp only [hSQ] at hb); try (exfalso; omega))) | fail)
    exact ⟨_, (se_drop _ _).ent w0, rfl, rfl⟩
  by_cases h2 : 35 < l.length
  · have e : recRead l = (recZero, 11) := by simp [recRead, h1, h2]
    rw [e]
    repeat' (first | (refine go1 ?_; intros) | (refine goCC ?_ ?_ <;> (intro hb; (try simp only [hSQ] at hb); try (exfalso; omega))) | fail)
    exact ⟨_, (se_drop _ _).ent w0, rfl, rfl⟩
  have h35 : l.length = 35 := by omega
  have hg := bvs_at l 0 (by omega)
  repeat' (first | (refine go1 ?_; intros) | (refine goCC ?_ ?_ <;> (intro hb; (try simp only [hSQ] at hb); try (exfalso; omega))) | fail)
  rename_i g1 _
  obtain ⟨k0, hk0⟩ : ∃ k0 : UInt8, k0 = l[0]'(by omega) := ⟨_, rfl⟩
  rw [← hk0]
  have e0 : splice (bvs (List.replicate 32 0) ++ [.int .u8 0, .int .i64 0]) (0 + 0) [.int .u8 (k0.toNat : Int)] = Rec.cells ⟨k0.toNat, List.replicate 32 0, 0⟩ := Rec.set0 recZero k0.toNat
  rw [e0]
  obtain ⟨d1, hd1⟩ : ∃ d1, d1 = (l.drop 1).take 32 := ⟨_, rfl⟩
  have hd1l : d1.length = 32 := by rw [hd1]; simp [h35]
  have o0 : Rec.ok ⟨k0.toNat, List.replicate 32 0, 0⟩ := ⟨k0.toNat_lt, by simp⟩
  have o1 : Rec.ok ⟨k0.toNat, d1, 0⟩ := ⟨k0.toNat_lt, hd1l⟩
  have c1 : (l.drop 1).take (min (l.length - 1) 32) = d1 := by rw [hd1, show min (l.length - 1) 32 = 32 by omega]
  have c2 : d1.length = min (l.length - 1) 32 := by omega
  have c3 : splice (Rec.cells ⟨k0.toNat, List.replicate 32 0, 0⟩) (0 + 1) (bvs d1) = Rec.cells ⟨k0.toNat, d1, 0⟩ := Rec.set1 o0 d1 hd1l
  have c4 : 0 + 1 + d1.length ≤ (Rec.cells ⟨k0.toNat, List.replicate 32 0, 0⟩).length := by rw [hd1l, Rec.len o0]; decide
  have len1 := Rec.len o1
  haveI r1 : ∀ M, RdC w0 (M :: L) (subA a 1 cap 1) (bvs (l.drop 1)) := fun M => rd_drop 1 cap hcap
  (refine v_draw0 [4] (by kernel_rfl) ?_ <;> (refine va_takeW 0 rfl rfl rfl rfl ?_) <;> (refine va_takeW 1 rfl rfl rfl rfl ?_) <;> (refine va_takeW 2 rfl rfl rfl rfl ?_) <;> (refine va_takeW 3 rfl rfl rfl rfl ?_) <;> (refine va_one 4 (by kernel_rfl) rfl rfl ?_; (refine goV ?_; intros); refine ⟨.inl (by kernel_rfl), ?_⟩) <;> (refine va_done (by kernel_rfl) ?_))
  repeat' (first | (refine go1 ?_; intros) | (refine goCC ?_ ?_ <;> (intro hb; (try simp only [hSQ] at hb); try (exfalso; omega))) | fail)
  haveI r2 : ∀ M, RdC w0 (M :: L) (subA a 33 cap 1) (bvs (l.drop 33)) := fun M => rd_drop 33 cap hcap
  refine clV ?_
  refine vc_mono (take_vc w0 _ (subA a 33 cap 1) (cap - 33) (l.drop 33) 2 (by simp) (by decide) (by decide) (by simp; omega) (by simp; omega) (by simp; omega)) ?_
  rintro v L' ⟨a2, c5, _, rfl, rfl⟩
  have ht2 : (l.drop 33).take 2 = l.drop 33 := List.take_of_length_le (by simp; omega)
  have hnum : numOf (l.drop 33) < 65536 := (digs_numOf 2 (l.drop 33) (by simp; omega) (by decide)).2
  rw [ht2]
  have hrec : recOf l = ⟨k0.toNat, d1, (numOf (l.drop 33) : Int)⟩ := by
    unfold recOf
    rw [hd1, hk0]
    simp [List.getD, show 0 < l.length by omega]
  have e2 : splice (Rec.cells ⟨k0.toNat, d1, 0⟩) (0 + 33) [.int .i64 ((numOf (l.drop 33) : Nat) : Int)] = (recOf l).cells := by rw [hrec]; exact Rec.set2 o1 _
  have ho := recOf_ok h35
  have hol := Rec.len ho
  have hrr : recRead l = if (recOf l).may then (recOf l, 0) else (recZero, 8) := by simp [recRead, h1, h2]
  rw [hrr]
  generalize Rec.cells ⟨k0.toNat, d1, 0⟩ = R1 at *
  repeat' (first | (refine go1 ?_; intros) | (refine goCC ?_ ?_ <;> (intro hb; (try simp only [hSQ] at hb); try (exfalso; omega))) | fail)
  rw [e2]
  repeat' (first | (refine go1 ?_; intros) | (refine goCC ?_ ?_ <;> (intro hb; (try simp only [hSQ] at hb); try (exfalso; omega))) | fail)
  refine clV ?_
  refine vc_mono (rcCheck_vc w0 _ (recOf l) ho) ?_
  rintro v L' ⟨rfl, rfl⟩
  cases hm : (recOf l).may
  · simp only [Bool.false_eq_true, if_false]
    repeat' (first | (refine go1 ?_; intros) | (refine goCC ?_ ?_ <;> (intro hb; (try simp only [hSQ] at hb); try (exfalso; omega))) | fail)
    exact ⟨_, ((se_drop _ _).trans (se_drop _ _)).ent w0, rfl, rfl⟩
  · simp only [if_true]
    repeat' (first | (refine go1 ?_; intros) | (refine goCC ?_ ?_ <;> (intro hb; (try simp only [hSQ] at hb); try (exfalso; omega))) | fail)
    exact ⟨_, ((se_drop _ _).trans (se_drop _ _)).ent w0, rfl, rfl⟩

end Go.Proofs.Ytgffejpcldeklaa

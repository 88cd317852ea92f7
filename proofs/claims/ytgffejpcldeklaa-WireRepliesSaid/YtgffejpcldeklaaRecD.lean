/-
  Deposits' ids; the document's receipts: the walks.
-/
import Derived.Test.YtgffejpcldeklaaRecC
import Derived.Test.YtgffejpcldeklaaGC
set_option linter.unusedVariables false
set_option linter.unusedSimpArgs false
set_option linter.unusedSectionVars false
set_option maxRecDepth 100000
set_option maxHeartbeats 1000000
namespace Go.Proofs.Ytgffejpcldeklaa
open Go Go.RowKit

theorem rrMay_vc (w0 : World) (L : List Asn) (r : Rec) (o : r.ok) :
    VC Try.prog w0 50 [.agg r.cells.toArray] L fun v L' => v = .bool r.may ∧ L' = L := by
  have f0 := Rec.f0 r
  have f2 := Rec.f2 o
  unfold Rec.may
  generalize r.cells = cs at *
  generalize r.kind = k at *
  generalize r.code = c at *
  refine vc_ent ?_
  refine vc_in rfl rfl ?_
  repeat' (first | (refine goU ?_; intros) | (refine goCC ?_ ?_ <;> (intro hb; (try simp only [hSQ] at hb); try (exfalso; omega))) | fail)
  all_goals refine ⟨_, (se_drop _ _).ent w0, congrArg Value.bool ?_, rfl⟩
  all_goals first | exact decide_eq_decide.2 (by omega) | exact (decide_eq_true (by omega)).symm | exact (decide_eq_false (by omega)).symm
theorem hi8 (C : Nat) (h : C ≤ 65535) : IntKind.u8.wrap (IntKind.i64.wrap ((C : Int).tdiv 256)) = ((UInt8.ofNat (C / 256)).toNat : Int) := by
  have e : (C : Int).tdiv 256 = ((C / 256 : Nat) : Int) := by rw [Int.tdiv_eq_ediv_of_nonneg (by omega)]; rfl
  rw [e, wi_id (by omega), u8_wrapD, UInt8.toNat_ofNat', UInt8.toNat_ofNat']
  omega
theorem lo8 (C : Nat) : IntKind.u8.wrap ((C : Int).tmod 256) = ((UInt8.ofNat C).toNat : Int) := by
  have e : (C : Int).tmod 256 = ((C % 256 : Nat) : Int) := by rw [Int.tmod_eq_emod_of_nonneg (by omega)]; rfl
  rw [e, u8_wrapD, UInt8.toNat_ofNat', UInt8.toNat_ofNat']
  omega
theorem rrOf_vc (w0 : World) (L : List Asn) (r : Rec) (o : r.ok) (hm : r.may = true) :
    VC Try.prog w0 55 [.agg r.cells.toArray] L fun v L' => ∃ a c, v = .slice a (recBytes r).length c ∧ L' = ownB a c (recBytes r) :: L := by
  have hlen := Rec.len o
  have hmay := of_decide_eq_true hm
  obtain ⟨C, hC⟩ : ∃ C : Nat, r.code = (C : Int) := ⟨r.code.toNat, by omega⟩
  have f0 := Rec.f0 r
  have f1 := Rec.f1 o
  have f2 := Rec.f2 o
  rw [hC] at f2
  have hCl : C ≤ 151 := by omega
  have hk := o.kind
  have oi : r.id.length = 32 * 1 := o.id
  have hBl := recBytes_length o
  have hBv : bvs (recBytes r) = [.int .u8 (r.kind : Int)] ++ bvs r.id ++ [.int .u8 ((UInt8.ofNat (C / 256)).toNat : Int), .int .u8 ((UInt8.ofNat C).toNat : Int)] := by
    unfold recBytes
    rw [hC]
    simp [bvs, bv, digs]
    omega
  generalize r.cells = cs at *
  refine vc_ent ?_
  refine vc_in rfl rfl ?_
  repeat' (first | (refine go1 ?_; intros) | (refine goCC ?_ ?_ <;> (intro hb; (try simp only [hSQ] at hb); try (exfalso; omega))) | fail)
  rename_i g1 g2
  haveI r1 : ∀ M, RdC w0 (M :: blk g1 29 cs :: L) (some ⟨g1, 0 + 1, none⟩) (bvs r.id) := fun M => by
    haveI : RdC w0 (blk g1 29 cs :: L) (some ⟨g1, 0 + 1, none⟩) (bvs r.id) := rdC_part (0 + 1) 32 f1
    infer_instance
  repeat' (first | (refine goW ?_; intros) | (refine goCC ?_ ?_ <;> (intro hb; (try simp only [hSQ] at hb); try (exfalso; omega))) | fail)
  rename_i a3 c3 _ _ g3 a4 c4 _ _
  rw [hi8 C (by omega), lo8 C]
  refine ⟨_, ?_, a4, c4, ?_, rfl⟩
  · unfold ownB
    rw [hBl, hBv]
    exact ((se_drop _ _).trans (SE.cons _ (se_drop _ _))).ent w0
  · rw [hBl]

theorem Rec.setI (k : Nat) (id : List UInt8) (c : Int) (i : Nat) (hi : i < id.length) (x : UInt8) : splice (Rec.cells ⟨k, id, c⟩) (0 + 1 + i) [.int .u8 (x.toNat : Int)] = Rec.cells ⟨k, id.set i x, c⟩ := by
  have e2 := splice_setB id i hi x
  have e3 : splice (.int .u8 (k : Int) :: (bvs id ++ [.int .i64 c])) (0 + 1 + i) [.int .u8 (x.toNat : Int)] = .int .u8 (k : Int) :: (splice (bvs id) i [.int .u8 (x.toNat : Int)] ++ [.int .i64 c]) := by
    simp only [splice, Nat.zero_add, List.length_singleton]
    rw [show 1 + i = i + 1 by omega, show i + 1 + 1 = (i + 1) + 1 by omega]
    simp only [List.take_succ_cons, List.drop_succ_cons]
    rw [List.take_append_of_le_length (by simp; omega), List.drop_append_of_le_length (by simp; omega)]
    simp
  unfold Rec.cells
  rw [e3, e2]

theorem rrRead_vc (w0 : World) (L : List Asn) (a : Option Addr) (cap : Nat) (l : List UInt8) {n : Nat} (hn : n = l.length) (hcap : l.length ≤ cap) (hl : l.length ≤ 1000000000) [hr : RdC w0 L a (bvs l)] :
    VC Try.prog w0 26 [.slice a n cap] L fun v L' => v = .tuple #[.agg (recRead l).1.cells.toArray, .int .i64 (recRead l).2] ∧ L' = L := by
  subst hn
  have hzlen := Rec.len recZero_ok
  refine vc_ent ?_
  refine vc_in rfl rfl ?_
  by_cases h1 : l.length < 35
  · have e : recRead l = (recZero, 10) := by simp [recRead, h1]
    rw [e]
    repeat' (first | (refine go1 ?_; intros) | (refine goCC ?_ ?_ <;> (intro hb; (try simp only [hSQ] at hb); try (exfalso; omega))) | fail)
    all_goals exact ⟨_, (se_drop _ _).ent w0, rfl, rfl⟩
  by_cases h2 : 35 < l.length
  · have e : recRead l = (recZero, 11) := by simp [recRead, h1, h2]
    rw [e]
    repeat' (first | (refine go1 ?_; intros) | (refine goCC ?_ ?_ <;> (intro hb; (try simp only [hSQ] at hb); try (exfalso; omega))) | fail)
    all_goals exact ⟨_, (se_drop _ _).ent w0, rfl, rfl⟩
  have h35 : l.length = 35 := by omega
  have hg := bvs_at l 0 (by omega)
  have hnum : numOf (l.drop 33) < 65536 := (digs_numOf 2 (l.drop 33) (by simp; omega) (by decide)).2
  repeat' (first | (refine go1 ?_; intros) | (refine goCC ?_ ?_ <;> (intro hb; (try simp only [hSQ] at hb); try (exfalso; omega))) | fail)
  rename_i g1 _
  haveI r2 : ∀ M, RdC w0 (M :: L) (subA a 33 cap 1) (bvs (l.drop 33)) := fun M => rd_drop 33 cap hcap
  obtain ⟨k0, hk0⟩ : ∃ k0 : UInt8, k0 = l[0]'(by omega) := ⟨_, rfl⟩
  obtain ⟨D, hD⟩ : ∃ D, D = (l.drop 1).take 32 := ⟨_, rfl⟩
  have hDl : D.length = 32 := by rw [hD]; simp; omega
  have hb0 : fillS [(0, 1), (1, 32), (33, 1)] (bvs (List.replicate 32 0) ++ [Value.int IntKind.u8 0, Value.int IntKind.i64 0]) [(0, (Value.int IntKind.u8 (k0.toNat : Int)).cells.toList), (2, (Value.int IntKind.i64 (numOf (l.drop 33) : Int)).cells.toList)] = Rec.cells ⟨k0.toNat, idM D 0, (numOf (l.drop 33) : Int)⟩ := by rw [idM_0]; rfl
  have lenI : ∀ i, i ≤ 32 → (Rec.cells ⟨k0.toNat, idM D i, (numOf (l.drop 33) : Int)⟩).length = 34 := fun i hi => Rec.len ⟨k0.toNat_lt, idM_length D hDl i hi⟩
  have lenI0 := lenI 0 (by decide)
  refine v_cut Nat [0, 2] rfl (fun g => [(4, .pointer (some ⟨g, 0, none⟩))]) (fun g => blk g 29 (Rec.cells ⟨k0.toNat, idM D 0, (numOf (l.drop 33) : Int)⟩) :: blk g1 29 (bvs (List.replicate 32 0) ++ [Value.int IntKind.u8 0, Value.int IntKind.i64 0]) :: L) ?_ ?_
  · rw [← hk0] at hg
    (refine v_draw0 [9] (by kernel_rfl) ?_ <;> (refine tA 0 ?_) <;> (refine tA 1 ?_) <;> (refine tA 2 ?_) <;> (refine tA 3 ?_) <;> (refine tA 4 ?_))
    refine va_two 5 8 (by kernel_rfl) rfl rfl rfl rfl (vo_call rfl rfl ?_) ?_
    · refine vc_mono (number_vc w0 _ (subA a 33 cap 1) (cap - 33) (l.drop 33) (by simp) (by simp; omega)) ?_
      rintro v L' ⟨rfl, rfl⟩
      refine ⟨.inr entD, ?_⟩
      refine tA 6 ?_
      refine va_take 7 rfl rfl rfl rfl (by kernel_rfl) (fun _ _ _ _ h => h) entD (vq_buildP rfl (by first | (simp [okS, Value.cells]; done) | (simp [okS, Value.cells]; omega)) hb0) ?_
      refine va_one 8 (by kernel_rfl) rfl rfl ?_
      refine vo_alloc rfl ?_
      intro g4
      refine ⟨.inr entD, ?_⟩
      refine va_one 9 (by kernel_rfl) rfl rfl ?_
      (refine goV ?_; intros)
      refine ⟨.inl (by kernel_rfl), ?_⟩
      refine va_done (by kernel_rfl) ?_
      exact ⟨rfl, g4, by (exact sbS), Ent.refl _ _⟩
    · refine vo_alloc rfl ?_
      intro g4
      refine ⟨.inr entD, ?_⟩
      refine va_one 5 (by kernel_rfl) rfl rfl (vo_call rfl rfl ?_)
      haveI r3 : ∀ M M', RdC w0 (M :: M' :: L) (subA a 33 cap 1) (bvs (l.drop 33)) := fun M M' => rd_drop 33 cap hcap
      refine vc_mono (number_vc w0 _ (subA a 33 cap 1) (cap - 33) (l.drop 33) (by simp) (by simp; omega)) ?_
      rintro v L' ⟨rfl, rfl⟩
      refine ⟨.inr entD, ?_⟩
      refine tA 6 ?_
      refine va_take 7 rfl rfl rfl rfl (by kernel_rfl) (fun _ _ _ _ h => h) entD (vq_buildP rfl (by first | (simp [okS, Value.cells]; done) | (simp [okS, Value.cells]; omega)) hb0) ?_
      refine va_one 9 (by kernel_rfl) rfl rfl ?_
      (refine goV ?_; intros)
      refine ⟨.inl (by kernel_rfl), ?_⟩
      refine va_done (by kernel_rfl) ?_
      exact ⟨rfl, g4, by (exact sbS), Ent.refl _ _⟩
  intro g4
  repeat' (first | (refine go1 ?_; intros) | (refine goCC ?_ ?_ <;> (intro hb; (try simp only [hSQ] at hb); try (exfalso; omega))) | fail)
  refine v_loopF Nat [0, 2, 4] rfl (fun i => [(5, .int .i64 i)]) (fun M i => M.set 0 (blk g4 29 (Rec.cells ⟨k0.toNat, idM D i, (numOf (l.drop 33) : Int)⟩))) (fun i => i ≤ 32) (fun i => 32 - i) 0 (Nat.zero_le _) (by (exact sbS)) (Ent.refl _ _) ?_
  intro i hi
  dsimp only [List.set]
  have lenI' := lenI i hi
  by_cases hlt : i < 32
  · have hg := bvs_at l (1 + i) (by omega)
    have e := Rec.setI k0.toNat (idM D i) (numOf (l.drop 33) : Int) i (by rw [idM_length D hDl i hi]; exact hlt) (D[i]'(by omega))
    rw [idM_set D hDl i hlt] at e
    have e1 : l[1 + i]'(by omega) = D[i]'(by omega) := by simp only [hD, List.getElem_take, List.getElem_drop]
    repeat' (first | (refine go1 ?_; intros) | (refine goCC ?_ ?_ <;> (intro hb; (try simp only [hSQ] at hb); try (exfalso; omega))) | fail)
    refine ⟨rfl, i + 1, by omega, by omega, by (exact sbS), ?_⟩
    rw [e1, e]
    exact Ent.refl _ _
  obtain rfl : i = 32 := by omega
  have hrec : recOf l = ⟨k0.toNat, idM D 32, (numOf (l.drop 33) : Int)⟩ := by
    unfold recOf
    rw [idM_all D hDl, hD, hk0]
    simp [List.getD, show 0 < l.length by omega]
  have ho := recOf_ok h35
  have hol := Rec.len ho
  have hrr : recRead l = if (recOf l).may then (recOf l, 0) else (recZero, 8) := by simp [recRead, h1, h2]
  rw [← hrec, hrr]
  repeat' (first | (refine go1 ?_; intros) | (refine goCC ?_ ?_ <;> (intro hb; (try simp only [hSQ] at hb); try (exfalso; omega))) | fail)
  refine clV ?_
  refine vc_mono (rrMay_vc w0 _ (recOf l) ho) ?_
  rintro v L' ⟨rfl, rfl⟩
  cases hm : (recOf l).may
  · simp only [Bool.false_eq_true, if_false]
    repeat' (first | (refine go1 ?_; intros) | (refine goCC ?_ ?_ <;> (intro hb; (try simp only [hSQ] at hb); try (exfalso; omega))) | fail)
    exact ⟨_, ((se_drop _ _).trans (se_drop _ _)).ent w0, rfl, rfl⟩
  · simp only [if_true]
    repeat' (first | (refine go1 ?_; intros) | (refine goCC ?_ ?_ <;> (intro hb; (try simp only [hSQ] at hb); try (exfalso; omega))) | fail)
    exact ⟨_, ((se_drop _ _).trans (se_drop _ _)).ent w0, rfl, rfl⟩

end Go.Proofs.Ytgffejpcldeklaa

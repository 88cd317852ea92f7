/-
  Headers: their cells; whether one may be; its bytes. Bytes and hashes of headers: the walks. The document's bytes and hashes of headers: the walks. Hashes of headers, who follows whom; what is told of headers: the law. Headers and their bytes are one to one; == on headers. Headers of bytes: what is refused.
-/
import Derived.Test.YtgffejpcldeklaaGF
import Derived.Test.YtgffejpcldeklaaGH
import Derived.Test.YtgffejpcldeklaaGC
import Derived.Test.YtgffejpcldeklaaJoin
import Derived.Test.YtgffejpcldeklaaTagH
import Derived.Test.YtgffejpcldeklaaGK
set_option linter.unusedVariables false
set_option linter.unusedSimpArgs false
set_option linter.unusedSectionVars false
set_option maxRecDepth 100000
set_option maxHeartbeats 1000000
namespace Go.Proofs.Ytgffejpcldeklaa
open Go Go.RowKit

structure Hd where
  height : Int
  parent : List UInt8
  state : List UInt8
  rows : List UInt8
  many : Int
def Hd.cells (h : Hd) : List Value := .int .i64 h.height :: (bvs h.parent ++ (bvs h.state ++ (bvs h.rows ++ [.int .i64 h.many])))
structure Hd.ok (h : Hd) : Prop where
  parent : h.parent.length = 32
  state : h.state.length = 32
  rows : h.rows.length = 32
theorem Hd.len {h : Hd} (o : h.ok) : h.cells.length = 98 := by simp [Hd.cells, o.parent, o.state, o.rows]
instance oc_hd (h : Hd) : OC h.cells := (inferInstance : OC (.int .i64 h.height :: (bvs h.parent ++ (bvs h.state ++ (bvs h.rows ++ [.int .i64 h.many])))))
theorem Hd.f0 (h : Hd) : h.cells[0 + 0]? = some (.int .i64 h.height) := rfl
theorem Hd.f1 {h : Hd} (o : h.ok) : (h.cells.drop (0 + 1)).take 32 = bvs h.parent := by
  simp only [Hd.cells, Nat.zero_add, List.drop_succ_cons, List.drop_zero]
  rw [List.take_left' (by simp [o.parent])]
theorem Hd.f2 {h : Hd} (o : h.ok) : (h.cells.drop (0 + 33)).take 32 = bvs h.state := by
  have e : h.cells = (.int .i64 h.height :: bvs h.parent) ++ (bvs h.state ++ (bvs h.rows ++ [.int .i64 h.many])) := by simp [Hd.cells]
  rw [e, List.drop_left' (by simp [o.parent]), List.take_left' (by simp [o.state])]
theorem Hd.f3 {h : Hd} (o : h.ok) : (h.cells.drop (0 + 65)).take 32 = bvs h.rows := by
  have e : h.cells = (.int .i64 h.height :: (bvs h.parent ++ bvs h.state)) ++ (bvs h.rows ++ [.int .i64 h.many]) := by simp [Hd.cells]
  rw [e, List.drop_left' (by simp [o.parent, o.state]), List.take_left' (by simp [o.rows])]
theorem Hd.f4 {h : Hd} (o : h.ok) : h.cells[0 + 97]? = some (.int .i64 h.many) := by
  have e : h.cells = (.int .i64 h.height :: (bvs h.parent ++ (bvs h.state ++ bvs h.rows))) ++ [.int .i64 h.many] := by simp [Hd.cells]
  rw [e, List.getElem?_append_right (by simp [o.parent, o.state, o.rows])]
  simp [o.parent, o.state, o.rows]
abbrev hdShape : Shape := some .i64 :: (List.replicate 32 (some .u8) ++ (List.replicate 32 (some .u8) ++ (List.replicate 32 (some .u8) ++ [some .i64])))
/-- Whether one may be. -/
def Hd.may (h : Hd) : Bool := decide (0 ≤ h.height ∧ h.height ≤ 1073741824 ∧ 0 ≤ h.many ∧ h.many ≤ 256)
def hBytes (h : Hd) : List UInt8 := digs h.height.toNat 8 ++ (h.parent ++ (h.state ++ (h.rows ++ digs h.many.toNat 4)))
theorem hBytes_length {h : Hd} (o : h.ok) : (hBytes h).length = 108 := by simp [hBytes, o.parent, o.state, o.rows, digs_length]
def hHash (h : Hd) : List UInt8 := sha (tagB 6 [hBytes h])
theorem hcheck_vc (w0 : World) (L : List Asn) (h : Hd) (o : h.ok) :
    VC Try.prog w0 32 [.agg h.cells.toArray] L fun v L' => v = .int .i64 (if h.may then 0 else 8) ∧ L' = L := by
  have f0 := Hd.f0 h
  have f4 := Hd.f4 o
  unfold Hd.may
  generalize h.cells = cs at *
  generalize h.height = H at *
  generalize h.many = M at *
  refine vc_ent ?_
  refine vc_in rfl rfl ?_
  repeat' (first | (refine go1 ?_; intros) | (refine goCC ?_ ?_ <;> (intro hb; (try simp only [hSQ] at hb); try (exfalso; omega))) | fail)
  all_goals refine ⟨_, (se_drop _ _).ent w0, ?_, rfl⟩
  all_goals first | (rw [decide_eq_true (by omega)]; rfl) | (rw [decide_eq_false (by omega)]; rfl)
theorem rmay_vc (w0 : World) (L : List Asn) (h : Hd) (o : h.ok) :
    VC Try.prog w0 52 [.agg h.cells.toArray] L fun v L' => v = .bool h.may ∧ L' = L := by
  have f0 := Hd.f0 h
  have f4 := Hd.f4 o
  unfold Hd.may
  generalize h.cells = cs at *
  generalize h.height = H at *
  generalize h.many = M at *
  refine vc_ent ?_
  refine vc_in rfl rfl ?_
  repeat' (first | (refine go1 ?_; intros) | (refine goCC ?_ ?_ <;> (intro hb; (try simp only [hSQ] at hb); try (exfalso; omega))) | fail)
  all_goals refine ⟨_, (se_drop _ _).ent w0, congrArg Value.bool ?_, rfl⟩
  all_goals first | exact decide_eq_decide.2 (by omega) | exact (decide_eq_true (by omega)).symm | exact (decide_eq_false (by omega)).symm
/-- A number in so many bytes. -/
theorem hnumber_vc (w0 : World) (L : List Asn) (n s : Nat) (h0 : 0 < s) (h8 : s ≤ 8) (hn : n < 256 ^ s) (hn' : n < 9000000000000000000) :
    VC Try.prog w0 72 [.int .i64 n, .int .i64 s] L fun v L' => ∃ a' cap', v = .slice a' s cap' ∧ L' = ownB a' cap' (digs n s) :: L := by
  refine vc_in rfl rfl ?_
  repeat' (first | (refine go1 ?_; intros) | (refine goCC ?_ ?_ <;> (intro hb; (try simp only [hSQ] at hb); try (exfalso; omega))) | fail)
  refine clV ?_
  refine vc_mono (put_vc w0 _ n s h0 h8 hn) ?_
  rintro v L' ⟨a4, c4, rfl, rfl⟩
  repeat' (first | (refine go1 ?_; intros) | (refine goCC ?_ ?_ <;> (intro hb; (try simp only [hSQ] at hb); try (exfalso; omega))) | fail)
  exact ⟨_, _, rfl, rfl⟩
end Go.Proofs.Ytgffejpcldeklaa
namespace Go.Proofs.Ytgffejpcldeklaa
open Go Go.RowKit

theorem partsOf_ps (w : World) : ∀ (ps : List PB), (∀ p ∈ ps, Rc w p.a (bvs p.l)) → PartsOf w (pbs ps) (ls ps)
  | [], _ => PartsOf.nil w
  | p :: ps, h => PartsOf.cons rfl (h p (by simp)) (partsOf_ps w ps (fun q hq => h q (by simp [hq])))
/-- Parts put together by the library. -/
theorem join_vc (w0 : World) (L : List Asn) (a : Option Addr) (c : Nat) (ps : List PB) {n : Nat} (hn : n = ps.length) (h2 : 2 ≤ ps.length) (hc : ps.length ≤ c) (hn47 : ps.length ≤ 1000000) (hlen : Lib.lens (ls ps) ≤ 140737488355328) [hr : RdC w0 L a (pbs ps)] [hp : RdPs w0 L ps] :
    VC Try.prog w0 79 [.slice a n c, .slice none 0 0] L fun v L' => ∃ a' c', v = .slice a' (ls ps).flatten.length c' ∧ (ls ps).flatten.length ≤ c' ∧ L' = rd a' (bvs (ls ps).flatten) :: L := by
  subst hn
  refine vc_mono (vc_fresh (R := fun v M => ∃ a' c', v = .slice a' (ls ps).flatten.length c' ∧ (ls ps).flatten.length ≤ c' ∧ M = [rd a' (bvs (ls ps).flatten)]) (fun w hs => (join_calls a ps.length c (pbs ps) (ls ps) w (by simp [ls]) h2 (hr.out w hs) (partsOf_ps w ps (fun p hpp => (hp.out p hpp).out w hs)) hc hn47 hlen).mono ?_)) ?_
  · rintro e w' ⟨a', cap', rfl, h1, h3⟩
    exact ⟨_, _, rfl, h3, _, _, rfl, h1, rfl⟩
  · rintro v L' ⟨M, rfl, a', cap', rfl, h1, rfl⟩
    exact ⟨_, _, rfl, h1, rfl⟩

theorem hjoin_vc (w0 : World) (L : List Asn) (a : Option Addr) (c : Nat) (ps : List PB) {n : Nat} (hn : n = ps.length) (h2 : 2 ≤ ps.length) (hc : ps.length ≤ c) (hn47 : ps.length ≤ 1000000) (hlen : Lib.lens (ls ps) ≤ 140737488355328) [hr : RdC w0 L a (pbs ps)] [hp : RdPs w0 L ps] :
    VC Try.prog w0 71 [.slice a n c] L fun v L' => ∃ a' c', v = .slice a' (ls ps).flatten.length c' ∧ (ls ps).flatten.length ≤ c' ∧ L' = rd a' (bvs (ls ps).flatten) :: L := by
  subst hn
  refine vc_in rfl rfl ?_
  repeat' (first | (refine go1 ?_; intros) | (refine goCC ?_ ?_ <;> (intro hb; (try simp only [hSQ] at hb); try (exfalso; omega))) | fail)
  refine clV ?_
  refine vc_mono (join_vc w0 _ a c ps rfl h2 hc hn47 hlen) ?_
  rintro v L' ⟨a1, c1, rfl, h1, rfl⟩
  repeat' (first | (refine go1 ?_; intros) | (refine goCC ?_ ?_ <;> (intro hb; (try simp only [hSQ] at hb); try (exfalso; omega))) | fail)
  exact ⟨_, _, rfl, h1, rfl⟩

theorem hbytes_err_vc (w0 : World) (L : List Asn) (h : Hd) (o : h.ok) (hm : h.may = false) :
    VC Try.prog w0 46 [.agg h.cells.toArray] L fun v L' => v = .tuple #[.slice none 0 0, .int .i64 8] ∧ L' = L := by
  have hlen := Hd.len o
  refine vc_ent ?_
  refine vc_in rfl rfl ?_
  repeat' (first | (refine go1 ?_; intros) | (refine goCC ?_ ?_ <;> (intro hb; (try simp only [hSQ] at hb); try (exfalso; omega))) | fail)
  refine clV ?_
  refine vc_mono (hcheck_vc w0 _ h o) ?_
  rintro v L' ⟨rfl, rfl⟩
  rw [hm]
  simp only [Bool.false_eq_true, if_false]
  repeat' (first | (refine go1 ?_; intros) | (refine goCC ?_ ?_ <;> (intro hb; (try simp only [hSQ] at hb); try (exfalso; omega))) | fail)
  exact ⟨_, (se_drop _ _).ent w0, rfl, rfl⟩

theorem hbytes_vc (w0 : World) (L : List Asn) (h : Hd) (o : h.ok) (hm : h.may = true) :
    VC Try.prog w0 46 [.agg h.cells.toArray] L fun v L' => ∃ a c, v = .tuple #[.slice a (hBytes h).length c, .int .i64 0] ∧ L' = rd a (bvs (hBytes h)) :: L := by
  have hlen := Hd.len o
  have hmay := of_decide_eq_true hm
  obtain ⟨N, hN⟩ : ∃ N : Nat, h.height = (N : Int) := ⟨h.height.toNat, by omega⟩
  obtain ⟨M, hM⟩ : ∃ M : Nat, h.many = (M : Int) := ⟨h.many.toNat, by omega⟩
  have f0 := Hd.f0 h
  have f1 := Hd.f1 o
  have f2 := Hd.f2 o
  have f3 := Hd.f3 o
  have f4 := Hd.f4 o
  rw [hN] at f0
  rw [hM] at f4
  have hB : hBytes h = digs N 8 ++ (h.parent ++ (h.state ++ (h.rows ++ digs M 4))) := by unfold hBytes; rw [hN, hM]; rfl
  have hNl : N ≤ 1073741824 := by omega
  have hMl : M ≤ 256 := by omega
  have op := o.parent
  have os := o.state
  have orr := o.rows
  have hd8 := digs_length N 8
  have hd4 := digs_length M 4
  refine vc_ent ?_
  refine vc_in rfl rfl ?_
  repeat' (first | (refine go1 ?_; intros) | (refine goCC ?_ ?_ <;> (intro hb; (try simp only [hSQ] at hb); try (exfalso; omega))) | fail)
  rename_i g1
  refine clV ?_
  refine vc_mono (hcheck_vc w0 _ h o) ?_
  rintro v L' ⟨rfl, rfl⟩
  rw [hm]
  simp only [if_true]
  generalize h.cells = cs at *
  repeat' (first | (refine go1 ?_; intros) | (refine goCC ?_ ?_ <;> (intro hb; (try simp only [hSQ] at hb); try (exfalso; omega))) | fail)
  haveI r1 : ∀ L, RdC w0 (blk g1 35 cs :: L) (some ⟨g1, 0 + 1, none⟩) (bvs h.parent) := fun L => rdC_part (0 + 1) 32 f1
  haveI r2 : ∀ L, RdC w0 (blk g1 35 cs :: L) (some ⟨g1, 0 + 33, none⟩) (bvs h.state) := fun L => rdC_part (0 + 33) 32 f2
  haveI r3 : ∀ L, RdC w0 (blk g1 35 cs :: L) (some ⟨g1, 0 + 65, none⟩) (bvs h.rows) := fun L => rdC_part (0 + 65) 32 f3
  (refine v_draw0 [13] (by kernel_rfl) ?_ <;> (refine va_takeW 0 rfl rfl rfl rfl ?_) <;> (refine va_takeW 1 rfl rfl rfl rfl ?_) <;> (refine va_takeW 3 rfl rfl rfl rfl ?_) <;> (refine va_takeW 4 rfl rfl rfl rfl ?_) <;> (refine va_takeW 5 rfl rfl rfl rfl ?_) <;> (refine va_takeW 6 rfl rfl rfl rfl ?_) <;> (refine va_takeW 7 rfl rfl rfl rfl ?_) <;> (refine va_takeW 8 rfl rfl rfl rfl ?_) <;> (refine va_takeW 9 rfl rfl rfl rfl ?_) <;> (refine va_takeW 10 rfl rfl rfl rfl ?_))
  first | refine va_one 2 (by kernel_rfl) rfl rfl (vo_call rfl rfl ?_) | refine va_one 2 (by kernel_rfl) rfl rfl (vo_callV rfl rfl rfl ?_)
  refine vc_mono (hnumber_vc w0 _ N 8 (by decide) (by decide) (by omega) (by omega)) ?_
  rintro v L' ⟨a1, c1, rfl, rfl⟩
  refine ⟨.inr entD, ?_⟩
  skip
  first | refine va_one 11 (by kernel_rfl) rfl rfl (vo_call rfl rfl ?_) | refine va_one 11 (by kernel_rfl) rfl rfl (vo_callV rfl rfl rfl ?_)
  refine vc_mono (hnumber_vc w0 _ M 4 (by decide) (by decide) (by omega) (by omega)) ?_
  rintro v L' ⟨a2, c2, rfl, rfl⟩
  refine ⟨.inr entD, ?_⟩
  ((refine va_one 12 (by kernel_rfl) rfl rfl ?_; (refine goV ?_; intros); refine ⟨.inr entD, ?_⟩))
  rename_i g2
  first | refine va_one 13 (by kernel_rfl) rfl rfl (vo_call rfl rfl ?_) | refine va_one 13 (by kernel_rfl) rfl rfl (vo_callV rfl rfl rfl ?_)
  have hps : ls [⟨a1, c1, digs N 8⟩, ⟨some ⟨g1, 0 + 1, none⟩, 32, h.parent⟩, ⟨some ⟨g1, 0 + 33, none⟩, 32, h.state⟩, ⟨some ⟨g1, 0 + 65, none⟩, 32, h.rows⟩, ⟨a2, c2, digs M 4⟩] = [digs N 8, h.parent, h.state, h.rows, digs M 4] := rfl
  have hfl : [digs N 8, h.parent, h.state, h.rows, digs M 4].flatten = hBytes h := by rw [hB]; simp
  haveI hA : ∀ L, RdC w0 (own 30 1 (some ⟨g2, 0, none⟩) 5 5 [.slice a1 8 c1, .slice (some ⟨g1, 0 + 1, none⟩) 32 32, .slice (some ⟨g1, 0 + 33, none⟩) 32 32, .slice (some ⟨g1, 0 + 65, none⟩) 32 32, .slice a2 4 c2] :: L) (some ⟨g2, 0, none⟩) (pbs [⟨a1, c1, digs N 8⟩, ⟨some ⟨g1, 0 + 1, none⟩, 32, h.parent⟩, ⟨some ⟨g1, 0 + 33, none⟩, 32, h.state⟩, ⟨some ⟨g1, 0 + 65, none⟩, 32, h.rows⟩, ⟨a2, c2, digs M 4⟩]) := fun L => by
    have e : pbs [⟨a1, c1, digs N 8⟩, ⟨some ⟨g1, 0 + 1, none⟩, 32, h.parent⟩, ⟨some ⟨g1, 0 + 33, none⟩, 32, h.state⟩, ⟨some ⟨g1, 0 + 65, none⟩, 32, h.rows⟩, ⟨a2, c2, digs M 4⟩] = [.slice a1 8 c1, .slice (some ⟨g1, 0 + 1, none⟩) 32 32, .slice (some ⟨g1, 0 + 33, none⟩) 32 32, .slice (some ⟨g1, 0 + 65, none⟩) 32 32, .slice a2 4 c2] := by
      simp only [pbs, PB.v, List.map_cons, List.map_nil, hd8, hd4, op, os, orr]
    rw [e]
    infer_instance
  haveI hB5 : RdPs w0 (own 30 1 (some ⟨g2, 0, none⟩) 5 5 [.slice a1 8 c1, .slice (some ⟨g1, 0 + 1, none⟩) 32 32, .slice (some ⟨g1, 0 + 33, none⟩) 32 32, .slice (some ⟨g1, 0 + 65, none⟩) 32 32, .slice a2 4 c2] :: ownB a2 c2 (digs M 4) :: ownB a1 c1 (digs N 8) :: blk g1 35 cs :: L) [⟨a1, c1, digs N 8⟩, ⟨some ⟨g1, 0 + 1, none⟩, 32, h.parent⟩, ⟨some ⟨g1, 0 + 33, none⟩, 32, h.state⟩, ⟨some ⟨g1, 0 + 65, none⟩, 32, h.rows⟩, ⟨a2, c2, digs M 4⟩] := ⟨fun p hp => by
    simp only [List.mem_cons, List.not_mem_nil, or_false] at hp
    rcases hp with rfl | rfl | rfl | rfl | rfl <;> infer_instance⟩
  refine vc_mono (hjoin_vc w0 _ (some ⟨g2, 0, none⟩) 5 [⟨a1, c1, digs N 8⟩, ⟨some ⟨g1, 0 + 1, none⟩, 32, h.parent⟩, ⟨some ⟨g1, 0 + 33, none⟩, 32, h.state⟩, ⟨some ⟨g1, 0 + 65, none⟩, 32, h.rows⟩, ⟨a2, c2, digs M 4⟩] rfl (by simp) (by simp) (by simp) (by rw [hps]; simp [Lib.lens, hd8, hd4, op, os, orr])) ?_
  rintro v L' ⟨a3, c3, rfl, hc3, rfl⟩
  rw [hps, hfl] at hc3 ⊢
  refine ⟨.inr entD, ?_⟩
  ((refine va_takePW 14 rfl rfl rfl rfl ?_) <;> (refine va_takePW 15 rfl rfl rfl rfl ?_) <;> (refine va_done (by kernel_rfl) ?_))
  repeat' (first | (refine go1 ?_; intros) | (refine goCC ?_ ?_ <;> (intro hb; (try simp only [hSQ] at hb); try (exfalso; omega))) | fail)
  refine ⟨_, ?_, a3, c3, rfl, rfl⟩
  exact (SE.cons _ ((se_drop _ _).trans ((se_drop _ _).trans ((se_drop _ _).trans (se_drop _ _))))).ent w0
end Go.Proofs.Ytgffejpcldeklaa
namespace Go.Proofs.Ytgffejpcldeklaa
open Go Go.RowKit

theorem rhof_vc (w0 : World) (L : List Asn) (h : Hd) (o : h.ok) (hm : h.may = true) :
    VC Try.prog w0 58 [.agg h.cells.toArray] L fun v L' => ∃ a c, v = .slice a (hBytes h).length c ∧ L' = ownB a c (hBytes h) :: L := by
  have hmay := of_decide_eq_true hm
  obtain ⟨N, hN⟩ : ∃ N : Nat, h.height = (N : Int) := ⟨h.height.toNat, by omega⟩
  obtain ⟨M, hM⟩ : ∃ M : Nat, h.many = (M : Int) := ⟨h.many.toNat, by omega⟩
  have f0 := Hd.f0 h
  have f1 := Hd.f1 o
  have f2 := Hd.f2 o
  have f3 := Hd.f3 o
  have f4 := Hd.f4 o
  rw [hN] at f0
  rw [hM] at f4
  have hB : hBytes h = digs N 8 ++ (h.parent ++ (h.state ++ (h.rows ++ digs M 4))) := by unfold hBytes; rw [hN, hM]; rfl
  have hNl : N ≤ 1073741824 := by omega
  have hMl : M ≤ 256 := by omega
  have op : h.parent.length = 32 * 1 := o.parent
  have os : h.state.length = 32 * 1 := o.state
  have orr : h.rows.length = 32 * 1 := o.rows
  have hd8 := digs_length N 8
  have hd4 := digs_length M 4
  have hBl := hBytes_length o
  have hBv : bvs (hBytes h) = bvs (digs N 8) ++ bvs h.parent ++ bvs h.state ++ bvs h.rows ++ bvs (digs M 4) := by rw [hB]; simp [bvs_append]
  generalize h.cells = cs at *
  refine vc_ent ?_
  refine vc_in rfl rfl ?_
  repeat' (first | (refine go1 ?_; intros) | (refine goCC ?_ ?_ <;> (intro hb; (try simp only [hSQ] at hb); try (exfalso; omega))) | fail)
  rename_i g1
  refine clV ?_
  refine vc_mono (digits_vc w0 _ N 8 (by decide) (by decide) (by omega)) ?_
  rintro v L' ⟨a1, c1, b1, rfl, rfl⟩
  repeat' (first | (refine go1 ?_; intros) | (refine goCC ?_ ?_ <;> (intro hb; (try simp only [hSQ] at hb); try (exfalso; omega))) | fail)
  refine clV ?_
  refine vc_mono (digits_vc w0 _ M 4 (by decide) (by decide) (by omega)) ?_
  rintro v L' ⟨a2, c2, b2, rfl, rfl⟩
  haveI r1 : ∀ L, RdC w0 (blk g1 35 cs :: L) (some ⟨g1, 0 + 1, none⟩) (bvs h.parent) := fun L => rdC_part (0 + 1) 32 f1
  haveI r2 : ∀ L, RdC w0 (blk g1 35 cs :: L) (some ⟨g1, 0 + 33, none⟩) (bvs h.state) := fun L => rdC_part (0 + 33) 32 f2
  haveI r3 : ∀ L, RdC w0 (blk g1 35 cs :: L) (some ⟨g1, 0 + 65, none⟩) (bvs h.rows) := fun L => rdC_part (0 + 65) 32 f3
  rw [← hd8]
  repeat' (first | (refine goW ?_; intros) | (refine goCC ?_ ?_ <;> (intro hb; (try simp only [hSQ] at hb); try (exfalso; omega))) | fail)
  rename_i a3 c3 _ _ a4 c4 _ _ a5 c5 _ _ a6 c6 _ _
  refine ⟨_, ?_, a6, c6, ?_, rfl⟩
  · unfold ownB
    rw [hBl, hBv, hd8]
    exact ((se_drop _ _).trans (SE.cons _ (se_drop _ _))).ent w0
  · rw [hBl, hd8]

/-- Whether one follows another one. -/
def follows (h p : Hd) : Bool := decide (h.may = true ∧ p.may = true ∧ h.height = p.height + 1 ∧ h.parent = hHash p)
end Go.Proofs.Ytgffejpcldeklaa
namespace Go.Proofs.Ytgffejpcldeklaa
open Go Go.RowKit

end Go.Proofs.Ytgffejpcldeklaa
namespace Go.Proofs.Ytgffejpcldeklaa
open Go Go.RowKit

deriving instance DecidableEq for Hd
theorem Hd.fits {x : Hd} (h : x.ok) : Fits hdShape x.cells := by
  have a := fits_bvs x.parent
  have b := fits_bvs x.state
  have c := fits_bvs x.rows
  rw [h.parent] at a
  rw [h.state] at b
  rw [h.rows] at c
  exact ⟨⟨_, rfl⟩, a.append (b.append (c.append ⟨⟨_, rfl⟩, trivial⟩))⟩
theorem Hd.inj {x y : Hd} (h : x.ok) (k : y.ok) : x.cells = y.cells ↔ x = y := by
  refine ⟨fun e => ?_, fun e => by rw [e]⟩
  unfold Hd.cells at e
  simp only [List.cons.injEq, Value.int.injEq, true_and] at e
  obtain ⟨e0, e⟩ := e
  obtain ⟨e1, e⟩ := List.append_inj e (by simp [h.parent, k.parent])
  obtain ⟨e2, e⟩ := List.append_inj e (by simp [h.state, k.state])
  obtain ⟨e3, e4⟩ := List.append_inj e (by simp [h.rows, k.rows])
  simp only [List.cons.injEq, Value.int.injEq, true_and, and_true] at e4
  obtain ⟨n, p, s, r, m⟩ := x
  obtain ⟨n', p', s', r', m'⟩ := y
  simp only at e0 e1 e2 e3 e4
  have := bvs_inj e1
  have := bvs_inj e2
  have := bvs_inj e3
  simp only [Hd.mk.injEq]
  refine ⟨e0, by assumption, by assumption, by assumption, e4⟩
section
variable {P : Program} {w0 : World} {n : Nat} {ds : List Deferred} {fr : Fr} {L : List Asn} {dst : Option Nat} {ty : TypeId} {pos : String} {after : Array Edge} {gd : Option (Nat × Bool)}
theorem vq_eqHd {t yt : TypeId} {a b : Operand} {x y : Hd} (hx : evA fr a = some (.agg x.cells.toArray)) (hy : evA fr b = some (.agg y.cells.toArray)) [he : EqI P t hdShape] (hox : x.ok) (hoy : y.ok) : VQ P w0 n ⟨dst, .binOp .eql t a b yt, ty, pos, after, gd⟩ (.bool (decide (x = y))) ds fr L :=
  vq_val (fun u w hk _ => run_eqAgg t yt a b rfl he x.cells y.cells (hk.ev hx) (hk.ev hy) (Hd.fits hox) (Hd.fits hoy) _ (Hd.inj hox hoy))
theorem vq_eqHdS {t yt : TypeId} {a b : Operand} {x : Hd} (hx : evA fr a = some (.agg x.cells.toArray)) (hy : evA fr b = some (.agg x.cells.toArray)) [he : EqI P t hdShape] (hox : x.ok) : VQ P w0 n ⟨dst, .binOp .eql t a b yt, ty, pos, after, gd⟩ (.bool true) ds fr L := by
  have h := vq_eqHd (P := P) (w0 := w0) (n := n) (ds := ds) (L := L) (dst := dst) (ty := ty) (pos := pos) (after := after) (gd := gd) (t := t) (yt := yt) hx hy hox hox
  rwa [decide_eq_true rfl] at h
end
end Go.Proofs.Ytgffejpcldeklaa
namespace Go.Proofs.Ytgffejpcldeklaa
open Go Go.RowKit

def zeroHd : Hd := ⟨0, List.replicate 32 0, List.replicate 32 0, List.replicate 32 0, 0⟩
theorem zeroHd_ok : zeroHd.ok := ⟨by simp [zeroHd], by simp [zeroHd], by simp [zeroHd]⟩
end Go.Proofs.Ytgffejpcldeklaa

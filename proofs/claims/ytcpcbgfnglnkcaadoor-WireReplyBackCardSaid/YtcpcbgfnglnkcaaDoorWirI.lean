/-
  A request's parts are put behind each other.
-/
import Derived.Test.YtcpcbgfnglnkcaaDoorWirF
import Derived.Test.YtcpcbgfnglnkcaaDoorGC
set_option linter.unusedVariables false
set_option linter.unusedSimpArgs false
set_option linter.unusedSectionVars false
set_option maxRecDepth 100000
set_option maxHeartbeats 4000000
namespace Go.Proofs.YtcpcbgfnglnkcaaDoor
open Go Go.RowKit
open Classical

theorem putBig_vc (w0 : World) (L : List Asn) (n : Nat) (hn : 4294967296 ≤ n) (hn2 : n < 18446744073709551616) :
    VC Tryd.prog w0 12 [.int .u64 n, .int .i64 4] L fun v L' => v = .tuple #[.slice none 0 0, .int .i64 4] ∧ L' = L := by
  have hq : 0 < n / 4294967296 := by omega
  have hr : (n : Int).fdiv (2 ^ min (32 : Int).toNat IntKind.u64.bits) = ((n / 4294967296 : Nat) : Int) := by
    rw [show (2 : Int) ^ min (32 : Int).toNat IntKind.u64.bits = ((4294967296 : Nat) : Int) from by decide, Int.fdiv_eq_ediv_of_nonneg _ (by omega)]
    omega
  refine vc_ent ?_
  refine vc_in rfl rfl ?_
  generalize n / 4294967296 = Q at *
  repeat' (first | (refine go1 ?_; intros) | (refine goCC ?_ ?_ <;> (intro hb; (try simp only [hSQ] at hb); try (exfalso; omega))) | fail)
  · exact ⟨L, sei _ _ _, rfl, rfl⟩
  · exfalso
    apply hb
    show (0 : Int) < (n : Int).fdiv (2 ^ min (32 : Int).toNat IntKind.u64.bits)
    rw [hr]
    omega
def Pt.bytes (H S : Nat) (a : Ask) : Pt → List UInt8
  | .h => digs H 8
  | .s => if S < 4294967296 then digs S 4 else []
  | .d => a.key
  | .t => txBytes a.tx
def putB (H S : Nat) (a : Ask) (ps : List Pt) : List UInt8 := ps.flatMap (Pt.bytes H S a)
theorem putB_take {H S : Nat} {a : Ask} {ps : List Pt} {i : Nat} (hi : i < ps.length) : putB H S a (ps.take (i + 1)) = putB H S a (ps.take i) ++ ps[i].bytes H S a := by
  unfold putB
  rw [List.take_succ_eq_append_getElem hi, List.flatMap_append]
  simp
theorem own_app (a : Option Addr) (c : Nat) (T D : List UInt8) (m : Nat) (hD : D.length = m) : ownB a c (T ++ D) = own 5 1 a (T.length + m) c (bvs T ++ bvs D) := by
  unfold ownB
  rw [List.length_append, hD, bvs_append]
theorem wput_vc (w0 : World) (L : List Asn) (ab : Option Addr) (cb : Nat) (B : List UInt8) (ap : Option Addr) (cp g gp : Nat) (ps : List Pt) (a : Ask) (h : a.ok) (H S : Nat) (hH : a.height = H) (hS : a.sub = S) (hl : B.length ≤ 1000) (hpl : ps.length ≤ 10) {nb : Nat} (hnb : nb = B.length) :
    VC Tryd.prog w0 13 [.slice ab nb cb, .slice ap ps.length cp] (ownB ab cb B :: ownPt ap cp g gp ps :: askM gp g a L) fun v L' => ∃ a' c', v = .slice a' (B ++ putB H S a ps).length c' ∧ L' = ownB a' c' (B ++ putB H S a ps) :: ownPt ap cp g gp ps :: askM gp g a L := by
  subst hnb
  have hcl := Ask.len h
  have f2 := Ask.f2 h
  have f3 := Ask.f3 h
  have f4 := Ask.f4 h
  have hkl := h.key
  have hh2 := h.h2
  have hs2 := h.s2
  rw [hH] at f3 hh2
  rw [hS] at f4 hs2
  have hb1 : ∀ p : Pt, (p.bytes H S a).length ≤ 120 := fun p => by
    cases p
    · simp [Pt.bytes, digs_length]
    · unfold Pt.bytes; dsimp only; split <;> simp [digs_length]
    · simp [Pt.bytes, hkl]
    · have := h.tx
      simp [Pt.bytes, txBytes, txBody, digs_length, this.pub, this.to, this.sign]
  have hbn : ∀ i, i ≤ ps.length → (putB H S a (ps.take i)).length ≤ i * 120 := by
    intro i
    induction i with
    | zero => intro _; simp [putB]
    | succ i ih =>
      intro hi
      have := ih (by omega)
      rw [putB_take (by omega), List.length_append]
      have := hb1 ps[i]
      omega
  refine vc_ent ?_
  refine vc_in rfl rfl ?_
  unfold askM
  repeat' (first | (refine go1 ?_; intros) | (refine goCC ?_ ?_ <;> (intro hb; (try simp only [hSQ] at hb); try (exfalso; omega))) | fail)
  refine v_loopF (Nat × Option Addr × Nat) [14, 15] rfl (fun x => [(16, .int .i64 x.1), (0, .slice x.2.1 (B ++ putB H S a (ps.take x.1)).length x.2.2)]) (fun _ x => ownB x.2.1 x.2.2 (B ++ putB H S a (ps.take x.1)) :: ownPt ap cp g gp ps :: blk gp 77 [.pointer (some ⟨g, 0, none⟩)] :: blk g 55 a.cells :: L) (fun x => x.1 ≤ ps.length) (fun x => ps.length - x.1) (0, ab, cb) (Nat.zero_le _) ?_ ?_ ?_
  · simp only [List.take_zero, putB, List.flatMap_nil, List.append_nil]
    (exact sbS)
  · simp only [List.take_zero, putB, List.flatMap_nil, List.append_nil]
    exact Ent.refl _ _
  rintro ⟨i, a1, c1⟩ hi
  dsimp only at hi ⊢
  by_cases hlt : i < ps.length
  rotate_left
  · obtain rfl : i = ps.length := by omega
    rw [List.take_length]
    repeat' (first | (refine go1 ?_; intros) | (refine goCC ?_ ?_ <;> (intro hb; (try simp only [hSQ] at hb); try (exfalso; omega))) | fail)
    exact ⟨_, Ent.refl _ _, a1, c1, rfl, rfl⟩
  have hst : B ++ putB H S a (ps.take (i + 1)) = (B ++ putB H S a (ps.take i)) ++ ps[i].bytes H S a := by rw [putB_take hlt, List.append_assoc]
  have hbi := hbn i hi
  have hTl : (B ++ putB H S a (ps.take i)).length ≤ 3000 := by
    rw [List.length_append]
    omega
  have hv : (ps.map (Pt.val g gp))[i]? = some (Pt.val g gp ps[i]) := by simp [hlt]
  have hvp : 0 < (ps.map (Pt.val g gp)).length := by simp; omega
  generalize B ++ putB H S a (ps.take i) = T at *
  generalize hp : ps[i] = p at *
  unfold ownPt
  cases p with
  | h =>
    rw [show Pt.val g gp Pt.h = .iface 70 (.agg #[.pointer (some ⟨g, 0 + 132, none⟩), .int .i64 8, .int .i64 1073741824]) from rfl] at hv
    generalize (ps.map (Pt.val g gp)) = vals at *
    have hD : (Pt.bytes H S a Pt.h).length = 8 := digs_length H 8
    have eD : Pt.bytes H S a Pt.h = digs H 8 := rfl
    rw [eD] at hst hD
    repeat' (first | (refine go1 ?_; intros) | (refine goCC ?_ ?_ <;> (intro hb; (try simp only [hSQ] at hb); try (exfalso; omega))) | fail)
    refine vl_q rfl rfl rfl rfl (vq_asT rfl) ?_
    repeat' (first | (refine go1 ?_; intros) | (refine goCC ?_ ?_ <;> (intro hb; (try simp only [hSQ] at hb); try (exfalso; omega))) | fail)
    (refine v_draw0 [] (by kernel_rfl) ?_ <;> (refine tA 0 ?_) <;> (refine tA 1 ?_) <;> (refine tA 2 ?_) <;> (refine tA 3 ?_) <;> (refine tA 4 ?_) <;> (refine tA 5 ?_) <;> (refine tA 6 ?_))
    first | refine va_one 7 (by kernel_rfl) rfl rfl (vo_call rfl rfl ?_) | refine va_one 7 (by kernel_rfl) rfl rfl (vo_callV rfl rfl rfl ?_)
    refine vc_mono (put_vc w0 _ H 8 (by decide) (by decide) (by show H < 18446744073709551616; omega)) ?_
    rintro v L' ⟨a2, c2, rfl, rfl⟩
    generalize digs H 8 = D at *
    refine ⟨.inr entD, ?_⟩
    ((refine tA 8 ?_) <;> (refine tA 9 ?_) <;> (refine tA 10 ?_) <;> (refine tA 11 ?_) <;> (refine tA 12 ?_) <;> (refine va_done (by kernel_rfl) ?_))
    repeat' (first | (refine go1 ?_; intros) | (refine goCC ?_ ?_ <;> (intro hb; (try simp only [hSQ] at hb); try (exfalso; omega))) | fail)
    rename_i a3 c3 _ _
    refine ⟨rfl, (i + 1, a3, c3), by dsimp only; omega, by dsimp only; omega, ?_, ?_⟩
    · dsimp only
      rw [hst, List.length_append, hD]
      (exact sbS)
    · dsimp only
      rw [hst, own_app a3 c3 T _ _ hD]
      exact sei _ _ _
  | s =>
    rw [show Pt.val g gp Pt.s = .iface 70 (.agg #[.pointer (some ⟨g, 0 + 133, none⟩), .int .i64 4, .int .i64 1073741823]) from rfl] at hv
    generalize (ps.map (Pt.val g gp)) = vals at *
    by_cases hS4 : S < 4294967296
    · have eD : Pt.bytes H S a Pt.s = digs S 4 := if_pos hS4
      have hD := digs_length S 4
      rw [eD] at hst
      repeat' (first | (refine go1 ?_; intros) | (refine goCC ?_ ?_ <;> (intro hb; (try simp only [hSQ] at hb); try (exfalso; omega))) | fail)
      refine vl_q rfl rfl rfl rfl (vq_asT rfl) ?_
      repeat' (first | (refine go1 ?_; intros) | (refine goCC ?_ ?_ <;> (intro hb; (try simp only [hSQ] at hb); try (exfalso; omega))) | fail)
      (refine v_draw0 [] (by kernel_rfl) ?_ <;> (refine tA 0 ?_) <;> (refine tA 1 ?_) <;> (refine tA 2 ?_) <;> (refine tA 3 ?_) <;> (refine tA 4 ?_) <;> (refine tA 5 ?_) <;> (refine tA 6 ?_))
      first | refine va_one 7 (by kernel_rfl) rfl rfl (vo_call rfl rfl ?_) | refine va_one 7 (by kernel_rfl) rfl rfl (vo_callV rfl rfl rfl ?_)
      refine vc_mono (put_vc w0 _ S 4 (by decide) (by decide) (by show S < 4294967296; omega)) ?_
      rintro v L' ⟨a2, c2, rfl, rfl⟩
      generalize digs S 4 = D at *
      refine ⟨.inr entD, ?_⟩
      ((refine tA 8 ?_) <;> (refine tA 9 ?_) <;> (refine tA 10 ?_) <;> (refine tA 11 ?_) <;> (refine tA 12 ?_) <;> (refine va_done (by kernel_rfl) ?_))
      repeat' (first | (refine go1 ?_; intros) | (refine goCC ?_ ?_ <;> (intro hb; (try simp only [hSQ] at hb); try (exfalso; omega))) | fail)
      rename_i a3 c3 _ _
      refine ⟨rfl, (i + 1, a3, c3), by dsimp only; omega, by dsimp only; omega, ?_, ?_⟩
      · dsimp only
        rw [hst, List.length_append, hD]
        (exact sbS)
      · dsimp only
        rw [hst, own_app a3 c3 T _ _ hD]
        exact sei _ _ _
    · have eD : Pt.bytes H S a Pt.s = [] := if_neg hS4
      have hD : ([] : List UInt8).length = 0 := rfl
      rw [eD] at hst
      repeat' (first | (refine go1 ?_; intros) | (refine goCC ?_ ?_ <;> (intro hb; (try simp only [hSQ] at hb); try (exfalso; omega))) | fail)
      refine vl_q rfl rfl rfl rfl (vq_asT rfl) ?_
      repeat' (first | (refine go1 ?_; intros) | (refine goCC ?_ ?_ <;> (intro hb; (try simp only [hSQ] at hb); try (exfalso; omega))) | fail)
      (refine v_draw0 [] (by kernel_rfl) ?_ <;> (refine tA 0 ?_) <;> (refine tA 1 ?_) <;> (refine tA 2 ?_) <;> (refine tA 3 ?_) <;> (refine tA 4 ?_) <;> (refine tA 5 ?_) <;> (refine tA 6 ?_))
      first | refine va_one 7 (by kernel_rfl) rfl rfl (vo_call rfl rfl ?_) | refine va_one 7 (by kernel_rfl) rfl rfl (vo_callV rfl rfl rfl ?_)
      refine vc_mono (putBig_vc w0 _ S (by omega) (by omega)) ?_
      rintro v L' ⟨rfl, rfl⟩
      refine ⟨.inr entD, ?_⟩
      ((refine tA 8 ?_) <;> (refine tA 9 ?_) <;> (refine tA 10 ?_) <;> (refine tA 11 ?_) <;> (refine tA 12 ?_) <;> (refine va_done (by kernel_rfl) ?_))
      haveI rn : ∀ M, RdC w0 M none (bvs ([] : List UInt8)) := fun M => rdC_nil _ _ _
      repeat' (first | (refine go1 ?_; intros) | (refine goCC ?_ ?_ <;> (intro hb; (try simp only [hSQ] at hb); try (exfalso; omega))) | fail)
      rename_i a3 c3 _ _
      refine ⟨rfl, (i + 1, a3, c3), by dsimp only; omega, by dsimp only; omega, ?_, ?_⟩
      · dsimp only
        rw [hst, List.length_append, hD]
        (exact sbS)
      · dsimp only
        rw [hst, own_app a3 c3 T _ _ hD]
        exact sei _ _ _
  | d =>
    rw [show Pt.val g gp Pt.d = .iface 85 (.agg #[.pointer (some ⟨g, 0 + 100, none⟩)]) from rfl] at hv
    generalize (ps.map (Pt.val g gp)) = vals at *
    have eD : Pt.bytes H S a Pt.d = a.key := rfl
    have hD := hkl
    rw [eD] at hst
    haveI r2' : ∀ g M, RdC w0 (blk g 55 a.cells :: M) (some ⟨g, 0 + 100, none⟩) (bvs a.key) := fun g M => rdC_part (0 + 100) 32 f2
    have hkl2 : a.key.length = 32 * 1 := hkl
    repeat' (first | (refine go1 ?_; intros) | (refine goCC ?_ ?_ <;> (intro hb; (try simp only [hSQ] at hb); try (exfalso; omega))) | fail)
    refine vl_q rfl rfl rfl rfl (vq_asF rfl (by decide)) ?_
    repeat' (first | (refine go1 ?_; intros) | (refine goCC ?_ ?_ <;> (intro hb; (try simp only [hSQ] at hb); try (exfalso; omega))) | fail)
    refine vl_q rfl rfl rfl rfl (vq_asT rfl) ?_
    repeat' (first | (refine go1 ?_; intros) | (refine goCC ?_ ?_ <;> (intro hb; (try simp only [hSQ] at hb); try (exfalso; omega))) | fail)
    rename_i a3 c3 _ _
    refine ⟨rfl, (i + 1, a3, c3), by dsimp only; omega, by dsimp only; omega, ?_, ?_⟩
    · dsimp only
      rw [hst, List.length_append, hD]
      (exact sbS)
    · dsimp only
      rw [hst, own_app a3 c3 T _ _ hD]
      exact sei _ _ _
  | t =>
    rw [show Pt.val g gp Pt.t = .iface 92 (.agg #[.func (.func 51) #[] #[.pointer (some ⟨gp, 0, none⟩)], .func (.func 49) #[] #[.pointer (some ⟨gp, 0, none⟩)], .int .i64 120]) from rfl] at hv
    generalize (ps.map (Pt.val g gp)) = vals at *
    have eD : Pt.bytes H S a Pt.t = txBytes a.tx := rfl
    have hD : (txBytes a.tx).length = 120 := by
      have := h.tx
      simp [txBytes, txBody, digs_length, this.pub, this.to, this.sign]
    have f1 := Ask.f1 h
    have txl := Tx.len h.tx
    rw [eD] at hst
    repeat' (first | (refine go1 ?_; intros) | (refine goCC ?_ ?_ <;> (intro hb; (try simp only [hSQ] at hb); try (exfalso; omega))) | fail)
    refine vl_q rfl rfl rfl rfl (vq_asF rfl (by decide)) ?_
    repeat' (first | (refine go1 ?_; intros) | (refine goCC ?_ ?_ <;> (intro hb; (try simp only [hSQ] at hb); try (exfalso; omega))) | fail)
    refine vl_q rfl rfl rfl rfl (vq_asF rfl (by decide)) ?_
    repeat' (first | (refine go1 ?_; intros) | (refine goCC ?_ ?_ <;> (intro hb; (try simp only [hSQ] at hb); try (exfalso; omega))) | fail)
    refine vl_q rfl rfl rfl rfl (vq_asF rfl (by decide)) ?_
    repeat' (first | (refine go1 ?_; intros) | (refine goCC ?_ ?_ <;> (intro hb; (try simp only [hSQ] at hb); try (exfalso; omega))) | fail)
    refine vl_q rfl rfl rfl rfl (vq_asT rfl) ?_
    repeat' (first | (refine go1 ?_; intros) | (refine goCC ?_ ?_ <;> (intro hb; (try simp only [hSQ] at hb); try (exfalso; omega))) | fail)
    refine clV ?_
    refine vc_mono (txbytes_vc w0 _ a.tx h.tx) ?_
    rintro v L' ⟨a2, c2, rfl, hc2, rfl⟩
    generalize txBytes a.tx = D at *
    repeat' (first | (refine go1 ?_; intros) | (refine goCC ?_ ?_ <;> (intro hb; (try simp only [hSQ] at hb); try (exfalso; omega))) | fail)
    rename_i a3 c3 _ _
    refine ⟨rfl, (i + 1, a3, c3), by dsimp only; omega, by dsimp only; omega, ?_, ?_⟩
    · dsimp only
      rw [hst, List.length_append, hD]
      (exact sbS)
    · dsimp only
      rw [hst, own_app a3 c3 T _ _ hD]
      exact sei _ _ _
end Go.Proofs.YtcpcbgfnglnkcaaDoor

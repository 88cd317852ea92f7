/-
  Lines of transactions: what they are made of; whose a transaction is; the place of a nonce. Lines: the place of a nonce; whether a line may be. Lines: the checks, the program's and the document's. Lines: the place of a nonce, by halves. Lists of transactions: whether two are the same. Lines: whether two are the same. Lines: twins. Lines: the twin of the document. Lines: what becomes of them, in plain terms. What a reading of the arguments says of lines.
-/
import Derived.Test.YtcpndfffdbogbaaGreatDoorGW
import Derived.Test.YtcpndfffdbogbaaGreatDoorGK
import Derived.Test.YtcpndfffdbogbaaGreatDoorGH
set_option linter.unusedVariables false
set_option linter.unusedSimpArgs false
set_option linter.unusedSectionVars false
set_option maxRecDepth 100000
set_option maxHeartbeats 2000000
namespace Go.Proofs.YtcpndfffdbogbaaGreatDoor
open Go Go.RowKit
open Classical

/-- A line's content. -/
structure Ln where
  own : List UInt8
  a : Option Addr
  c : Nat
  xs : List Tx
abbrev txc (xs : List Tx) : List Value := flat Tx.cells xs
def Ln.cells (l : Ln) : List Value := bvs l.own ++ [.slice l.a l.xs.length l.c]
structure TsOk (xs : List Tx) : Prop where
  ok : ∀ x ∈ xs, x.ok
  len : xs.length ≤ 1000000
structure Ln.ok (l : Ln) : Prop where
  own : l.own.length = 32
  ts : TsOk l.xs
theorem Ln.len {l : Ln} (h : l.own.length = 32) : l.cells.length = 33 := by simp [Ln.cells, h]
theorem Ln.f0 {l : Ln} (h : l.own.length = 32) : (l.cells.drop (0 + 0)).take 32 = bvs l.own := by simp [Ln.cells, h, List.take_append, List.take_of_length_le]
theorem Ln.f1 {l : Ln} (h : l.own.length = 32) : l.cells[0 + 32]? = some (.slice l.a l.xs.length l.c) := by simp [Ln.cells, h, List.getElem?_append]
theorem TsOk.wide {xs : List Tx} (h : TsOk xs) : Wide Tx.cells 99 xs := fun x hx => Tx.len (h.ok x hx)
theorem TsOk.at {xs : List Tx} (h : TsOk xs) (k : Nat) (hk : k < xs.length) : (xs[k]).ok := h.ok _ (List.getElem_mem hk)
theorem TsOk.el {xs : List Tx} (h : TsOk xs) (k : Nat) (hk : k < xs.length) : ((txc xs).drop (k * 99)).take 99 = (xs[k]).cells := h.wide.at k hk
theorem TsOk.e2 {xs : List Tx} (h : TsOk xs) (k : Nat) (hk : k < xs.length) : (txc xs)[k * 99 + 64]? = some (.int .u64 ((xs[k]).nonce : Int)) := by
  rw [h.wide.cell k hk 64 (by decide)]
  simpa using Tx.f2 (h.at k hk)
theorem TsOk.e4 {xs : List Tx} (h : TsOk xs) (k : Nat) (hk : k < xs.length) : (txc xs)[k * 99 + 66]? = some (.int .u64 ((xs[k]).fee : Int)) := by
  rw [h.wide.cell k hk 66 (by decide)]
  simpa using Tx.f4 (h.at k hk)
theorem TsOk.pos {xs : List Tx} (h : TsOk xs) (k : Nat) (hk : k < xs.length) : 0 < (txc xs).length := by
  rw [h.wide.len]; omega
/-- A transaction is signed, by a sender. -/
noncomputable def ownT (x : Tx) (d : List UInt8) : Bool := decide (x.sign = sgn x) && decide (sha (tagB 3 [x.pub]) = d)
theorem qown_vc (w0 : World) (L : List Asn) (x : Tx) (h : x.ok) (d : List UInt8) (hd : d.length = 32) [hK : RdA w0 (some ⟨0, 0, none⟩) (wds K64)] :
    VC Tryz.prog w0 90 [.agg x.cells.toArray, .agg (bvs d).toArray] L fun v L' => v = .bool (ownT x d) ∧ L' = L := by
  have hlen := Tx.len h
  refine vc_ent ?_
  refine vc_in rfl rfl ?_
  unfold ownT
  repeat' (first | (refine go1 ?_; intros) | (refine goCC ?_ ?_ <;> (intro hb; (try simp only [hSQ] at hb); try (exfalso; omega))) | fail)
  (refine v_draw0 [] (by kernel_rfl) ?_ <;> (refine tA 0 ?_))
  first | refine va_one 1 (by kernel_rfl) rfl rfl (vo_call rfl rfl ?_) | refine va_one 1 (by kernel_rfl) rfl rfl (vo_callV rfl rfl rfl ?_)
  refine vc_mono (txCheck_vc w0 _ x h) ?_
  rintro v L' ⟨rfl, rfl⟩
  have hS := sha_length (tagB 3 [x.pub])
  by_cases hs : x.sign = sgn x
  · rw [if_pos hs, decide_eq_true hs, Bool.true_and]
    refine ⟨.inr entD, ?_⟩
    ((refine tA 2 ?_) <;> (refine tA 3 ?_) <;> (first | refine tG 4 ?_ | refine pG 4 ?_ | (refine va_caseG 4 rfl rfl rfl rfl rfl ?_ ?_ <;> (intro hb; (try simp only [hSQ] at hb); try (exfalso; omega)) <;> first | refine tG 4 ?_ | refine pG 4 ?_)) <;> (first | refine tG 6 ?_ | refine pG 6 ?_ | (refine va_caseG 6 rfl rfl rfl rfl rfl ?_ ?_ <;> (intro hb; (try simp only [hSQ] at hb); try (exfalso; omega)) <;> first | refine tG 6 ?_ | refine pG 6 ?_)))
    first | refine va_oneG 5 (by kernel_rfl) rfl rfl rfl rfl rfl rfl (vo_call rfl rfl ?_) | refine va_oneG 5 (by kernel_rfl) rfl rfl rfl rfl rfl rfl (vo_callV rfl rfl rfl ?_)
    refine vc_mono (txFrom_vc w0 _ x h) ?_
    rintro v L' ⟨rfl, rfl⟩
    generalize sha (tagB 3 [x.pub]) = S at *
    refine ⟨.inr entD, ?_⟩
    ((first | refine tG 7 ?_ | refine pG 7 ?_ | (refine va_caseG 7 rfl rfl rfl rfl rfl ?_ ?_ <;> (intro hb; (try simp only [hSQ] at hb); try (exfalso; omega)) <;> first | refine tG 7 ?_ | refine pG 7 ?_)) <;> (refine tA 8 ?_) <;> (refine tA 9 ?_) <;> (refine va_done (by kernel_rfl) ?_))
    repeat' (first | (refine go1 ?_; intros) | (refine goCC ?_ ?_ <;> (intro hb; (try simp only [hSQ] at hb); try (exfalso; omega))) | fail)
    exact ⟨L, sei _ _ _, rfl, rfl⟩
  · rw [if_neg hs, decide_eq_false hs, Bool.false_and]
    refine ⟨.inr entD, ?_⟩
    ((refine tA 2 ?_) <;> (refine tA 3 ?_) <;> (first | refine tG 4 ?_ | refine pG 4 ?_ | (refine va_caseG 4 rfl rfl rfl rfl rfl ?_ ?_ <;> (intro hb; (try simp only [hSQ] at hb); try (exfalso; omega)) <;> first | refine tG 4 ?_ | refine pG 4 ?_)) <;> (first | refine tG 6 ?_ | refine pG 6 ?_ | (refine va_caseG 6 rfl rfl rfl rfl rfl ?_ ?_ <;> (intro hb; (try simp only [hSQ] at hb); try (exfalso; omega)) <;> first | refine tG 6 ?_ | refine pG 6 ?_)))
    refine pG 5 ?_
    ((first | refine tG 7 ?_ | refine pG 7 ?_ | (refine va_caseG 7 rfl rfl rfl rfl rfl ?_ ?_ <;> (intro hb; (try simp only [hSQ] at hb); try (exfalso; omega)) <;> first | refine tG 7 ?_ | refine pG 7 ?_)) <;> (refine tA 8 ?_) <;> (refine tA 9 ?_) <;> (refine va_done (by kernel_rfl) ?_))
    repeat' (first | (refine go1 ?_; intros) | (refine goCC ?_ ?_ <;> (intro hb; (try simp only [hSQ] at hb); try (exfalso; omega))) | fail)
    exact ⟨L, sei _ _ _, rfl, rfl⟩
theorem rown19_vc (w0 : World) (L : List Asn) (x : Tx) (h : x.ok) (d : List UInt8) (hd : d.length = 32) :
    VC Tryz.prog w0 121 [.agg x.cells.toArray, .agg (bvs d).toArray] L fun v L' => v = .bool (ownT x d) ∧ L' = L := by
  have hlen := Tx.len h
  refine vc_ent ?_
  refine vc_in rfl rfl ?_
  unfold ownT
  repeat' (first | (refine go1 ?_; intros) | (refine goCC ?_ ?_ <;> (intro hb; (try simp only [hSQ] at hb); try (exfalso; omega))) | fail)
  (refine v_draw0 [] (by kernel_rfl) ?_ <;> (refine tA 0 ?_))
  first | refine va_one 1 (by kernel_rfl) rfl rfl (vo_call rfl rfl ?_) | refine va_one 1 (by kernel_rfl) rfl rfl (vo_callV rfl rfl rfl ?_)
  refine vc_mono (rCheck_vc w0 _ x h) ?_
  rintro v L' ⟨rfl, rfl⟩
  have hS := sha_length (tagB 3 [x.pub])
  by_cases hs : x.sign = sgn x
  · rw [if_pos hs, decide_eq_true hs, Bool.true_and]
    refine ⟨.inr entD, ?_⟩
    ((refine tA 2 ?_) <;> (refine tA 3 ?_) <;> (first | refine tG 4 ?_ | refine pG 4 ?_ | (refine va_caseG 4 rfl rfl rfl rfl rfl ?_ ?_ <;> (intro hb; (try simp only [hSQ] at hb); try (exfalso; omega)) <;> first | refine tG 4 ?_ | refine pG 4 ?_)) <;> (first | refine tG 6 ?_ | refine pG 6 ?_ | (refine va_caseG 6 rfl rfl rfl rfl rfl ?_ ?_ <;> (intro hb; (try simp only [hSQ] at hb); try (exfalso; omega)) <;> first | refine tG 6 ?_ | refine pG 6 ?_)))
    first | refine va_oneG 5 (by kernel_rfl) rfl rfl rfl rfl rfl rfl (vo_call rfl rfl ?_) | refine va_oneG 5 (by kernel_rfl) rfl rfl rfl rfl rfl rfl (vo_callV rfl rfl rfl ?_)
    refine vc_mono (rFrom_vc w0 _ x h) ?_
    rintro v L' ⟨rfl, rfl⟩
    generalize sha (tagB 3 [x.pub]) = S at *
    refine ⟨.inr entD, ?_⟩
    ((first | refine tG 7 ?_ | refine pG 7 ?_ | (refine va_caseG 7 rfl rfl rfl rfl rfl ?_ ?_ <;> (intro hb; (try simp only [hSQ] at hb); try (exfalso; omega)) <;> first | refine tG 7 ?_ | refine pG 7 ?_)) <;> (refine tA 8 ?_) <;> (refine tA 9 ?_) <;> (refine va_done (by kernel_rfl) ?_))
    repeat' (first | (refine go1 ?_; intros) | (refine goCC ?_ ?_ <;> (intro hb; (try simp only [hSQ] at hb); try (exfalso; omega))) | fail)
    exact ⟨L, sei _ _ _, rfl, rfl⟩
  · rw [if_neg hs, decide_eq_false hs, Bool.false_and]
    refine ⟨.inr entD, ?_⟩
    ((refine tA 2 ?_) <;> (refine tA 3 ?_) <;> (first | refine tG 4 ?_ | refine pG 4 ?_ | (refine va_caseG 4 rfl rfl rfl rfl rfl ?_ ?_ <;> (intro hb; (try simp only [hSQ] at hb); try (exfalso; omega)) <;> first | refine tG 4 ?_ | refine pG 4 ?_)) <;> (first | refine tG 6 ?_ | refine pG 6 ?_ | (refine va_caseG 6 rfl rfl rfl rfl rfl ?_ ?_ <;> (intro hb; (try simp only [hSQ] at hb); try (exfalso; omega)) <;> first | refine tG 6 ?_ | refine pG 6 ?_)))
    refine pG 5 ?_
    ((first | refine tG 7 ?_ | refine pG 7 ?_ | (refine va_caseG 7 rfl rfl rfl rfl rfl ?_ ?_ <;> (intro hb; (try simp only [hSQ] at hb); try (exfalso; omega)) <;> first | refine tG 7 ?_ | refine pG 7 ?_)) <;> (refine tA 8 ?_) <;> (refine tA 9 ?_) <;> (refine va_done (by kernel_rfl) ?_))
    repeat' (first | (refine go1 ?_; intros) | (refine goCC ?_ ?_ <;> (intro hb; (try simp only [hSQ] at hb); try (exfalso; omega))) | fail)
    exact ⟨L, sei _ _ _, rfl, rfl⟩
end Go.Proofs.YtcpndfffdbogbaaGreatDoor
namespace Go.Proofs.YtcpndfffdbogbaaGreatDoor
open Go Go.RowKit
open Classical

/-- A line's transaction at a place is its sender's, and its nonce is above the one before. -/
noncomputable def okAt (l : Ln) (j : Nat) : Bool := match l.xs[j]? with
  | some x => ownT x l.own && (decide (j = 0) || match l.xs[j - 1]? with | some y => decide (y.nonce < x.nonce) | none => true)
  | none => true
noncomputable def Ln.may (l : Ln) : Bool := decide (l.xs.length ≤ 256 ∧ ∀ j, j < l.xs.length → okAt l j = true)
theorem okAt_eq (l : Ln) (i : Nat) (hi : i < l.xs.length) : okAt l i = (ownT l.xs[i] l.own && (decide (i = 0) || decide ((l.xs[i - 1]'(by omega)).nonce < (l.xs[i]).nonce))) := by
  unfold okAt
  rw [List.getElem?_eq_getElem hi, List.getElem?_eq_getElem (by omega : i - 1 < l.xs.length)]
/-- No place of a nonce ahead of one. -/
def NoN (xs : List Tx) (k i : Nat) : Prop := ∀ j (hj : j < xs.length), j < i → (xs[j]).nonce ≠ k
/-- What Find tells. -/
def FindR (xs : List Tx) (k : Nat) (m : Int) : Prop := (m = -1 ∧ NoN xs k xs.length) ∨ ∃ i, ∃ hi : i < xs.length, m = (i : Int) ∧ (xs[i]).nonce = k ∧ NoN xs k i
theorem rfind19_vc (w0 : World) (L : List Asn) (l : Ln) (h : l.ok) (k : Nat) (hk : k < 18446744073709551616) [hr : RdC w0 L l.a (txc l.xs)] :
    VC Tryz.prog w0 95 [.agg l.cells.toArray, .int .u64 k] L fun v L' => ∃ m, v = .int .i64 m ∧ FindR l.xs k m ∧ L' = L := by
  have f1 := Ln.f1 h.own
  have hlen := h.ts.len
  have hcl := Ln.len h.own
  refine vc_ent ?_
  refine vc_in rfl rfl ?_
  generalize hcs : l.cells = cs at *
  repeat' (first | (refine go1 ?_; intros) | (refine goCC ?_ ?_ <;> (intro hb; (try simp only [hSQ] at hb); try (exfalso; omega))) | fail)
  refine v_loopS Nat [1, 2] rfl (fun i => [(5, .int .i64 i)]) (fun i => i ≤ l.xs.length ∧ NoN l.xs k i) (fun i => l.xs.length - i) 0 ⟨Nat.zero_le _, fun j _ h => by omega⟩ (by (exact sbS)) (fun i ⟨hi, hno⟩ => ?_)
  by_cases hlt : i < l.xs.length
  · have e2 := h.ts.e2 i hlt
    have hpos := h.ts.pos i hlt
    have hst : (l.xs[i]).nonce ≠ k → NoN l.xs k (i + 1) := fun hne j hj hji => by
      by_cases e : j = i
      · subst e; exact hne
      · exact hno j hj (by omega)
    by_cases hn : (l.xs[i]).nonce = k
    · rw [hn] at e2
      repeat' (first | (refine go1 ?_; intros) | (refine goCC ?_ ?_ <;> (intro hb; (try simp only [hSQ] at hb); try (exfalso; omega))) | fail)
      exact ⟨L, sei _ _ _, _, rfl, .inr ⟨i, hlt, rfl, hn, hno⟩, rfl⟩
    · have hn' : ((l.xs[i]).nonce : Int) ≠ (k : Int) := by omega
      have hno2 := hst hn
      generalize (l.xs[i]).nonce = N at *
      repeat' (first | (refine go1 ?_; intros) | (refine goCC ?_ ?_ <;> (intro hb; (try simp only [hSQ] at hb); try (exfalso; omega))) | fail)
      refine ⟨rfl, i + 1, ⟨by omega, hno2⟩, by omega, ?_, Ent.refl _ _⟩
      (exact sbS)
  · obtain rfl : i = l.xs.length := by omega
    repeat' (first | (refine go1 ?_; intros) | (refine goCC ?_ ?_ <;> (intro hb; (try simp only [hSQ] at hb); try (exfalso; omega))) | fail)
    exact ⟨L, sei _ _ _, _, rfl, .inl ⟨rfl, hno⟩, rfl⟩
theorem rmay19_vc (w0 : World) (L : List Asn) (l : Ln) (h : l.ok) [hr : RdC w0 L l.a (txc l.xs)] :
    VC Tryz.prog w0 79 [.agg l.cells.toArray] L fun v L' => v = .bool l.may ∧ L' = L := by
  have f0 := Ln.f0 h.own
  have f1 := Ln.f1 h.own
  have hlen := h.ts.len
  have hol := h.own
  have hcl := Ln.len h.own
  refine vc_ent ?_
  refine vc_in rfl rfl ?_
  unfold Ln.may
  generalize hcs : l.cells = cs at *
  repeat' (first | (refine go1 ?_; intros) | (refine goCC ?_ ?_ <;> (intro hb; (try simp only [hSQ] at hb); try (exfalso; omega))) | fail)
  · exact ⟨L, sei _ _ _, by rw [decide_eq_false (fun e => by omega)], rfl⟩
  refine v_loopS Nat [1] rfl (fun i => [(3, .int .i64 i)]) (fun i => i ≤ l.xs.length ∧ ∀ j, j < i → okAt l j = true) (fun i => l.xs.length - i) 0 ⟨Nat.zero_le _, fun j h => by omega⟩ (by (exact sbS)) (fun i ⟨hi, hok⟩ => ?_)
  by_cases hlt : i < l.xs.length
  rotate_left
  · obtain rfl : i = l.xs.length := by omega
    repeat' (first | (refine go1 ?_; intros) | (refine goCC ?_ ?_ <;> (intro hb; (try simp only [hSQ] at hb); try (exfalso; omega))) | fail)
    exact ⟨L, sei _ _ _, by rw [decide_eq_true ⟨by omega, hok⟩], rfl⟩
  have el := h.ts.el i hlt
  have xok := h.ts.at i hlt
  have hxl := Tx.len xok
  have hpos := h.ts.pos i hlt
  have e2 := h.ts.e2 i hlt
  have e2' := h.ts.e2 (i - 1) (by omega)
  have hq := okAt_eq l i hlt
  have hbad : okAt l i = false → ¬ (l.xs.length ≤ 256 ∧ ∀ j, j < l.xs.length → okAt l j = true) := fun e f => by rw [f.2 i hlt] at e; cases e
  have hgood : okAt l i = true → ∀ j, j < i + 1 → okAt l j = true := fun e j hj => by
    by_cases e' : j = i
    · rw [e']; exact e
    · exact hok j (by omega)
  repeat' (first | (refine go1 ?_; intros) | (refine goCC ?_ ?_ <;> (intro hb; (try simp only [hSQ] at hb); try (exfalso; omega))) | fail)
  (refine v_draw0 [] (by kernel_rfl) ?_ <;> (refine tA 0 ?_) <;> (refine tA 1 ?_) <;> (refine tA 2 ?_) <;> (refine tA 3 ?_) <;> (refine tA 4 ?_) <;> (refine tA 5 ?_) <;> (refine tA 6 ?_))
  first | refine va_one 7 (by kernel_rfl) rfl rfl (vo_call rfl rfl ?_) | refine va_one 7 (by kernel_rfl) rfl rfl (vo_callV rfl rfl rfl ?_)
  refine vc_mono (rown19_vc w0 _ _ xok l.own hol) ?_
  rintro v L' ⟨rfl, rfl⟩
  generalize ownT l.xs[i] l.own = o at *
  generalize (l.xs[i]).nonce = N at *
  generalize (l.xs[i - 1]'(by omega)).nonce = M at *
  cases o
  · refine ⟨.inr entD, ?_⟩
    ((refine tA 8 ?_) <;> (refine tA 9 ?_) <;> (first | refine tG 10 ?_ | (first | refine pG 10 ?_ | refine pU 10 ?_) | (refine va_caseG 10 rfl rfl rfl rfl rfl ?_ ?_ <;> (intro hb; (try simp only [hSQ] at hb); try (exfalso; omega)) <;> first | refine tG 10 ?_ | (first | refine pG 10 ?_ | refine pU 10 ?_))) <;> (first | refine tG 11 ?_ | (first | refine pG 11 ?_ | refine pU 11 ?_) | (refine va_caseG 11 rfl rfl rfl rfl rfl ?_ ?_ <;> (intro hb; (try simp only [hSQ] at hb); try (exfalso; omega)) <;> first | refine tG 11 ?_ | (first | refine pG 11 ?_ | refine pU 11 ?_))) <;> (first | refine tG 12 ?_ | (first | refine pG 12 ?_ | refine pU 12 ?_) | (refine va_caseG 12 rfl rfl rfl rfl rfl ?_ ?_ <;> (intro hb; (try simp only [hSQ] at hb); try (exfalso; omega)) <;> first | refine tG 12 ?_ | (first | refine pG 12 ?_ | refine pU 12 ?_))) <;> (first | refine tG 13 ?_ | (first | refine pG 13 ?_ | refine pU 13 ?_) | (refine va_caseG 13 rfl rfl rfl rfl rfl ?_ ?_ <;> (intro hb; (try simp only [hSQ] at hb); try (exfalso; omega)) <;> first | refine tG 13 ?_ | (first | refine pG 13 ?_ | refine pU 13 ?_))) <;> (first | refine tG 14 ?_ | (first | refine pG 14 ?_ | refine pU 14 ?_) | (refine va_caseG 14 rfl rfl rfl rfl rfl ?_ ?_ <;> (intro hb; (try simp only [hSQ] at hb); try (exfalso; omega)) <;> first | refine tG 14 ?_ | (first | refine pG 14 ?_ | refine pU 14 ?_))) <;> (first | refine tG 15 ?_ | (first | refine pG 15 ?_ | refine pU 15 ?_) | (refine va_caseG 15 rfl rfl rfl rfl rfl ?_ ?_ <;> (intro hb; (try simp only [hSQ] at hb); try (exfalso; omega)) <;> first | refine tG 15 ?_ | (first | refine pG 15 ?_ | refine pU 15 ?_))) <;> (first | refine tG 16 ?_ | (first | refine pG 16 ?_ | refine pU 16 ?_) | (refine va_caseG 16 rfl rfl rfl rfl rfl ?_ ?_ <;> (intro hb; (try simp only [hSQ] at hb); try (exfalso; omega)) <;> first | refine tG 16 ?_ | (first | refine pG 16 ?_ | refine pU 16 ?_))) <;> (first | refine tG 17 ?_ | (first | refine pG 17 ?_ | refine pU 17 ?_) | (refine va_caseG 17 rfl rfl rfl rfl rfl ?_ ?_ <;> (intro hb; (try simp only [hSQ] at hb); try (exfalso; omega)) <;> first | refine tG 17 ?_ | (first | refine pG 17 ?_ | refine pU 17 ?_))) <;> (first | refine tG 18 ?_ | (first | refine pG 18 ?_ | refine pU 18 ?_) | (refine va_caseG 18 rfl rfl rfl rfl rfl ?_ ?_ <;> (intro hb; (try simp only [hSQ] at hb); try (exfalso; omega)) <;> first | refine tG 18 ?_ | (first | refine pG 18 ?_ | refine pU 18 ?_))) <;> (first | refine tG 19 ?_ | (first | refine pG 19 ?_ | refine pU 19 ?_) | (refine va_caseG 19 rfl rfl rfl rfl rfl ?_ ?_ <;> (intro hb; (try simp only [hSQ] at hb); try (exfalso; omega)) <;> first | refine tG 19 ?_ | (first | refine pG 19 ?_ | refine pU 19 ?_))) <;> (first | refine tG 20 ?_ | (first | refine pG 20 ?_ | refine pU 20 ?_) | (refine va_caseG 20 rfl rfl rfl rfl rfl ?_ ?_ <;> (intro hb; (try simp only [hSQ] at hb); try (exfalso; omega)) <;> first | refine tG 20 ?_ | (first | refine pG 20 ?_ | refine pU 20 ?_))) <;> (first | refine tG 21 ?_ | (first | refine pG 21 ?_ | refine pU 21 ?_) | (refine va_caseG 21 rfl rfl rfl rfl rfl ?_ ?_ <;> (intro hb; (try simp only [hSQ] at hb); try (exfalso; omega)) <;> first | refine tG 21 ?_ | (first | refine pG 21 ?_ | refine pU 21 ?_))) <;> (first | refine tG 22 ?_ | (first | refine pG 22 ?_ | refine pU 22 ?_) | (refine va_caseG 22 rfl rfl rfl rfl rfl ?_ ?_ <;> (intro hb; (try simp only [hSQ] at hb); try (exfalso; omega)) <;> first | refine tG 22 ?_ | (first | refine pG 22 ?_ | refine pU 22 ?_))) <;> (first | refine tG 23 ?_ | (first | refine pG 23 ?_ | refine pU 23 ?_) | (refine va_caseG 23 rfl rfl rfl rfl rfl ?_ ?_ <;> (intro hb; (try simp only [hSQ] at hb); try (exfalso; omega)) <;> first | refine tG 23 ?_ | (first | refine pG 23 ?_ | refine pU 23 ?_))) <;> (first | refine tG 24 ?_ | (first | refine pG 24 ?_ | refine pU 24 ?_) | (refine va_caseG 24 rfl rfl rfl rfl rfl ?_ ?_ <;> (intro hb; (try simp only [hSQ] at hb); try (exfalso; omega)) <;> first | refine tG 24 ?_ | (first | refine pG 24 ?_ | refine pU 24 ?_))) <;> (first | refine tG 25 ?_ | (first | refine pG 25 ?_ | refine pU 25 ?_) | (refine va_caseG 25 rfl rfl rfl rfl rfl ?_ ?_ <;> (intro hb; (try simp only [hSQ] at hb); try (exfalso; omega)) <;> first | refine tG 25 ?_ | (first | refine pG 25 ?_ | refine pU 25 ?_))) <;> (first | refine tG 26 ?_ | (first | refine pG 26 ?_ | refine pU 26 ?_) | (refine va_caseG 26 rfl rfl rfl rfl rfl ?_ ?_ <;> (intro hb; (try simp only [hSQ] at hb); try (exfalso; omega)) <;> first | refine tG 26 ?_ | (first | refine pG 26 ?_ | refine pU 26 ?_))) <;> (first | refine tG 27 ?_ | (first | refine pG 27 ?_ | refine pU 27 ?_) | (refine va_caseG 27 rfl rfl rfl rfl rfl ?_ ?_ <;> (intro hb; (try simp only [hSQ] at hb); try (exfalso; omega)) <;> first | refine tG 27 ?_ | (first | refine pG 27 ?_ | refine pU 27 ?_))) <;> (refine tA 28 ?_) <;> (refine va_done (by kernel_rfl) ?_))
    repeat' (first | (refine go1 ?_; intros) | (refine goCC ?_ ?_ <;> (intro hb; (try simp only [hSQ] at hb); try (exfalso; omega))) | fail)
    exact ⟨L, sei _ _ _, by rw [decide_eq_false (hbad (by rw [hq]; rfl))], rfl⟩
  rw [Bool.true_and] at hq
  by_cases i0 : i = 0
  · obtain rfl := i0
    refine ⟨.inr entD, ?_⟩
    ((refine tA 8 ?_) <;> (refine tA 9 ?_) <;> (first | refine tG 10 ?_ | (first | refine pG 10 ?_ | refine pU 10 ?_) | (refine va_caseG 10 rfl rfl rfl rfl rfl ?_ ?_ <;> (intro hb; (try simp only [hSQ] at hb); try (exfalso; omega)) <;> first | refine tG 10 ?_ | (first | refine pG 10 ?_ | refine pU 10 ?_))) <;> (first | refine tG 11 ?_ | (first | refine pG 11 ?_ | refine pU 11 ?_) | (refine va_caseG 11 rfl rfl rfl rfl rfl ?_ ?_ <;> (intro hb; (try simp only [hSQ] at hb); try (exfalso; omega)) <;> first | refine tG 11 ?_ | (first | refine pG 11 ?_ | refine pU 11 ?_))) <;> (first | refine tG 12 ?_ | (first | refine pG 12 ?_ | refine pU 12 ?_) | (refine va_caseG 12 rfl rfl rfl rfl rfl ?_ ?_ <;> (intro hb; (try simp only [hSQ] at hb); try (exfalso; omega)) <;> first | refine tG 12 ?_ | (first | refine pG 12 ?_ | refine pU 12 ?_))) <;> (first | refine tG 13 ?_ | (first | refine pG 13 ?_ | refine pU 13 ?_) | (refine va_caseG 13 rfl rfl rfl rfl rfl ?_ ?_ <;> (intro hb; (try simp only [hSQ] at hb); try (exfalso; omega)) <;> first | refine tG 13 ?_ | (first | refine pG 13 ?_ | refine pU 13 ?_))) <;> (first | refine tG 14 ?_ | (first | refine pG 14 ?_ | refine pU 14 ?_) | (refine va_caseG 14 rfl rfl rfl rfl rfl ?_ ?_ <;> (intro hb; (try simp only [hSQ] at hb); try (exfalso; omega)) <;> first | refine tG 14 ?_ | (first | refine pG 14 ?_ | refine pU 14 ?_))) <;> (first | refine tG 15 ?_ | (first | refine pG 15 ?_ | refine pU 15 ?_) | (refine va_caseG 15 rfl rfl rfl rfl rfl ?_ ?_ <;> (intro hb; (try simp only [hSQ] at hb); try (exfalso; omega)) <;> first | refine tG 15 ?_ | (first | refine pG 15 ?_ | refine pU 15 ?_))) <;> (first | refine tG 16 ?_ | (first | refine pG 16 ?_ | refine pU 16 ?_) | (refine va_caseG 16 rfl rfl rfl rfl rfl ?_ ?_ <;> (intro hb; (try simp only [hSQ] at hb); try (exfalso; omega)) <;> first | refine tG 16 ?_ | (first | refine pG 16 ?_ | refine pU 16 ?_))) <;> (first | refine tG 17 ?_ | (first | refine pG 17 ?_ | refine pU 17 ?_) | (refine va_caseG 17 rfl rfl rfl rfl rfl ?_ ?_ <;> (intro hb; (try simp only [hSQ] at hb); try (exfalso; omega)) <;> first | refine tG 17 ?_ | (first | refine pG 17 ?_ | refine pU 17 ?_))) <;> (first | refine tG 18 ?_ | (first | refine pG 18 ?_ | refine pU 18 ?_) | (refine va_caseG 18 rfl rfl rfl rfl rfl ?_ ?_ <;> (intro hb; (try simp only [hSQ] at hb); try (exfalso; omega)) <;> first | refine tG 18 ?_ | (first | refine pG 18 ?_ | refine pU 18 ?_))) <;> (first | refine tG 19 ?_ | (first | refine pG 19 ?_ | refine pU 19 ?_) | (refine va_caseG 19 rfl rfl rfl rfl rfl ?_ ?_ <;> (intro hb; (try simp only [hSQ] at hb); try (exfalso; omega)) <;> first | refine tG 19 ?_ | (first | refine pG 19 ?_ | refine pU 19 ?_))) <;> (first | refine tG 20 ?_ | (first | refine pG 20 ?_ | refine pU 20 ?_) | (refine va_caseG 20 rfl rfl rfl rfl rfl ?_ ?_ <;> (intro hb; (try simp only [hSQ] at hb); try (exfalso; omega)) <;> first | refine tG 20 ?_ | (first | refine pG 20 ?_ | refine pU 20 ?_))) <;> (first | refine tG 21 ?_ | (first | refine pG 21 ?_ | refine pU 21 ?_) | (refine va_caseG 21 rfl rfl rfl rfl rfl ?_ ?_ <;> (intro hb; (try simp only [hSQ] at hb); try (exfalso; omega)) <;> first | refine tG 21 ?_ | (first | refine pG 21 ?_ | refine pU 21 ?_))) <;> (first | refine tG 22 ?_ | (first | refine pG 22 ?_ | refine pU 22 ?_) | (refine va_caseG 22 rfl rfl rfl rfl rfl ?_ ?_ <;> (intro hb; (try simp only [hSQ] at hb); try (exfalso; omega)) <;> first | refine tG 22 ?_ | (first | refine pG 22 ?_ | refine pU 22 ?_))) <;> (first | refine tG 23 ?_ | (first | refine pG 23 ?_ | refine pU 23 ?_) | (refine va_caseG 23 rfl rfl rfl rfl rfl ?_ ?_ <;> (intro hb; (try simp only [hSQ] at hb); try (exfalso; omega)) <;> first | refine tG 23 ?_ | (first | refine pG 23 ?_ | refine pU 23 ?_))) <;> (first | refine tG 24 ?_ | (first | refine pG 24 ?_ | refine pU 24 ?_) | (refine va_caseG 24 rfl rfl rfl rfl rfl ?_ ?_ <;> (intro hb; (try simp only [hSQ] at hb); try (exfalso; omega)) <;> first | refine tG 24 ?_ | (first | refine pG 24 ?_ | refine pU 24 ?_))) <;> (first | refine tG 25 ?_ | (first | refine pG 25 ?_ | refine pU 25 ?_) | (refine va_caseG 25 rfl rfl rfl rfl rfl ?_ ?_ <;> (intro hb; (try simp only [hSQ] at hb); try (exfalso; omega)) <;> first | refine tG 25 ?_ | (first | refine pG 25 ?_ | refine pU 25 ?_))) <;> (first | refine tG 26 ?_ | (first | refine pG 26 ?_ | refine pU 26 ?_) | (refine va_caseG 26 rfl rfl rfl rfl rfl ?_ ?_ <;> (intro hb; (try simp only [hSQ] at hb); try (exfalso; omega)) <;> first | refine tG 26 ?_ | (first | refine pG 26 ?_ | refine pU 26 ?_))) <;> (first | refine tG 27 ?_ | (first | refine pG 27 ?_ | refine pU 27 ?_) | (refine va_caseG 27 rfl rfl rfl rfl rfl ?_ ?_ <;> (intro hb; (try simp only [hSQ] at hb); try (exfalso; omega)) <;> first | refine tG 27 ?_ | (first | refine pG 27 ?_ | refine pU 27 ?_))) <;> (refine tA 28 ?_) <;> (refine va_done (by kernel_rfl) ?_))
    repeat' (first | (refine go1 ?_; intros) | (refine goCC ?_ ?_ <;> (intro hb; (try simp only [hSQ] at hb); try (exfalso; omega))) | fail)
    refine ⟨rfl, 1, ⟨by omega, hgood (by rw [hq]; rfl)⟩, by omega, ?_, sei _ _ _⟩
    (exact sbS)
  · rw [decide_eq_false i0, Bool.false_or] at hq
    have hi0 : (0 : Int) < (i : Int) := by omega
    by_cases hNM : M < N
    · have hNM' : ¬ ((N : Int) ≤ (M : Int)) := by omega
      rw [decide_eq_true hNM] at hq
      refine ⟨.inr entD, ?_⟩
      ((refine tA 8 ?_) <;> (refine tA 9 ?_) <;> (first | refine tG 10 ?_ | (first | refine pG 10 ?_ | refine pU 10 ?_) | (refine va_caseG 10 rfl rfl rfl rfl rfl ?_ ?_ <;> (intro hb; (try simp only [hSQ] at hb); try (exfalso; omega)) <;> first | refine tG 10 ?_ | (first | refine pG 10 ?_ | refine pU 10 ?_))) <;> (first | refine tG 11 ?_ | (first | refine pG 11 ?_ | refine pU 11 ?_) | (refine va_caseG 11 rfl rfl rfl rfl rfl ?_ ?_ <;> (intro hb; (try simp only [hSQ] at hb); try (exfalso; omega)) <;> first | refine tG 11 ?_ | (first | refine pG 11 ?_ | refine pU 11 ?_))) <;> (first | refine tG 12 ?_ | (first | refine pG 12 ?_ | refine pU 12 ?_) | (refine va_caseG 12 rfl rfl rfl rfl rfl ?_ ?_ <;> (intro hb; (try simp only [hSQ] at hb); try (exfalso; omega)) <;> first | refine tG 12 ?_ | (first | refine pG 12 ?_ | refine pU 12 ?_))) <;> (first | refine tG 13 ?_ | (first | refine pG 13 ?_ | refine pU 13 ?_) | (refine va_caseG 13 rfl rfl rfl rfl rfl ?_ ?_ <;> (intro hb; (try simp only [hSQ] at hb); try (exfalso; omega)) <;> first | refine tG 13 ?_ | (first | refine pG 13 ?_ | refine pU 13 ?_))) <;> (first | refine tG 14 ?_ | (first | refine pG 14 ?_ | refine pU 14 ?_) | (refine va_caseG 14 rfl rfl rfl rfl rfl ?_ ?_ <;> (intro hb; (try simp only [hSQ] at hb); try (exfalso; omega)) <;> first | refine tG 14 ?_ | (first | refine pG 14 ?_ | refine pU 14 ?_))) <;> (first | refine tG 15 ?_ | (first | refine pG 15 ?_ | refine pU 15 ?_) | (refine va_caseG 15 rfl rfl rfl rfl rfl ?_ ?_ <;> (intro hb; (try simp only [hSQ] at hb); try (exfalso; omega)) <;> first | refine tG 15 ?_ | (first | refine pG 15 ?_ | refine pU 15 ?_))) <;> (first | refine tG 16 ?_ | (first | refine pG 16 ?_ | refine pU 16 ?_) | (refine va_caseG 16 rfl rfl rfl rfl rfl ?_ ?_ <;> (intro hb; (try simp only [hSQ] at hb); try (exfalso; omega)) <;> first | refine tG 16 ?_ | (first | refine pG 16 ?_ | refine pU 16 ?_))) <;> (first | refine tG 17 ?_ | (first | refine pG 17 ?_ | refine pU 17 ?_) | (refine va_caseG 17 rfl rfl rfl rfl rfl ?_ ?_ <;> (intro hb; (try simp only [hSQ] at hb); try (exfalso; omega)) <;> first | refine tG 17 ?_ | (first | refine pG 17 ?_ | refine pU 17 ?_))) <;> (first | refine tG 18 ?_ | (first | refine pG 18 ?_ | refine pU 18 ?_) | (refine va_caseG 18 rfl rfl rfl rfl rfl ?_ ?_ <;> (intro hb; (try simp only [hSQ] at hb); try (exfalso; omega)) <;> first | refine tG 18 ?_ | (first | refine pG 18 ?_ | refine pU 18 ?_))) <;> (first | refine tG 19 ?_ | (first | refine pG 19 ?_ | refine pU 19 ?_) | (refine va_caseG 19 rfl rfl rfl rfl rfl ?_ ?_ <;> (intro hb; (try simp only [hSQ] at hb); try (exfalso; omega)) <;> first | refine tG 19 ?_ | (first | refine pG 19 ?_ | refine pU 19 ?_))) <;> (first | refine tG 20 ?_ | (first | refine pG 20 ?_ | refine pU 20 ?_) | (refine va_caseG 20 rfl rfl rfl rfl rfl ?_ ?_ <;> (intro hb; (try simp only [hSQ] at hb); try (exfalso; omega)) <;> first | refine tG 20 ?_ | (first | refine pG 20 ?_ | refine pU 20 ?_))) <;> (first | refine tG 21 ?_ | (first | refine pG 21 ?_ | refine pU 21 ?_) | (refine va_caseG 21 rfl rfl rfl rfl rfl ?_ ?_ <;> (intro hb; (try simp only [hSQ] at hb); try (exfalso; omega)) <;> first | refine tG 21 ?_ | (first | refine pG 21 ?_ | refine pU 21 ?_))) <;> (first | refine tG 22 ?_ | (first | refine pG 22 ?_ | refine pU 22 ?_) | (refine va_caseG 22 rfl rfl rfl rfl rfl ?_ ?_ <;> (intro hb; (try simp only [hSQ] at hb); try (exfalso; omega)) <;> first | refine tG 22 ?_ | (first | refine pG 22 ?_ | refine pU 22 ?_))) <;> (first | refine tG 23 ?_ | (first | refine pG 23 ?_ | refine pU 23 ?_) | (refine va_caseG 23 rfl rfl rfl rfl rfl ?_ ?_ <;> (intro hb; (try simp only [hSQ] at hb); try (exfalso; omega)) <;> first | refine tG 23 ?_ | (first | refine pG 23 ?_ | refine pU 23 ?_))) <;> (first | refine tG 24 ?_ | (first | refine pG 24 ?_ | refine pU 24 ?_) | (refine va_caseG 24 rfl rfl rfl rfl rfl ?_ ?_ <;> (intro hb; (try simp only [hSQ] at hb); try (exfalso; omega)) <;> first | refine tG 24 ?_ | (first | refine pG 24 ?_ | refine pU 24 ?_))) <;> (first | refine tG 25 ?_ | (first | refine pG 25 ?_ | refine pU 25 ?_) | (refine va_caseG 25 rfl rfl rfl rfl rfl ?_ ?_ <;> (intro hb; (try simp only [hSQ] at hb); try (exfalso; omega)) <;> first | refine tG 25 ?_ | (first | refine pG 25 ?_ | refine pU 25 ?_))) <;> (first | refine tG 26 ?_ | (first | refine pG 26 ?_ | refine pU 26 ?_) | (refine va_caseG 26 rfl rfl rfl rfl rfl ?_ ?_ <;> (intro hb; (try simp only [hSQ] at hb); try (exfalso; omega)) <;> first | refine tG 26 ?_ | (first | refine pG 26 ?_ | refine pU 26 ?_))) <;> (first | refine tG 27 ?_ | (first | refine pG 27 ?_ | refine pU 27 ?_) | (refine va_caseG 27 rfl rfl rfl rfl rfl ?_ ?_ <;> (intro hb; (try simp only [hSQ] at hb); try (exfalso; omega)) <;> first | refine tG 27 ?_ | (first | refine pG 27 ?_ | refine pU 27 ?_))) <;> (refine tA 28 ?_) <;> (refine va_done (by kernel_rfl) ?_))
      repeat' (first | (refine go1 ?_; intros) | (refine goCC ?_ ?_ <;> (intro hb; (try simp only [hSQ] at hb); try (exfalso; omega))) | fail)
      refine ⟨rfl, i + 1, ⟨by omega, hgood hq⟩, by omega, ?_, sei _ _ _⟩
      (exact sbS)
    · have hNM' : ((N : Int) ≤ (M : Int)) := by omega
      rw [decide_eq_false hNM] at hq
      refine ⟨.inr entD, ?_⟩
      ((refine tA 8 ?_) <;> (refine tA 9 ?_) <;> (first | refine tG 10 ?_ | (first | refine pG 10 ?_ | refine pU 10 ?_) | (refine va_caseG 10 rfl rfl rfl rfl rfl ?_ ?_ <;> (intro hb; (try simp only [hSQ] at hb); try (exfalso; omega)) <;> first | refine tG 10 ?_ | (first | refine pG 10 ?_ | refine pU 10 ?_))) <;> (first | refine tG 11 ?_ | (first | refine pG 11 ?_ | refine pU 11 ?_) | (refine va_caseG 11 rfl rfl rfl rfl rfl ?_ ?_ <;> (intro hb; (try simp only [hSQ] at hb); try (exfalso; omega)) <;> first | refine tG 11 ?_ | (first | refine pG 11 ?_ | refine pU 11 ?_))) <;> (first | refine tG 12 ?_ | (first | refine pG 12 ?_ | refine pU 12 ?_) | (refine va_caseG 12 rfl rfl rfl rfl rfl ?_ ?_ <;> (intro hb; (try simp only [hSQ] at hb); try (exfalso; omega)) <;> first | refine tG 12 ?_ | (first | refine pG 12 ?_ | refine pU 12 ?_))) <;> (first | refine tG 13 ?_ | (first | refine pG 13 ?_ | refine pU 13 ?_) | (refine va_caseG 13 rfl rfl rfl rfl rfl ?_ ?_ <;> (intro hb; (try simp only [hSQ] at hb); try (exfalso; omega)) <;> first | refine tG 13 ?_ | (first | refine pG 13 ?_ | refine pU 13 ?_))) <;> (first | refine tG 14 ?_ | (first | refine pG 14 ?_ | refine pU 14 ?_) | (refine va_caseG 14 rfl rfl rfl rfl rfl ?_ ?_ <;> (intro hb; (try simp only [hSQ] at hb); try (exfalso; omega)) <;> first | refine tG 14 ?_ | (first | refine pG 14 ?_ | refine pU 14 ?_))) <;> (first | refine tG 15 ?_ | (first | refine pG 15 ?_ | refine pU 15 ?_) | (refine va_caseG 15 rfl rfl rfl rfl rfl ?_ ?_ <;> (intro hb; (try simp only [hSQ] at hb); try (exfalso; omega)) <;> first | refine tG 15 ?_ | (first | refine pG 15 ?_ | refine pU 15 ?_))) <;> (first | refine tG 16 ?_ | (first | refine pG 16 ?_ | refine pU 16 ?_) | (refine va_caseG 16 rfl rfl rfl rfl rfl ?_ ?_ <;> (intro hb; (try simp only [hSQ] at hb); try (exfalso; omega)) <;> first | refine tG 16 ?_ | (first | refine pG 16 ?_ | refine pU 16 ?_))) <;> (first | refine tG 17 ?_ | (first | refine pG 17 ?_ | refine pU 17 ?_) | (refine va_caseG 17 rfl rfl rfl rfl rfl ?_ ?_ <;> (intro hb; (try simp only [hSQ] at hb); try (exfalso; omega)) <;> first | refine tG 17 ?_ | (first | refine pG 17 ?_ | refine pU 17 ?_))) <;> (first | refine tG 18 ?_ | (first | refine pG 18 ?_ | refine pU 18 ?_) | (refine va_caseG 18 rfl rfl rfl rfl rfl ?_ ?_ <;> (intro hb; (try simp only [hSQ] at hb); try (exfalso; omega)) <;> first | refine tG 18 ?_ | (first | refine pG 18 ?_ | refine pU 18 ?_))) <;> (first | refine tG 19 ?_ | (first | refine pG 19 ?_ | refine pU 19 ?_) | (refine va_caseG 19 rfl rfl rfl rfl rfl ?_ ?_ <;> (intro hb; (try simp only [hSQ] at hb); try (exfalso; omega)) <;> first | refine tG 19 ?_ | (first | refine pG 19 ?_ | refine pU 19 ?_))) <;> (first | refine tG 20 ?_ | (first | refine pG 20 ?_ | refine pU 20 ?_) | (refine va_caseG 20 rfl rfl rfl rfl rfl ?_ ?_ <;> (intro hb; (try simp only [hSQ] at hb); try (exfalso; omega)) <;> first | refine tG 20 ?_ | (first | refine pG 20 ?_ | refine pU 20 ?_))) <;> (first | refine tG 21 ?_ | (first | refine pG 21 ?_ | refine pU 21 ?_) | (refine va_caseG 21 rfl rfl rfl rfl rfl ?_ ?_ <;> (intro hb; (try simp only [hSQ] at hb); try (exfalso; omega)) <;> first | refine tG 21 ?_ | (first | refine pG 21 ?_ | refine pU 21 ?_))) <;> (first | refine tG 22 ?_ | (first | refine pG 22 ?_ | refine pU 22 ?_) | (refine va_caseG 22 rfl rfl rfl rfl rfl ?_ ?_ <;> (intro hb; (try simp only [hSQ] at hb); try (exfalso; omega)) <;> first | refine tG 22 ?_ | (first | refine pG 22 ?_ | refine pU 22 ?_))) <;> (first | refine tG 23 ?_ | (first | refine pG 23 ?_ | refine pU 23 ?_) | (refine va_caseG 23 rfl rfl rfl rfl rfl ?_ ?_ <;> (intro hb; (try simp only [hSQ] at hb); try (exfalso; omega)) <;> first | refine tG 23 ?_ | (first | refine pG 23 ?_ | refine pU 23 ?_))) <;> (first | refine tG 24 ?_ | (first | refine pG 24 ?_ | refine pU 24 ?_) | (refine va_caseG 24 rfl rfl rfl rfl rfl ?_ ?_ <;> (intro hb; (try simp only [hSQ] at hb); try (exfalso; omega)) <;> first | refine tG 24 ?_ | (first | refine pG 24 ?_ | refine pU 24 ?_))) <;> (first | refine tG 25 ?_ | (first | refine pG 25 ?_ | refine pU 25 ?_) | (refine va_caseG 25 rfl rfl rfl rfl rfl ?_ ?_ <;> (intro hb; (try simp only [hSQ] at hb); try (exfalso; omega)) <;> first | refine tG 25 ?_ | (first | refine pG 25 ?_ | refine pU 25 ?_))) <;> (first | refine tG 26 ?_ | (first | refine pG 26 ?_ | refine pU 26 ?_) | (refine va_caseG 26 rfl rfl rfl rfl rfl ?_ ?_ <;> (intro hb; (try simp only [hSQ] at hb); try (exfalso; omega)) <;> first | refine tG 26 ?_ | (first | refine pG 26 ?_ | refine pU 26 ?_))) <;> (first | refine tG 27 ?_ | (first | refine pG 27 ?_ | refine pU 27 ?_) | (refine va_caseG 27 rfl rfl rfl rfl rfl ?_ ?_ <;> (intro hb; (try simp only [hSQ] at hb); try (exfalso; omega)) <;> first | refine tG 27 ?_ | (first | refine pG 27 ?_ | refine pU 27 ?_))) <;> (refine tA 28 ?_) <;> (refine va_done (by kernel_rfl) ?_))
      repeat' (first | (refine go1 ?_; intros) | (refine goCC ?_ ?_ <;> (intro hb; (try simp only [hSQ] at hb); try (exfalso; omega))) | fail)
      exact ⟨L, sei _ _ _, by rw [decide_eq_false (hbad hq)], rfl⟩
end Go.Proofs.YtcpndfffdbogbaaGreatDoor
namespace Go.Proofs.YtcpndfffdbogbaaGreatDoor
open Go Go.RowKit
open Classical

theorem qcheck_vc (w0 : World) (L : List Asn) (l : Ln) (h : l.ok) [hK : RdA w0 (some ⟨0, 0, none⟩) (wds K64)] [hr : RdC w0 L l.a (txc l.xs)] :
    VC Tryz.prog w0 65 [.agg l.cells.toArray] L fun v L' => v = .int .i64 (if l.may then 0 else 8) ∧ L' = L := by
  have f0 := Ln.f0 h.own
  have f1 := Ln.f1 h.own
  have hlen := h.ts.len
  have hol := h.own
  have hcl := Ln.len h.own
  refine vc_ent ?_
  refine vc_in rfl rfl ?_
  generalize hcs : l.cells = cs at *
  repeat' (first | (refine go1 ?_; intros) | (refine goCC ?_ ?_ <;> (intro hb; (try simp only [hSQ] at hb); try (exfalso; omega))) | fail)
  · exact ⟨L, sei _ _ _, by rw [if_neg (by simp [Ln.may]; omega)], rfl⟩
  refine v_loopS Nat [1, 10, 11] rfl (fun i => [(12, .int .i64 i)]) (fun i => i ≤ l.xs.length ∧ ∀ j, j < i → okAt l j = true) (fun i => l.xs.length - i) 0 ⟨Nat.zero_le _, fun j h => by omega⟩ (by (exact sbS)) (fun i ⟨hi, hok⟩ => ?_)
  by_cases hlt : i < l.xs.length
  rotate_left
  · obtain rfl : i = l.xs.length := by omega
    repeat' (first | (refine go1 ?_; intros) | (refine goCC ?_ ?_ <;> (intro hb; (try simp only [hSQ] at hb); try (exfalso; omega))) | fail)
    exact ⟨L, sei _ _ _, by rw [if_pos (by unfold Ln.may; exact decide_eq_true ⟨by omega, hok⟩)], rfl⟩
  have el := h.ts.el i hlt
  have xok := h.ts.at i hlt
  have hxl := Tx.len xok
  have hpos := h.ts.pos i hlt
  have e2 : (l.xs[i]).cells[0 + 64]? = some (.int .u64 ((l.xs[i]).nonce : Int)) := Tx.f2 xok
  have e2' := h.ts.e2 (i - 1) (by omega)
  have hq := okAt_eq l i hlt
  have hbad : okAt l i = false → (if l.may = true then (0 : Int) else 8) = 8 := fun e => by
    rw [if_neg]
    unfold Ln.may
    intro f
    have f := of_decide_eq_true f
    rw [f.2 i hlt] at e
    cases e
  have hgood : okAt l i = true → ∀ j, j < i + 1 → okAt l j = true := fun e j hj => by
    by_cases e' : j = i
    · rw [e']; exact e
    · exact hok j (by omega)
  repeat' (first | (refine go1 ?_; intros) | (refine goCC ?_ ?_ <;> (intro hb; (try simp only [hSQ] at hb); try (exfalso; omega))) | fail)
  (refine v_draw0 [] (by kernel_rfl) ?_ <;> (refine tA 0 ?_) <;> (refine tA 1 ?_) <;> (refine tA 2 ?_))
  first | refine va_one 3 (by kernel_rfl) rfl rfl (vo_call rfl rfl ?_) | refine va_one 3 (by kernel_rfl) rfl rfl (vo_callV rfl rfl rfl ?_)
  refine vc_mono (qown_vc w0 _ _ xok l.own hol) ?_
  rintro v L' ⟨rfl, rfl⟩
  generalize ownT l.xs[i] l.own = o at *
  generalize (l.xs[i]).nonce = N at *
  generalize (l.xs[i - 1]'(by omega)).nonce = M at *
  cases o
  · refine ⟨.inr entD, ?_⟩
    ((refine tA 4 ?_) <;> (refine tA 5 ?_) <;> (first | refine tG 6 ?_ | (first | refine pG 6 ?_ | refine pU 6 ?_) | (refine va_caseG 6 rfl rfl rfl rfl rfl ?_ ?_ <;> (intro hb; (try simp only [hSQ] at hb); try (exfalso; omega)) <;> first | refine tG 6 ?_ | (first | refine pG 6 ?_ | refine pU 6 ?_))) <;> (first | refine tG 7 ?_ | (first | refine pG 7 ?_ | refine pU 7 ?_) | (refine va_caseG 7 rfl rfl rfl rfl rfl ?_ ?_ <;> (intro hb; (try simp only [hSQ] at hb); try (exfalso; omega)) <;> first | refine tG 7 ?_ | (first | refine pG 7 ?_ | refine pU 7 ?_))) <;> (first | refine tG 8 ?_ | (first | refine pG 8 ?_ | refine pU 8 ?_) | (refine va_caseG 8 rfl rfl rfl rfl rfl ?_ ?_ <;> (intro hb; (try simp only [hSQ] at hb); try (exfalso; omega)) <;> first | refine tG 8 ?_ | (first | refine pG 8 ?_ | refine pU 8 ?_))) <;> (first | refine tG 9 ?_ | (first | refine pG 9 ?_ | refine pU 9 ?_) | (refine va_caseG 9 rfl rfl rfl rfl rfl ?_ ?_ <;> (intro hb; (try simp only [hSQ] at hb); try (exfalso; omega)) <;> first | refine tG 9 ?_ | (first | refine pG 9 ?_ | refine pU 9 ?_))) <;> (first | refine tG 10 ?_ | (first | refine pG 10 ?_ | refine pU 10 ?_) | (refine va_caseG 10 rfl rfl rfl rfl rfl ?_ ?_ <;> (intro hb; (try simp only [hSQ] at hb); try (exfalso; omega)) <;> first | refine tG 10 ?_ | (first | refine pG 10 ?_ | refine pU 10 ?_))) <;> (first | refine tG 11 ?_ | (first | refine pG 11 ?_ | refine pU 11 ?_) | (refine va_caseG 11 rfl rfl rfl rfl rfl ?_ ?_ <;> (intro hb; (try simp only [hSQ] at hb); try (exfalso; omega)) <;> first | refine tG 11 ?_ | (first | refine pG 11 ?_ | refine pU 11 ?_))) <;> (first | refine tG 12 ?_ | (first | refine pG 12 ?_ | refine pU 12 ?_) | (refine va_caseG 12 rfl rfl rfl rfl rfl ?_ ?_ <;> (intro hb; (try simp only [hSQ] at hb); try (exfalso; omega)) <;> first | refine tG 12 ?_ | (first | refine pG 12 ?_ | refine pU 12 ?_))) <;> (first | refine tG 13 ?_ | (first | refine pG 13 ?_ | refine pU 13 ?_) | (refine va_caseG 13 rfl rfl rfl rfl rfl ?_ ?_ <;> (intro hb; (try simp only [hSQ] at hb); try (exfalso; omega)) <;> first | refine tG 13 ?_ | (first | refine pG 13 ?_ | refine pU 13 ?_))) <;> (first | refine tG 14 ?_ | (first | refine pG 14 ?_ | refine pU 14 ?_) | (refine va_caseG 14 rfl rfl rfl rfl rfl ?_ ?_ <;> (intro hb; (try simp only [hSQ] at hb); try (exfalso; omega)) <;> first | refine tG 14 ?_ | (first | refine pG 14 ?_ | refine pU 14 ?_))) <;> (first | refine tG 15 ?_ | (first | refine pG 15 ?_ | refine pU 15 ?_) | (refine va_caseG 15 rfl rfl rfl rfl rfl ?_ ?_ <;> (intro hb; (try simp only [hSQ] at hb); try (exfalso; omega)) <;> first | refine tG 15 ?_ | (first | refine pG 15 ?_ | refine pU 15 ?_))) <;> (first | refine tG 16 ?_ | (first | refine pG 16 ?_ | refine pU 16 ?_) | (refine va_caseG 16 rfl rfl rfl rfl rfl ?_ ?_ <;> (intro hb; (try simp only [hSQ] at hb); try (exfalso; omega)) <;> first | refine tG 16 ?_ | (first | refine pG 16 ?_ | refine pU 16 ?_))) <;> (first | refine tG 17 ?_ | (first | refine pG 17 ?_ | refine pU 17 ?_) | (refine va_caseG 17 rfl rfl rfl rfl rfl ?_ ?_ <;> (intro hb; (try simp only [hSQ] at hb); try (exfalso; omega)) <;> first | refine tG 17 ?_ | (first | refine pG 17 ?_ | refine pU 17 ?_))) <;> (first | refine tG 18 ?_ | (first | refine pG 18 ?_ | refine pU 18 ?_) | (refine va_caseG 18 rfl rfl rfl rfl rfl ?_ ?_ <;> (intro hb; (try simp only [hSQ] at hb); try (exfalso; omega)) <;> first | refine tG 18 ?_ | (first | refine pG 18 ?_ | refine pU 18 ?_))) <;> (first | refine tG 19 ?_ | (first | refine pG 19 ?_ | refine pU 19 ?_) | (refine va_caseG 19 rfl rfl rfl rfl rfl ?_ ?_ <;> (intro hb; (try simp only [hSQ] at hb); try (exfalso; omega)) <;> first | refine tG 19 ?_ | (first | refine pG 19 ?_ | refine pU 19 ?_))) <;> (refine tA 20 ?_) <;> (refine va_done (by kernel_rfl) ?_))
    repeat' (first | (refine go1 ?_; intros) | (refine goCC ?_ ?_ <;> (intro hb; (try simp only [hSQ] at hb); try (exfalso; omega))) | fail)
    exact ⟨L, sei _ _ _, by rw [hbad (by rw [hq]; rfl)], rfl⟩
  rw [Bool.true_and] at hq
  by_cases i0 : i = 0
  · obtain rfl := i0
    refine ⟨.inr entD, ?_⟩
    ((refine tA 4 ?_) <;> (refine tA 5 ?_) <;> (first | refine tG 6 ?_ | (first | refine pG 6 ?_ | refine pU 6 ?_) | (refine va_caseG 6 rfl rfl rfl rfl rfl ?_ ?_ <;> (intro hb; (try simp only [hSQ] at hb); try (exfalso; omega)) <;> first | refine tG 6 ?_ | (first | refine pG 6 ?_ | refine pU 6 ?_))) <;> (first | refine tG 7 ?_ | (first | refine pG 7 ?_ | refine pU 7 ?_) | (refine va_caseG 7 rfl rfl rfl rfl rfl ?_ ?_ <;> (intro hb; (try simp only [hSQ] at hb); try (exfalso; omega)) <;> first | refine tG 7 ?_ | (first | refine pG 7 ?_ | refine pU 7 ?_))) <;> (first | refine tG 8 ?_ | (first | refine pG 8 ?_ | refine pU 8 ?_) | (refine va_caseG 8 rfl rfl rfl rfl rfl ?_ ?_ <;> (intro hb; (try simp only [hSQ] at hb); try (exfalso; omega)) <;> first | refine tG 8 ?_ | (first | refine pG 8 ?_ | refine pU 8 ?_))) <;> (first | refine tG 9 ?_ | (first | refine pG 9 ?_ | refine pU 9 ?_) | (refine va_caseG 9 rfl rfl rfl rfl rfl ?_ ?_ <;> (intro hb; (try simp only [hSQ] at hb); try (exfalso; omega)) <;> first | refine tG 9 ?_ | (first | refine pG 9 ?_ | refine pU 9 ?_))) <;> (first | refine tG 10 ?_ | (first | refine pG 10 ?_ | refine pU 10 ?_) | (refine va_caseG 10 rfl rfl rfl rfl rfl ?_ ?_ <;> (intro hb; (try simp only [hSQ] at hb); try (exfalso; omega)) <;> first | refine tG 10 ?_ | (first | refine pG 10 ?_ | refine pU 10 ?_))) <;> (first | refine tG 11 ?_ | (first | refine pG 11 ?_ | refine pU 11 ?_) | (refine va_caseG 11 rfl rfl rfl rfl rfl ?_ ?_ <;> (intro hb; (try simp only [hSQ] at hb); try (exfalso; omega)) <;> first | refine tG 11 ?_ | (first | refine pG 11 ?_ | refine pU 11 ?_))) <;> (first | refine tG 12 ?_ | (first | refine pG 12 ?_ | refine pU 12 ?_) | (refine va_caseG 12 rfl rfl rfl rfl rfl ?_ ?_ <;> (intro hb; (try simp only [hSQ] at hb); try (exfalso; omega)) <;> first | refine tG 12 ?_ | (first | refine pG 12 ?_ | refine pU 12 ?_))) <;> (first | refine tG 13 ?_ | (first | refine pG 13 ?_ | refine pU 13 ?_) | (refine va_caseG 13 rfl rfl rfl rfl rfl ?_ ?_ <;> (intro hb; (try simp only [hSQ] at hb); try (exfalso; omega)) <;> first | refine tG 13 ?_ | (first | refine pG 13 ?_ | refine pU 13 ?_))) <;> (first | refine tG 14 ?_ | (first | refine pG 14 ?_ | refine pU 14 ?_) | (refine va_caseG 14 rfl rfl rfl rfl rfl ?_ ?_ <;> (intro hb; (try simp only [hSQ] at hb); try (exfalso; omega)) <;> first | refine tG 14 ?_ | (first | refine pG 14 ?_ | refine pU 14 ?_))) <;> (first | refine tG 15 ?_ | (first | refine pG 15 ?_ | refine pU 15 ?_) | (refine va_caseG 15 rfl rfl rfl rfl rfl ?_ ?_ <;> (intro hb; (try simp only [hSQ] at hb); try (exfalso; omega)) <;> first | refine tG 15 ?_ | (first | refine pG 15 ?_ | refine pU 15 ?_))) <;> (first | refine tG 16 ?_ | (first | refine pG 16 ?_ | refine pU 16 ?_) | (refine va_caseG 16 rfl rfl rfl rfl rfl ?_ ?_ <;> (intro hb; (try simp only [hSQ] at hb); try (exfalso; omega)) <;> first | refine tG 16 ?_ | (first | refine pG 16 ?_ | refine pU 16 ?_))) <;> (first | refine tG 17 ?_ | (first | refine pG 17 ?_ | refine pU 17 ?_) | (refine va_caseG 17 rfl rfl rfl rfl rfl ?_ ?_ <;> (intro hb; (try simp only [hSQ] at hb); try (exfalso; omega)) <;> first | refine tG 17 ?_ | (first | refine pG 17 ?_ | refine pU 17 ?_))) <;> (first | refine tG 18 ?_ | (first | refine pG 18 ?_ | refine pU 18 ?_) | (refine va_caseG 18 rfl rfl rfl rfl rfl ?_ ?_ <;> (intro hb; (try simp only [hSQ] at hb); try (exfalso; omega)) <;> first | refine tG 18 ?_ | (first | refine pG 18 ?_ | refine pU 18 ?_))) <;> (first | refine tG 19 ?_ | (first | refine pG 19 ?_ | refine pU 19 ?_) | (refine va_caseG 19 rfl rfl rfl rfl rfl ?_ ?_ <;> (intro hb; (try simp only [hSQ] at hb); try (exfalso; omega)) <;> first | refine tG 19 ?_ | (first | refine pG 19 ?_ | refine pU 19 ?_))) <;> (refine tA 20 ?_) <;> (refine va_done (by kernel_rfl) ?_))
    repeat' (first | (refine go1 ?_; intros) | (refine goCC ?_ ?_ <;> (intro hb; (try simp only [hSQ] at hb); try (exfalso; omega))) | fail)
    refine ⟨rfl, 1, ⟨by omega, hgood (by rw [hq]; rfl)⟩, by omega, ?_, sei _ _ _⟩
    (exact sbS)
  · rw [decide_eq_false i0, Bool.false_or] at hq
    have hi0 : (0 : Int) < (i : Int) := by omega
    by_cases hNM : M < N
    · have hNM' : ¬ ((N : Int) ≤ (M : Int)) := by omega
      rw [decide_eq_true hNM] at hq
      refine ⟨.inr entD, ?_⟩
      ((refine tA 4 ?_) <;> (refine tA 5 ?_) <;> (first | refine tG 6 ?_ | (first | refine pG 6 ?_ | refine pU 6 ?_) | (refine va_caseG 6 rfl rfl rfl rfl rfl ?_ ?_ <;> (intro hb; (try simp only [hSQ] at hb); try (exfalso; omega)) <;> first | refine tG 6 ?_ | (first | refine pG 6 ?_ | refine pU 6 ?_))) <;> (first | refine tG 7 ?_ | (first | refine pG 7 ?_ | refine pU 7 ?_) | (refine va_caseG 7 rfl rfl rfl rfl rfl ?_ ?_ <;> (intro hb; (try simp only [hSQ] at hb); try (exfalso; omega)) <;> first | refine tG 7 ?_ | (first | refine pG 7 ?_ | refine pU 7 ?_))) <;> (first | refine tG 8 ?_ | (first | refine pG 8 ?_ | refine pU 8 ?_) | (refine va_caseG 8 rfl rfl rfl rfl rfl ?_ ?_ <;> (intro hb; (try simp only [hSQ] at hb); try (exfalso; omega)) <;> first | refine tG 8 ?_ | (first | refine pG 8 ?_ | refine pU 8 ?_))) <;> (first | refine tG 9 ?_ | (first | refine pG 9 ?_ | refine pU 9 ?_) | (refine va_caseG 9 rfl rfl rfl rfl rfl ?_ ?_ <;> (intro hb; (try simp only [hSQ] at hb); try (exfalso; omega)) <;> first | refine tG 9 ?_ | (first | refine pG 9 ?_ | refine pU 9 ?_))) <;> (first | refine tG 10 ?_ | (first | refine pG 10 ?_ | refine pU 10 ?_) | (refine va_caseG 10 rfl rfl rfl rfl rfl ?_ ?_ <;> (intro hb; (try simp only [hSQ] at hb); try (exfalso; omega)) <;> first | refine tG 10 ?_ | (first | refine pG 10 ?_ | refine pU 10 ?_))) <;> (first | refine tG 11 ?_ | (first | refine pG 11 ?_ | refine pU 11 ?_) | (refine va_caseG 11 rfl rfl rfl rfl rfl ?_ ?_ <;> (intro hb; (try simp only [hSQ] at hb); try (exfalso; omega)) <;> first | refine tG 11 ?_ | (first | refine pG 11 ?_ | refine pU 11 ?_))) <;> (first | refine tG 12 ?_ | (first | refine pG 12 ?_ | refine pU 12 ?_) | (refine va_caseG 12 rfl rfl rfl rfl rfl ?_ ?_ <;> (intro hb; (try simp only [hSQ] at hb); try (exfalso; omega)) <;> first | refine tG 12 ?_ | (first | refine pG 12 ?_ | refine pU 12 ?_))) <;> (first | refine tG 13 ?_ | (first | refine pG 13 ?_ | refine pU 13 ?_) | (refine va_caseG 13 rfl rfl rfl rfl rfl ?_ ?_ <;> (intro hb; (try simp only [hSQ] at hb); try (exfalso; omega)) <;> first | refine tG 13 ?_ | (first | refine pG 13 ?_ | refine pU 13 ?_))) <;> (first | refine tG 14 ?_ | (first | refine pG 14 ?_ | refine pU 14 ?_) | (refine va_caseG 14 rfl rfl rfl rfl rfl ?_ ?_ <;> (intro hb; (try simp only [hSQ] at hb); try (exfalso; omega)) <;> first | refine tG 14 ?_ | (first | refine pG 14 ?_ | refine pU 14 ?_))) <;> (first | refine tG 15 ?_ | (first | refine pG 15 ?_ | refine pU 15 ?_) | (refine va_caseG 15 rfl rfl rfl rfl rfl ?_ ?_ <;> (intro hb; (try simp only [hSQ] at hb); try (exfalso; omega)) <;> first | refine tG 15 ?_ | (first | refine pG 15 ?_ | refine pU 15 ?_))) <;> (first | refine tG 16 ?_ | (first | refine pG 16 ?_ | refine pU 16 ?_) | (refine va_caseG 16 rfl rfl rfl rfl rfl ?_ ?_ <;> (intro hb; (try simp only [hSQ] at hb); try (exfalso; omega)) <;> first | refine tG 16 ?_ | (first | refine pG 16 ?_ | refine pU 16 ?_))) <;> (first | refine tG 17 ?_ | (first | refine pG 17 ?_ | refine pU 17 ?_) | (refine va_caseG 17 rfl rfl rfl rfl rfl ?_ ?_ <;> (intro hb; (try simp only [hSQ] at hb); try (exfalso; omega)) <;> first | refine tG 17 ?_ | (first | refine pG 17 ?_ | refine pU 17 ?_))) <;> (first | refine tG 18 ?_ | (first | refine pG 18 ?_ | refine pU 18 ?_) | (refine va_caseG 18 rfl rfl rfl rfl rfl ?_ ?_ <;> (intro hb; (try simp only [hSQ] at hb); try (exfalso; omega)) <;> first | refine tG 18 ?_ | (first | refine pG 18 ?_ | refine pU 18 ?_))) <;> (first | refine tG 19 ?_ | (first | refine pG 19 ?_ | refine pU 19 ?_) | (refine va_caseG 19 rfl rfl rfl rfl rfl ?_ ?_ <;> (intro hb; (try simp only [hSQ] at hb); try (exfalso; omega)) <;> first | refine tG 19 ?_ | (first | refine pG 19 ?_ | refine pU 19 ?_))) <;> (refine tA 20 ?_) <;> (refine va_done (by kernel_rfl) ?_))
      repeat' (first | (refine go1 ?_; intros) | (refine goCC ?_ ?_ <;> (intro hb; (try simp only [hSQ] at hb); try (exfalso; omega))) | fail)
      refine ⟨rfl, i + 1, ⟨by omega, hgood hq⟩, by omega, ?_, sei _ _ _⟩
      (exact sbS)
    · have hNM' : ((N : Int) ≤ (M : Int)) := by omega
      rw [decide_eq_false hNM] at hq
      refine ⟨.inr entD, ?_⟩
      ((refine tA 4 ?_) <;> (refine tA 5 ?_) <;> (first | refine tG 6 ?_ | (first | refine pG 6 ?_ | refine pU 6 ?_) | (refine va_caseG 6 rfl rfl rfl rfl rfl ?_ ?_ <;> (intro hb; (try simp only [hSQ] at hb); try (exfalso; omega)) <;> first | refine tG 6 ?_ | (first | refine pG 6 ?_ | refine pU 6 ?_))) <;> (first | refine tG 7 ?_ | (first | refine pG 7 ?_ | refine pU 7 ?_) | (refine va_caseG 7 rfl rfl rfl rfl rfl ?_ ?_ <;> (intro hb; (try simp only [hSQ] at hb); try (exfalso; omega)) <;> first | refine tG 7 ?_ | (first | refine pG 7 ?_ | refine pU 7 ?_))) <;> (first | refine tG 8 ?_ | (first | refine pG 8 ?_ | refine pU 8 ?_) | (refine va_caseG 8 rfl rfl rfl rfl rfl ?_ ?_ <;> (intro hb; (try simp only [hSQ] at hb); try (exfalso; omega)) <;> first | refine tG 8 ?_ | (first | refine pG 8 ?_ | refine pU 8 ?_))) <;> (first | refine tG 9 ?_ | (first | refine pG 9 ?_ | refine pU 9 ?_) | (refine va_caseG 9 rfl rfl rfl rfl rfl ?_ ?_ <;> (intro hb; (try simp only [hSQ] at hb); try (exfalso; omega)) <;> first | refine tG 9 ?_ | (first | refine pG 9 ?_ | refine pU 9 ?_))) <;> (first | refine tG 10 ?_ | (first | refine pG 10 ?_ | refine pU 10 ?_) | (refine va_caseG 10 rfl rfl rfl rfl rfl ?_ ?_ <;> (intro hb; (try simp only [hSQ] at hb); try (exfalso; omega)) <;> first | refine tG 10 ?_ | (first | refine pG 10 ?_ | refine pU 10 ?_))) <;> (first | refine tG 11 ?_ | (first | refine pG 11 ?_ | refine pU 11 ?_) | (refine va_caseG 11 rfl rfl rfl rfl rfl ?_ ?_ <;> (intro hb; (try simp only [hSQ] at hb); try (exfalso; omega)) <;> first | refine tG 11 ?_ | (first | refine pG 11 ?_ | refine pU 11 ?_))) <;> (first | refine tG 12 ?_ | (first | refine pG 12 ?_ | refine pU 12 ?_) | (refine va_caseG 12 rfl rfl rfl rfl rfl ?_ ?_ <;> (intro hb; (try simp only [hSQ] at hb); try (exfalso; omega)) <;> first | refine tG 12 ?_ | (first | refine pG 12 ?_ | refine pU 12 ?_))) <;> (first | refine tG 13 ?_ | (first | refine pG 13 ?_ | refine pU 13 ?_) | (refine va_caseG 13 rfl rfl rfl rfl rfl ?_ ?_ <;> (intro hb; (try simp only [hSQ] at hb); try (exfalso; omega)) <;> first | refine tG 13 ?_ | (first | refine pG 13 ?_ | refine pU 13 ?_))) <;> (first | refine tG 14 ?_ | (first | refine pG 14 ?_ | refine pU 14 ?_) | (refine va_caseG 14 rfl rfl rfl rfl rfl ?_ ?_ <;> (intro hb; (try simp only [hSQ] at hb); try (exfalso; omega)) <;> first | refine tG 14 ?_ | (first | refine pG 14 ?_ | refine pU 14 ?_))) <;> (first | refine tG 15 ?_ | (first | refine pG 15 ?_ | refine pU 15 ?_) | (refine va_caseG 15 rfl rfl rfl rfl rfl ?_ ?_ <;> (intro hb; (try simp only [hSQ] at hb); try (exfalso; omega)) <;> first | refine tG 15 ?_ | (first | refine pG 15 ?_ | refine pU 15 ?_))) <;> (first | refine tG 16 ?_ | (first | refine pG 16 ?_ | refine pU 16 ?_) | (refine va_caseG 16 rfl rfl rfl rfl rfl ?_ ?_ <;> (intro hb; (try simp only [hSQ] at hb); try (exfalso; omega)) <;> first | refine tG 16 ?_ | (first | refine pG 16 ?_ | refine pU 16 ?_))) <;> (first | refine tG 17 ?_ | (first | refine pG 17 ?_ | refine pU 17 ?_) | (refine va_caseG 17 rfl rfl rfl rfl rfl ?_ ?_ <;> (intro hb; (try simp only [hSQ] at hb); try (exfalso; omega)) <;> first | refine tG 17 ?_ | (first | refine pG 17 ?_ | refine pU 17 ?_))) <;> (first | refine tG 18 ?_ | (first | refine pG 18 ?_ | refine pU 18 ?_) | (refine va_caseG 18 rfl rfl rfl rfl rfl ?_ ?_ <;> (intro hb; (try simp only [hSQ] at hb); try (exfalso; omega)) <;> first | refine tG 18 ?_ | (first | refine pG 18 ?_ | refine pU 18 ?_))) <;> (first | refine tG 19 ?_ | (first | refine pG 19 ?_ | refine pU 19 ?_) | (refine va_caseG 19 rfl rfl rfl rfl rfl ?_ ?_ <;> (intro hb; (try simp only [hSQ] at hb); try (exfalso; omega)) <;> first | refine tG 19 ?_ | (first | refine pG 19 ?_ | refine pU 19 ?_))) <;> (refine tA 20 ?_) <;> (refine va_done (by kernel_rfl) ?_))
      repeat' (first | (refine go1 ?_; intros) | (refine goCC ?_ ?_ <;> (intro hb; (try simp only [hSQ] at hb); try (exfalso; omega))) | fail)
      exact ⟨L, sei _ _ _, by rw [hbad hq], rfl⟩
end Go.Proofs.YtcpndfffdbogbaaGreatDoor
namespace Go.Proofs.YtcpndfffdbogbaaGreatDoor
open Go Go.RowKit
open Classical

theorem q2_i64q {m : Nat} (h : m < 9223372036854775808) : IntKind.i64.wrap ((m : Int).tdiv 2) = ((m / 2 : Nat) : Int) := by
  rw [Int.tdiv_eq_ediv_of_nonneg (by omega)]
  simp only [IntKind.wrap_i64]; omega
/-- Nonces go up. -/
def UpT (xs : List Tx) : Prop := ∀ (i j : Nat) (hj : j < xs.length) (hij : i < j), (xs[i]'(by omega)).nonce < (xs[j]).nonce
theorem Ln.may_up {l : Ln} (h : l.may = true) : UpT l.xs := by
  have h2 := (of_decide_eq_true h).2
  have step : ∀ (j : Nat) (hj : j + 1 < l.xs.length), (l.xs[j]'(by omega)).nonce < (l.xs[j + 1]).nonce := fun j hj => by
    have := h2 (j + 1) hj
    rw [okAt_eq l (j + 1) hj] at this
    simp at this
    exact this.2
  intro i j hj hij
  induction j with
  | zero => omega
  | succ j ih =>
    rcases Nat.lt_or_ge i j with e | e
    · exact Nat.lt_trans (ih (by omega) e) (step j hj)
    · obtain rfl : i = j := by omega
      exact step i hj
theorem nonce1_vc (w0 : World) (L : List Asn) (x : Tx) (h : x.ok) :
    VC Tryz.prog w0 115 [.agg x.cells.toArray] L fun v L' => v = .int .u64 (x.nonce : Int) ∧ L' = L := by
  have hlen := Tx.len h
  have f2 := Tx.f2 h
  refine vc_ent ?_
  refine vc_in rfl rfl ?_
  generalize x.cells = cs at *
  repeat' (first | (refine go1 ?_; intros) | (refine goCC ?_ ?_ <;> (intro hb; (try simp only [hSQ] at hb); try (exfalso; omega))) | fail)
  exact ⟨L, sei _ _ _, rfl, rfl⟩
theorem nonces_vc (w0 : World) (L : List Asn) (l : Ln) (h : l.own.length = 32) :
    VC Tryz.prog w0 72 [.agg l.cells.toArray] L fun v L' => v = .agg #[.slice l.a l.xs.length l.c, .func (.func 115) #[] #[]] ∧ L' = L := by
  have hlen := Ln.len h
  have f1 := Ln.f1 h
  refine vc_ent ?_
  refine vc_in rfl rfl ?_
  generalize l.cells = cs at *
  repeat' (first | (refine go1 ?_; intros) | (refine goCC ?_ ?_ <;> (intro hb; (try simp only [hSQ] at hb); try (exfalso; omega))) | fail)
  exact ⟨L, sei _ _ _, rfl, rfl⟩
theorem ahead19_vc (w0 : World) (L : List Asn) (a : Option Addr) (cap : Nat) (xs : List Tx) {n : Nat} (hn : n = xs.length) (h : TsOk xs) (hup : UpT xs) (k : Nat) [hr : RdC w0 L a (txc xs)] :
    VC Tryz.prog w0 73 [.agg #[.slice a n cap, .func (.func 115) #[] #[]], .int .u64 k] L fun v L' => ∃ m : Nat, v = .int .i64 m ∧ m ≤ xs.length ∧ (∀ i (hi : i < xs.length), i < m → (xs[i]).nonce < k) ∧ (∀ i (hi : i < xs.length), m ≤ i → ¬ (xs[i]).nonce < k) ∧ L' = L := by
  subst hn
  have hlen := h.len
  refine vc_ent ?_
  refine vc_in rfl rfl ?_
  repeat' (first | (refine go1 ?_; intros) | (refine goCC ?_ ?_ <;> (intro hb; (try simp only [hSQ] at hb); try (exfalso; omega))) | fail)
  (refine v_draw0 [] (by kernel_rfl) ?_ <;> (refine tA 0 ?_) <;> (refine tA 1 ?_) <;> (refine tA 2 ?_) <;> (refine tA 3 ?_) <;> (refine tA 4 ?_) <;> (refine va_done (by kernel_rfl) ?_))
  repeat' (first | (refine go1 ?_; intros) | (refine goCC ?_ ?_ <;> (intro hb; (try simp only [hSQ] at hb); try (exfalso; omega))) | fail)
  rename_i g
  refine v_loopS (Nat × Nat) [1, 2] rfl (fun x => [(5, .int .i64 x.1), (6, .int .i64 x.2)]) (fun x => x.1 ≤ x.2 ∧ x.2 ≤ xs.length ∧ (∀ i (hi : i < xs.length), i < x.1 → (xs[i]).nonce < k) ∧ (∀ i (hi : i < xs.length), x.2 ≤ i → ¬ (xs[i]).nonce < k)) (fun x => x.2 - x.1) (0, xs.length) ⟨Nat.zero_le _, Nat.le_refl _, fun i hi h => by omega, fun i hi h => by dsimp only at h; omega⟩ (by (exact sbS)) ?_
  rintro ⟨lo, hi⟩ ⟨h1, h2, h3, h4⟩
  dsimp only at h1 h2 h3 h4 ⊢
  by_cases hlt : lo < hi
  · have hq := q2_i64q (m := lo + hi) (by omega)
    have hmid : (lo + hi) / 2 < xs.length := by omega
    obtain ⟨m, hm'⟩ : ∃ m, m = (lo + hi) / 2 := ⟨_, rfl⟩
    rw [← hm'] at hq hmid
    have hg := h.el m hmid
    have xok := h.at m hmid
    have hc99 := Tx.len xok
    have hpos := h.pos m hmid
    repeat' (first | (refine go1 ?_; intros) | (refine goCC ?_ ?_ <;> (intro hb; (try simp only [hSQ] at hb); try (exfalso; omega))) | fail)
    refine v_draw0 [] (by kernel_rfl) ?_
    refine tA 0 ?_
    refine tA 1 ?_
    refine tA 2 ?_
    refine tA 3 ?_
    refine tA 4 ?_
    refine tA 5 ?_
    refine tA 6 ?_
    refine tA 8 ?_
    refine va_one 7 (by kernel_rfl) rfl rfl ?_
    first | refine vo_call rfl rfl ?_ | refine vo_callV rfl rfl rfl ?_
    refine vc_mono (nonce1_vc w0 _ xs[m] xok) ?_
    rintro v L' ⟨rfl, rfl⟩
    refine ⟨.inr (sei _ _ _), ?_⟩
    refine tA 9 ?_
    refine va_done (by kernel_rfl) ?_
    skip
    by_cases hp : (xs[m]).nonce < k
    · have hp' : ((xs[m]).nonce : Int) < (k : Int) := by omega
      generalize hN : (xs[m]).nonce = N at *
      repeat' (first | (refine go1 ?_; intros) | (refine goCC ?_ ?_ <;> (intro hb; (try simp only [hSQ] at hb); try (exfalso; omega))) | fail)
      refine ⟨rfl, (m + 1, hi), ⟨by dsimp only; omega, h2, fun i hi' hlt' => ?_, h4⟩, by dsimp only; omega, by (exact sbS), Ent.refl _ _⟩
      rcases Nat.lt_or_ge i m with e | e
      · exact Nat.lt_trans (hup i m hmid e) (by omega)
      · obtain rfl : i = m := by dsimp only at hlt'; omega
        omega
    · have hp' : ¬ ((xs[m]).nonce : Int) < (k : Int) := by omega
      generalize hN : (xs[m]).nonce = N at *
      repeat' (first | (refine go1 ?_; intros) | (refine goCC ?_ ?_ <;> (intro hb; (try simp only [hSQ] at hb); try (exfalso; omega))) | fail)
      refine ⟨rfl, (lo, m), ⟨by dsimp only; omega, by dsimp only; omega, h3, fun i hi' hlt' => ?_⟩, by dsimp only; omega, by (exact sbS), Ent.refl _ _⟩
      rcases Nat.lt_or_ge m i with e | e
      · have := hup m i hi' e
        omega
      · obtain rfl : i = m := by dsimp only at hlt'; omega
        omega
  · obtain rfl : lo = hi := by omega
    repeat' (first | (refine go1 ?_; intros) | (refine goCC ?_ ?_ <;> (intro hb; (try simp only [hSQ] at hb); try (exfalso; omega))) | fail)
    exact ⟨L, sei _ _ _, lo, rfl, h2, h3, h4, rfl⟩
end Go.Proofs.YtcpndfffdbogbaaGreatDoor
namespace Go.Proofs.YtcpndfffdbogbaaGreatDoor
open Go Go.RowKit
open Classical

section
variable {P : Program} {w0 : World} {n : Nat} {ds : List Deferred} {fr : Fr} {L : List Asn} {dst : Option Nat} {ty : TypeId} {pos : String} {after : Array Edge} {gd : Option (Nat × Bool)}
theorem vq_neTx {t yt : TypeId} {a b : Operand} {x y : Tx} (hx : evA fr a = some (.agg x.cells.toArray)) (hy : evA fr b = some (.agg y.cells.toArray)) [he : EqI P t txShape] (hox : x.ok) (hoy : y.ok) : VQ P w0 n ⟨dst, .binOp .neq t a b yt, ty, pos, after, gd⟩ (.bool (!decide (x = y))) ds fr L :=
  vq_val (fun u w hk _ => run_neAgg t yt a b rfl he x.cells y.cells (hk.ev hx) (hk.ev hy) (Tx.fits hox) (Tx.fits hoy) _ (Tx.inj hox hoy))
end
theorem rsameTs_vc (w0 : World) (L : List Asn) (a : Option Addr) (c : Nat) (xs : List Tx) (b : Option Addr) (d : Nat) (ys : List Tx) {n m : Nat} (hn : n = xs.length) (hm : m = ys.length) (h : TsOk xs) (k : TsOk ys) [hr : RdC w0 L a (txc xs)] [hs : RdC w0 L b (txc ys)] :
    VC Tryz.prog w0 14 [.slice a n c, .slice b m d] L fun v L' => v = .bool (decide (xs = ys)) ∧ L' = L := by
  subst hn; subst hm
  have hlen := h.len
  refine vc_in rfl rfl ?_
  repeat' (first | (refine go1 ?_; intros) | (refine goCC ?_ ?_ <;> (intro hb; (try simp only [hSQ] at hb); try (exfalso; omega))) | fail)
  · exact ⟨by rw [decide_eq_false]; intro e; have := congrArg List.length e; omega, rfl⟩
  have hll : xs.length = ys.length := by omega
  refine v_loopS Nat [0, 1] rfl (fun i => [(5, .int .i64 i)]) (fun i => i ≤ xs.length ∧ xs.take i = ys.take i) (fun i => xs.length - i) 0 ⟨Nat.zero_le _, rfl⟩ (by (exact sbS)) (fun i ⟨hi, heq⟩ => ?_)
  by_cases hlt : i < xs.length
  · have hlt' : i < ys.length := by omega
    have ex := h.el i hlt
    have ey := k.el i hlt'
    have xok := h.at i hlt
    have yok := k.at i hlt'
    have hxl := Tx.len xok
    have hyl := Tx.len yok
    have hpx := h.pos i hlt
    have hpy := k.pos i hlt'
    have hst : xs[i] = ys[i] → xs.take (i + 1) = ys.take (i + 1) := take_eq_step hlt hlt' heq
    have hne : xs[i] ≠ ys[i] → xs ≠ ys := fun e f => e (by simp [f])
    generalize xs[i] = x at *
    generalize ys[i] = y at *
    repeat' (first | (refine go1 ?_; intros) | (refine goCC ?_ ?_ <;> (intro hb; (try simp only [hSQ] at hb); try (exfalso; omega))) | fail)
    refine v_draw0 [] (by kernel_rfl) ?_
    refine tA 0 ?_
    refine tA 1 ?_
    refine tA 2 ?_
    refine tA 3 ?_
    refine tA 4 ?_
    refine tA 5 ?_
    refine tA 6 ?_
    refine tA 7 ?_
    refine va_take 8 rfl rfl rfl rfl (by kernel_rfl) (fun _ _ _ _ h => h) entD (vq_neTx rfl rfl xok yok) ?_
    refine va_done (by kernel_rfl) ?_
    skip
    by_cases e : x = y
    · rw [decide_eq_true e]
      repeat' (first | (refine go1 ?_; intros) | (refine goCC ?_ ?_ <;> (intro hb; (try simp only [hSQ] at hb); try (exfalso; omega))) | fail)
      refine ⟨rfl, i + 1, ⟨by omega, hst e⟩, by omega, ?_, Ent.refl _ _⟩
      (exact sbS)
    · rw [decide_eq_false e]
      repeat' (first | (refine go1 ?_; intros) | (refine goCC ?_ ?_ <;> (intro hb; (try simp only [hSQ] at hb); try (exfalso; omega))) | fail)
      exact ⟨by rw [decide_eq_false (hne e)], rfl⟩
  · obtain rfl : i = xs.length := by omega
    have he : xs = ys := by rw [List.take_of_length_le (Nat.le_refl _), List.take_of_length_le (by omega)] at heq; exact heq
    repeat' (first | (refine go1 ?_; intros) | (refine goCC ?_ ?_ <;> (intro hb; (try simp only [hSQ] at hb); try (exfalso; omega))) | fail)
    exact ⟨by rw [decide_eq_true he], rfl⟩
end Go.Proofs.YtcpndfffdbogbaaGreatDoor
namespace Go.Proofs.YtcpndfffdbogbaaGreatDoor
open Go Go.RowKit
open Classical

theorem rsameL_vc (w0 : World) (L : List Asn) (p q : Ln) (h : p.ok) (k : q.ok) [hr : RdC w0 L p.a (txc p.xs)] [hs : RdC w0 L q.a (txc q.xs)] :
    VC Tryz.prog w0 48 [.agg p.cells.toArray, .agg q.cells.toArray] L fun v L' => v = .bool (decide (p.own = q.own ∧ p.xs = q.xs)) ∧ L' = L := by
  have f0 := Ln.f0 h.own
  have f1 := Ln.f1 h.own
  have g0 := Ln.f0 k.own
  have g1 := Ln.f1 k.own
  have ho := h.own
  have ko := k.own
  have hcl := Ln.len h.own
  have kcl := Ln.len k.own
  refine vc_ent ?_
  refine vc_in rfl rfl ?_
  generalize p.cells = cs at *
  generalize q.cells = ds at *
  by_cases e : p.own = q.own
  · rw [e] at f0
    repeat' (first | (refine goE ?_; intros) | (refine goCC ?_ ?_ <;> (intro hb; (try simp only [hSQ] at hb); try (exfalso; omega))) | fail)
    refine clV ?_
    refine vc_mono (rsameTs_vc w0 _ p.a p.c p.xs q.a q.c q.xs rfl rfl h.ts k.ts) ?_
    rintro v L' ⟨rfl, rfl⟩
    repeat' (first | (refine go1 ?_; intros) | (refine goCC ?_ ?_ <;> (intro hb; (try simp only [hSQ] at hb); try (exfalso; omega))) | fail)
    exact ⟨L, sei _ _ _, by simp [e], rfl⟩
  · repeat' (first | (refine go1 ?_; intros) | (refine goCC ?_ ?_ <;> (intro hb; (try simp only [hSQ] at hb); try (exfalso; omega))) | fail)
    · exact absurd (by assumption) e
    · exact ⟨L, sei _ _ _, by simp [e], rfl⟩
end Go.Proofs.YtcpndfffdbogbaaGreatDoor
namespace Go.Proofs.YtcpndfffdbogbaaGreatDoor
open Go Go.RowKit
open Classical

theorem cloneTs_vc (w0 : World) (L : List Asn) (a : Option Addr) (cap : Nat) (xs : List Tx) {n : Nat} (hn : n = xs.length) (h : TsOk xs) [hr : RdC w0 L a (txc xs)] :
    VC Tryz.prog w0 74 [.slice a n cap] L fun v L' => ∃ a' c', v = .slice a' xs.length c' ∧ L' = ownTs a' c' xs :: L := by
  subst hn
  have hlen := h.len
  have hfx : (txc xs).length = xs.length * 99 := h.wide.len
  refine vc_know (φ := a = none → xs.length = 0) (fun w hs e => ?_) (fun hnil => ?_)
  · rcases hr.out w hs with h | ⟨_, _, e', _⟩
    · rw [h] at hfx
      simp only [List.length_nil] at hfx
      omega
    · rw [e] at e'; cases e'
  refine vc_ent ?_
  refine vc_in rfl rfl ?_
  repeat' (first | (refine go1 ?_; intros) | (refine goCC ?_ ?_ <;> (intro hb; (try simp only [hSQ] at hb); try (exfalso; omega))) | fail)
  · have h0 := hnil hb
    obtain rfl : xs = [] := List.eq_nil_of_length_eq_zero h0
    exact ⟨_, (se_own_nil _ 99 _).ent w0, none, 0, rfl, rfl⟩
  · rename_i g a' c' _ _
    refine ⟨_, Ent.refl _ _, a', c', ?_, ?_⟩
    · rw [Nat.zero_add]
    · rw [Nat.zero_add]; rfl
theorem qtwinL_vc (w0 : World) (L : List Asn) (l : Ln) (h : l.ok) [hr : RdC w0 L l.a (txc l.xs)] :
    VC Tryz.prog w0 69 [.agg l.cells.toArray] L fun v L' => ∃ a c, v = .agg ({ l with a := a, c := c } : Ln).cells.toArray ∧ L' = ownTs a c l.xs :: L := by
  have f0 := Ln.f0 h.own
  have f1 := Ln.f1 h.own
  have ho := h.own
  have hcl := Ln.len h.own
  refine vc_ent ?_
  refine vc_in rfl rfl ?_
  generalize l.cells = cs at *
  repeat' (first | (refine go1 ?_; intros) | (refine goCC ?_ ?_ <;> (intro hb; (try simp only [hSQ] at hb); try (exfalso; omega))) | fail)
  refine v_draw0 [6] (by kernel_rfl) ?_
  refine tA 0 ?_
  refine tA 1 ?_
  refine tA 2 ?_
  refine tA 3 ?_
  refine va_one 4 (by kernel_rfl) rfl rfl ?_
  first | refine vo_call rfl rfl ?_ | refine vo_callV rfl rfl rfl ?_
  refine vc_mono (cloneTs_vc w0 _ l.a l.c l.xs rfl h.ts) ?_
  rintro v L' ⟨a, c, rfl, rfl⟩
  have hl2 : (bvs l.own ++ [.slice a l.xs.length c] : List Value).length = 33 := by simp [ho]
  refine ⟨.inr (sei _ _ _), ?_⟩
  refine va_take 5 rfl rfl rfl rfl (by kernel_rfl) (fun _ _ _ _ h => h) entD (vq_build rfl rfl (by simp [plOf, ho, Value.cells]) (by simp [ho, Value.cells])) ?_
  refine va_one 6 (by kernel_rfl) rfl rfl ?_
  refine vo_stW rfl rfl rfl (by first | exact hl2 | (simp [ho]; done)) (by rfl) ?_
  refine ⟨.inl (by kernel_rfl), ?_⟩
  refine va_done (by kernel_rfl) ?_
  skip
  repeat' (first | (refine go1 ?_; intros) | (refine goCC ?_ ?_ <;> (intro hb; (try simp only [hSQ] at hb); try (exfalso; omega))) | fail)
  exact ⟨ownTs a c l.xs :: L, sei _ _ _, a, c, rfl, rfl⟩
end Go.Proofs.YtcpndfffdbogbaaGreatDoor
namespace Go.Proofs.YtcpndfffdbogbaaGreatDoor
open Go Go.RowKit
open Classical

theorem rtwinL_vc (w0 : World) (L : List Asn) (l : Ln) (h : l.ok) [hr : RdC w0 L l.a (txc l.xs)] :
    VC Tryz.prog w0 29 [.agg l.cells.toArray] L fun v L' => ∃ a c, v = .agg ({ l with a := a, c := c } : Ln).cells.toArray ∧ L' = ownTs a c l.xs :: L := by
  have f0 := Ln.f0 h.own
  have f1 := Ln.f1 h.own
  have ho := h.own
  have hcl := Ln.len h.own
  have hlen := h.ts.len
  have hfx : (txc l.xs).length = l.xs.length * 99 := h.ts.wide.len
  refine vc_ent ?_
  refine vc_in rfl rfl ?_
  generalize l.cells = cs at *
  have hz : (bvs l.own ++ [.slice none 0 0] : List Value).length = 33 := by simp [ho]
  have g1 : (bvs l.own ++ [.slice none 0 0] : List Value)[0 + 32]? = some (.slice none 0 0) := by simp [ho, List.getElem?_append]
  repeat' (first | (refine goB ?_; intros) | (refine goCC ?_ ?_ <;> (intro hb; (try simp only [hSQ] at hb); try (exfalso; omega))) | fail)
  refine vl_q rfl rfl rfl rfl (vq_buildP (cs := bvs l.own ++ [.slice none 0 0]) rfl (by simp [okS, Value.cells, ho]) (by simp [fillS, splice, Value.cells, ho, List.drop_append, List.drop_of_length_le])) ?_
  repeat' (first | (refine go1 ?_; intros) | (refine goCC ?_ ?_ <;> (intro hb; (try simp only [hSQ] at hb); try (exfalso; omega))) | fail)
  rename_i gp gr gt a2 c2 _ _
  have e2 : splice (bvs l.own ++ [.slice none 0 0] : List Value) (0 + 32) [.slice a2 l.xs.length c2] = bvs l.own ++ [.slice a2 l.xs.length c2] := by
    have := splice_mid (bvs l.own) [.slice none 0 0] [] [.slice a2 l.xs.length c2] 32 (by simp [ho]) rfl
    simpa using this
  have hz2 : (bvs l.own ++ [.slice a2 l.xs.length c2] : List Value).length = 33 := by simp [ho]
  rw [e2]
  repeat' (first | (refine go1 ?_; intros) | (refine goCC ?_ ?_ <;> (intro hb; (try simp only [hSQ] at hb); try (exfalso; omega))) | fail)
  exact ⟨ownTs a2 c2 l.xs :: L, sei _ _ _, a2, c2, rfl, rfl⟩
end Go.Proofs.YtcpndfffdbogbaaGreatDoor
namespace Go.Proofs.YtcpndfffdbogbaaGreatDoor
open Go Go.RowKit
open Classical

/-- The transactions whose nonces are below one; the others; those above. -/
def loT (xs : List Tx) (k : Nat) : List Tx := xs.filter (fun x => decide (x.nonce < k))
def hiT (xs : List Tx) (k : Nat) : List Tx := xs.filter (fun x => !decide (x.nonce < k))
def gtT (xs : List Tx) (k : Nat) : List Tx := xs.filter (fun x => decide (k < x.nonce))
/-- The run from a nonce on. -/
def runT : List Tx → Nat → List Tx
  | [], _ => []
  | x :: r, k => if x.nonce = k then x :: runT r (k + 1) else []
def readyT (xs : List Tx) (k : Nat) : List Tx := runT (hiT xs k) k
def withT (xs : List Tx) (x : Tx) : List Tx := loT xs x.nonce ++ x :: gtT xs x.nonce
def atT (xs : List Tx) (k : Nat) : Option Tx := xs.find? (fun x => x.nonce == k)
def z32 : List UInt8 := List.replicate 32 0
noncomputable def putT (l : Ln) (x : Tx) : List UInt8 × List Tx × List Tx × Int :=
  if l.may then
    if ownT x l.own then
      match atT l.xs x.nonce with
      | some y => if x.fee ≤ y.fee then (z32, [], [], 190) else (l.own, withT l.xs x, [y], 0)
      | none => if 256 ≤ l.xs.length then (z32, [], [], 9) else (l.own, withT l.xs x, [], 0)
    else (z32, [], [], 2)
  else (z32, [], [], 8)

theorem loT_sub {xs : List Tx} {k : Nat} : ∀ x ∈ loT xs k, x ∈ xs := fun x h => (List.mem_filter.1 h).1
theorem hiT_sub {xs : List Tx} {k : Nat} : ∀ x ∈ hiT xs k, x ∈ xs := fun x h => (List.mem_filter.1 h).1
theorem gtT_sub {xs : List Tx} {k : Nat} : ∀ x ∈ gtT xs k, x ∈ xs := fun x h => (List.mem_filter.1 h).1
theorem runT_sub : ∀ {xs : List Tx} {k : Nat}, ∀ x ∈ runT xs k, x ∈ xs
  | [], _, x, h => h
  | y :: r, k, x, h => by
    unfold runT at h
    split at h
    · rcases List.mem_cons.1 h with rfl | h
      · simp
      · exact List.mem_cons_of_mem _ (runT_sub x h)
    · cases h
theorem runT_len : ∀ (xs : List Tx) (k : Nat), (runT xs k).length ≤ xs.length
  | [], _ => Nat.le_refl _
  | y :: r, k => by
    unfold runT
    split
    · simpa using runT_len r (k + 1)
    · simp
theorem ready_len (xs : List Tx) (k : Nat) : (readyT xs k).length ≤ xs.length := Nat.le_trans (runT_len _ _) (List.length_filter_le _ _)
theorem TsOk.sub {xs ys : List Tx} (h : TsOk xs) (hs : ∀ y ∈ ys, y ∈ xs) (hl : ys.length ≤ 1000000) : TsOk ys := ⟨fun y hy => h.ok y (hs y hy), hl⟩
theorem TsOk.lo {xs : List Tx} (h : TsOk xs) (k : Nat) : TsOk (loT xs k) := h.sub loT_sub (Nat.le_trans (List.length_filter_le _ _) h.len)
theorem TsOk.hi {xs : List Tx} (h : TsOk xs) (k : Nat) : TsOk (hiT xs k) := h.sub hiT_sub (Nat.le_trans (List.length_filter_le _ _) h.len)
theorem TsOk.gt {xs : List Tx} (h : TsOk xs) (k : Nat) : TsOk (gtT xs k) := h.sub gtT_sub (Nat.le_trans (List.length_filter_le _ _) h.len)
theorem TsOk.run {xs : List Tx} (h : TsOk xs) (k : Nat) : TsOk (runT xs k) := h.sub runT_sub (Nat.le_trans (runT_len _ _) h.len)
theorem TsOk.ready {xs : List Tx} (h : TsOk xs) (k : Nat) : TsOk (readyT xs k) := (h.hi k).run k
theorem TsOk.nil : TsOk [] := ⟨fun _ h => (by cases h), (by simp)⟩
theorem TsOk.one {x : Tx} (h : x.ok) : TsOk [x] := ⟨fun y hy => by rw [List.mem_singleton.1 hy]; exact h, by simp⟩

/-- A place that parts the nonces below one from the others. -/
structure Part (xs : List Tx) (k m : Nat) : Prop where
  le : m ≤ xs.length
  lo : ∀ i (hi : i < xs.length), i < m → (xs[i]).nonce < k
  hi : ∀ i (hi : i < xs.length), m ≤ i → ¬ (xs[i]).nonce < k
theorem mem_take_lt {xs : List Tx} {m : Nat} {x : Tx} (h : x ∈ xs.take m) : ∃ i, ∃ hi : i < xs.length, i < m ∧ xs[i] = x := by
  obtain ⟨i, hi, e⟩ := List.getElem_of_mem h
  simp only [List.length_take] at hi
  exact ⟨i, by omega, by omega, by rw [← e, List.getElem_take]⟩
theorem mem_drop_le {xs : List Tx} {m : Nat} {x : Tx} (h : x ∈ xs.drop m) : ∃ i, ∃ hi : i < xs.length, m ≤ i ∧ xs[i] = x := by
  obtain ⟨i, hi, e⟩ := List.getElem_of_mem h
  simp only [List.length_drop] at hi
  exact ⟨m + i, by omega, by omega, by rw [← e, List.getElem_drop]⟩
theorem Part.take {xs : List Tx} {k m : Nat} (h : Part xs k m) : xs.take m = loT xs k := by
  have e : loT xs k = loT (xs.take m ++ xs.drop m) k := by rw [List.take_append_drop]
  rw [e]
  unfold loT
  rw [List.filter_append, List.filter_eq_self.2, List.filter_eq_nil_iff.2, List.append_nil]
  · intro x hx
    obtain ⟨i, hi, hm, rfl⟩ := mem_drop_le hx
    simpa using h.hi i hi hm
  · intro x hx
    obtain ⟨i, hi, hm, rfl⟩ := mem_take_lt hx
    simpa using h.lo i hi hm
theorem Part.drop {xs : List Tx} {k m : Nat} (h : Part xs k m) : xs.drop m = hiT xs k := by
  have e : hiT xs k = hiT (xs.take m ++ xs.drop m) k := by rw [List.take_append_drop]
  rw [e]
  unfold hiT
  rw [List.filter_append, List.filter_eq_nil_iff.2, List.filter_eq_self.2, List.nil_append]
  · intro x hx
    obtain ⟨i, hi, hm, rfl⟩ := mem_drop_le hx
    simpa using h.hi i hi hm
  · intro x hx
    obtain ⟨i, hi, hm, rfl⟩ := mem_take_lt hx
    simpa using h.lo i hi hm
/-- .. and the one of the nonce, if there is one, stands there. -/
theorem Part.gt0 {xs : List Tx} {k m : Nat} (h : Part xs k m) (hn : ∀ i (hi : i < xs.length), (xs[i]).nonce ≠ k) : xs.drop m = gtT xs k := by
  rw [h.drop]
  unfold hiT gtT
  apply List.filter_congr
  intro x hx
  obtain ⟨i, hi, rfl⟩ := List.getElem_of_mem hx
  have := hn i hi
  by_cases e : (xs[i]).nonce < k
  · simp [e]; omega
  · simp [e]; omega
theorem Part.gt1 {xs : List Tx} {k m : Nat} (h : Part xs k m) (hu : UpT xs) (hm : m < xs.length) (he : (xs[m]).nonce = k) : xs.drop (m + 1) = gtT xs k := by
  have e : gtT xs k = gtT (xs.take (m + 1) ++ xs.drop (m + 1)) k := by rw [List.take_append_drop]
  rw [e]
  unfold gtT
  rw [List.filter_append, List.filter_eq_nil_iff.2, List.filter_eq_self.2, List.nil_append]
  · intro x hx
    obtain ⟨i, hi, hm', rfl⟩ := mem_drop_le hx
    have := hu m i hi (by omega)
    simp; omega
  · intro x hx
    obtain ⟨i, hi, hm', rfl⟩ := mem_take_lt hx
    rcases Nat.lt_or_ge i m with e | e
    · have := h.lo i hi e
      simp; omega
    · obtain rfl : i = m := by omega
      simp; omega
theorem UpT.inj {xs : List Tx} (h : UpT xs) {i j : Nat} (hi : i < xs.length) (hj : j < xs.length) (e : (xs[i]).nonce = (xs[j]).nonce) : i = j := by
  rcases Nat.lt_trichotomy i j with a | a | a
  · have := h i j hj a; omega
  · exact a
  · have := h j i hi a; omega
theorem Part.none {xs : List Tx} {k m : Nat} (h : Part xs k m) (hu : UpT xs) (hm : ∀ hm : m < xs.length, (xs[m]).nonce ≠ k) : ∀ i (hi : i < xs.length), (xs[i]).nonce ≠ k := by
  intro i hi e
  rcases Nat.lt_trichotomy i m with a | a | a
  · have := h.lo i hi a; omega
  · subst a; exact hm hi e
  · have h1 := hu m i hi a
    have h2 := h.hi m (by omega) (Nat.le_refl _)
    omega
theorem atT_none {xs : List Tx} {k : Nat} (h : ∀ i (hi : i < xs.length), (xs[i]).nonce ≠ k) : atT xs k = none := by
  unfold atT
  rw [List.find?_eq_none]
  intro x hx
  obtain ⟨i, hi, rfl⟩ := List.getElem_of_mem hx
  simpa using h i hi
theorem atT_some {xs : List Tx} {k m : Nat} (hu : UpT xs) (hm : m < xs.length) (he : (xs[m]).nonce = k) : atT xs k = some xs[m] := by
  unfold atT
  cases hf : xs.find? (fun x => x.nonce == k) with
  | none =>
    rw [List.find?_eq_none] at hf
    exact absurd he (by simpa using hf _ (List.getElem_mem hm))
  | some y =>
    have h1 := List.mem_of_find?_eq_some hf
    have h2 := List.find?_some hf
    obtain ⟨i, hi, rfl⟩ := List.getElem_of_mem h1
    have : i = m := hu.inj hi hm (by simp at h2; omega)
    subst this
    rfl
/-- From what Find tells. -/
theorem FindR.at {xs : List Tx} {k : Nat} {m : Int} (h : FindR xs k m) (hu : UpT xs) : (m = -1 ∧ (∀ i (hi : i < xs.length), (xs[i]).nonce ≠ k) ∧ atT xs k = none) ∨ ∃ i, ∃ hi : i < xs.length, m = (i : Int) ∧ (xs[i]).nonce = k ∧ atT xs k = some xs[i] := by
  rcases h with ⟨e, h⟩ | ⟨i, hi, e, he, _⟩
  · have hn : ∀ i (hi : i < xs.length), (xs[i]).nonce ≠ k := fun i hi => h i hi hi
    exact .inl ⟨e, hn, atT_none hn⟩
  · exact .inr ⟨i, hi, e, he, atT_some hu hi he⟩
/-- The program's place. -/
theorem Part.with0 {xs : List Tx} {m : Nat} {x : Tx} (h : Part xs x.nonce m) (hn : ∀ i (hi : i < xs.length), (xs[i]).nonce ≠ x.nonce) : xs.take m ++ x :: xs.drop m = withT xs x := by
  rw [h.take, h.gt0 hn]; rfl
theorem Part.with1 {xs : List Tx} {m : Nat} {x : Tx} (h : Part xs x.nonce m) (hu : UpT xs) (hm : m < xs.length) (he : (xs[m]).nonce = x.nonce) : xs.set m x = withT xs x := by
  rw [List.set_eq_take_append_cons_drop, if_pos hm, h.take, h.gt1 hu hm he]; rfl
theorem withT_mem {xs : List Tx} {x y : Tx} (h : y ∈ withT xs x) : y = x ∨ y ∈ xs := by
  unfold withT at h
  rcases List.mem_append.1 h with h | h
  · exact .inr (loT_sub y h)
  · rcases List.mem_cons.1 h with h | h
    · exact .inl h
    · exact .inr (gtT_sub y h)
theorem lo_gt_len (xs : List Tx) (k : Nat) : (loT xs k).length + (gtT xs k).length ≤ xs.length := by
  induction xs with
  | nil => simp [loT, gtT]
  | cons x r ih =>
    unfold loT gtT at *
    simp only [List.filter_cons, decide_eq_true_eq]
    split
    · rw [if_neg (by omega)]; simp; omega
    · split <;> simp <;> omega
theorem withT_len (xs : List Tx) (x : Tx) : (withT xs x).length ≤ xs.length + 1 := by
  have := lo_gt_len xs x.nonce
  unfold withT
  simp; omega
/-- The run from a place on. -/
theorem runT_cons {xs : List Tx} {k m : Nat} (hm : m < xs.length) (he : (xs[m]).nonce = k) : runT (xs.drop m) k = xs[m] :: runT (xs.drop (m + 1)) (k + 1) := by
  rw [List.drop_eq_getElem_cons hm]
  conv => lhs; unfold runT
  rw [if_pos he]
theorem runT_stop {xs : List Tx} {k m : Nat} (he : ∀ hm : m < xs.length, (xs[m]).nonce ≠ k) : runT (xs.drop m) k = [] := by
  by_cases hm : m < xs.length
  · rw [List.drop_eq_getElem_cons hm]
    unfold runT
    rw [if_neg (he hm)]
  · rw [List.drop_eq_nil_of_le (by omega)]; rfl
theorem Part.ready {xs : List Tx} {k m : Nat} (h : Part xs k m) : readyT xs k = runT (xs.drop m) k := by
  unfold readyT; rw [h.drop]
theorem Part.next {xs : List Tx} {k m : Nat} (h : Part xs k m) (hu : UpT xs) (hm : m < xs.length) (he : (xs[m]).nonce = k) : Part xs (k + 1) (m + 1) := by
  refine ⟨by omega, fun i hi hlt => ?_, fun i hi hle => ?_⟩
  · rcases Nat.lt_or_ge i m with e | e
    · have := h.lo i hi e; omega
    · obtain rfl : i = m := by omega
      omega
  · have := hu m i hi (by omega)
    omega
theorem upT_pw {xs : List Tx} : UpT xs ↔ xs.Pairwise (fun a b => a.nonce < b.nonce) := by
  rw [List.pairwise_iff_getElem]
  exact ⟨fun h i j hi hj hij => h i j hj hij, fun h i j hj hij => h i j (by omega) hj hij⟩
theorem UpT.hi {xs : List Tx} (h : UpT xs) (k : Nat) : UpT (hiT xs k) := upT_pw.2 ((upT_pw.1 h).filter _)
theorem UpT.with {xs : List Tx} (h : UpT xs) (x : Tx) : UpT (withT xs x) := by
  have h := upT_pw.1 h
  refine upT_pw.2 (List.pairwise_append.2 ⟨h.filter _, List.pairwise_cons.2 ⟨fun y hy => ?_, h.filter _⟩, fun a ha b hb => ?_⟩)
  · simpa using (List.mem_filter.1 hy).2
  · have ha2 : a.nonce < x.nonce := by simpa using (List.mem_filter.1 ha).2
    rcases List.mem_cons.1 hb with rfl | hb
    · exact ha2
    · have hb2 : x.nonce < b.nonce := by simpa using (List.mem_filter.1 hb).2
      omega
theorem Ln.may_iff {l : Ln} : l.may = true ↔ l.xs.length ≤ 256 ∧ (∀ x ∈ l.xs, ownT x l.own = true) ∧ UpT l.xs := by
  refine ⟨fun h => ⟨(of_decide_eq_true h).1, fun x hx => ?_, Ln.may_up h⟩, fun ⟨h1, h2, h3⟩ => ?_⟩
  · obtain ⟨i, hi, rfl⟩ := List.getElem_of_mem hx
    have := (of_decide_eq_true h).2 i hi
    rw [okAt_eq l i hi] at this
    simp only [Bool.and_eq_true] at this
    exact this.1
  · refine decide_eq_true ⟨h1, fun j hj => ?_⟩
    rw [okAt_eq l j hj, h2 _ (List.getElem_mem hj), Bool.true_and]
    by_cases e : j = 0
    · simp [e]
    · simp only [e, decide_false, Bool.false_or, decide_eq_true_eq]
      exact h3 (j - 1) j hj (by omega)
/-- A run's nonces, and where it ends. -/
theorem runT_at {xs : List Tx} (hu : UpT xs) : ∀ (d k m : Nat), xs.length - m = d → Part xs k m → (∀ i (hi : i < (runT (xs.drop m) k).length), ((runT (xs.drop m) k)[i]).nonce = k + i ∧ (runT (xs.drop m) k)[i] ∈ xs) ∧ ∀ i (hi : i < xs.length), (xs[i]).nonce ≠ k + (runT (xs.drop m) k).length := by
  intro d
  induction d with
  | zero =>
    intro k m hd h
    rw [List.drop_eq_nil_of_le (by omega)]
    exact ⟨fun i hi => absurd hi (by simp [runT]), fun i hi => by have := h.lo i hi (by omega); simp [runT]; omega⟩
  | succ d ih =>
    intro k m hd h
    have hm : m < xs.length := by omega
    by_cases he : (xs[m]).nonce = k
    · obtain ⟨h1, h2⟩ := ih (k + 1) (m + 1) (by omega) (h.next hu hm he)
      rw [runT_cons hm he]
      refine ⟨fun i hi => ?_, fun i hi => ?_⟩
      · cases i with
        | zero => exact ⟨by simpa using he, by simp⟩
        | succ i =>
          have := h1 i (by simpa using hi)
          simp only [List.getElem_cons_succ]
          exact ⟨by rw [this.1]; omega, this.2⟩
      · have := h2 i hi
        simp only [List.length_cons]
        omega
    · rw [runT_stop (fun _ => he)]
      exact ⟨fun i hi => absurd hi (by simp), fun i hi => h.none hu (fun _ => he) i hi⟩
theorem part_exists {xs : List Tx} (hu : UpT xs) (k : Nat) : ∃ m, Part xs k m := by
  have : ∀ d, d ≤ xs.length → (∀ i (hi : i < xs.length), xs.length - d ≤ i → ¬ (xs[i]).nonce < k) → ∃ m, Part xs k m := by
    intro d
    induction hn : xs.length - d generalizing d with
    | zero => exact fun hd h => ⟨0, Nat.zero_le _, fun i _ h => by omega, fun i hi _ => h i hi (by omega)⟩
    | succ e ih =>
      intro hd h
      by_cases hk : (xs[e]'(by omega)).nonce < k
      · refine ⟨e + 1, by omega, fun i hi hlt => ?_, fun i hi hle => h i hi (by omega)⟩
        rcases Nat.lt_or_ge i e with a | a
        · have := hu i e (by omega) a; omega
        · obtain rfl : i = e := by omega
          exact hk
      · refine ih (d + 1) (by omega) (by omega) (fun i hi hle => ?_)
        by_cases a : i = e
        · subst a; exact hk
        · exact h i hi (by omega)
  exact this 0 (Nat.zero_le _) (fun i hi h => by omega)
theorem atT_mem {xs : List Tx} (hu : UpT xs) {y : Tx} {k : Nat} (hy : y ∈ xs) (hk : y.nonce = k) : atT xs k = some y := by
  obtain ⟨i, hi, rfl⟩ := List.getElem_of_mem hy
  exact atT_some hu hi hk
theorem ready_at {xs : List Tx} (hu : UpT xs) (k : Nat) : (∀ i (hi : i < (readyT xs k).length), ((readyT xs k)[i]).nonce = k + i ∧ atT xs (k + i) = some (readyT xs k)[i]) ∧ atT xs (k + (readyT xs k).length) = none := by
  obtain ⟨m, h⟩ := part_exists hu k
  obtain ⟨h1, h2⟩ := runT_at hu _ k m rfl h
  rw [h.ready]
  exact ⟨fun i hi => ⟨(h1 i hi).1, atT_mem hu (h1 i hi).2 (h1 i hi).1⟩, atT_none h2⟩
theorem with_at {xs : List Tx} (hu : UpT xs) (x : Tx) : atT (withT xs x) x.nonce = some x := atT_mem (hu.with x) (by simp [withT]) rfl
theorem with_at_ne {xs : List Tx} (hu : UpT xs) (x : Tx) {y : Tx} (hy : y ∈ xs) (hn : y.nonce ≠ x.nonce) : atT (withT xs x) y.nonce = some y := by
  refine atT_mem (hu.with x) ?_ rfl
  unfold withT loT gtT
  rcases Nat.lt_trichotomy y.nonce x.nonce with a | a | a
  · exact List.mem_append.2 (.inl (List.mem_filter.2 ⟨hy, by simpa using a⟩))
  · exact absurd a hn
  · exact List.mem_append.2 (.inr (List.mem_cons_of_mem _ (List.mem_filter.2 ⟨hy, by simpa using a⟩)))
end Go.Proofs.YtcpndfffdbogbaaGreatDoor
namespace Go.Proofs.YtcpndfffdbogbaaGreatDoor
open Go Go.RowKit

theorem takeQ {l : List Value} {k : Nat} (h : k < l.length) : (l.drop k).take 1 = [l[k]] := by
  rw [List.drop_eq_getElem_cons h]; rfl
theorem trod_tx {H : Type} {enc : TypeId × Value → H} {W : World} {n : Nat} {cs : List Value} {y : DataW H × List MemPlace} (hy : DataW.trod enc Tryz.prog W 0 (fun _ => true) true n 50 cs = some y) : ∃ x : Tx, cs = x.cells ∧ x.ok := by
  obtain ⟨f, _, hf⟩ := (inferInstance : EqI Tryz.prog 50 txShape).shape
  obtain ⟨x, hx, e⟩ := tx_of_fits (fits_of_trod f hf hy)
  exact ⟨x, e, hx⟩
/-- A line that can be read. -/
structure LnR (w : World) (l : Ln) : Prop where
  own : l.own.length = 32
  cap : l.xs.length ≤ l.c
  len : l.xs.length ≤ 9223372036854775807
  ok : ∀ x ∈ l.xs, x.ok
  rc : Rc w l.a (txc l.xs)
theorem LnR.rd {w : World} {l : Ln} (h : LnR w l) : RdA w l.a (txc l.xs) := ⟨h.rc⟩
end Go.Proofs.YtcpndfffdbogbaaGreatDoor

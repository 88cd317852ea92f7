/-
  Transactions: their cells; what is signed. The body of a transaction: both walks. Bytes, signs, ids of transactions: the walks. Signs and ids of transactions: the walks. Senders of transactions; what is told of one: the law.
-/
import Derived.Test.YtcpcbgfnglnkcaaDoorGF
import Derived.Test.YtcpcbgfnglnkcaaDoorGC
import Derived.Test.YtcpcbgfnglnkcaaDoorGH
set_option linter.unusedVariables false
set_option linter.unusedSimpArgs false
set_option linter.unusedSectionVars false
set_option maxRecDepth 100000
set_option maxHeartbeats 1000000
namespace Go.Proofs.YtcpcbgfnglnkcaaDoor
open Go Go.RowKit

structure Tx where
  pub : List UInt8
  to : List UInt8
  nonce : Nat
  amount : Nat
  fee : Nat
  sign : List UInt8
deriving DecidableEq
def Tx.cells (x : Tx) : List Value := bvs x.pub ++ (bvs x.to ++ (.int .u64 (x.nonce : Int) :: (.int .u64 (x.amount : Int) :: (.int .u64 (x.fee : Int) :: bvs x.sign))))
structure Tx.ok (x : Tx) : Prop where
  pub : x.pub.length = 32
  to : x.to.length = 32
  nonce : x.nonce < 18446744073709551616
  amount : x.amount < 18446744073709551616
  fee : x.fee < 18446744073709551616
  sign : x.sign.length = 32
instance oc_tx (x : Tx) : OC x.cells := (inferInstance : OC (bvs x.pub ++ (bvs x.to ++ (.int .u64 (x.nonce : Int) :: (.int .u64 (x.amount : Int) :: (.int .u64 (x.fee : Int) :: bvs x.sign))))))
theorem Tx.len {x : Tx} (h : x.ok) : x.cells.length = 99 := by simp [Tx.cells, h.pub, h.to, h.sign]
theorem Tx.f0 {x : Tx} (h : x.ok) : (x.cells.drop (0 + 0)).take 32 = bvs x.pub := by
  simp only [Tx.cells, Nat.add_zero, List.drop_zero]
  rw [List.take_left' (by simp [h.pub])]
theorem Tx.f1 {x : Tx} (h : x.ok) : (x.cells.drop (0 + 32)).take 32 = bvs x.to := by
  simp only [Tx.cells, Nat.zero_add]
  rw [List.drop_left' (by simp [h.pub]), List.take_left' (by simp [h.to])]
theorem Tx.f2 {x : Tx} (h : x.ok) : x.cells[0 + 64]? = some (.int .u64 (x.nonce : Int)) := by
  simp [Tx.cells, List.getElem?_append, h.pub, h.to]
theorem Tx.f3 {x : Tx} (h : x.ok) : x.cells[0 + 65]? = some (.int .u64 (x.amount : Int)) := by
  simp [Tx.cells, List.getElem?_append, h.pub, h.to]
theorem Tx.f4 {x : Tx} (h : x.ok) : x.cells[0 + 66]? = some (.int .u64 (x.fee : Int)) := by
  simp [Tx.cells, List.getElem?_append, h.pub, h.to]
theorem Tx.cut {x : Tx} : x.cells = (bvs x.pub ++ (bvs x.to ++ [.int .u64 (x.nonce : Int), .int .u64 (x.amount : Int), .int .u64 (x.fee : Int)])) ++ bvs x.sign := by simp [Tx.cells]
theorem Tx.f5 {x : Tx} (h : x.ok) : (x.cells.drop (0 + 67)).take 32 = bvs x.sign := by
  rw [Tx.cut, List.drop_left' (by simp [h.pub, h.to]), List.take_of_length_le (by simp [h.sign])]
theorem Tx.set5 {x : Tx} (h : x.ok) (s : List UInt8) (hs : s.length = 32) : splice x.cells (0 + 67) (bvs s) = ({ x with sign := s } : Tx).cells := by
  have e := splice_mid (α := Value) (bvs x.pub ++ (bvs x.to ++ [.int .u64 (x.nonce : Int), .int .u64 (x.amount : Int), .int .u64 (x.fee : Int)])) (bvs x.sign) [] (bvs s) (0 + 67) (by simp [h.pub, h.to]) (by simp [h.sign, hs])
  rw [List.append_nil] at e
  rw [Tx.cut, e]
  simp [Tx.cells]
theorem Tx.withSign {x : Tx} (h : x.ok) {s : List UInt8} (hs : s.length = 32) : ({ x with sign := s } : Tx).ok := ⟨h.pub, h.to, h.nonce, h.amount, h.fee, hs⟩
abbrev txShape : Shape := List.replicate 32 (some .u8) ++ (List.replicate 32 (some .u8) ++ (some .u64 :: (some .u64 :: (some .u64 :: List.replicate 32 (some .u8)))))
theorem Tx.fits {x : Tx} (h : x.ok) : Fits txShape x.cells := by
  have a := fits_bvs x.pub
  have b := fits_bvs x.to
  have c := fits_bvs x.sign
  rw [h.pub] at a
  rw [h.to] at b
  rw [h.sign] at c
  exact a.append (b.append ⟨⟨_, rfl⟩, ⟨_, rfl⟩, ⟨_, rfl⟩, c⟩)
theorem Tx.inj {x y : Tx} (h : x.ok) (k : y.ok) : x.cells = y.cells ↔ x = y := by
  refine ⟨fun e => ?_, fun e => by rw [e]⟩
  unfold Tx.cells at e
  obtain ⟨e1, e⟩ := List.append_inj e (by simp [h.pub, k.pub])
  obtain ⟨e2, e⟩ := List.append_inj e (by simp [h.to, k.to])
  simp only [List.cons.injEq, Value.int.injEq, true_and] at e
  obtain ⟨e3, e4, e5, e6⟩ := e
  obtain ⟨p, t, n, a, f, s⟩ := x
  obtain ⟨p', t', n', a', f', s'⟩ := y
  simp only at e1 e2 e3 e4 e5 e6
  have := bvs_inj e1
  have := bvs_inj e2
  have := bvs_inj e6
  simp only [Tx.mk.injEq]
  refine ⟨by assumption, by assumption, by omega, by omega, by omega, by assumption⟩
section
variable {P : Program} {w0 : World} {n : Nat} {ds : List Deferred} {fr : Fr} {L : List Asn} {dst : Option Nat} {ty : TypeId} {pos : String} {after : Array Edge} {gd : Option (Nat × Bool)}
end

section
variable {P : Program} {w0 : World} {n : Nat} {ds : List Deferred} {fr : Fr} {L : List Asn} {dst : Option Nat} {ty : TypeId} {pos : String} {after : Array Edge} {gd : Option (Nat × Bool)}
end

/-- What is signed; the bytes. -/
def txBody (x : Tx) : List UInt8 := x.pub ++ (x.to ++ (digs x.nonce 8 ++ (digs x.amount 8 ++ digs x.fee 8)))
def txBytes (x : Tx) : List UInt8 := txBody x ++ x.sign
theorem txBody_length {x : Tx} (h : x.ok) : (txBody x).length = 88 := by simp [txBody, h.pub, h.to, digs_length]
theorem txBytes_length {x : Tx} (h : x.ok) : (txBytes x).length = 120 := by simp [txBytes, txBody_length h, h.sign]
end Go.Proofs.YtcpcbgfnglnkcaaDoor
namespace Go.Proofs.YtcpcbgfnglnkcaaDoor
open Go Go.RowKit

theorem putD_vc (w0 : World) (L : List Asn) (a : Option Addr) (cap : Nat) (d1 d2 : List UInt8) (h1 : d1.length = 32) (h2 : d2.length = 32) [hr : RdC w0 L a (bvs (d1 ++ d2))] :
    VC Tryd.prog w0 72 [.slice none 0 0, .slice a 2 cap, .func (.func 73) #[] #[]] L fun v L' => ∃ a' c', v = .slice a' (d1 ++ d2).length c' ∧ L' = ownB a' c' (d1 ++ d2) :: L := by
  have hD : (d1 ++ d2).length = 64 := by simp [h1, h2]
  have e1 : ((bvs (d1 ++ d2)).drop 0).take 32 = bvs d1 := by rw [bvs_drop, bvs_take, List.drop_zero, List.take_left' h1]
  have e2 : ((bvs (d1 ++ d2)).drop 32).take 32 = bvs d2 := by rw [bvs_drop, bvs_take, List.drop_left' h1, List.take_of_length_le (by omega)]
  refine vc_in rfl rfl ?_
  repeat' (first | (refine goW ?_; intros) | (refine goCC ?_ ?_ <;> (intro hb; (try simp only [hSQ] at hb); try (exfalso; omega))) | fail)
  refine v_loopF (Nat × Option Addr × Nat) [2, 9, 10] rfl (fun x => [(11, .int .i64 x.1), (0, .slice x.2.1 ((d1 ++ d2).take (32 * x.1)).length x.2.2)]) (fun _ x => ownB x.2.1 x.2.2 ((d1 ++ d2).take (32 * x.1)) :: L) (fun x => x.1 ≤ 2) (fun x => 2 - x.1) (0, none, 0) (by decide) (by (exact sbS)) ((se_own_nil _ 1 _).ent w0) ?_
  rintro ⟨i, oa, oc⟩ hi
  dsimp only at hi ⊢
  by_cases hlt : i < 2
  · have hk : ∃ d, d.length = 32 ∧ ((bvs (d1 ++ d2)).drop (i * 32)).take 32 = bvs d ∧ (d1 ++ d2).take (32 * (i + 1)) = (d1 ++ d2).take (32 * i) ++ d := by
      rcases (by omega : i = 0 ∨ i = 1) with rfl | rfl
      · exact ⟨d1, h1, e1, by simp [List.take_left' h1]⟩
      · exact ⟨d2, h2, e2, by rw [List.take_of_length_le (by omega), List.take_left' (by omega)]⟩
    obtain ⟨d, hd, hcut, hsn⟩ := hk
    have hol : ((d1 ++ d2).take (32 * i)).length ≤ 64 := by simp; omega
    have hp0 : 0 < (bvs (d1 ++ d2)).length := by simp; omega
    have hd1 : d.length = 32 * 1 := by omega
    have hsl : ((d1 ++ d2).take (32 * (i + 1))).length = ((d1 ++ d2).take (32 * i)).length + 32 := by rw [hsn, List.length_append, hd]
    generalize (d1 ++ d2).take (32 * i) = T at *
    repeat' (first | (refine goW ?_; intros) | (refine goCC ?_ ?_ <;> (intro hb; (try simp only [hSQ] at hb); try (exfalso; omega))) | fail)
    rename_i g1 g2 a' c' _ _
    refine ⟨rfl, (i + 1, a', c'), hlt, by dsimp only; omega, ?_, ?_⟩
    · dsimp only
      rw [hsl]
      (exact sbS)
    · dsimp only
      unfold ownB
      rw [hsl, hsn, bvs_append]
      exact ((se_drop _ _).trans (se_drop _ _)).ent w0
  obtain rfl : i = 2 := by omega
  rw [show (d1 ++ d2).take (32 * 2) = d1 ++ d2 from List.take_of_length_le (by omega)]
  repeat' (first | (refine goW ?_; intros) | (refine goCC ?_ ?_ <;> (intro hb; (try simp only [hSQ] at hb); try (exfalso; omega))) | fail)
  exact ⟨_, _, rfl, rfl⟩

def u64s (l : List Nat) : List Value := l.map fun (n : Nat) => .int .u64 (n : Int)
@[simp] theorem u64s_length (l : List Nat) : (u64s l).length = l.length := by simp [u64s]
theorem u64s_at (l : List Nat) (k : Nat) (h : k < l.length) : (u64s l)[k]? = some (.int .u64 ((l[k] : Nat) : Int)) := by simp [u64s, h]
def dig8s (l : List Nat) : List UInt8 := l.flatMap fun n => digs n 8
theorem dig8s_length (l : List Nat) : (dig8s l).length = 8 * l.length := by
  induction l with
  | nil => rfl
  | cons n l ih => simp only [dig8s, List.flatMap_cons, List.length_append, digs_length, List.length_cons] at ih ⊢; omega
theorem putN_vc (w0 : World) (L : List Asn) (ob : Option Addr) (cb : Nat) (B : List UInt8) (a : Option Addr) (cap : Nat) (l : List Nat) {n m : Nat} (hn : n = l.length) (hm : m = B.length) (hl : l.length ≤ 1000) (hB : B.length ≤ 1000000) (h64 : ∀ x ∈ l, x < 18446744073709551616) [hr : RdC w0 L a (u64s l)] :
    VC Tryd.prog w0 74 [.slice ob m cb, .slice a n cap, .func (.func 75) #[] #[]] (ownB ob cb B :: L) fun v L' => ∃ a' c', v = .slice a' (B ++ dig8s l).length c' ∧ L' = ownB a' c' (B ++ dig8s l) :: L := by
  subst hn; subst hm
  refine vc_in rfl rfl ?_
  repeat' (first | (refine go1 ?_; intros) | (refine goCC ?_ ?_ <;> (intro hb; (try simp only [hSQ] at hb); try (exfalso; omega))) | fail)
  refine v_loopF (Nat × Option Addr × Nat) [2, 9, 10] rfl (fun x => [(11, .int .i64 x.1), (0, .slice x.2.1 (B ++ dig8s (l.take x.1)).length x.2.2)]) (fun _ x => ownB x.2.1 x.2.2 (B ++ dig8s (l.take x.1)) :: L) (fun x => x.1 ≤ l.length) (fun x => l.length - x.1) (0, ob, cb) (Nat.zero_le _) (by dsimp only; rw [show B ++ dig8s (l.take 0) = B by simp [dig8s]]; (exact sbS)) (by dsimp only; rw [show B ++ dig8s (l.take 0) = B by simp [dig8s]]; exact Ent.refl _ _) ?_
  rintro ⟨i, oa, oc⟩ hi
  dsimp only at hi ⊢
  have hol : (B ++ dig8s (l.take i)).length ≤ 1010000 := by rw [List.length_append, dig8s_length, List.length_take]; omega
  by_cases hlt : i < l.length
  · have hg := u64s_at l i hlt
    have hx := h64 _ (List.getElem_mem hlt)
    have hp0 : 0 < (u64s l).length := by simp [u64s]; omega
    have hsn : B ++ dig8s (l.take (i + 1)) = (B ++ dig8s (l.take i)) ++ digs (l[i]) 8 := by
      rw [List.take_succ_eq_append_getElem hlt]; simp only [dig8s, List.flatMap_append, List.flatMap_cons, List.flatMap_nil, List.append_nil, List.append_assoc]
    have hd8 := digs_length (l[i]) 8
    have hsl : (B ++ dig8s (l.take (i + 1))).length = (B ++ dig8s (l.take i)).length + 8 := by rw [hsn, List.length_append, hd8]
    generalize B ++ dig8s (l.take i) = T at *
    generalize l[i] = N at *
    repeat' (first | (refine go1 ?_; intros) | (refine goCC ?_ ?_ <;> (intro hb; (try simp only [hSQ] at hb); try (exfalso; omega))) | fail)
    refine clV ?_
    refine vc_mono (put_vc w0 _ N 8 (by decide) (by decide) (by simpa using hx)) ?_
    rintro v L' ⟨a4, c4, rfl, rfl⟩
    repeat' (first | (refine go1 ?_; intros) | (refine goCC ?_ ?_ <;> (intro hb; (try simp only [hSQ] at hb); try (exfalso; omega))) | fail)
    rename_i a' c' _ _
    refine ⟨rfl, (i + 1, a', c'), hlt, by dsimp only; omega, ?_, ?_⟩
    · dsimp only
      rw [hsl]
      (exact sbS)
    · dsimp only
      unfold ownB
      rw [hsl, hsn, bvs_append]
      exact (se_drop _ _).ent w0
  obtain rfl : i = l.length := by omega
  rw [List.take_of_length_le (Nat.le_refl _)] at hol ⊢
  repeat' (first | (refine go1 ?_; intros) | (refine goCC ?_ ?_ <;> (intro hb; (try simp only [hSQ] at hb); try (exfalso; omega))) | fail)
  exact ⟨_, _, rfl, rfl⟩

theorem body_vc (w0 : World) (L : List Asn) (x : Tx) (h : x.ok) :
    VC Tryd.prog w0 65 [.agg x.cells.toArray] L fun v L' => ∃ a' c', v = .slice a' 88 c' ∧ L' = ownB a' c' (txBody x) :: L := by
  have f0 := Tx.f0 h
  have f1 := Tx.f1 h
  have f2 := Tx.f2 h
  have f3 := Tx.f3 h
  have f4 := Tx.f4 h
  have hl0 := h.pub
  have hl1 := h.to
  have hBl := txBody_length h
  have hBd : txBody x = (x.pub ++ x.to) ++ dig8s [x.nonce, x.amount, x.fee] := by simp [txBody, dig8s]
  have hn := h.nonce
  have ha := h.amount
  have hf := h.fee
  generalize x.cells = cs at *
  refine vc_ent ?_
  refine vc_in rfl rfl ?_
  repeat' (first | (refine go1 ?_; intros) | (refine goCC ?_ ?_ <;> (intro hb; (try simp only [hSQ] at hb); try (exfalso; omega))) | fail)
  rename_i g1 g2
  rw [List.append_nil]
  refine clV ?_
  haveI hr1 : RdC w0 (own 24 32 (some ⟨g2, 0, none⟩) 2 2 (bvs x.pub ++ bvs x.to) :: blk g1 53 cs :: L) (some ⟨g2, 0, none⟩) (bvs (x.pub ++ x.to)) := by rw [bvs_append]; infer_instance
  refine vc_mono (putD_vc w0 _ (some ⟨g2, 0, none⟩) 2 x.pub x.to hl0 hl1) ?_
  rintro v L' ⟨a1, c1, rfl, rfl⟩
  repeat' (first | (refine go1 ?_; intros) | (refine goCC ?_ ?_ <;> (intro hb; (try simp only [hSQ] at hb); try (exfalso; omega))) | fail)
  rename_i g3
  refine clV ?_
  refine vc_pre (SE.ent (se_swap _ _ _) w0) ?_
  haveI hr2 : RdC w0 (own 25 1 (some ⟨g3, 0, none⟩) 3 3 [.int .u64 (x.nonce : Int), .int .u64 (x.amount : Int), .int .u64 (x.fee : Int)] :: own 24 32 (some ⟨g2, 0, none⟩) 2 2 (bvs x.pub ++ bvs x.to) :: blk g1 53 cs :: L) (some ⟨g3, 0, none⟩) (u64s [x.nonce, x.amount, x.fee]) := (inferInstance : RdC w0 _ _ [.int .u64 (x.nonce : Int), .int .u64 (x.amount : Int), .int .u64 (x.fee : Int)])
  refine vc_mono (putN_vc w0 _ a1 c1 (x.pub ++ x.to) (some ⟨g3, 0, none⟩) 3 [x.nonce, x.amount, x.fee] rfl rfl (by simp) (by rw [List.length_append, hl0, hl1]; decide) (by intro y hy; simp at hy; omega)) ?_
  rintro v L' ⟨a2, c2, rfl, rfl⟩
  rw [← hBd, hBl]
  repeat' (first | (refine go1 ?_; intros) | (refine goCC ?_ ?_ <;> (intro hb; (try simp only [hSQ] at hb); try (exfalso; omega))) | fail)
  refine ⟨_, ?_, a2, c2, rfl, rfl⟩
  exact (SE.cons _ ((se_drop _ _).trans ((se_drop _ _).trans (se_drop _ _)))).ent w0

end Go.Proofs.YtcpcbgfnglnkcaaDoor
namespace Go.Proofs.YtcpcbgfnglnkcaaDoor
open Go Go.RowKit

theorem txbytes_vc (w0 : World) (L : List Asn) (x : Tx) (h : x.ok) :
    VC Tryd.prog w0 52 [.agg x.cells.toArray] L fun v L' => ∃ a' c', v = .slice a' 120 c' ∧ 120 ≤ c' ∧ L' = ownB a' c' (txBytes x) :: L := by
  have f5 := Tx.f5 h
  have hlen := Tx.len h
  have hl5 : x.sign.length = 32 * 1 := h.sign
  have hBl := txBytes_length h
  have hBv : bvs (txBytes x) = bvs (txBody x) ++ bvs x.sign := by simp [txBytes, bvs_append]
  refine vc_ent ?_
  refine vc_in rfl rfl ?_
  repeat' (first | (refine go1 ?_; intros) | (refine goCC ?_ ?_ <;> (intro hb; (try simp only [hSQ] at hb); try (exfalso; omega))) | fail)
  rename_i g1
  haveI hs : RdC w0 (blk g1 53 x.cells :: L) (some ⟨g1, 0 + 67, none⟩) (bvs x.sign) := rdC_part (0 + 67) 32 f5
  (refine v_draw0 [4] (by kernel_rfl) ?_ <;> (refine va_takeW 0 rfl rfl rfl rfl ?_) <;> (refine va_takeW 2 rfl rfl rfl rfl ?_) <;> (refine va_takeW 3 rfl rfl rfl rfl ?_))
  first | refine va_one 1 (by kernel_rfl) rfl rfl (vo_call rfl rfl ?_) | refine va_one 1 (by kernel_rfl) rfl rfl (vo_callV rfl rfl rfl ?_)
  refine vc_mono (body_vc w0 _ x h) ?_
  rintro v L' ⟨a1, c1, rfl, rfl⟩
  have hb88 := txBody_length h
  rw [← hb88]
  refine ⟨.inr entD, ?_⟩
  ((refine va_one 4 (by kernel_rfl) rfl rfl ?_; (refine goV ?_; intros); refine ⟨.inl (by kernel_rfl), ?_⟩) <;> (refine va_takePW 5 rfl rfl rfl rfl ?_) <;> (refine va_done (by kernel_rfl) ?_))
  repeat' (first | (refine go1 ?_; intros) | (refine goCC ?_ ?_ <;> (intro hb; (try simp only [hSQ] at hb); try (exfalso; omega))) | fail)
  rename_i a2 c2 _ hc2
  refine ⟨_, ?_, a2, c2, ?_, by omega, rfl⟩
  · unfold ownB
    rw [hBl, hBv, hb88]
    exact (SE.cons _ (se_drop _ _)).ent w0
  · rw [hb88]

end Go.Proofs.YtcpcbgfnglnkcaaDoor
namespace Go.Proofs.YtcpcbgfnglnkcaaDoor
open Go Go.RowKit

/-- The right sign. -/
theorem txsign_vc (w0 : World) (L : List Asn) (x : Tx) (h : x.ok) [hK : RdA w0 (some ⟨1, 0, none⟩) (wds K64)] :
    VC Tryd.prog w0 71 [.agg x.cells.toArray] L fun v L' => v = .agg (bvs (sha (tagB 4 [txBody x]))).toArray ∧ L' = L := by
  have hlen := Tx.len h
  have hbl := txBody_length h
  refine vc_ent ?_
  refine vc_in rfl rfl ?_
  repeat' (first | (refine go1 ?_; intros) | (refine goCC ?_ ?_ <;> (intro hb; (try simp only [hSQ] at hb); try (exfalso; omega))) | fail)
  rename_i g1 g2
  refine clV ?_
  refine vc_mono (body_vc w0 _ x h) ?_
  rintro v L' ⟨a1, c1, rfl, rfl⟩
  rw [← hbl]
  repeat' (first | (refine go1 ?_; intros) | (refine goCC ?_ ?_ <;> (intro hb; (try simp only [hSQ] at hb); try (exfalso; omega))) | fail)
  rename_i g3
  refine clV ?_
  haveI h1 : RdC w0 (own 30 1 (some ⟨g3, 0, none⟩) 1 1 [.slice a1 (txBody x).length c1] :: ownB a1 c1 (txBody x) :: blk g2 24 (bvs (List.replicate 32 0)) :: blk g1 53 x.cells :: L) (some ⟨g3, 0, none⟩) (pbs [⟨a1, c1, txBody x⟩]) := (inferInstance : RdC w0 _ _ [.slice a1 (txBody x).length c1])
  haveI h2 : RdPs w0 (own 30 1 (some ⟨g3, 0, none⟩) 1 1 [.slice a1 (txBody x).length c1] :: ownB a1 c1 (txBody x) :: blk g2 24 (bvs (List.replicate 32 0)) :: blk g1 53 x.cells :: L) [⟨a1, c1, txBody x⟩] := ⟨fun p hp => by
    simp only [List.mem_singleton] at hp
    subst hp
    infer_instance⟩
  refine vc_mono (tof_vc w0 _ 4 (by decide) (some ⟨g3, 0, none⟩) 1 [⟨a1, c1, txBody x⟩] rfl (by simp only [tagB, ls, List.map_cons, List.map_nil, List.flatMap_cons, List.flatMap_nil, List.length_cons, List.length_append, digs_length, List.length_nil, hbl]; decide)) ?_
  rintro v L' ⟨rfl, rfl⟩
  rw [show tagB 4 (ls [⟨a1, c1, txBody x⟩]) = tagB 4 [txBody x] from rfl]
  have hS := sha_length (tagB 4 [txBody x])
  generalize sha (tagB 4 [txBody x]) = S at *
  repeat' (first | (refine go1 ?_; intros) | (refine goCC ?_ ?_ <;> (intro hb; (try simp only [hSQ] at hb); try (exfalso; omega))) | fail)
  exact ⟨_, ((se_drop _ _).trans ((se_drop _ _).trans ((se_drop _ _).trans (se_drop _ _)))).ent w0, rfl, rfl⟩

/-- The right sign of one; signed. -/
def sgn (x : Tx) : List UInt8 := sha (tagB 4 [txBody x])
def signed (x : Tx) : Tx := { x with sign := sgn x }
theorem sgn_length (x : Tx) : (sgn x).length = 32 := sha_length _
theorem Tx.ok.signed {x : Tx} (h : x.ok) : (signed x).ok := Tx.withSign h (sgn_length x)
theorem txCheck_vc (w0 : World) (L : List Asn) (x : Tx) (h : x.ok) [hK : RdA w0 (some ⟨1, 0, none⟩) (wds K64)] :
    VC Tryd.prog w0 64 [.agg x.cells.toArray] L fun v L' => v = .int .i64 (if x.sign = sgn x then 0 else 110) ∧ L' = L := by
  have hlen := Tx.len h
  have f5 := Tx.f5 h
  have hl5 := h.sign
  have hS := sgn_length x
  refine vc_ent ?_
  refine vc_in rfl rfl ?_
  repeat' (first | (refine go1 ?_; intros) | (refine goCC ?_ ?_ <;> (intro hb; (try simp only [hSQ] at hb); try (exfalso; omega))) | fail)
  (refine v_draw0 [] (by kernel_rfl) ?_ <;> (refine tA 0 ?_) <;> (refine tA 1 ?_) <;> (refine tA 2 ?_))
  first | refine va_one 3 (by kernel_rfl) rfl rfl (vo_call rfl rfl ?_) | refine va_one 3 (by kernel_rfl) rfl rfl (vo_callV rfl rfl rfl ?_)
  refine vc_mono (txsign_vc w0 _ x h) ?_
  rintro v L' ⟨rfl, rfl⟩
  rw [show sha (tagB 4 [txBody x]) = sgn x from rfl]
  generalize sgn x = S at *
  refine ⟨.inr entD, ?_⟩
  ((refine tA 4 ?_) <;> (refine va_done (by kernel_rfl) ?_))
  by_cases he : x.sign = S
  · rw [decide_eq_true he, if_pos he]
    repeat' (first | (refine go1 ?_; intros) | (refine goCC ?_ ?_ <;> (intro hb; (try simp only [hSQ] at hb); try (exfalso; omega))) | fail)
    exact ⟨_, (se_drop _ _).ent w0, rfl, rfl⟩
  · rw [decide_eq_false he, if_neg he]
    repeat' (first | (refine go1 ?_; intros) | (refine goCC ?_ ?_ <;> (intro hb; (try simp only [hSQ] at hb); try (exfalso; omega))) | fail)
    exact ⟨_, (se_drop _ _).ent w0, rfl, rfl⟩

end Go.Proofs.YtcpcbgfnglnkcaaDoor
namespace Go.Proofs.YtcpcbgfnglnkcaaDoor
open Go Go.RowKit

end Go.Proofs.YtcpcbgfnglnkcaaDoor

/-
  Transactions of bytes: the program's walk.
-/
import Derived.Test.YtcpcbgfnglnkcaaDoorTxG
import Derived.Test.YtcpcbgfnglnkcaaDoorGC
set_option linter.unusedVariables false
set_option linter.unusedSimpArgs false
set_option linter.unusedSectionVars false
set_option maxRecDepth 100000
set_option maxHeartbeats 2000000
namespace Go.Proofs.YtcpcbgfnglnkcaaDoor
open Go Go.RowKit

theorem restDigest_vc (w0 : World) (L : List Asn) (g : Nat) (a : Option Addr) (c : Nat) (l : List UInt8) (xs : List Value) {n : Nat} (hn : n = l.length) (h32 : 32 ≤ l.length) (hc : l.length ≤ c) (hl : l.length ≤ 1000000000) [oc : OC xs] [hr : RdC w0 L a (bvs l)] :
    VC Tryd.prog w0 62 [.pointer (some ⟨g, 0, none⟩)] (blk g 134 (.slice a n c :: xs) :: L) fun v L' => v = .agg (bvs (l.take 32)).toArray ∧ L' = blk g 134 (.slice (subA a 32 c 1) (n - 32) (c - 32) :: xs) :: L := by
  subst hn
  have hm : min l.length 32 = 32 := by omega
  obtain ⟨D, hD⟩ : ∃ D, D = l.take 32 := ⟨_, rfl⟩
  have hDl : D.length = 32 := by rw [hD]; simp; omega
  rw [← hD]
  refine vc_ent ?_
  refine vc_in rfl rfl ?_
  repeat' (first | (refine go1 ?_; intros) | (refine goCC ?_ ?_ <;> (intro hb; (try simp only [hSQ] at hb); try (exfalso; omega))) | fail)
  rename_i g2
  have c1 : l.take (min l.length 32) = D := by rw [hm, hD]
  have c2 : D.length = min l.length 32 := by omega
  have c3 : splice (bvs (List.replicate 32 0)) 0 (bvs D) = bvs D := by simp [splice, hDl]
  have c4 : 0 + D.length ≤ (bvs (List.replicate 32 0)).length := by simp [hDl]
  (refine v_draw0 [5] (by kernel_rfl) ?_ <;> (refine va_takeW 0 rfl rfl rfl rfl ?_) <;> (refine va_takeW 1 rfl rfl rfl rfl ?_) <;> (refine va_takeW 2 rfl rfl rfl rfl ?_) <;> (refine va_takeW 3 rfl rfl rfl rfl ?_) <;> (refine va_takeW 4 rfl rfl rfl rfl ?_) <;> (refine va_one 5 (by kernel_rfl) rfl rfl ?_; (refine goV ?_; intros); refine ⟨.inl (by kernel_rfl), ?_⟩) <;> (refine va_takePW 6 rfl rfl rfl rfl ?_) <;> (refine va_done (by kernel_rfl) ?_))
  rw [hm]
  repeat' (first | (refine go1 ?_; intros) | (refine goCC ?_ ?_ <;> (intro hb; (try simp only [hSQ] at hb); try (exfalso; omega))) | fail)
  exact ⟨_, (se_drop _ _).ent w0, rfl, rfl⟩

theorem restNumber_vc (w0 : World) (L : List Asn) (g : Nat) (a : Option Addr) (c : Nat) (l : List UInt8) (xs : List Value) {n : Nat} (hn : n = l.length) (h8 : 8 ≤ l.length) (hc : l.length ≤ c) (hl : l.length ≤ 1000000000) [oc : OC xs] [hr : RdC w0 L a (bvs l)] :
    VC Tryd.prog w0 63 [.pointer (some ⟨g, 0, none⟩)] (blk g 134 (.slice a n c :: xs) :: L) fun v L' => ∃ a' c', n - 8 ≤ c' ∧ v = .int .u64 (numOf (l.take 8)) ∧ L' = blk g 134 (.slice a' (n - 8) c' :: xs) :: ownB a' c' (l.drop 8) :: L := by
  subst hn
  refine vc_ent ?_
  refine vc_in rfl rfl ?_
  repeat' (first | (refine go1 ?_; intros) | (refine goCC ?_ ?_ <;> (intro hb; (try simp only [hSQ] at hb); try (exfalso; omega))) | fail)
  refine clV ?_
  refine vc_mono (take_vc w0 _ a c l 8 rfl (by decide) (by decide) h8 hc (by omega)) ?_
  rintro v L' ⟨a2, c2, h2, rfl, rfl⟩
  repeat' (first | (refine go1 ?_; intros) | (refine goCC ?_ ?_ <;> (intro hb; (try simp only [hSQ] at hb); try (exfalso; omega))) | fail)
  exact ⟨_, (se_swap _ _ _).ent w0, a2, c2, h2, rfl, rfl⟩

/-- What stands behind the reader when k numbers are read. -/
def rdTail (a : Option Addr) (c : Nat) (l : List UInt8) (base : List Asn) : Nat → List Asn
  | 0 => base
  | k + 1 => ownB a c (l.drop (64 + 8 * (k + 1))) :: base
/-- .. the transaction so far. -/
def rdTx (p t s : List UInt8) (n m f : Nat) : Nat → Tx
  | 0 => ⟨p, t, 0, 0, 0, s⟩
  | 1 => ⟨p, t, n, 0, 0, s⟩
  | 2 => ⟨p, t, n, m, 0, s⟩
  | _ => ⟨p, t, n, m, f, s⟩

theorem rdTail_0 (a : Option Addr) (c : Nat) (l : List UInt8) (b : List Asn) : rdTail a c l b 0 = b := rfl
theorem rdTail_1 (a : Option Addr) (c : Nat) (l : List UInt8) (b : List Asn) : rdTail a c l b 1 = ownB a c (l.drop 72) :: b := rfl
theorem rdTail_2 (a : Option Addr) (c : Nat) (l : List UInt8) (b : List Asn) : rdTail a c l b 2 = ownB a c (l.drop 80) :: b := rfl
theorem rdTail_3 (a : Option Addr) (c : Nat) (l : List UInt8) (b : List Asn) : rdTail a c l b 3 = ownB a c (l.drop 88) :: b := rfl

theorem txread_vc (w0 : World) (L : List Asn) (a : Option Addr) (cap : Nat) (l : List UInt8) {n : Nat} (hn : n = l.length) (hcap : l.length ≤ cap) (hl : l.length ≤ 1000000000) [hK : RdA w0 (some ⟨1, 0, none⟩) (wds K64)] [hr : RdC w0 L a (bvs l)] :
    VC Tryd.prog w0 50 [.slice a n cap] L fun v L' => v = .tuple #[.agg (txRead l).1.cells.toArray, .int .i64 (txRead l).2] ∧ L' = L := by
  subst hn
  have hzlen := Tx.len zeroTx_ok
  refine vc_ent ?_
  refine vc_in rfl rfl ?_
  by_cases h1 : l.length < 120
  · have e : txRead l = (zeroTx, 10) := by simp [txRead, h1]
    rw [e]
    repeat' (first | (refine go1 ?_; intros) | (refine goCC ?_ ?_ <;> (intro hb; (try simp only [hSQ] at hb); try (exfalso; omega))) | fail)
    exact ⟨_, (se_drop _ _).ent w0, rfl, rfl⟩
  by_cases h2 : 120 < l.length
  · have e : txRead l = (zeroTx, 11) := by simp [txRead, h1, h2]
    rw [e]
    repeat' (first | (refine go1 ?_; intros) | (refine goCC ?_ ?_ <;> (intro hb; (try simp only [hSQ] at hb); try (exfalso; omega))) | fail)
    exact ⟨_, (se_drop _ _).ent w0, rfl, rfl⟩
  have h120 : l.length = 120 := by omega
  obtain ⟨p, hp⟩ : ∃ p, p = l.take 32 := ⟨_, rfl⟩
  obtain ⟨t, ht⟩ : ∃ t, t = (l.drop 32).take 32 := ⟨_, rfl⟩
  obtain ⟨s, hs⟩ : ∃ s, s = (l.drop 88).take 32 := ⟨_, rfl⟩
  have pl : p.length = 32 := by rw [hp]; simp; omega
  have tl : t.length = 32 := by rw [ht]; simp; omega
  have sl : s.length = 32 := by rw [hs]; simp; omega
  have bpl : (bvs p).length = 32 := by simp [pl]
  have btl : (bvs t).length = 32 := by simp [tl]
  have bsl : (bvs s).length = 32 := by simp [sl]
  obtain ⟨N, hN⟩ : ∃ N, N = numOf ((l.drop 64).take 8) := ⟨_, rfl⟩
  obtain ⟨A, hA⟩ : ∃ A, A = numOf ((l.drop 72).take 8) := ⟨_, rfl⟩
  obtain ⟨F, hF⟩ : ∃ F, F = numOf ((l.drop 80).take 8) := ⟨_, rfl⟩
  have nN : N < 18446744073709551616 := by rw [hN]; exact num8 (by simp; omega)
  have nA : A < 18446744073709551616 := by rw [hA]; exact num8 (by simp; omega)
  have nF : F < 18446744073709551616 := by rw [hF]; exact num8 (by simp; omega)
  have hof : txOf l = ⟨p, t, N, A, F, s⟩ := by rw [hp, ht, hs, hN, hA, hF]; rfl
  obtain ⟨z, hz⟩ : ∃ z : List UInt8, z = List.replicate 32 0 := ⟨_, rfl⟩
  have zl : z.length = 32 := by rw [hz]; simp
  have hz0 : zeroTx = ⟨z, z, 0, 0, 0, z⟩ := by rw [hz]; rfl
  have z64 : (0 : Nat) < 18446744073709551616 := by decide
  have o0 : Tx.ok ⟨z, z, 0, 0, 0, z⟩ := ⟨zl, zl, z64, z64, z64, zl⟩
  have o1 : Tx.ok ⟨p, z, 0, 0, 0, z⟩ := ⟨pl, zl, z64, z64, z64, zl⟩
  have o2 : Tx.ok ⟨p, t, 0, 0, 0, z⟩ := ⟨pl, tl, z64, z64, z64, zl⟩
  have o3 : Tx.ok ⟨p, t, N, 0, 0, z⟩ := ⟨pl, tl, nN, z64, z64, zl⟩
  have o4 : Tx.ok ⟨p, t, N, A, 0, z⟩ := ⟨pl, tl, nN, nA, z64, zl⟩
  have o5 : Tx.ok ⟨p, t, N, A, F, z⟩ := ⟨pl, tl, nN, nA, nF, zl⟩
  have o6 : Tx.ok ⟨p, t, N, A, F, s⟩ := ⟨pl, tl, nN, nA, nF, sl⟩
  have e1 : ∀ u, splice (u :: Tx.cells ⟨z, z, 0, 0, 0, z⟩) (0 + 1 + 0) (bvs p) = u :: Tx.cells ⟨p, z, 0, 0, 0, z⟩ := fun u => (splice_cons u _ 0 _).trans (congrArg _ (Tx.set0 o0 p pl))
  have e2 : ∀ u, splice (u :: Tx.cells ⟨p, z, 0, 0, 0, z⟩) (0 + 1 + 32) (bvs t) = u :: Tx.cells ⟨p, t, 0, 0, 0, z⟩ := fun u => (splice_cons u _ 32 _).trans (congrArg _ (Tx.set1 o1 t tl))
  have e3 : ∀ u, splice (u :: Tx.cells ⟨p, t, 0, 0, 0, z⟩) (0 + 1 + 64) [.int .u64 (N : Int)] = u :: Tx.cells ⟨p, t, N, 0, 0, z⟩ := fun u => (splice_cons u _ 64 _).trans (congrArg _ (Tx.set2 o2 N))
  have e4 : ∀ u, splice (u :: Tx.cells ⟨p, t, N, 0, 0, z⟩) (0 + 1 + 65) [.int .u64 (A : Int)] = u :: Tx.cells ⟨p, t, N, A, 0, z⟩ := fun u => (splice_cons u _ 65 _).trans (congrArg _ (Tx.set3 o3 A))
  have e5 : ∀ u, splice (u :: Tx.cells ⟨p, t, N, A, 0, z⟩) (0 + 1 + 66) [.int .u64 (F : Int)] = u :: Tx.cells ⟨p, t, N, A, F, z⟩ := fun u => (splice_cons u _ 66 _).trans (congrArg _ (Tx.set4 o4 F))
  have e6 : ∀ u, splice (u :: Tx.cells ⟨p, t, N, A, F, z⟩) (0 + 1 + 67) (bvs s) = u :: Tx.cells ⟨p, t, N, A, F, s⟩ := fun u => (splice_cons u _ 67 _).trans (congrArg _ (Tx.set5 o5 s sl))
  have q1 : ∀ u : Value, 0 + 1 + 0 + (bvs p).length ≤ (u :: Tx.cells ⟨z, z, 0, 0, 0, z⟩).length := fun u => by rw [List.length_cons, Tx.len o0, bpl]; decide
  have q2 : ∀ u : Value, 0 + 1 + 32 + (bvs t).length ≤ (u :: Tx.cells ⟨p, z, 0, 0, 0, z⟩).length := fun u => by rw [List.length_cons, Tx.len o1, btl]; decide
  have q6 : ∀ u : Value, 0 + 1 + 67 + (bvs s).length ≤ (u :: Tx.cells ⟨p, t, N, A, F, z⟩).length := fun u => by rw [List.length_cons, Tx.len o5, bsl]; decide
  have l2 := Tx.len o2
  have l3 := Tx.len o3
  have l4 := Tx.len o4
  have l5 := Tx.len o5
  have l6 := Tx.len o6
  repeat' (first | (refine goB ?_; intros) | (refine goCC ?_ ?_ <;> (intro hb; (try simp only [hSQ] at hb); try (exfalso; omega))) | fail)
  refine vl_q rfl rfl rfl rfl (vq_buildP (cs := [.slice a l.length cap]) rfl (by first | (simp [okS, Value.cells]; done) | (simp [okS, Value.cells]; omega)) rfl) ?_
  repeat' (first | (refine goB ?_; intros) | (refine goCC ?_ ?_ <;> (intro hb; (try simp only [hSQ] at hb); try (exfalso; omega))) | fail)
  refine vl_q rfl rfl rfl rfl (vq_buildP (cs := .slice a l.length cap :: zeroTx.cells) rfl (by first | (simp [okS, Value.cells]; done) | (simp [okS, Value.cells]; omega)) rfl) ?_
  repeat' (first | (refine goB ?_; intros) | (refine goCC ?_ ?_ <;> (intro hb; (try simp only [hSQ] at hb); try (exfalso; omega))) | fail)
  rw [hz0]
  rename_i g1 _ g4
  refine clV ?_
  refine vc_mono (restDigest_vc w0 _ g4 a cap l _ rfl (by omega) hcap hl) ?_
  rintro v L' ⟨rfl, rfl⟩
  rw [← hp]
  repeat' (first | (refine go1 ?_; intros) | (refine goCC ?_ ?_ <;> (intro hb; (try simp only [hSQ] at hb); try (exfalso; omega))) | fail)
  refine vl_o rfl ?_
  refine vo_stB rfl rfl rfl bpl (q1 _) (e1 _) ?_
  repeat' (first | (refine go1 ?_; intros) | (refine goCC ?_ ?_ <;> (intro hb; (try simp only [hSQ] at hb); try (exfalso; omega))) | fail)
  haveI r1 : RdC w0 L (subA a 32 cap 1) (bvs (l.drop 32)) := rd_drop 32 cap hcap
  refine clV ?_
  refine vc_mono (restDigest_vc w0 _ g4 (subA a 32 cap 1) (cap - 32) (l.drop 32) _ (by simp) (by simp; omega) (by simp; omega) (by simp; omega)) ?_
  rintro v L' ⟨rfl, rfl⟩
  rw [← ht]
  repeat' (first | (refine go1 ?_; intros) | (refine goCC ?_ ?_ <;> (intro hb; (try simp only [hSQ] at hb); try (exfalso; omega))) | fail)
  refine vl_o rfl ?_
  refine vo_stB rfl rfl rfl btl (q2 _) (e2 _) ?_
  repeat' (first | (refine go1 ?_; intros) | (refine goCC ?_ ?_ <;> (intro hb; (try simp only [hSQ] at hb); try (exfalso; omega))) | fail)
  haveI r2' : RdC w0 L (subA (subA a 32 cap 1) 32 (cap - 32) 1) (bvs (l.drop 64)) := by
    have := rd_drop (w0 := w0) (L := L) (a := subA a 32 cap 1) (l := l.drop 32) 32 (cap - 32) (by simp; omega)
    rwa [List.drop_drop] at this
  obtain ⟨a0, ha0⟩ : ∃ a0, a0 = subA (subA a 32 cap 1) 32 (cap - 32) 1 := ⟨_, rfl⟩
  obtain ⟨c0, hc0⟩ : ∃ c0, c0 = cap - 32 - 32 := ⟨_, rfl⟩
  haveI r2 : RdC w0 L a0 (bvs (l.drop 64)) := by rw [ha0]; exact r2'
  rw [← ha0, ← hc0, show l.length - 32 - 32 = 56 by omega]
  (refine v_draw0 [] (by kernel_rfl) ?_ <;> (refine tA 0 ?_) <;> (refine tA 1 ?_) <;> (refine tA 2 ?_) <;> (refine tA 3 ?_) <;> (refine tA 4 ?_) <;> (refine tA 5 ?_) <;> (refine tA 6 ?_) <;> (refine tA 7 ?_) <;> (refine tA 8 ?_) <;> (refine tA 9 ?_) <;> (refine tA 10 ?_) <;> (refine tA 11 ?_) <;> (refine tA 14 ?_) <;> (refine va_one 12 (by kernel_rfl) rfl rfl ?_; (refine goV ?_; intros); refine ⟨.inr entD, ?_⟩) <;> (refine tA 13 ?_) <;> (refine va_done (by kernel_rfl) ?_))
  rename_i g5
  repeat' (first | (refine go1 ?_; intros) | (refine goCC ?_ ?_ <;> (intro hb; (try simp only [hSQ] at hb); try (exfalso; omega))) | fail)
  refine v_loopF (Nat × Option Addr × Nat) [2, 4, 50, 51] rfl (fun x => [(52, .int .i64 x.1)]) (fun _ x => blk g4 134 (.slice x.2.1 (56 - 8 * x.1) x.2.2 :: (rdTx p t z N A F x.1).cells) :: own 136 1 (some ⟨g5, 0, none⟩) 3 3 [.pointer (some ⟨g4, 0 + 1 + 64, none⟩), .pointer (some ⟨g4, 0 + 1 + 65, none⟩), .pointer (some ⟨g4, 0 + 1 + 66, none⟩)] :: rdTail x.2.1 x.2.2 l (blk g1 53 zeroTx.cells :: L) x.1) (fun x => x.1 ≤ 3 ∧ 56 - 8 * x.1 ≤ x.2.2 ∧ (x.1 = 0 → x.2.1 = a0 ∧ x.2.2 = c0)) (fun x => 3 - x.1) (0, a0, c0) ⟨by dsimp only; omega, by dsimp only; omega, fun _ => ⟨rfl, rfl⟩⟩ (by (exact sbS)) ((se_swap _ _ _).ent w0) ?_
  rintro ⟨k, a5, c5⟩ ⟨hk, hkc, hk0⟩
  dsimp only at hk hkc hk0 ⊢
  rcases (show k = 0 ∨ k = 1 ∨ k = 2 ∨ k = 3 by omega) with rfl | rfl | rfl | rfl
  · obtain ⟨rfl, rfl⟩ := hk0 rfl
    rw [rdTail_0]
    simp only [rdTx]
    repeat' (first | (refine go1 ?_; intros) | (refine goCC ?_ ?_ <;> (intro hb; (try simp only [hSQ] at hb); try (exfalso; omega))) | fail)
    refine clV ?_
    refine vc_mono (restNumber_vc w0 _ g4 a5 c5 (l.drop 64) _ (by simp; omega) (by simp; omega) (by simp; omega) (by simp; omega)) ?_
    rintro v L' ⟨a6, c6, h6, rfl, rfl⟩
    rw [← hN, List.drop_drop]
    repeat' (first | (refine go1 ?_; intros) | (refine goCC ?_ ?_ <;> (intro hb; (try simp only [hSQ] at hb); try (exfalso; omega))) | fail)
    rw [e3]
    refine ⟨rfl, (1, a6, c6), ⟨by dsimp only; omega, by dsimp only; omega, fun h => by cases h⟩, by dsimp only; omega, by (exact sbS), ?_⟩
    dsimp only
    rw [rdTail_1]
    exact (SE.cons _ (se_swap _ _ _)).ent w0
  · rw [rdTail_1]
    simp only [rdTx]
    repeat' (first | (refine go1 ?_; intros) | (refine goCC ?_ ?_ <;> (intro hb; (try simp only [hSQ] at hb); try (exfalso; omega))) | fail)
    refine clV ?_
    refine vc_mono (restNumber_vc w0 _ g4 a5 c5 (l.drop 72) _ (by simp; omega) (by simp; omega) (by simp; omega) (by simp; omega)) ?_
    rintro v L' ⟨a6, c6, h6, rfl, rfl⟩
    rw [← hA, List.drop_drop]
    repeat' (first | (refine go1 ?_; intros) | (refine goCC ?_ ?_ <;> (intro hb; (try simp only [hSQ] at hb); try (exfalso; omega))) | fail)
    rw [e4]
    refine ⟨rfl, (2, a6, c6), ⟨by dsimp only; omega, by dsimp only; omega, fun h => by cases h⟩, by dsimp only; omega, by (exact sbS), ?_⟩
    dsimp only
    rw [rdTail_2]
    exact (SE.cons _ ((se_swap _ _ _).trans (SE.cons _ (SE.cons _ (se_drop _ _))))).ent w0
  · rw [rdTail_2]
    simp only [rdTx]
    repeat' (first | (refine go1 ?_; intros) | (refine goCC ?_ ?_ <;> (intro hb; (try simp only [hSQ] at hb); try (exfalso; omega))) | fail)
    refine clV ?_
    refine vc_mono (restNumber_vc w0 _ g4 a5 c5 (l.drop 80) _ (by simp; omega) (by simp; omega) (by simp; omega) (by simp; omega)) ?_
    rintro v L' ⟨a6, c6, h6, rfl, rfl⟩
    rw [← hF, List.drop_drop]
    repeat' (first | (refine go1 ?_; intros) | (refine goCC ?_ ?_ <;> (intro hb; (try simp only [hSQ] at hb); try (exfalso; omega))) | fail)
    rw [e5]
    refine ⟨rfl, (3, a6, c6), ⟨by dsimp only; omega, by dsimp only; omega, fun h => by cases h⟩, by dsimp only; omega, by (exact sbS), ?_⟩
    dsimp only
    rw [rdTail_3]
    exact (SE.cons _ ((se_swap _ _ _).trans (SE.cons _ (SE.cons _ (se_drop _ _))))).ent w0
  · rw [rdTail_3]
    simp only [rdTx]
    repeat' (first | (refine go1 ?_; intros) | (refine goCC ?_ ?_ <;> (intro hb; (try simp only [hSQ] at hb); try (exfalso; omega))) | fail)
    refine clV ?_
    refine vc_mono (restDigest_vc w0 _ g4 a5 c5 (l.drop 88) _ (by simp; omega) (by simp; omega) (by simp; omega) (by simp; omega)) ?_
    rintro v L' ⟨rfl, rfl⟩
    rw [← hs]
    repeat' (first | (refine go1 ?_; intros) | (refine goCC ?_ ?_ <;> (intro hb; (try simp only [hSQ] at hb); try (exfalso; omega))) | fail)
    refine vl_o rfl ?_
    refine vo_stB rfl rfl rfl bsl (q6 _) (e6 _) ?_
    have fp : List.take 99 (List.drop (0 + 1) (Value.slice (subA a5 32 c5 1) (56 - 8 * 3 - 32) (c5 - 32) :: Tx.cells ⟨p, t, N, A, F, s⟩)) = Tx.cells ⟨p, t, N, A, F, s⟩ := List.take_of_length_le (by simp [l6])
    repeat' (first | (refine go1 ?_; intros) | (refine goCC ?_ ?_ <;> (intro hb; (try simp only [hSQ] at hb); try (exfalso; omega))) | fail)
    refine clV ?_
    refine vc_mono (txCheck_vc w0 _ ⟨p, t, N, A, F, s⟩ o6) ?_
    rintro v L' ⟨rfl, rfl⟩
    have hrr : txRead l = if s = sgn ⟨p, t, N, A, F, s⟩ then (⟨p, t, N, A, F, s⟩, 0) else (zeroTx, 110) := by simp [txRead, h1, h2, hof]
    rw [hrr]
    by_cases hsg : s = sgn ⟨p, t, N, A, F, s⟩
    · rw [if_pos hsg, if_pos hsg]
      repeat' (first | (refine go1 ?_; intros) | (refine goCC ?_ ?_ <;> (intro hb; (try simp only [hSQ] at hb); try (exfalso; omega))) | fail)
      exact ⟨_, ((se_drop _ _).trans ((se_drop _ _).trans ((se_drop _ _).trans (se_drop _ _)))).ent w0, rfl, rfl⟩
    · rw [if_neg hsg, if_neg hsg]
      repeat' (first | (refine go1 ?_; intros) | (refine goCC ?_ ?_ <;> (intro hb; (try simp only [hSQ] at hb); try (exfalso; omega))) | fail)
      exact ⟨_, ((se_drop _ _).trans ((se_drop _ _).trans ((se_drop _ _).trans (se_drop _ _)))).ent w0, rfl, rfl⟩
end Go.Proofs.YtcpcbgfnglnkcaaDoor

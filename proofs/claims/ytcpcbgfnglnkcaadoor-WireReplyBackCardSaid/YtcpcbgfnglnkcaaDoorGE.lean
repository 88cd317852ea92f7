/-
  The program's digest of one part: the walk. The document's digest: the walk. The document's digest: the walk, joined.
-/
import Derived.Test.YtcpcbgfnglnkcaaDoorGD
import Derived.Test.YtcpcbgfnglnkcaaDoorGB
set_option linter.unusedVariables false
set_option linter.unusedSimpArgs false
set_option linter.unusedSectionVars false

namespace Go.Proofs.YtcpcbgfnglnkcaaDoor
open Go Go.RowKit

theorem blocks_step (p : List UInt8) (n : Nat) (s : S8) : blocks p (n + 1) s = comp (blocks p n s) ((p.drop (64 * n)).take 64) := rfl
theorem fill_lt (n : Nat) : fill n < 64 := Nat.mod_lt _ (by decide)
theorem fill_at (n : Nat) : (n + 1 + fill n) % 64 = 56 := by unfold fill; omega
theorem fill_before (n j : Nat) (h : j < fill n) : (n + 1 + j) % 64 ≠ 56 := by unfold fill at h; omega
theorem fill_cong (n m : Nat) (h : n % 64 = m % 64) : fill n = fill m := by unfold fill; rw [h]
theorem digs_at (n : Nat) : ∀ (k j : Nat), j < k → (digs n k)[j]? = some (UInt8.ofNat (n / 256 ^ (k - 1 - j)))
  | 0, j, h => by omega
  | k + 1, 0, _ => by simp [digs]
  | k + 1, j + 1, h => by
    have := digs_at n k j (by omega)
    simp only [digs, List.getElem?_cons_succ, this, Option.some.injEq]
    congr 3; omega
theorem u8_wrapD (I : Int) : IntKind.u8.wrap I = ((UInt8.ofNat (I % 256).toNat).toNat : Int) := by
  rw [UInt8.toNat_ofNat']
  simp [IntKind.wrap, IntKind.bits, IntKind.signed]
  omega
theorem splice_setB (l : List UInt8) (k : Nat) (h : k < l.length) (c : UInt8) : splice (bvs l) k [.int .u8 (c.toNat : Int)] = bvs (l.set k c) := by
  have e1 : bvs l = (bvs l).take k ++ ([(bvs l)[k]'(by simpa)] ++ (bvs l).drop (k + 1)) := by simp
  rw [e1, splice_mid _ _ _ _ _ (by simp; omega) (by simp)]
  have e2 : l.set k c = l.take k ++ ([c] ++ l.drop (k + 1)) := by rw [List.set_eq_take_append_cons_drop, if_pos h]; rfl
  rw [e2]
  simp [bvs, bv]
theorem own_snoc (a : Option Addr) (c : Nat) (l : List UInt8) (x : UInt8) : own 5 1 a (l.length + 1) c (bvs l ++ [.int .u8 (x.toNat : Int)]) = ownB a c (l ++ [x]) := by simp [ownB, bvs, bv]
theorem own_snoc2 {a : Option Addr} {c : Nat} {l l' : List UInt8} {x : UInt8} (h : l' = l ++ [x]) : own 5 1 a (l.length + 1) c (bvs l ++ [.int .u8 (x.toNat : Int)]) = ownB a c l' := h ▸ own_snoc a c l x
theorem se_ownB_drop (a : Option Addr) (c : Nat) (l : List UInt8) (k : Nat) (hk : k ≤ l.length) (L : List Asn) : SE (ownB a c l :: L) (ownB (subA a k c 1) (c - k) (l.drop k) :: L) := by
  have := se_own_drop (e := 5) (size := 1) (a := a) (m := l.length) (c := c) (xs := bvs l) k hk L
  simpa [ownB, bvs] using this
/-- The j-th byte of the length. -/
theorem len_byte (n j : Nat) (hj : j < 8) (hn : 8 * n < 18446744073709551616) : IntKind.u8.wrap ((IntKind.u64.wrap (8 * (n : Int))).fdiv (2 ^ min (56 - 8 * (j : Int)).toNat IntKind.u64.bits)) = ((UInt8.ofNat (8 * n / 256 ^ (7 - j))).toNat : Int) := by
  have e1 : IntKind.u64.wrap (8 * (n : Int)) = ((8 * n : Nat) : Int) := by rw [IntKind.wrap_u64]; omega
  have e2 : min (56 - 8 * (j : Int)).toNat IntKind.u64.bits = 8 * (7 - j) := by simp [IntKind.bits]; omega
  have e3 : (2 : Int) ^ (8 * (7 - j)) = ((256 ^ (7 - j) : Nat) : Int) := by
    rw [Int.pow_mul]; simp
  rw [e1, e2, e3, Int.fdiv_eq_ediv_of_nonneg _ (Int.natCast_nonneg _), ← Int.natCast_ediv, u8_wrapD]
  congr 2
  apply UInt8.toNat_inj.1
  rw [UInt8.toNat_ofNat', UInt8.toNat_ofNat']
  omega

set_option maxRecDepth 100000 in
set_option maxHeartbeats 1600000 in
theorem of_vc (w0 : World) (L : List Asn) (a : Option Addr) (cap : Nat) (p : PB) {n : Nat} (hn : n = 1) (hl : p.l.length ≤ 1000000000) [hk : RdA w0 (some ⟨1, 0, none⟩) (wds K64)] [hr : RdC w0 L a (pbs [p])] [hp : RdC w0 L p.a (bvs p.l)] :
    VC Tryd.prog w0 78 [.slice a n cap] L fun v L' => v = .agg (bvs (sha p.l)).toArray ∧ L' = L := by
  subst hn
  refine vc_ent ?_
  refine vc_in rfl rfl ?_
  repeat' (first | (refine goW ?_; intros) | (refine goCC ?_ ?_ <;> (intro hb; (try simp only [hSQ] at hb); try (exfalso; omega))) | fail)
  rename_i g2 g3
  have hinit : ([.int .u32 1779033703, .int .u32 3144134277, .int .u32 1013904242, .int .u32 2773480762, .int .u32 1359893119, .int .u32 2600822924, .int .u32 528734635, .int .u32 1541459225] : List Value) = wds (blocks (pad p.l) 0 init8).l := rfl
  rw [hinit]
  have hP : pad p.l = p.l ++ padTail p.l := rfl
  have hPl := padTail_length p.l
  have hPm := pad_mod p.l
  have hsha : sha p.l = outB (blocks (pad p.l) ((pad p.l).length / 64) init8) := rfl
  generalize sha p.l = S at *
  obtain ⟨q, hq⟩ : ∃ q, q = p.l.length / 64 := ⟨_, rfl⟩
  refine v_loop (Option (Option Addr × Nat)) (fun x => match x with
    | none => [(4, .slice none 0 0), (5, .int .u64 0), (13, .int .i64 0), (2, .pointer (some ⟨g2, 0, none⟩)), (3, .pointer (some ⟨g3, 0, none⟩)), (11, .slice a 1 cap), (12, .int .i64 1)]
    | some y => [(4, .slice y.1 (p.l.drop (64 * q)).length y.2), (5, .int .u64 (p.l.length : Int)), (13, .int .i64 1), (2, .pointer (some ⟨g2, 0, none⟩)), (3, .pointer (some ⟨g3, 0, none⟩)), (11, .slice a 1 cap), (12, .int .i64 1)])
    (fun x => match x with
    | none => blk g3 156 (wds (blocks (pad p.l) 0 init8).l) :: blk g2 24 (bvs (List.replicate 32 0)) :: L
    | some y => ownB y.1 y.2 (p.l.drop (64 * q)) :: blk g3 156 (wds (blocks (pad p.l) q init8).l) :: blk g2 24 (bvs (List.replicate 32 0)) :: L)
    (fun x => match x with
    | none => True
    | some y => (p.l.drop (64 * q)).length ≤ y.2) (fun x => match x with
    | none => 1
    | some _ => 0) none trivial (by (exact sbS)) (Ent.refl _ _) ?_
  rintro (_ | ⟨a1, c1⟩) hx
  · dsimp only
    have hg : (pbs [p])[0]? = some (.slice p.a p.l.length p.cap) := rfl
    have hp0 : 0 < (pbs [p]).length := by simp
    repeat' (first | (refine goW ?_; intros) | (refine goCC ?_ ?_ <;> (intro hb; (try simp only [hSQ] at hb); try (exfalso; omega))) | fail)
    rename_i b1 d1 _ hd1
    rw [show 0 + p.l.length = p.l.length by omega]
    refine v_loopF (Nat × Option Addr × Nat) [2, 3, 5, 11, 12, 13] rfl (fun x => [(4, .slice x.2.1 (p.l.drop (64 * x.1)).length x.2.2)]) (fun _ x => ownB x.2.1 x.2.2 (p.l.drop (64 * x.1)) :: blk g3 156 (wds (blocks (pad p.l) x.1 init8).l) :: blk g2 24 (bvs (List.replicate 32 0)) :: L) (fun x => (p.l.drop (64 * x.1)).length ≤ x.2.2 ∧ x.1 ≤ q) (fun x => q - x.1) (0, b1, d1) ⟨by simpa using hd1, Nat.zero_le _⟩ (by (exact sbS)) (by simpa [ownB] using Ent.refl _ _) ?_
    rintro ⟨q', a', c'⟩ ⟨hc', hq'⟩
    dsimp only at hc' hq' ⊢
    have hlq : (p.l.drop (64 * q')).length = p.l.length - 64 * q' := by simp
    by_cases h64 : 64 ≤ (p.l.drop (64 * q')).length
    · have hblk : ((pad p.l).drop (64 * q')).take 64 = ((p.l.drop (64 * q')).take 64).drop 0 := by
        rw [hP, List.drop_append_of_le_length (by omega), List.take_append_of_le_length h64, List.drop_zero]
      repeat' (first | (refine goW ?_; intros) | (refine goCC ?_ ?_ <;> (intro hb; (try simp only [hSQ] at hb); try (exfalso; omega))) | fail)
      refine clV ?_
      refine vc_pre (SE.ent (se_swap _ _ _) w0) ?_
      haveI hrd : RdC w0 (ownB a' c' (p.l.drop (64 * q')) :: blk g2 24 (bvs (List.replicate 32 0)) :: L) (subA a' 0 c' 1) (bvs (((p.l.drop (64 * q')).take 64).drop 0)) := rd_cut 0 64 c' (by omega)
      refine vc_mono (block_vc w0 _ g3 _ _ _ (((p.l.drop (64 * q')).take 64).drop 0) rfl (by simp; omega)) ?_
      rintro v L' ⟨rfl, rfl⟩
      rw [← hblk, ← blocks_step]
      repeat' (first | (refine goW ?_; intros) | (refine goCC ?_ ?_ <;> (intro hb; (try simp only [hSQ] at hb); try (exfalso; omega))) | fail)
      have hdrop : (p.l.drop (64 * q')).drop 64 = p.l.drop (64 * (q' + 1)) := by rw [List.drop_drop]; congr 1
      have hlen' : (p.l.drop (64 * q')).length - 64 = (p.l.drop (64 * (q' + 1))).length := by rw [← hdrop]; simp; omega
      rw [hlen']
      refine ⟨rfl, (q' + 1, subA a' 64 c' 1, c' - 64), ⟨by dsimp only; omega, by dsimp only; omega⟩, by dsimp only; omega, ?_, ?_⟩
      · (exact sbS)
      · dsimp only
        rw [← hdrop]
        exact ((se_swap _ _ _).trans (se_ownB_drop a' c' _ 64 h64 _)).ent w0
    · obtain rfl : q' = q := by omega
      repeat' (first | (refine goW ?_; intros) | (refine goCC ?_ ?_ <;> (intro hb; (try simp only [hSQ] at hb); try (exfalso; omega))) | fail)
      refine ⟨rfl, some (a', c'), hc', Nat.zero_lt_one, ?_, Ent.refl _ _⟩
      dsimp only
      (exact sbS)
  dsimp only at hx ⊢
  have hlq : (p.l.drop (64 * q)).length = p.l.length - 64 * q := by simp
  have hPd : (pad p.l).drop (64 * q) = p.l.drop (64 * q) ++ 128 :: List.replicate (fill p.l.length) 0 ++ digs (8 * p.l.length) 8 := by
    rw [hP, List.drop_append_of_le_length (by omega)]
    simp [padTail, tail8]
  have hf : fill p.l.length = fill (p.l.drop (64 * q)).length := fill_cong _ _ (by omega)
  have hf64 := fill_lt p.l.length
  have hPL : (pad p.l).length = p.l.length + (9 + fill p.l.length) := by rw [hP, List.length_append, hPl]
  generalize hr0 : p.l.drop (64 * q) = r at *
  repeat' (first | (refine goW ?_; intros) | (refine goCC ?_ ?_ <;> (intro hb; (try simp only [hSQ] at hb); try (exfalso; omega))) | fail)
  rename_i gb a2 c2 _ hc2
  refine v_loopF (Nat × Option Addr × Nat) [2, 3, 5] rfl (fun x => [(4, .slice x.2.1 (r ++ 128 :: List.replicate x.1 0).length x.2.2)]) (fun _ x => ownB x.2.1 x.2.2 (r ++ 128 :: List.replicate x.1 0) :: blk g3 156 (wds (blocks (pad p.l) q init8).l) :: blk g2 24 (bvs (List.replicate 32 0)) :: L) (fun x => x.1 ≤ fill p.l.length ∧ (r ++ 128 :: List.replicate x.1 0).length ≤ x.2.2) (fun x => fill p.l.length - x.1) (0, a2, c2) ⟨Nat.zero_le _, by simpa using hc2⟩ (by rw [show r.length + 1 = (r ++ 128 :: List.replicate (0, a2, c2).1 0).length by simp]; (exact sbS)) ?_ ?_
  · have e := own_snoc2 (a := a2) (c := c2) (l := r) (l' := r ++ 128 :: List.replicate 0 0) (x := 128) rfl
    dsimp only
    rw [← e]
    exact (se_drop _ _).ent w0
  rintro ⟨j, a3, c3⟩ ⟨hj, hc3⟩
  dsimp only at hj hc3 ⊢
  have hll : (r ++ 128 :: List.replicate j 0).length = r.length + 1 + j := by simp; omega
  by_cases hjf : j < fill p.l.length
  · have hne := fill_before r.length j (by omega)
    generalize hB : r ++ 128 :: List.replicate j 0 = B at *
    repeat' (first | (refine goW ?_; intros) | (refine goCC ?_ ?_ <;> (intro hb; (try simp only [hSQ] at hb); try (exfalso; omega))) | fail)
    rename_i gz a4 c4 _ hc4
    have hB' : r ++ 128 :: List.replicate (j + 1) 0 = B ++ [0] := by rw [← hB, List.replicate_succ']; simp
    refine ⟨rfl, (j + 1, a4, c4), ⟨hjf, by dsimp only; rw [hB']; simpa using hc4⟩, by dsimp only; omega, ?_, ?_⟩
    · dsimp only
      have hl1 : (B ++ [(0 : UInt8)]).length = B.length + 1 := by simp
      rw [hB', hl1]
      (exact sbS)
    · dsimp only
      rw [hB', ← own_snoc]
      exact (se_drop _ _).ent w0
  have hjq : j = fill p.l.length := by omega
  subst hjq
  have hne := fill_at r.length
  rw [← hf] at hne
  rw [show r ++ 128 :: List.replicate (fill p.l.length) 0 ++ digs (8 * p.l.length) 8 = (r ++ 128 :: List.replicate (fill p.l.length) 0) ++ digs (8 * p.l.length) 8 by simp] at hPd
  generalize hB : r ++ 128 :: List.replicate (fill p.l.length) 0 = B at *
  repeat' (first | (refine goW ?_; intros) | (refine goCC ?_ ?_ <;> (intro hb; (try simp only [hSQ] at hb); try (exfalso; omega))) | fail)
  have hN8 := digs_length (8 * p.l.length) 8
  refine v_loopF (Nat × Option Addr × Nat) [2, 3, 5] rfl (fun x => [(8, .int .i64 (56 - 8 * (x.1 : Int))), (4, .slice x.2.1 (B ++ (digs (8 * p.l.length) 8).take x.1).length x.2.2)]) (fun _ x => ownB x.2.1 x.2.2 (B ++ (digs (8 * p.l.length) 8).take x.1) :: blk g3 156 (wds (blocks (pad p.l) q init8).l) :: blk g2 24 (bvs (List.replicate 32 0)) :: L) (fun x => x.1 ≤ 8 ∧ (B ++ (digs (8 * p.l.length) 8).take x.1).length ≤ x.2.2) (fun x => 8 - x.1) (0, a3, c3) ⟨Nat.zero_le _, by simpa using hc3⟩ (by dsimp only; rw [List.take_zero, List.append_nil]; (exact sbS)) (by dsimp only; rw [List.take_zero, List.append_nil]; exact Ent.refl _ _) ?_
  rintro ⟨j, a4, c4⟩ ⟨hj8, hc4⟩
  dsimp only at hj8 hc4 ⊢
  have hll2 : (B ++ (digs (8 * p.l.length) 8).take j).length = B.length + j := by simp; omega
  by_cases hj7 : j < 8
  · have hD' : B ++ (digs (8 * p.l.length) 8).take (j + 1) = (B ++ (digs (8 * p.l.length) 8).take j) ++ [UInt8.ofNat (8 * p.l.length / 256 ^ (7 - j))] := by
      have hd := digs_at (8 * p.l.length) 8 j hj7
      rw [show 8 - 1 - j = 7 - j by omega] at hd
      rw [List.take_add_one, hd]
      simp
    generalize hD : B ++ (digs (8 * p.l.length) 8).take j = D at *
    repeat' (first | (refine goW ?_; intros) | (refine goCC ?_ ?_ <;> (intro hb; (try simp only [hSQ] at hb); try (exfalso; omega))) | fail)
    rename_i gz a5 c5 _ hc5
    rw [len_byte p.l.length j hj7 (by omega), show (56 - 8 * (j : Int) - 8) = 56 - 8 * ((j + 1 : Nat) : Int) by omega]
    generalize UInt8.ofNat (8 * p.l.length / 256 ^ (7 - j)) = by8 at *
    have hl1 : (D ++ [by8]).length = D.length + 1 := by simp
    refine ⟨rfl, (j + 1, a5, c5), ⟨hj7, by dsimp only; rw [hD', hl1]; exact hc5⟩, by dsimp only; omega, ?_, ?_⟩
    · dsimp only
      rw [hD', hl1]
      (exact sbS)
    · dsimp only
      rw [hD', ← own_snoc]
      exact (se_drop _ _).ent w0
  obtain rfl : j = 8 := by omega
  rw [List.take_of_length_le (by omega), ← hPd] at hc4 hll2 ⊢
  clear hPd
  generalize hPP : pad p.l = PP at *
  repeat' (first | (refine goW ?_; intros) | (refine goCC ?_ ?_ <;> (intro hb; (try simp only [hSQ] at hb); try (exfalso; omega))) | fail)
  refine v_loopF (Nat × Option Addr × Nat) [2, 3] rfl (fun x => [(4, .slice x.2.1 (PP.drop (64 * x.1)).length x.2.2)]) (fun _ x => ownB x.2.1 x.2.2 (PP.drop (64 * x.1)) :: blk g3 156 (wds (blocks PP x.1 init8).l) :: blk g2 24 (bvs (List.replicate 32 0)) :: L) (fun x => (PP.drop (64 * x.1)).length ≤ x.2.2 ∧ 64 * x.1 ≤ PP.length) (fun x => PP.length - 64 * x.1) (q, a4, c4) ⟨hc4, by dsimp only; omega⟩ (by (exact sbS)) (Ent.refl _ _) ?_
  rintro ⟨q', a', c'⟩ ⟨hc', hq'⟩
  dsimp only at hc' hq' ⊢
  have hlq2 : (PP.drop (64 * q')).length = PP.length - 64 * q' := by simp
  by_cases h64 : 64 ≤ (PP.drop (64 * q')).length
  · repeat' (first | (refine goW ?_; intros) | (refine goCC ?_ ?_ <;> (intro hb; (try simp only [hSQ] at hb); try (exfalso; omega))) | fail)
    refine clV ?_
    refine vc_pre (SE.ent (se_swap _ _ _) w0) ?_
    haveI hrd : RdC w0 (ownB a' c' (PP.drop (64 * q')) :: blk g2 24 (bvs (List.replicate 32 0)) :: L) (subA a' 0 c' 1) (bvs (((PP.drop (64 * q')).take 64).drop 0)) := rd_cut 0 64 c' (by omega)
    refine vc_mono (block_vc w0 _ g3 _ _ _ (((PP.drop (64 * q')).take 64).drop 0) rfl (by simp; omega)) ?_
    rintro v L' ⟨rfl, rfl⟩
    rw [List.drop_zero, ← blocks_step]
    repeat' (first | (refine goW ?_; intros) | (refine goCC ?_ ?_ <;> (intro hb; (try simp only [hSQ] at hb); try (exfalso; omega))) | fail)
    have hdrop : (PP.drop (64 * q')).drop 64 = PP.drop (64 * (q' + 1)) := by rw [List.drop_drop]; congr 1
    have hlen' : (PP.drop (64 * q')).length - 64 = (PP.drop (64 * (q' + 1))).length := by rw [← hdrop]; simp; omega
    rw [hlen']
    refine ⟨rfl, (q' + 1, subA a' 64 c' 1, c' - 64), ⟨by dsimp only; omega, by dsimp only; omega⟩, by dsimp only; omega, ?_, ?_⟩
    · (exact sbS)
    · dsimp only
      rw [← hdrop]
      exact ((se_swap _ _ _).trans (se_ownB_drop a' c' _ 64 h64 _)).ent w0
  have hz : (PP.drop (64 * q')).length = 0 := by omega
  have hqq : q' = PP.length / 64 := by omega
  rw [hqq]
  rw [hqq] at hz
  clear hlq2 h64 hc'
  generalize blocks PP (PP.length / 64) init8 = s at *
  generalize PP.drop (64 * (PP.length / 64)) = Z at *
  repeat' (first | (refine goW ?_; intros) | (refine goCC ?_ ?_ <;> (intro hb; (try simp only [hSQ] at hb); try (exfalso; omega))) | fail)
  refine v_loopF Nat [2, 3] rfl (fun i => [(64, .int .i64 i)]) (fun _ i => ownB a' c' Z :: blk g3 156 (wds s.l) :: blk g2 24 (bvs (outM s i)) :: L) (fun i => i ≤ 32) (fun i => 32 - i) 0 (Nat.zero_le _) (by (exact sbS)) (Ent.refl _ _) ?_
  intro i hi
  by_cases hlt : i < 32
  · have hgs : (wds s.l)[0 + i / 4]? = some (.int .u32 ((s.l.getD (i / 4) 0).toNat : Int)) := by rw [Nat.zero_add]; exact l_at s (i / 4) (by omega)
    have hst := outM_set s i hlt
    have hol : i < (outM s i).length := by rw [outM_length s (by omega)]; omega
    generalize s.l.getD (i / 4) 0 = wd at *
    generalize outM s i = O at *
    repeat' (first | (refine goW ?_; intros) | (refine goCC ?_ ?_ <;> (intro hb; (try simp only [hSQ] at hb); try (exfalso; omega))) | fail)
    refine ⟨rfl, i + 1, by omega, by omega, ?_, ?_⟩
    · (exact sbS)
    · rw [Nat.zero_add, splice_setB _ i hol, hst]
      exact Ent.refl _ _
  · obtain rfl : i = 32 := by omega
    rw [outM_32, ← hsha]
    have hSl : S.length = 32 := by rw [hsha]; simp
    repeat' (first | (refine goW ?_; intros) | (refine goCC ?_ ?_ <;> (intro hb; (try simp only [hSQ] at hb); try (exfalso; omega))) | fail)
    exact ⟨_, ((se_drop _ _).trans ((se_drop _ _).trans (se_drop _ _))).ent w0, rfl, rfl⟩
end Go.Proofs.YtcpcbgfnglnkcaaDoor
namespace Go.Proofs.YtcpcbgfnglnkcaaDoor
open Go Go.RowKit

end Go.Proofs.YtcpcbgfnglnkcaaDoor
namespace Go.Proofs.YtcpcbgfnglnkcaaDoor
open Go Go.RowKit

end Go.Proofs.YtcpcbgfnglnkcaaDoor

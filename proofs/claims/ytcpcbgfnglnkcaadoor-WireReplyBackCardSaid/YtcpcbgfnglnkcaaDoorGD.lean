/-
  Digests, as plain functions of bytes. Words turned; rounds; words of a block: the walks. The words of a block: the two walks. A block turns the state: the program's walk.
-/
import Derived.Test.YtcpcbgfnglnkcaaDoorGC
set_option linter.unusedVariables false
set_option linter.unusedSimpArgs false
set_option linter.unusedSectionVars false

namespace Go.Proofs.YtcpcbgfnglnkcaaDoor
open Go Go.RowKit

/-- Eight words. -/
structure S8 where
  a : UInt32
  b : UInt32
  c : UInt32
  d : UInt32
  e : UInt32
  f : UInt32
  g : UInt32
  h : UInt32
@[reducible] def S8.l (s : S8) : List UInt32 := [s.a, s.b, s.c, s.d, s.e, s.f, s.g, s.h]
@[reducible] def S8.cells (s : S8) : List Value := [.int .u32 (s.a.toNat : Int), .int .u32 (s.b.toNat : Int), .int .u32 (s.c.toNat : Int), .int .u32 (s.d.toNat : Int), .int .u32 (s.e.toNat : Int), .int .u32 (s.f.toNat : Int), .int .u32 (s.g.toNat : Int), .int .u32 (s.h.toNat : Int)]
theorem S8.wds (s : S8) : wds s.l = s.cells := rfl
def w8 (c : UInt8) : UInt32 := UInt32.ofNat c.toNat
/-- The words of a block. -/
def word (b : List UInt8) (t : Nat) : UInt32 := shlN (w8 (b.getD (4 * t) 0)) 24 ||| shlN (w8 (b.getD (4 * t + 1) 0)) 16 ||| shlN (w8 (b.getD (4 * t + 2) 0)) 8 ||| w8 (b.getD (4 * t + 3) 0)
def nextW (l : List UInt32) (n : Nat) : UInt32 := l.getD (n - 16) 0 + (rot (l.getD (n - 15) 0) 7 ^^^ rot (l.getD (n - 15) 0) 18 ^^^ shrN (l.getD (n - 15) 0) 3) + l.getD (n - 7) 0 + (rot (l.getD (n - 2) 0) 17 ^^^ rot (l.getD (n - 2) 0) 19 ^^^ shrN (l.getD (n - 2) 0) 10)
def sched (b : List UInt8) : Nat → List UInt32
  | 0 => []
  | n + 1 => sched b n ++ [if n < 16 then word b n else nextW (sched b n) n]
@[simp] theorem sched_length (b : List UInt8) : ∀ n, (sched b n).length = n
  | 0 => rfl
  | n + 1 => by simp [sched, sched_length b n]
/-- What memory holds of it when n are done. -/
def schedM (b : List UInt8) (n : Nat) : List UInt32 := sched b n ++ List.replicate (64 - n) 0
@[simp] theorem schedM_length (b : List UInt8) {n : Nat} (h : n ≤ 64) : (schedM b n).length = 64 := by simp [schedM]; omega
theorem schedM_at (b : List UInt8) (n k : Nat) (hk : k < n) : (wds (schedM b n))[k]? = some (.int .u32 (((sched b n).getD k 0).toNat : Int)) := by
  have h1 : k < (sched b n).length := by simpa
  have h2 : k < (schedM b n).length := by simp [schedM]; omega
  rw [wds_at _ k h2]
  simp [schedM, List.getElem_append, hk, List.getD, h1]
theorem schedM_set (b : List UInt8) (n : Nat) (hn : n < 64) : (schedM b n).set n (if n < 16 then word b n else nextW (sched b n) n) = schedM b (n + 1) := by
  unfold schedM
  rw [List.set_append_right _ _ (by simp), sched_length, Nat.sub_self, show 64 - n = (64 - (n + 1)) + 1 by omega, List.replicate_succ]
  simp [sched]
theorem splice_setW (l : List UInt32) (k : Nat) (h : k < l.length) (c : UInt32) : splice (wds l) k [.int .u32 (c.toNat : Int)] = wds (l.set k c) := by
  have e1 : wds l = (wds l).take k ++ ([(wds l)[k]'(by simpa)] ++ (wds l).drop (k + 1)) := by simp
  rw [e1, splice_mid _ _ _ _ _ (by simp; omega) (by simp)]
  have e2 : l.set k c = l.take k ++ ([c] ++ l.drop (k + 1)) := by rw [List.set_eq_take_append_cons_drop, if_pos h]; rfl
  rw [e2]
  simp [wds]
/-- One round. -/
def rT1 (s : S8) (k w : UInt32) : UInt32 := s.h + (rot s.e 6 ^^^ rot s.e 11 ^^^ rot s.e 25) + (s.e &&& s.f ^^^ ~~~s.e &&& s.g) + k + w
def rT2 (s : S8) : UInt32 := (rot s.a 2 ^^^ rot s.a 13 ^^^ rot s.a 22) + (s.a &&& s.b ^^^ s.a &&& s.c ^^^ s.b &&& s.c)
def rnd (s : S8) (k w : UInt32) : S8 := ⟨rT1 s k w + rT2 s, s.a, s.b, s.c, s.d + rT1 s k w, s.e, s.f, s.g⟩
def K64 : List UInt32 := [1116352408, 1899447441, 3049323471, 3921009573, 961987163, 1508970993, 2453635748, 2870763221, 3624381080, 310598401, 607225278, 1426881987, 1925078388, 2162078206, 2614888103, 3248222580, 3835390401, 4022224774, 264347078, 604807628, 770255983, 1249150122, 1555081692, 1996064986, 2554220882, 2821834349, 2952996808, 3210313671, 3336571891, 3584528711, 113926993, 338241895, 666307205, 773529912, 1294757372, 1396182291, 1695183700, 1986661051, 2177026350, 2456956037, 2730485921, 2820302411, 3259730800, 3345764771, 3516065817, 3600352804, 4094571909, 275423344, 430227734, 506948616, 659060556, 883997877, 958139571, 1322822218, 1537002063, 1747873779, 1955562222, 2024104815, 2227730452, 2361852424, 2428436474, 2756734187, 3204031479, 3329325298]
theorem getD_at {α : Type} (l : List α) (k : Nat) (h : k < l.length) (d : α) : l.getD k d = l[k] := by simp [List.getD, h]
theorem K64_length : K64.length = 64 := rfl
theorem K64_at (k : Nat) (hk : k < 64) : (wds K64)[k]? = some (.int .u32 ((K64.getD k 0).toNat : Int)) := by
  rw [wds_at _ k (by rw [K64_length]; exact hk)]
  rw [getD_at _ _ (by rw [K64_length]; exact hk)]
def rnds (w : List UInt32) : Nat → S8 → S8
  | 0, s => s
  | n + 1, s => rnd (rnds w n s) (K64.getD n 0) (w.getD n 0)
def S8.add (s v : S8) : S8 := ⟨s.a + v.a, s.b + v.b, s.c + v.c, s.d + v.d, s.e + v.e, s.f + v.f, s.g + v.g, s.h + v.h⟩
/-- .. when i of the eight are done. -/
def addM (s v : S8) (i : Nat) : List UInt32 := (s.add v).l.take i ++ s.l.drop i
@[simp] theorem addM_length (s v : S8) {i : Nat} (h : i ≤ 8) : (addM s v i).length = 8 := by simp [addM]; omega
theorem addM_at (s v : S8) : ∀ (i : Nat), i < 8 → (wds (addM s v i))[i]? = some (.int .u32 ((s.l.getD i 0).toNat : Int))
  | 0, _ | 1, _ | 2, _ | 3, _ | 4, _ | 5, _ | 6, _ | 7, _ => rfl
  | _ + 8, h => by omega
theorem l_at (v : S8) : ∀ (i : Nat), i < 8 → (wds v.l)[i]? = some (.int .u32 ((v.l.getD i 0).toNat : Int))
  | 0, _ | 1, _ | 2, _ | 3, _ | 4, _ | 5, _ | 6, _ | 7, _ => rfl
  | _ + 8, h => by omega
theorem addM_set (s v : S8) : ∀ (i : Nat), i < 8 → (addM s v i).set i (s.l.getD i 0 + v.l.getD i 0) = addM s v (i + 1)
  | 0, _ | 1, _ | 2, _ | 3, _ | 4, _ | 5, _ | 6, _ | 7, _ => rfl
  | _ + 8, h => by omega
theorem addM_8 (s v : S8) : addM s v 8 = (s.add v).l := rfl
/-- A block turns the state. -/
def comp (s : S8) (b : List UInt8) : S8 := s.add (rnds (sched b 64) 64 s)
def blocks (p : List UInt8) : Nat → S8 → S8
  | 0, s => s
  | n + 1, s => comp (blocks p n s) ((p.drop (64 * n)).take 64)
def init8 : S8 := ⟨1779033703, 3144134277, 1013904242, 2773480762, 1359893119, 2600822924, 528734635, 1541459225⟩
/-- How many zeroes fill. -/
def fill (n : Nat) : Nat := (119 - n % 64) % 64
def tail8 (l : List UInt8) : List UInt8 := digs (8 * l.length) 8
def padTail (l : List UInt8) : List UInt8 := 128 :: List.replicate (fill l.length) 0 ++ tail8 l
def pad (l : List UInt8) : List UInt8 := l ++ padTail l
theorem padTail_length (l : List UInt8) : (padTail l).length = 9 + fill l.length := by simp [padTail, tail8, digs_length]; omega
theorem pad_mod (l : List UInt8) : (pad l).length % 64 = 0 := by
  simp only [pad, List.length_append, padTail_length, fill]; omega
/-- The digest of a state. -/
def outB (s : S8) : List UInt8 := (List.range 32).map fun i => UInt8.ofNat (shrN (s.l.getD (i / 4) 0) (24 - 8 * (i % 4))).toNat
@[simp] theorem outB_length (s : S8) : (outB s).length = 32 := by simp [outB]
def sha (l : List UInt8) : List UInt8 := outB (blocks (pad l) ((pad l).length / 64) init8)
@[simp] theorem sha_length (l : List UInt8) : (sha l).length = 32 := by simp [sha]
/-- .. when i bytes are done. -/
def outM (s : S8) (i : Nat) : List UInt8 := (outB s).take i ++ List.replicate (32 - i) 0
@[simp] theorem outM_length (s : S8) {i : Nat} (h : i ≤ 32) : (outM s i).length = 32 := by simp [outM]; omega
theorem outM_set (s : S8) (i : Nat) (h : i < 32) : (outM s i).set i (UInt8.ofNat (shrN (s.l.getD (i / 4) 0) (24 - 8 * (i % 4))).toNat) = outM s (i + 1) := by
  have hl : i < (outB s).length := by simpa
  have e : (outB s)[i] = UInt8.ofNat (shrN (s.l.getD (i / 4) 0) (24 - 8 * (i % 4))).toNat := by simp [outB]
  unfold outM
  rw [List.set_append_right _ _ (by simp; omega), show (List.take i (outB s)).length = i by simp; omega, Nat.sub_self, show 32 - i = (32 - (i + 1)) + 1 by omega, List.replicate_succ, List.set_cons_zero, ← e, List.take_succ_eq_append_getElem hl, List.append_assoc, List.singleton_append]
theorem outM_32 (s : S8) : outM s 32 = outB s := by simp [outM]; rw [List.take_of_length_le (by simp)]
end Go.Proofs.YtcpcbgfnglnkcaaDoor
namespace Go.Proofs.YtcpcbgfnglnkcaaDoor
open Go Go.RowKit

theorem turned_count {n : Nat} (h0 : 0 < n) (hn : n < 32) : bitsV .and .u64 (IntKind.u64.wrap (IntKind.i64.wrap (0 - (n : Int)))) 31 = ((32 - n : Nat) : Int) := by
  have h : ∀ n : Fin 32, 0 < n.val → bitsV .and .u64 (IntKind.u64.wrap (IntKind.i64.wrap (0 - (n.val : Int)))) 31 = ((32 - n.val : Nat) : Int) := by decide +kernel
  exact h ⟨n, hn⟩ h0
theorem turned_vc (w0 : World) (L : List Asn) (x : UInt32) (n : Nat) (h0 : 0 < n) (hn : n < 32) :
    VC Tryd.prog w0 81 [.int .u32 (x.toNat : Int), .int .i64 (n : Int)] L fun v L' => v = .int .u32 ((rot x n).toNat : Int) ∧ L' = L := by
  refine vc_in rfl rfl ?_
  repeat' (first | (refine goW ?_; intros) | (refine goCC ?_ ?_ <;> (intro hb; (try simp only [hSQ] at hb); try (exfalso; omega))) | fail)
  refine clV ?_
  refine vc_in rfl rfl ?_
  repeat' (first | (refine goW ?_; intros) | (refine goCC ?_ ?_ <;> (intro hb; (try simp only [hSQ] at hb); try (exfalso; omega))) | fail)
  rw [turned_count h0 hn]
  repeat' (first | (refine goW ?_; intros) | (refine goCC ?_ ?_ <;> (intro hb; (try simp only [hSQ] at hb); try (exfalso; omega))) | fail)
  rw [show 32 - (32 - n) = n by omega, UInt32.or_comm]
  exact ⟨rfl, rfl⟩

end Go.Proofs.YtcpcbgfnglnkcaaDoor
namespace Go.Proofs.YtcpcbgfnglnkcaaDoor
open Go Go.RowKit

/-- Words of bytes, summed up. -/
def acc (b : List UInt8) (t : Nat) : Nat → UInt32
  | 0 => 0
  | j + 1 => 256 * acc b t j + w8 (b.getD (4 * t + j) 0)
theorem bvs_getD (l : List UInt8) (k : Nat) (h : k < l.length) : (bvs l)[k]? = some (.int .u8 ((l.getD k 0).toNat : Int)) := by
  rw [bvs_at l k h, getD_at l k h]
end Go.Proofs.YtcpcbgfnglnkcaaDoor
namespace Go.Proofs.YtcpcbgfnglnkcaaDoor
open Go Go.RowKit

set_option maxRecDepth 100000 in
set_option maxHeartbeats 1600000 in
theorem block_vc (w0 : World) (L : List Asn) (g : Nat) (s : S8) (a : Option Addr) (cap : Nat) (b : List UInt8) {m : Nat} (hm : m = 64) (hb0 : b.length = 64) [hk : RdA w0 (some ⟨1, 0, none⟩) (wds K64)] [hr : RdC w0 L a (bvs b)] :
    VC Tryd.prog w0 80 [.pointer (some ⟨g, 0, none⟩), .slice a m cap] (blk g 156 (wds s.l) :: L) fun v L' => v = .tuple #[] ∧ L' = blk g 156 (wds (comp s b).l) :: L := by
  subst hm
  refine vc_ent ?_
  refine vc_in rfl rfl ?_
  repeat' (first | (refine goW ?_; intros) | (refine goCC ?_ ?_ <;> (intro hb; (try simp only [hSQ] at hb); try (exfalso; omega))) | fail)
  rename_i g1
  refine v_loopF Nat [0, 1, 4] rfl (fun t => [(19, .int .i64 t)]) (fun M t => M.set 0 (blk g1 159 (wds (schedM b t)))) (fun t => t ≤ 64) (fun t => 64 - t) 0 (Nat.zero_le _) (by (exact sbS)) (Ent.refl _ _) ?_
  intro t ht
  dsimp only [List.set]
  by_cases hlt : t < 64
  · have hlen : t < (schedM b t).length := by rw [schedM_length b (by omega)]; omega
    by_cases h16 : t < 16
    · have hb1 := bvs_getD b (4 * t) (by omega)
      have hb2 := bvs_getD b (4 * t + 1) (by omega)
      have hb3 := bvs_getD b (4 * t + 2) (by omega)
      have hb4 := bvs_getD b (4 * t + 3) (by omega)
      repeat' (first | (refine goW ?_; intros) | (refine goCC ?_ ?_ <;> (intro hb; (try simp only [hSQ] at hb); try (exfalso; omega))) | fail)
      (refine v_draw0 [35] (by kernel_rfl) ?_ <;> (refine va_takeW 0 rfl rfl rfl rfl ?_) <;> (refine va_takeW 1 rfl rfl rfl rfl ?_) <;> (refine va_takeW 2 rfl rfl rfl rfl ?_) <;> (refine va_takeW 3 rfl rfl rfl rfl ?_) <;> (refine va_takeW 4 rfl rfl rfl rfl ?_) <;> (refine va_takeW 5 rfl rfl rfl rfl ?_) <;> (refine va_takeW 6 rfl rfl rfl rfl ?_) <;> (refine va_takeW 7 rfl rfl rfl rfl ?_) <;> (refine va_takeW 8 rfl rfl rfl rfl ?_) <;> (refine va_takeW 9 rfl rfl rfl rfl ?_) <;> (refine va_takeW 10 rfl rfl rfl rfl ?_) <;> (refine va_takeW 11 rfl rfl rfl rfl ?_) <;> (refine va_takeW 12 rfl rfl rfl rfl ?_) <;> (refine va_takeW 13 rfl rfl rfl rfl ?_) <;> (refine va_takeW 14 rfl rfl rfl rfl ?_) <;> (refine va_takeW 15 rfl rfl rfl rfl ?_) <;> (refine va_takeW 16 rfl rfl rfl rfl ?_) <;> (refine va_takeW 17 rfl rfl rfl rfl ?_) <;> (refine va_takeW 18 rfl rfl rfl rfl ?_) <;> (refine va_takeW 19 rfl rfl rfl rfl ?_) <;> (refine va_takeW 20 rfl rfl rfl rfl ?_) <;> (refine va_takeW 21 rfl rfl rfl rfl ?_) <;> (refine va_takeW 22 rfl rfl rfl rfl ?_) <;> (refine va_takeW 23 rfl rfl rfl rfl ?_) <;> (refine va_takeW 24 rfl rfl rfl rfl ?_) <;> (refine va_takeW 25 rfl rfl rfl rfl ?_) <;> (refine va_takeW 26 rfl rfl rfl rfl ?_) <;> (refine va_takeW 27 rfl rfl rfl rfl ?_) <;> (refine va_takeW 28 rfl rfl rfl rfl ?_) <;> (refine va_takeW 29 rfl rfl rfl rfl ?_) <;> (refine va_takeW 30 rfl rfl rfl rfl ?_) <;> (refine va_takeW 31 rfl rfl rfl rfl ?_) <;> (refine va_takeW 32 rfl rfl rfl rfl ?_) <;> (refine va_takeW 33 rfl rfl rfl rfl ?_) <;> (refine va_takeW 34 rfl rfl rfl rfl ?_) <;> (refine va_one 35 (by kernel_rfl) rfl rfl ?_; (refine goV ?_; intros); refine ⟨.inl (by kernel_rfl), ?_⟩) <;> (refine va_done (by kernel_rfl) ?_))
      repeat' (first | (refine goW ?_; intros) | (refine goCC ?_ ?_ <;> (intro hb; (try simp only [hSQ] at hb); try (exfalso; omega))) | fail)
      refine ⟨rfl, t + 1, by omega, by omega, ?_, ?_⟩
      · (exact sbS)
      · have e := schedM_set b t (by omega)
        rw [if_pos h16, word] at e
        simp only [Nat.zero_add]
        unfold w8 at e
        rw [splice_setW _ t hlen, e]
        exact Ent.refl _ _
    · have hg2 := schedM_at b t (0 + (t - 2)) (by omega)
      have hg7 := schedM_at b t (0 + (t - 7)) (by omega)
      have hg15 := schedM_at b t (0 + (t - 15)) (by omega)
      have hg16 := schedM_at b t (0 + (t - 16)) (by omega)
      repeat' (first | (refine goW ?_; intros) | (refine goCC ?_ ?_ <;> (intro hb; (try simp only [hSQ] at hb); try (exfalso; omega))) | fail)
      (refine v_draw0 [] (by kernel_rfl) ?_ <;> (refine va_takeW 0 rfl rfl rfl rfl ?_) <;> (refine va_takeW 1 rfl rfl rfl rfl ?_) <;> (refine va_takeW 2 rfl rfl rfl rfl ?_) <;> (refine va_takeW 3 rfl rfl rfl rfl ?_) <;> (refine va_takeW 4 rfl rfl rfl rfl ?_) <;> (refine va_takeW 5 rfl rfl rfl rfl ?_) <;> (refine va_takeW 6 rfl rfl rfl rfl ?_) <;> (refine va_takeW 7 rfl rfl rfl rfl ?_) <;> (refine va_takeW 8 rfl rfl rfl rfl ?_) <;> (refine va_takeW 9 rfl rfl rfl rfl ?_) <;> (refine va_done (by kernel_rfl) ?_))
      repeat' (first | (refine goW ?_; intros) | (refine goCC ?_ ?_ <;> (intro hb; (try simp only [hSQ] at hb); try (exfalso; omega))) | fail)
      (refine v_draw0 [29] (by kernel_rfl) ?_ <;> (refine va_takeW 0 rfl rfl rfl rfl ?_) <;> (refine va_takeW 1 rfl rfl rfl rfl ?_) <;> (refine va_takeW 2 rfl rfl rfl rfl ?_) <;> (refine va_takeW 3 rfl rfl rfl rfl ?_) <;> (refine va_takeW 4 rfl rfl rfl rfl ?_) <;> (refine va_takeW 5 rfl rfl rfl rfl ?_) <;> (refine va_takeW 7 rfl rfl rfl rfl ?_) <;> (refine va_takeW 10 rfl rfl rfl rfl ?_) <;> (refine va_takeW 11 rfl rfl rfl rfl ?_) <;> (refine va_takeW 14 rfl rfl rfl rfl ?_) <;> (refine va_takeW 15 rfl rfl rfl rfl ?_) <;> (refine va_takeW 16 rfl rfl rfl rfl ?_) <;> (refine va_takeW 17 rfl rfl rfl rfl ?_) <;> (refine va_takeW 19 rfl rfl rfl rfl ?_) <;> (refine va_takeW 21 rfl rfl rfl rfl ?_) <;> (refine va_takeW 24 rfl rfl rfl rfl ?_) <;> (refine va_takeW 25 rfl rfl rfl rfl ?_))
      first | refine va_one 6 (by kernel_rfl) rfl rfl (vo_call rfl rfl ?_) | refine va_one 6 (by kernel_rfl) rfl rfl (vo_callV rfl rfl rfl ?_)
      refine vc_mono (turned_vc w0 _ _ 7 (by decide) (by decide)) ?_
      rintro v L' ⟨rfl, rfl⟩
      refine ⟨.inr entD, ?_⟩
      skip
      first | refine va_one 8 (by kernel_rfl) rfl rfl (vo_call rfl rfl ?_) | refine va_one 8 (by kernel_rfl) rfl rfl (vo_callV rfl rfl rfl ?_)
      refine vc_mono (turned_vc w0 _ _ 18 (by decide) (by decide)) ?_
      rintro v L' ⟨rfl, rfl⟩
      refine ⟨.inr entD, ?_⟩
      ((refine va_takeW 9 rfl rfl rfl rfl ?_) <;> (refine va_takeW 12 rfl rfl rfl rfl ?_) <;> (refine va_takeW 13 rfl rfl rfl rfl ?_) <;> (refine va_takeW 18 rfl rfl rfl rfl ?_))
      first | refine va_one 20 (by kernel_rfl) rfl rfl (vo_call rfl rfl ?_) | refine va_one 20 (by kernel_rfl) rfl rfl (vo_callV rfl rfl rfl ?_)
      refine vc_mono (turned_vc w0 _ _ 17 (by decide) (by decide)) ?_
      rintro v L' ⟨rfl, rfl⟩
      refine ⟨.inr entD, ?_⟩
      skip
      first | refine va_one 22 (by kernel_rfl) rfl rfl (vo_call rfl rfl ?_) | refine va_one 22 (by kernel_rfl) rfl rfl (vo_callV rfl rfl rfl ?_)
      refine vc_mono (turned_vc w0 _ _ 19 (by decide) (by decide)) ?_
      rintro v L' ⟨rfl, rfl⟩
      refine ⟨.inr entD, ?_⟩
      ((refine va_takeW 23 rfl rfl rfl rfl ?_) <;> (refine va_takeW 26 rfl rfl rfl rfl ?_) <;> (refine va_takeW 27 rfl rfl rfl rfl ?_) <;> (refine va_takeW 28 rfl rfl rfl rfl ?_) <;> (refine va_one 29 (by kernel_rfl) rfl rfl ?_; (refine goV ?_; intros); refine ⟨.inl (by kernel_rfl), ?_⟩) <;> (refine va_done (by kernel_rfl) ?_))
      repeat' (first | (refine goW ?_; intros) | (refine goCC ?_ ?_ <;> (intro hb; (try simp only [hSQ] at hb); try (exfalso; omega))) | fail)
      refine ⟨rfl, t + 1, by omega, by omega, ?_, ?_⟩
      · (exact sbS)
      · have e := schedM_set b t (by omega)
        rw [if_neg (by omega), nextW] at e
        simp only [Nat.zero_add]
        rw [splice_setW _ t hlen, e]
        exact Ent.refl _ _
  obtain rfl : t = 64 := by omega
  have e64 : schedM b 64 = sched b 64 := by simp [schedM]
  rw [e64]
  have hcomp : comp s b = s.add (rnds (sched b 64) 64 s) := rfl
  generalize comp s b = cmp at *
  have hl : (sched b 64).length = 64 := by simp
  generalize sched b 64 = W at *
  have hsl : (wds s.l).length = 8 := rfl
  repeat' (first | (refine goW ?_; intros) | (refine goCC ?_ ?_ <;> (intro hb; (try simp only [hSQ] at hb); try (exfalso; omega))) | fail)
  rename_i g2
  refine v_loopF Nat [0, 1, 4, 8] rfl (fun t => [(100, .int .i64 t)]) (fun M t => M.set 0 (blk g2 156 (wds (rnds W t s).l))) (fun t => t ≤ 64) (fun t => 64 - t) 0 (Nat.zero_le _) (by (exact sbS)) (Ent.refl _ _) ?_
  intro t ht
  dsimp only [List.set]
  by_cases hlt : t < 64
  · have hgk := K64_at (0 + t) (by omega)
    have hgw : (wds W)[0 + t]? = some (.int .u32 ((W.getD t 0).toNat : Int)) := by rw [Nat.zero_add, wds_at _ t (by omega), getD_at _ _ (by omega)]
    have en : rnds W (t + 1) s = rnd (rnds W t s) (K64.getD (0 + t) 0) (W.getD t 0) := by rw [Nat.zero_add]; rfl
    generalize K64.getD (0 + t) 0 = kt at *
    generalize W.getD t 0 = wt at *
    generalize rnds W t s = v at *
    rw [S8.wds v]
    repeat' (first | (refine goW ?_; intros) | (refine goCC ?_ ?_ <;> (intro hb; (try simp only [hSQ] at hb); try (exfalso; omega))) | fail)
    (refine v_draw0 [] (by kernel_rfl) ?_ <;> (refine va_takeW 0 rfl rfl rfl rfl ?_) <;> (refine va_takeW 1 rfl rfl rfl rfl ?_) <;> (refine va_takeW 2 rfl rfl rfl rfl ?_) <;> (refine va_takeW 3 rfl rfl rfl rfl ?_) <;> (refine va_takeW 4 rfl rfl rfl rfl ?_) <;> (refine va_takeW 5 rfl rfl rfl rfl ?_) <;> (refine va_takeW 6 rfl rfl rfl rfl ?_) <;> (refine va_takeW 7 rfl rfl rfl rfl ?_) <;> (refine va_takeW 8 rfl rfl rfl rfl ?_) <;> (refine va_takeW 9 rfl rfl rfl rfl ?_) <;> (refine va_takeW 10 rfl rfl rfl rfl ?_) <;> (refine va_takeW 11 rfl rfl rfl rfl ?_) <;> (refine va_takeW 12 rfl rfl rfl rfl ?_) <;> (refine va_takeW 13 rfl rfl rfl rfl ?_) <;> (refine va_takeW 14 rfl rfl rfl rfl ?_) <;> (refine va_takeW 15 rfl rfl rfl rfl ?_) <;> (refine va_takeW 16 rfl rfl rfl rfl ?_) <;> (refine va_takeW 17 rfl rfl rfl rfl ?_) <;> (refine va_done (by kernel_rfl) ?_))
    repeat' (first | (refine goW ?_; intros) | (refine goCC ?_ ?_ <;> (intro hb; (try simp only [hSQ] at hb); try (exfalso; omega))) | fail)
    (refine v_draw0 [] (by kernel_rfl) ?_ <;> (refine va_takeW 0 rfl rfl rfl rfl ?_) <;> (refine va_takeW 1 rfl rfl rfl rfl ?_) <;> (refine va_takeW 2 rfl rfl rfl rfl ?_) <;> (refine va_takeW 4 rfl rfl rfl rfl ?_) <;> (refine va_takeW 7 rfl rfl rfl rfl ?_) <;> (refine va_takeW 11 rfl rfl rfl rfl ?_) <;> (refine va_takeW 12 rfl rfl rfl rfl ?_) <;> (refine va_takeW 13 rfl rfl rfl rfl ?_) <;> (refine va_takeW 14 rfl rfl rfl rfl ?_) <;> (refine va_takeW 15 rfl rfl rfl rfl ?_) <;> (refine va_takeW 16 rfl rfl rfl rfl ?_) <;> (refine va_takeW 17 rfl rfl rfl rfl ?_) <;> (refine va_takeW 18 rfl rfl rfl rfl ?_) <;> (refine va_takeW 20 rfl rfl rfl rfl ?_) <;> (refine va_takeW 21 rfl rfl rfl rfl ?_) <;> (refine va_takeW 22 rfl rfl rfl rfl ?_) <;> (refine va_takeW 24 rfl rfl rfl rfl ?_) <;> (refine va_takeW 25 rfl rfl rfl rfl ?_) <;> (refine va_takeW 26 rfl rfl rfl rfl ?_))
    first | refine va_one 3 (by kernel_rfl) rfl rfl (vo_call rfl rfl ?_) | refine va_one 3 (by kernel_rfl) rfl rfl (vo_callV rfl rfl rfl ?_)
    refine vc_mono (turned_vc w0 _ _ 6 (by decide) (by decide)) ?_
    rintro v L' ⟨rfl, rfl⟩
    refine ⟨.inr entD, ?_⟩
    skip
    first | refine va_one 5 (by kernel_rfl) rfl rfl (vo_call rfl rfl ?_) | refine va_one 5 (by kernel_rfl) rfl rfl (vo_callV rfl rfl rfl ?_)
    refine vc_mono (turned_vc w0 _ _ 11 (by decide) (by decide)) ?_
    rintro v L' ⟨rfl, rfl⟩
    refine ⟨.inr entD, ?_⟩
    ((refine va_takeW 6 rfl rfl rfl rfl ?_))
    first | refine va_one 8 (by kernel_rfl) rfl rfl (vo_call rfl rfl ?_) | refine va_one 8 (by kernel_rfl) rfl rfl (vo_callV rfl rfl rfl ?_)
    refine vc_mono (turned_vc w0 _ _ 25 (by decide) (by decide)) ?_
    rintro v L' ⟨rfl, rfl⟩
    refine ⟨.inr entD, ?_⟩
    ((refine va_takeW 9 rfl rfl rfl rfl ?_) <;> (refine va_takeW 10 rfl rfl rfl rfl ?_) <;> (refine va_takeW 19 rfl rfl rfl rfl ?_) <;> (refine va_takeW 23 rfl rfl rfl rfl ?_) <;> (refine va_takeW 27 rfl rfl rfl rfl ?_) <;> (refine va_takeW 28 rfl rfl rfl rfl ?_) <;> (refine va_done (by kernel_rfl) ?_))
    repeat' (first | (refine goW ?_; intros) | (refine goCC ?_ ?_ <;> (intro hb; (try simp only [hSQ] at hb); try (exfalso; omega))) | fail)
    refine clV ?_
    refine vc_mono (turned_vc w0 _ _ 2 (by decide) (by decide)) ?_
    rintro v L' ⟨rfl, rfl⟩
    repeat' (first | (refine goW ?_; intros) | (refine goCC ?_ ?_ <;> (intro hb; (try simp only [hSQ] at hb); try (exfalso; omega))) | fail)
    refine clV ?_
    refine vc_mono (turned_vc w0 _ _ 13 (by decide) (by decide)) ?_
    rintro v L' ⟨rfl, rfl⟩
    repeat' (first | (refine goW ?_; intros) | (refine goCC ?_ ?_ <;> (intro hb; (try simp only [hSQ] at hb); try (exfalso; omega))) | fail)
    refine clV ?_
    refine vc_mono (turned_vc w0 _ _ 22 (by decide) (by decide)) ?_
    rintro v L' ⟨rfl, rfl⟩
    repeat' (first | (refine goW ?_; intros) | (refine goCC ?_ ?_ <;> (intro hb; (try simp only [hSQ] at hb); try (exfalso; omega))) | fail)
    refine ⟨rfl, t + 1, by omega, by omega, ?_, ?_⟩
    · (exact sbS)
    · rw [en]
      exact Ent.refl _ _
  obtain rfl : t = 64 := by omega
  generalize rnds W 64 s = r at *
  repeat' (first | (refine goW ?_; intros) | (refine goCC ?_ ?_ <;> (intro hb; (try simp only [hSQ] at hb); try (exfalso; omega))) | fail)
  refine v_loopF Nat [0, 8] rfl (fun i => [(178, .int .i64 i)]) (fun M i => M.set 2 (blk g 156 (wds (addM s r i)))) (fun i => i ≤ 8) (fun i => 8 - i) 0 (Nat.zero_le _) (by (exact sbS)) (Ent.refl _ _) ?_
  intro i hi
  dsimp only [List.set]
  by_cases hlt8 : i < 8
  · have hg1' : (wds (addM s r i))[0 + i]? = some (.int .u32 ((s.l.getD i 0).toNat : Int)) := by rw [Nat.zero_add]; exact addM_at s r i hlt8
    have hg2' : (wds r.l)[0 + i]? = some (.int .u32 ((r.l.getD i 0).toNat : Int)) := by rw [Nat.zero_add]; exact l_at r i hlt8
    have hst := addM_set s r i hlt8
    have hlen8 : i < (addM s r i).length := by rw [addM_length s r (by omega)]; omega
    generalize s.l.getD i 0 = x1 at *
    generalize r.l.getD i 0 = x2 at *
    generalize addM s r i = A at *
    repeat' (first | (refine goW ?_; intros) | (refine goCC ?_ ?_ <;> (intro hb; (try simp only [hSQ] at hb); try (exfalso; omega))) | fail)
    (refine v_draw0 [11] (by kernel_rfl) ?_ <;> (refine va_takeW 0 rfl rfl rfl rfl ?_) <;> (refine va_takeW 1 rfl rfl rfl rfl ?_) <;> (refine va_takeW 2 rfl rfl rfl rfl ?_) <;> (refine va_takeW 3 rfl rfl rfl rfl ?_) <;> (refine va_takeW 4 rfl rfl rfl rfl ?_) <;> (refine va_takeW 5 rfl rfl rfl rfl ?_) <;> (refine va_takeW 6 rfl rfl rfl rfl ?_) <;> (refine va_takeW 7 rfl rfl rfl rfl ?_) <;> (refine va_takeW 8 rfl rfl rfl rfl ?_) <;> (refine va_takeW 9 rfl rfl rfl rfl ?_) <;> (refine va_takeW 10 rfl rfl rfl rfl ?_) <;> (refine va_one 11 (by kernel_rfl) rfl rfl ?_; (refine goV ?_; intros); refine ⟨.inl (by kernel_rfl), ?_⟩) <;> (refine va_done (by kernel_rfl) ?_))
    repeat' (first | (refine goW ?_; intros) | (refine goCC ?_ ?_ <;> (intro hb; (try simp only [hSQ] at hb); try (exfalso; omega))) | fail)
    refine ⟨rfl, i + 1, by omega, by omega, ?_, ?_⟩
    · (exact sbS)
    · rw [Nat.zero_add, splice_setW _ i hlen8, hst]
      exact Ent.refl _ _
  · obtain rfl : i = 8 := by omega
    rw [addM_8, ← hcomp]
    repeat' (first | (refine goW ?_; intros) | (refine goCC ?_ ?_ <;> (intro hb; (try simp only [hSQ] at hb); try (exfalso; omega))) | fail)
    exact ⟨_, ((se_drop _ _).trans (se_drop _ _)).ent w0, rfl, rfl⟩
end Go.Proofs.YtcpcbgfnglnkcaaDoor

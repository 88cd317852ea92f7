/-
  The bits of a key; how many of them two keys share. How many bits two keys share: the reference's count. How many bits two keys share: the program's count. Values: lengths 1 to 64. Lists of digests. Keys: which is ahead; the bits by which it is so.
-/
import Derived.Test.YtgffejpcldeklaaGC
import Derived.KernelRfl
import Derived.Test.YtgffejpcldeklaaGF
set_option linter.unusedVariables false
set_option linter.unusedSimpArgs false
set_option linter.unusedSectionVars false
set_option maxRecDepth 100000
set_option maxHeartbeats 1000000
namespace Go.Proofs.Ytgffejpcldeklaa
open Go Go.RowKit

/-- Bit i of bytes, the highest of a byte first. -/
def bitAt (k : List UInt8) (i : Nat) : Nat := (k.getD (i / 8) 0).toNat / 2 ^ (7 - i % 8) % 2
theorem getD_get (k : List UInt8) (j : Nat) (h : j < k.length) : k.getD j 0 = k[j] := by simp [List.getD, h]

theorem at_vc (w0 : World) (L : List Asn) (k : List UInt8) (hk : k.length = 32) (i : Nat) (hi : i < 256) :
    VC Try.prog w0 80 [.agg (bvs k).toArray, .int .i64 i] L fun v L' => v = .int .u8 (bitAt k i) ∧ L' = L := by
  refine vc_ent ?_
  have hg : (bvs k).toArray.toList[0 + i / 8]? = some (.int .u8 (k[i / 8]'(by omega)).toNat) := by rw [Nat.zero_add]; exact bvs_at k (i / 8) (by omega)
  have hb := (k[i / 8]'(by omega)).toNat_lt
  have hbit : bitAt k i = (k[i / 8]'(by omega)).toNat / 2 ^ (7 - i % 8) % 2 := by rw [bitAt, getD_get]
  rw [hbit]
  clear hbit
  generalize (k[i / 8]'(by omega)).toNat = c at *
  refine vc_in rfl rfl ?_
  repeat' (first | (refine go1 ?_; intros) | (refine goCC ?_ ?_ <;> (intro hb; (try simp only [hSQ] at hb); try (exfalso; omega))) | fail)
  refine v_loopS Nat [1] rfl (fun j => [(5, .int .u8 (c / 2 ^ (7 - j) : Nat)), (6, .int .i64 j)]) (fun j => i % 8 ≤ j ∧ j ≤ 7) (fun j => j) 7 ⟨by omega, by omega⟩ (by simp only [Nat.sub_self, Nat.pow_zero, Nat.div_one]; (exact sbS)) (fun j ⟨hj, hj7⟩ => ?_)
  have hc2 : c / 2 ^ (7 - j) < 256 := Nat.lt_of_le_of_lt (Nat.div_le_self _ _) hb
  by_cases hlt : i % 8 < j
  · have e1 : c / 2 ^ (7 - j) / 2 = c / 2 ^ (7 - (j - 1)) := by
      rw [Nat.div_div_eq_div_mul, show 7 - (j - 1) = 7 - j + 1 by omega, Nat.pow_succ]
    generalize hC : c / 2 ^ (7 - j) = C at *
    repeat' (first | (refine go1 ?_; intros) | (refine goCC ?_ ?_ <;> (intro hb; (try simp only [hSQ] at hb); try (exfalso; omega))) | fail)
    refine ⟨rfl, j - 1, ⟨by omega, by omega⟩, by omega, ?_, Ent.refl _ _⟩
    rw [← e1]
    (exact sbS)
  · obtain rfl : j = i % 8 := by omega
    generalize hC : c / 2 ^ (7 - i % 8) = C at *
    repeat' (first | (refine go1 ?_; intros) | (refine goCC ?_ ?_ <;> (intro hb; (try simp only [hSQ] at hb); try (exfalso; omega))) | fail)
    exact ⟨_, (se_drop _ _).ent w0, rfl, rfl⟩
end Go.Proofs.Ytgffejpcldeklaa
namespace Go.Proofs.Ytgffejpcldeklaa
open Go Go.RowKit

/-- n bits are shared. -/
def IsSh (a b : List UInt8) (n : Nat) : Prop := n ≤ 256 ∧ (∀ m, m < n → bitAt a m = bitAt b m) ∧ (n < 256 → bitAt a n ≠ bitAt b n)
theorem IsSh.uniq {a b : List UInt8} {n m : Nat} (h : IsSh a b n) (k : IsSh a b m) : n = m := by
  rcases Nat.lt_trichotomy n m with e | e | e
  · exact absurd (k.2.1 n e) (h.2.2 (by have := k.1; omega))
  · exact e
  · exact absurd (h.2.1 m e) (k.2.2 (by have := h.1; omega))

theorem sh4_vc (w0 : World) (L : List Asn) (a b : List UInt8) (hla : a.length = 32) (hlb : b.length = 32) :
    VC Try.prog w0 74 [.agg (bvs a).toArray, .agg (bvs b).toArray] L fun v L' => ∃ n : Nat, IsSh a b n ∧ v = .int .i64 n ∧ L' = L := by
  refine vc_ent ?_
  refine vc_in rfl rfl ?_
  repeat' (first | (refine go1 ?_; intros) | (refine goCC ?_ ?_ <;> (intro hb; (try simp only [hSQ] at hb); try (exfalso; omega))) | fail)
  refine v_loopS Nat [2, 3] rfl (fun n => [(5, .int .i64 n)]) (fun n => n ≤ 256 ∧ ∀ m, m < n → bitAt a m = bitAt b m) (fun n => 256 - n) 0 ⟨by omega, by omega⟩ (by (exact sbS)) (fun n ⟨hn, hp⟩ => ?_)
  by_cases hlt : n < 256
  · repeat' (first | (refine go1 ?_; intros) | (refine goCC ?_ ?_ <;> (intro hb; (try simp only [hSQ] at hb); try (exfalso; omega))) | fail)
    (refine v_draw0 [] (by kernel_rfl) ?_ <;> (refine tA 0 ?_) <;> (refine tA 1 ?_) <;> (refine tA 2 ?_) <;> (first | refine tG 3 ?_ | refine pG 3 ?_ | (refine va_caseG 3 rfl rfl rfl rfl rfl ?_ ?_ <;> (intro hb; (try simp only [hSQ] at hb); try (exfalso; omega)) <;> first | refine tG 3 ?_ | refine pG 3 ?_)) <;> (first | refine tG 4 ?_ | refine pG 4 ?_ | (refine va_caseG 4 rfl rfl rfl rfl rfl ?_ ?_ <;> (intro hb; (try simp only [hSQ] at hb); try (exfalso; omega)) <;> first | refine tG 4 ?_ | refine pG 4 ?_)) <;> (first | refine tG 6 ?_ | refine pG 6 ?_ | (refine va_caseG 6 rfl rfl rfl rfl rfl ?_ ?_ <;> (intro hb; (try simp only [hSQ] at hb); try (exfalso; omega)) <;> first | refine tG 6 ?_ | refine pG 6 ?_)) <;> (first | refine tG 7 ?_ | refine pG 7 ?_ | (refine va_caseG 7 rfl rfl rfl rfl rfl ?_ ?_ <;> (intro hb; (try simp only [hSQ] at hb); try (exfalso; omega)) <;> first | refine tG 7 ?_ | refine pG 7 ?_)))
    first | refine va_oneG 5 (by kernel_rfl) rfl rfl rfl rfl rfl rfl (vo_call rfl rfl ?_) | refine va_oneG 5 (by kernel_rfl) rfl rfl rfl rfl rfl rfl (vo_callV rfl rfl rfl ?_)
    refine vc_mono (at_vc w0 _ a hla n hlt) ?_
    rintro v L' ⟨rfl, rfl⟩
    refine ⟨.inr entD, ?_⟩
    skip
    first | refine va_oneG 8 (by kernel_rfl) rfl rfl rfl rfl rfl rfl (vo_call rfl rfl ?_) | refine va_oneG 8 (by kernel_rfl) rfl rfl rfl rfl rfl rfl (vo_callV rfl rfl rfl ?_)
    refine vc_mono (at_vc w0 _ b hlb n hlt) ?_
    rintro v L' ⟨rfl, rfl⟩
    refine ⟨.inr entD, ?_⟩
    ((first | refine tG 9 ?_ | refine pG 9 ?_ | (refine va_caseG 9 rfl rfl rfl rfl rfl ?_ ?_ <;> (intro hb; (try simp only [hSQ] at hb); try (exfalso; omega)) <;> first | refine tG 9 ?_ | refine pG 9 ?_)) <;> (refine tA 10 ?_) <;> (refine va_done (by kernel_rfl) ?_))
    repeat' (first | (refine go1 ?_; intros) | (refine goCC ?_ ?_ <;> (intro hb; (try simp only [hSQ] at hb); try (exfalso; omega))) | fail)
    · refine ⟨rfl, n + 1, ⟨by omega, fun m hm => ?_⟩, by omega, ?_, Ent.refl _ _⟩
      · rcases Nat.lt_or_ge m n with h | h
        · exact hp m h
        · obtain rfl : m = n := by omega
          exact Int.ofNat_inj.1 hb
      · (exact sbS)
    · exact ⟨_, ((se_drop _ _).trans (se_drop _ _)).ent w0, n, ⟨hn, hp, fun _ e => hb (by rw [e])⟩, rfl, rfl⟩
  · repeat' (first | (refine go1 ?_; intros) | (refine goCC ?_ ?_ <;> (intro hb; (try simp only [hSQ] at hb); try (exfalso; omega))) | fail)
    (refine v_draw0 [] (by kernel_rfl) ?_ <;> (refine tA 0 ?_) <;> (refine tA 1 ?_) <;> (refine tA 2 ?_) <;> (first | refine tG 3 ?_ | refine pG 3 ?_ | (refine va_caseG 3 rfl rfl rfl rfl rfl ?_ ?_ <;> (intro hb; (try simp only [hSQ] at hb); try (exfalso; omega)) <;> first | refine tG 3 ?_ | refine pG 3 ?_)) <;> (first | refine tG 4 ?_ | refine pG 4 ?_ | (refine va_caseG 4 rfl rfl rfl rfl rfl ?_ ?_ <;> (intro hb; (try simp only [hSQ] at hb); try (exfalso; omega)) <;> first | refine tG 4 ?_ | refine pG 4 ?_)) <;> (first | refine tG 6 ?_ | refine pG 6 ?_ | (refine va_caseG 6 rfl rfl rfl rfl rfl ?_ ?_ <;> (intro hb; (try simp only [hSQ] at hb); try (exfalso; omega)) <;> first | refine tG 6 ?_ | refine pG 6 ?_)) <;> (first | refine tG 7 ?_ | refine pG 7 ?_ | (refine va_caseG 7 rfl rfl rfl rfl rfl ?_ ?_ <;> (intro hb; (try simp only [hSQ] at hb); try (exfalso; omega)) <;> first | refine tG 7 ?_ | refine pG 7 ?_)))
    refine pG 5 ?_
    skip
    refine pG 8 ?_
    ((first | refine tG 9 ?_ | refine pG 9 ?_ | (refine va_caseG 9 rfl rfl rfl rfl rfl ?_ ?_ <;> (intro hb; (try simp only [hSQ] at hb); try (exfalso; omega)) <;> first | refine tG 9 ?_ | refine pG 9 ?_)) <;> (refine tA 10 ?_) <;> (refine va_done (by kernel_rfl) ?_))
    repeat' (first | (refine go1 ?_; intros) | (refine goCC ?_ ?_ <;> (intro hb; (try simp only [hSQ] at hb); try (exfalso; omega))) | fail)
    exact ⟨_, ((se_drop _ _).trans (se_drop _ _)).ent w0, n, ⟨hn, hp, fun h => absurd h hlt⟩, rfl, rfl⟩
end Go.Proofs.Ytgffejpcldeklaa
namespace Go.Proofs.Ytgffejpcldeklaa
open Go Go.RowKit

section
variable {P : Program} {w0 : World} {n : Nat} {ds : List Deferred} {fr : Fr} {L : List Asn} {dst : Option Nat} {ty : TypeId} {pos : String} {after : Array Edge} {gd : Option (Nat × Bool)}
theorem vq_indexStr {t : TypeId} {x i : Operand} {s : ByteArray} {q : IntKind} {I : Int} {b : UInt8} (hx : evA fr x = some (.string s)) (hi : evA fr i = some (.int q I)) [hu : UT P t .string] (h0 : 0 ≤ I) (hb : s[I.toNat]? = some b) : VQ P w0 n ⟨dst, .index t x i, ty, pos, after, gd⟩ (.int .u8 b.toNat) ds fr L :=
  vq_val (fun a w hk _ => by
    simp [execOp, hk.ev hx, hk.ev hi, Instr.index, asIntOf, Sem.run_bind, run_underlying hu.out, h0, hb])
end

def len8 (j : Nat) : Nat := if j = 0 then 0 else Nat.log2 j + 1
theorem tab_of {s : ByteArray} (h : (List.range 256).all (fun j => s[j]? == some (UInt8.ofNat (len8 j))) = true) (x : Nat) (hx : x < 256) : s[x]? = some (UInt8.ofNat (len8 x)) := by
  have := List.all_eq_true.1 h x (by simpa using hx)
  simpa using this
theorem len8_le (x : Nat) (hx : x < 256) : len8 x ≤ 8 := by
  have : (List.range 256).all (fun j => decide (len8 j ≤ 8)) = true := by kernel_rfl
  simpa using List.all_eq_true.1 this x (by simpa using hx)
theorem len8_byte (x : Nat) (hx : x < 256) : (UInt8.ofNat (len8 x)).toNat = len8 x := by
  have := len8_le x hx
  rw [UInt8.toNat_ofNat']; omega

theorem len8_vc (w0 : World) (L : List Asn) (x : Nat) (hx : x < 256) :
    VC Try.prog w0 84 [.int .u8 x] L fun v L' => v = .int .i64 (len8 x) ∧ L' = L := by
  have h8 := len8_le x hx
  refine vc_in rfl rfl ?_
  repeat' (first | (refine go1 ?_; intros) | (refine goCC ?_ ?_ <;> (intro hb; (try simp only [hSQ] at hb); try (exfalso; omega))) | fail)
  refine vl_id ?_
  refine vl_q rfl rfl rfl rfl (vq_indexStr (q := .u8) (I := (x : Int)) rfl rfl (by omega) (tab_of (by kernel_rfl) x hx)) ?_
  rw [len8_byte x hx]
  generalize len8 x = N at *
  repeat' (first | (refine go1 ?_; intros) | (refine goCC ?_ ?_ <;> (intro hb; (try simp only [hSQ] at hb); try (exfalso; omega))) | fail)
  exact ⟨rfl, rfl⟩
theorem lead8_vc (w0 : World) (L : List Asn) (x : Nat) (hx : x < 256) :
    VC Try.prog w0 78 [.int .u8 x] L fun v L' => v = .int .i64 (8 - len8 x : Nat) ∧ L' = L := by
  have h8 := len8_le x hx
  refine vc_in rfl rfl ?_
  repeat' (first | (refine go1 ?_; intros) | (refine goCC ?_ ?_ <;> (intro hb; (try simp only [hSQ] at hb); try (exfalso; omega))) | fail)
  refine clV ?_
  refine vc_mono (len8_vc w0 _ x hx) ?_
  rintro v L' ⟨rfl, rfl⟩
  generalize len8 x = N at *
  repeat' (first | (refine go1 ?_; intros) | (refine goCC ?_ ?_ <;> (intro hb; (try simp only [hSQ] at hb); try (exfalso; omega))) | fail)
  exact ⟨rfl, rfl⟩

theorem bitsV_xor {p q : Nat} (hp : p < 256) (hq : q < 256) : bitsV .xor .u8 (p : Int) (q : Int) = ((p ^^^ q : Nat) : Int) := by
  have hx : p ^^^ q < 256 := Nat.xor_lt_two_pow (n := 8) hp hq
  simp only [bitsV]
  have e1 : (BitVec.ofInt IntKind.u8.bits (p : Int)).toNat = p := by
    rw [BitVec.ofInt_natCast, BitVec.toNat_ofNat]; exact Nat.mod_eq_of_lt hp
  have e2 : (BitVec.ofInt IntKind.u8.bits (q : Int)).toNat = q := by
    rw [BitVec.ofInt_natCast, BitVec.toNat_ofNat]; exact Nat.mod_eq_of_lt hq
  rw [BitVec.toNat_xor, e1, e2]
  simp only [IntKind.wrap_u8]
  omega

theorem xor_zero_eq {p q : Nat} (h : p ^^^ q = 0) : p = q := by
  apply Nat.eq_of_testBit_eq
  intro i
  have := congrArg (fun x => x.testBit i) h
  simp only [Nat.testBit_xor, Nat.zero_testBit] at this
  revert this
  cases p.testBit i <;> cases q.testBit i <;> simp
theorem bits_xor (p q k : Nat) : p / 2 ^ k % 2 = q / 2 ^ k % 2 ↔ (p ^^^ q).testBit k = false := by
  rw [Nat.testBit_xor, Nat.testBit_eq_decide_div_mod_eq, Nat.testBit_eq_decide_div_mod_eq]
  rcases Nat.mod_two_eq_zero_or_one (p / 2 ^ k) with h | h <;> rcases Nat.mod_two_eq_zero_or_one (q / 2 ^ k) with h' | h' <;> simp [h, h']
theorem lead_bits (X : Nat) (hX : X < 256) (h0 : X ≠ 0) : 1 ≤ len8 X ∧ X.testBit (7 - (8 - len8 X)) = true ∧ ∀ m, m < 8 → m < 8 - len8 X → X.testBit (7 - m) = false := by
  have : (List.range 256).all (fun X => X == 0 || (decide (1 ≤ len8 X) && X.testBit (7 - (8 - len8 X)) && (List.range 8).all fun m => decide (8 - len8 X ≤ m) || !X.testBit (7 - m))) = true := by kernel_rfl
  have := List.all_eq_true.1 this X (by simpa using hX)
  simp only [Bool.or_eq_true, beq_iff_eq, h0, false_or, Bool.and_eq_true, decide_eq_true_eq, List.all_eq_true, List.mem_range, Bool.not_eq_true'] at this
  exact ⟨this.1.1, this.1.2, fun m hm hl => (this.2 m hm).resolve_left (by omega)⟩
theorem bitAt_eq {a b : List UInt8} {m : Nat} (h : a.getD (m / 8) 0 = b.getD (m / 8) 0) : bitAt a m = bitAt b m := by unfold bitAt; rw [h]
theorem isSh_of {a b : List UInt8} {i X : Nat} (hi : i < 32) (hp : ∀ j, j < i → a.getD j 0 = b.getD j 0) (hX : (a.getD i 0).toNat ^^^ (b.getD i 0).toNat = X) (hlx : X < 256) (hne : X ≠ 0) : IsSh a b (8 * i + (8 - len8 X)) := by
  obtain ⟨h1, h2, h3⟩ := lead_bits X hlx hne
  refine ⟨by omega, fun m hm => ?_, fun _ => ?_⟩
  · rcases Nat.lt_or_ge (m / 8) i with h | h
    · exact bitAt_eq (hp _ h)
    · have e : m / 8 = i := by omega
      unfold bitAt
      rw [e, bits_xor, hX]
      exact h3 (m % 8) (by omega) (by omega)
  · have e1 : (8 * i + (8 - len8 X)) / 8 = i := by omega
    have e2 : (8 * i + (8 - len8 X)) % 8 = 8 - len8 X := by omega
    unfold bitAt
    rw [e1, e2, Ne, bits_xor, hX, h2]
    simp
theorem isSh_all {a b : List UInt8} (hp : ∀ j, j < 32 → a.getD j 0 = b.getD j 0) : IsSh a b 256 := ⟨by omega, fun m hm => bitAt_eq (hp _ (by omega)), fun h => absurd h (by omega)⟩

theorem apart_vc (w0 : World) (L : List Asn) (a b : List UInt8) :
    VC Try.prog w0 77 [.agg (bvs a).toArray, .agg (bvs b).toArray] L fun v L' => ∃ g h, v = .func (.func 83) #[] #[.pointer (some ⟨g, 0, none⟩), .pointer (some ⟨h, 0, none⟩)] ∧ L' = blk h 24 (bvs b) :: blk g 24 (bvs a) :: L := by
  refine vc_in rfl rfl ?_
  repeat' (first | (refine go1 ?_; intros) | (refine goCC ?_ ?_ <;> (intro hb; (try simp only [hSQ] at hb); try (exfalso; omega))) | fail)
  exact ⟨_, _, rfl, rfl⟩

theorem shp_vc (w0 : World) (L : List Asn) (a b : List UInt8) (hla : a.length = 32) (hlb : b.length = 32) :
    VC Try.prog w0 64 [.agg (bvs a).toArray, .agg (bvs b).toArray] L fun v L' => ∃ n : Nat, IsSh a b n ∧ v = .int .i64 n ∧ L' = L := by
  refine vc_ent ?_
  refine vc_in rfl rfl ?_
  repeat' (first | (refine go1 ?_; intros) | (refine goCC ?_ ?_ <;> (intro hb; (try simp only [hSQ] at hb); try (exfalso; omega))) | fail)
  refine clV ?_
  refine vc_mono (apart_vc w0 _ a b) ?_
  rintro v L' ⟨ga, gb, rfl, rfl⟩
  repeat' (first | (refine go1 ?_; intros) | (refine goCC ?_ ?_ <;> (intro hb; (try simp only [hSQ] at hb); try (exfalso; omega))) | fail)
  refine v_range rfl (fun lp D => ?_)
  refine vc_in rfl rfl ?_
  repeat' (first | (refine go1 ?_; intros) | (refine goCC ?_ ?_ <;> (intro hb; (try simp only [hSQ] at hb); try (exfalso; omega))) | fail)
  refine v_loopS Nat [0, 1, 2] rfl (fun i => [(6, .int .i64 i)]) (fun i => i ≤ 32 ∧ ∀ j, j < i → a.getD j 0 = b.getD j 0) (fun i => 32 - i) 0 ⟨by omega, by omega⟩ (by (exact sbS)) (fun i ⟨hi, hp⟩ => ?_)
  by_cases hlt : i < 32
  · have hga : (bvs a)[0 + i]? = some (.int .u8 (a.getD i 0).toNat) := by rw [Nat.zero_add, getD_get a i (by omega)]; exact bvs_at a i (by omega)
    have hgb : (bvs b)[0 + i]? = some (.int .u8 (b.getD i 0).toNat) := by rw [Nat.zero_add, getD_get b i (by omega)]; exact bvs_at b i (by omega)
    have hx := bitsV_xor (a.getD i 0).toNat_lt (b.getD i 0).toNat_lt
    repeat' (first | (refine go1 ?_; intros) | (refine goCC ?_ ?_ <;> (intro hb; (try simp only [hSQ] at hb); try (exfalso; omega))) | fail)
    (refine v_draw0 [] (by kernel_rfl) ?_ <;> (refine tA 0 ?_) <;> (refine tA 1 ?_) <;> (refine tA 2 ?_) <;> (refine tA 3 ?_) <;> (refine tA 4 ?_) <;> (refine tA 5 ?_) <;> (refine tA 6 ?_) <;> (refine tA 7 ?_) <;> (refine va_done (by kernel_rfl) ?_))
    rw [hx]
    by_cases heq : a.getD i 0 = b.getD i 0
    · rw [heq, Nat.xor_self]
      repeat' (first | (refine go1 ?_; intros) | (refine goCC ?_ ?_ <;> (intro hb; (try simp only [hSQ] at hb); try (exfalso; omega))) | fail)
      refine ⟨rfl, i + 1, ⟨by omega, fun j hj => ?_⟩, by omega, ?_, Ent.refl _ _⟩
      · rcases Nat.lt_or_ge j i with h | h
        · exact hp j h
        · obtain rfl : j = i := by omega
          exact heq
      · (exact sbS)
    · have hne : (a.getD i 0).toNat ^^^ (b.getD i 0).toNat ≠ 0 := by
        intro e
        exact heq (UInt8.toNat_inj.1 (xor_zero_eq e))
      have hlx : (a.getD i 0).toNat ^^^ (b.getD i 0).toNat < 256 := Nat.xor_lt_two_pow (n := 8) (a.getD i 0).toNat_lt (b.getD i 0).toNat_lt
      generalize hX : (a.getD i 0).toNat ^^^ (b.getD i 0).toNat = X at hne hlx ⊢
      clear hx
      repeat' (first | (refine go1 ?_; intros) | (refine goCC ?_ ?_ <;> (intro hb; (try simp only [hSQ] at hb); try (exfalso; omega))) | fail)
      refine clV ?_
      refine vc_mono (lead8_vc w0 _ X hlx) ?_
      rintro v L' ⟨rfl, rfl⟩
      have hl8 := len8_le X hlx
      repeat' (first | (refine go1 ?_; intros) | (refine goCC ?_ ?_ <;> (intro hb; (try simp only [hSQ] at hb); try (exfalso; omega))) | fail)
      exact ⟨_, (se_app [_, _, _, _, _, _, _] L).ent w0, _, isSh_of hlt hp hX hlx hne, rfl, rfl⟩
  · repeat' (first | (refine go1 ?_; intros) | (refine goCC ?_ ?_ <;> (intro hb; (try simp only [hSQ] at hb); try (exfalso; omega))) | fail)
    exact ⟨_, (se_app [_, _, _, _, _, _, _] L).ent w0, 256, isSh_all (fun j hj => hp j (by omega)), rfl, rfl⟩
end Go.Proofs.Ytgffejpcldeklaa
namespace Go.Proofs.Ytgffejpcldeklaa
open Go Go.RowKit

section
variable {P : Program} {w0 : World} {n : Nat} {ds : List Deferred} {fr : Fr} {L : List Asn} {dst : Option Nat} {ty : TypeId} {pos : String} {after : Array Edge} {gd : Option (Nat × Bool)}
theorem vq_buildS {t : TypeId} {i size bytes : Nat} {y : Operand} {z : List Value} {pl : List (Nat × Nat)} {v : Value} {vs us : List Value} (hx : evA fr y = some v) [ht : TyI P t true size bytes z] [hf : FlI P t pl] (hc : cellsO v = some vs) (hok : okS pl size (i, vs)) (hus : fillS pl z [(i, vs)] = us) : VQ P w0 n ⟨dst, .build t #[(i, y)], ty, pos, after, gd⟩ (.agg us.toArray) ds fr L :=
  vq_val (fun a w hk hs => run_build t #[(i, y)] rfl ht hf [(i, vs)] (by simp [hk.ev hx, cellsO_spec hc]) (by simpa using hok) us hus)
end

/-- A value may stand in a proof. -/
def okVal (n : Nat) : Bool := decide (1 ≤ n ∧ n ≤ 64)

theorem val5_vc (w0 : World) (L : List Asn) (a : Option Addr) (n cap : Nat) (hn : n ≤ 9223372036854775807) :
    VC Try.prog w0 73 [.slice a n cap] L fun v L' => v = .bool (okVal n) ∧ L' = L := by
  refine vc_in rfl rfl ?_
  repeat' (first | (refine go1 ?_; intros) | (refine goCC ?_ ?_ <;> (intro hb; (try simp only [hSQ] at hb); try (exfalso; omega))) | fail)
  all_goals refine ⟨congrArg Value.bool ?_, rfl⟩
  all_goals first | exact decide_eq_decide.2 (by omega) | exact (decide_eq_false (by omega)).symm
theorem pval_vc (w0 : World) (L : List Asn) (a : Option Addr) (n cap : Nat) (hn : n ≤ 9223372036854775807) :
    VC Try.prog w0 81 [.slice a n cap] L fun v L' => v = .bool (okVal n) ∧ L' = L := by
  refine vc_in rfl rfl ?_
  repeat' (first | (refine go1 ?_; intros) | (refine goCC ?_ ?_ <;> (intro hb; (try simp only [hSQ] at hb); try (exfalso; omega))) | fail)
  all_goals refine ⟨congrArg Value.bool ?_, rfl⟩
  all_goals first | exact decide_eq_decide.2 (by omega) | exact (decide_eq_false (by omega)).symm

theorem pck_vc (w0 : World) (L : List Asn) (g : Nat) (a : Option Addr) (n cap : Nat) (hn : n ≤ 9223372036854775807) :
    VC Try.prog w0 76 [.slice (some ⟨g, 0, none⟩) 1 1] (own 132 33 (some ⟨g, 0, none⟩) 1 1 (bvs (List.replicate 32 0) ++ [.slice a n cap] ++ []) :: L) fun v L' => v = .int .i64 (if okVal n then 0 else 8) ∧ L' = L := by
  refine vc_ent ?_
  refine vc_in rfl rfl ?_
  repeat' (first | (refine go1 ?_; intros) | (refine goCC ?_ ?_ <;> (intro hb; (try simp only [hSQ] at hb); try (exfalso; omega))) | fail)
  refine v_loopS Nat [0, 8, 9] rfl (fun i => [(10, .int .i64 i)]) (fun i => i ≤ 1 ∧ (i = 1 → okVal n = true)) (fun i => 1 - i) 0 ⟨by omega, by omega⟩ (by (exact sbS)) (fun i ⟨hi, hp⟩ => ?_)
  by_cases hlt : i < 1
  · obtain rfl : i = 0 := by omega
    have hu : ((bvs (List.replicate 32 0) ++ [Value.slice a n cap] ++ []).drop (0 * 33)).take 33 = bvs (List.replicate 32 0) ++ [Value.slice a n cap] := by simp [bvs]
    repeat' (first | (refine go1 ?_; intros) | (refine goCC ?_ ?_ <;> (intro hb; (try simp only [hSQ] at hb); try (exfalso; omega))) | fail)
    (refine v_draw0 [] (by kernel_rfl) ?_ <;> (refine tA 0 ?_) <;> (refine tA 1 ?_))
    first | refine va_one 2 (by kernel_rfl) rfl rfl (vo_call rfl rfl ?_) | refine va_one 2 (by kernel_rfl) rfl rfl (vo_callV rfl rfl rfl ?_)
    refine vc_mono (pval_vc w0 _ a n cap hn) ?_
    rintro v L' ⟨rfl, rfl⟩
    refine ⟨.inr entD, ?_⟩
    cases hv : okVal n
    · ((refine tA 3 ?_) <;> (refine tA 4 ?_) <;> (first | refine tG 5 ?_ | (first | refine pG 5 ?_ | refine pU 5 ?_) | (refine va_caseG 5 rfl rfl rfl rfl rfl ?_ ?_ <;> (intro hb; (try simp only [hSQ] at hb); try (exfalso; omega)) <;> first | refine tG 5 ?_ | (first | refine pG 5 ?_ | refine pU 5 ?_))) <;> (first | refine tG 6 ?_ | (first | refine pG 6 ?_ | refine pU 6 ?_) | (refine va_caseG 6 rfl rfl rfl rfl rfl ?_ ?_ <;> (intro hb; (try simp only [hSQ] at hb); try (exfalso; omega)) <;> first | refine tG 6 ?_ | (first | refine pG 6 ?_ | refine pU 6 ?_))) <;> (first | refine tG 7 ?_ | (first | refine pG 7 ?_ | refine pU 7 ?_) | (refine va_caseG 7 rfl rfl rfl rfl rfl ?_ ?_ <;> (intro hb; (try simp only [hSQ] at hb); try (exfalso; omega)) <;> first | refine tG 7 ?_ | (first | refine pG 7 ?_ | refine pU 7 ?_))) <;> (first | refine tG 8 ?_ | (first | refine pG 8 ?_ | refine pU 8 ?_) | (refine va_caseG 8 rfl rfl rfl rfl rfl ?_ ?_ <;> (intro hb; (try simp only [hSQ] at hb); try (exfalso; omega)) <;> first | refine tG 8 ?_ | (first | refine pG 8 ?_ | refine pU 8 ?_))) <;> (first | refine tG 9 ?_ | (first | refine pG 9 ?_ | refine pU 9 ?_) | (refine va_caseG 9 rfl rfl rfl rfl rfl ?_ ?_ <;> (intro hb; (try simp only [hSQ] at hb); try (exfalso; omega)) <;> first | refine tG 9 ?_ | (first | refine pG 9 ?_ | refine pU 9 ?_))) <;> (first | refine tG 10 ?_ | (first | refine pG 10 ?_ | refine pU 10 ?_) | (refine va_caseG 10 rfl rfl rfl rfl rfl ?_ ?_ <;> (intro hb; (try simp only [hSQ] at hb); try (exfalso; omega)) <;> first | refine tG 10 ?_ | (first | refine pG 10 ?_ | refine pU 10 ?_))) <;> (first | refine tG 11 ?_ | (first | refine pG 11 ?_ | refine pU 11 ?_) | (refine va_caseG 11 rfl rfl rfl rfl rfl ?_ ?_ <;> (intro hb; (try simp only [hSQ] at hb); try (exfalso; omega)) <;> first | refine tG 11 ?_ | (first | refine pG 11 ?_ | refine pU 11 ?_))) <;> (first | refine tG 12 ?_ | (first | refine pG 12 ?_ | refine pU 12 ?_) | (refine va_caseG 12 rfl rfl rfl rfl rfl ?_ ?_ <;> (intro hb; (try simp only [hSQ] at hb); try (exfalso; omega)) <;> first | refine tG 12 ?_ | (first | refine pG 12 ?_ | refine pU 12 ?_))) <;> (first | refine tG 13 ?_ | (first | refine pG 13 ?_ | refine pU 13 ?_) | (refine va_caseG 13 rfl rfl rfl rfl rfl ?_ ?_ <;> (intro hb; (try simp only [hSQ] at hb); try (exfalso; omega)) <;> first | refine tG 13 ?_ | (first | refine pG 13 ?_ | refine pU 13 ?_))) <;> (first | refine tG 14 ?_ | (first | refine pG 14 ?_ | refine pU 14 ?_) | (refine va_caseG 14 rfl rfl rfl rfl rfl ?_ ?_ <;> (intro hb; (try simp only [hSQ] at hb); try (exfalso; omega)) <;> first | refine tG 14 ?_ | (first | refine pG 14 ?_ | refine pU 14 ?_))) <;> (first | refine tG 15 ?_ | (first | refine pG 15 ?_ | refine pU 15 ?_) | (refine va_caseG 15 rfl rfl rfl rfl rfl ?_ ?_ <;> (intro hb; (try simp only [hSQ] at hb); try (exfalso; omega)) <;> first | refine tG 15 ?_ | (first | refine pG 15 ?_ | refine pU 15 ?_))))
      refine pU 16 ?_
      ((first | refine tG 17 ?_ | (first | refine pG 17 ?_ | refine pU 17 ?_) | (refine va_caseG 17 rfl rfl rfl rfl rfl ?_ ?_ <;> (intro hb; (try simp only [hSQ] at hb); try (exfalso; omega)) <;> first | refine tG 17 ?_ | (first | refine pG 17 ?_ | refine pU 17 ?_))) <;> (first | refine tG 18 ?_ | (first | refine pG 18 ?_ | refine pU 18 ?_) | (refine va_caseG 18 rfl rfl rfl rfl rfl ?_ ?_ <;> (intro hb; (try simp only [hSQ] at hb); try (exfalso; omega)) <;> first | refine tG 18 ?_ | (first | refine pG 18 ?_ | refine pU 18 ?_))) <;> (refine tA 19 ?_) <;> (refine va_done (by kernel_rfl) ?_))
      repeat' (first | (refine go1 ?_; intros) | (refine goCC ?_ ?_ <;> (intro hb; (try simp only [hSQ] at hb); try (exfalso; omega))) | fail)
      exact ⟨_, ((se_drop _ _).trans (se_drop _ _)).ent w0, rfl, rfl⟩
    · ((refine tA 3 ?_) <;> (refine tA 4 ?_) <;> (first | refine tG 5 ?_ | refine pG 5 ?_ | (refine va_caseG 5 rfl rfl rfl rfl rfl ?_ ?_ <;> (intro hb; (try simp only [hSQ] at hb); try (exfalso; omega)) <;> first | refine tG 5 ?_ | refine pG 5 ?_)) <;> (first | refine tG 6 ?_ | refine pG 6 ?_ | (refine va_caseG 6 rfl rfl rfl rfl rfl ?_ ?_ <;> (intro hb; (try simp only [hSQ] at hb); try (exfalso; omega)) <;> first | refine tG 6 ?_ | refine pG 6 ?_)) <;> (first | refine tG 7 ?_ | refine pG 7 ?_ | (refine va_caseG 7 rfl rfl rfl rfl rfl ?_ ?_ <;> (intro hb; (try simp only [hSQ] at hb); try (exfalso; omega)) <;> first | refine tG 7 ?_ | refine pG 7 ?_)) <;> (first | refine tG 8 ?_ | refine pG 8 ?_ | (refine va_caseG 8 rfl rfl rfl rfl rfl ?_ ?_ <;> (intro hb; (try simp only [hSQ] at hb); try (exfalso; omega)) <;> first | refine tG 8 ?_ | refine pG 8 ?_)) <;> (first | refine tG 9 ?_ | refine pG 9 ?_ | (refine va_caseG 9 rfl rfl rfl rfl rfl ?_ ?_ <;> (intro hb; (try simp only [hSQ] at hb); try (exfalso; omega)) <;> first | refine tG 9 ?_ | refine pG 9 ?_)) <;> (first | refine tG 10 ?_ | refine pG 10 ?_ | (refine va_caseG 10 rfl rfl rfl rfl rfl ?_ ?_ <;> (intro hb; (try simp only [hSQ] at hb); try (exfalso; omega)) <;> first | refine tG 10 ?_ | refine pG 10 ?_)) <;> (first | refine tG 11 ?_ | refine pG 11 ?_ | (refine va_caseG 11 rfl rfl rfl rfl rfl ?_ ?_ <;> (intro hb; (try simp only [hSQ] at hb); try (exfalso; omega)) <;> first | refine tG 11 ?_ | refine pG 11 ?_)) <;> (first | refine tG 12 ?_ | refine pG 12 ?_ | (refine va_caseG 12 rfl rfl rfl rfl rfl ?_ ?_ <;> (intro hb; (try simp only [hSQ] at hb); try (exfalso; omega)) <;> first | refine tG 12 ?_ | refine pG 12 ?_)) <;> (first | refine tG 13 ?_ | refine pG 13 ?_ | (refine va_caseG 13 rfl rfl rfl rfl rfl ?_ ?_ <;> (intro hb; (try simp only [hSQ] at hb); try (exfalso; omega)) <;> first | refine tG 13 ?_ | refine pG 13 ?_)) <;> (first | refine tG 14 ?_ | refine pG 14 ?_ | (refine va_caseG 14 rfl rfl rfl rfl rfl ?_ ?_ <;> (intro hb; (try simp only [hSQ] at hb); try (exfalso; omega)) <;> first | refine tG 14 ?_ | refine pG 14 ?_)) <;> (first | refine tG 15 ?_ | refine pG 15 ?_ | (refine va_caseG 15 rfl rfl rfl rfl rfl ?_ ?_ <;> (intro hb; (try simp only [hSQ] at hb); try (exfalso; omega)) <;> first | refine tG 15 ?_ | refine pG 15 ?_)))
      refine pG 16 ?_
      ((first | refine tG 17 ?_ | refine pG 17 ?_ | (refine va_caseG 17 rfl rfl rfl rfl rfl ?_ ?_ <;> (intro hb; (try simp only [hSQ] at hb); try (exfalso; omega)) <;> first | refine tG 17 ?_ | refine pG 17 ?_)) <;> (first | refine tG 18 ?_ | refine pG 18 ?_ | (refine va_caseG 18 rfl rfl rfl rfl rfl ?_ ?_ <;> (intro hb; (try simp only [hSQ] at hb); try (exfalso; omega)) <;> first | refine tG 18 ?_ | refine pG 18 ?_)) <;> (refine tA 19 ?_) <;> (refine va_done (by kernel_rfl) ?_))
      repeat' (first | (refine go1 ?_; intros) | (refine goCC ?_ ?_ <;> (intro hb; (try simp only [hSQ] at hb); try (exfalso; omega))) | fail)
      refine ⟨rfl, 1, ⟨by omega, fun _ => rfl⟩, by omega, ?_, (se_drop _ _).ent w0⟩
      (exact sbS)
  · obtain rfl : i = 1 := by omega
    repeat' (first | (refine go1 ?_; intros) | (refine goCC ?_ ?_ <;> (intro hb; (try simp only [hSQ] at hb); try (exfalso; omega))) | fail)
    rw [hp rfl]
    exact ⟨_, (se_drop _ _).ent w0, rfl, rfl⟩

theorem value_vc (w0 : World) (L : List Asn) (a : Option Addr) (n cap : Nat) (hn : n ≤ 9223372036854775807) :
    VC Try.prog w0 63 [.slice a n cap] L fun v L' => v = .bool (okVal n) ∧ L' = L := by
  refine vc_ent ?_
  refine vc_in rfl rfl ?_
  repeat' (first | (refine goB ?_; intros) | (refine goCC ?_ ?_ <;> (intro hb; (try simp only [hSQ] at hb); try (exfalso; omega))) | fail)
  refine vl_id ?_
  refine vl_q rfl rfl rfl rfl (vq_buildS (us := bvs (List.replicate 32 0) ++ [.slice a n cap]) rfl rfl ⟨by simp, by simp, by simp⟩ rfl) ?_
  repeat' (first | (refine go1 ?_; intros) | (refine goCC ?_ ?_ <;> (intro hb; (try simp only [hSQ] at hb); try (exfalso; omega))) | fail)
  refine clV ?_
  refine vc_mono (pck_vc w0 _ _ a n cap hn) ?_
  rintro v L' ⟨rfl, rfl⟩
  repeat' (first | (refine go1 ?_; intros) | (refine goCC ?_ ?_ <;> (intro hb; (try simp only [hSQ] at hb); try (exfalso; omega))) | fail)
  exact ⟨_, Ent.refl _ _, by cases okVal n <;> rfl, rfl⟩
end Go.Proofs.Ytgffejpcldeklaa
namespace Go.Proofs.Ytgffejpcldeklaa
open Go Go.RowKit

/-- Digests, one behind another. -/
def Dg (xs : List (List UInt8)) : Prop := ∀ x ∈ xs, x.length = 32
theorem Dg.len : ∀ {xs : List (List UInt8)}, Dg xs → xs.flatten.length = xs.length * 32
  | [], _ => rfl
  | x :: xs, h => by
    have := Dg.len (xs := xs) (fun y hy => h y (by simp [hy]))
    have hx := h x (by simp)
    simp [this, hx]; omega
theorem Dg.at : ∀ {xs : List (List UInt8)}, Dg xs → ∀ (k : Nat) (hk : k < xs.length), (xs.flatten.drop (k * 32)).take 32 = xs[k]
  | [], _, _, hk => by simp at hk
  | x :: xs, h, 0, _ => by
    have hx := h x (by simp)
    simp [List.take_append, hx]
  | x :: xs, h, k + 1, hk => by
    have hx := h x (by simp)
    have := Dg.at (xs := xs) (fun y hy => h y (by simp [hy])) k (by simpa using hk)
    have e : (k + 1) * 32 = x.length + k * 32 := by omega
    rw [List.flatten_cons, e, ← List.drop_drop, List.drop_left, this]
    rfl
theorem Dg.bat {xs : List (List UInt8)} (h : Dg xs) (k : Nat) (hk : k < xs.length) : ((bvs xs.flatten).drop (k * 32)).take 32 = bvs xs[k] := by
  rw [bvs_drop, bvs_take, h.at k hk]

theorem sameD_vc (w0 : World) (L : List Asn) (a : Option Addr) (cap : Nat) (xs : List (List UInt8)) (b : Option Addr) (cb : Nat) (ys : List (List UInt8)) {n m : Nat} (hn : n = xs.length) (hm : m = ys.length) (hdx : Dg xs) (hdy : Dg ys) (hl : xs.length ≤ 1000000000000) [hr : RdC w0 L a (bvs xs.flatten)] [hs : RdC w0 L b (bvs ys.flatten)] :
    VC Try.prog w0 66 [.slice a n cap, .slice b m cb] L fun v L' => v = .bool (decide (xs = ys)) ∧ L' = L := by
  subst hn; subst hm
  refine vc_in rfl rfl ?_
  repeat' (first | (refine go1 ?_; intros) | (refine goCC ?_ ?_ <;> (intro hb; (try simp only [hSQ] at hb); try (exfalso; omega))) | fail)
  · exact ⟨by rw [decide_eq_false]; intro e; have := congrArg List.length e; omega, rfl⟩
  have hlen : xs.length = ys.length := by omega
  have hfx := hdx.len
  have hfy := hdy.len
  refine v_loopS Nat [0, 1] rfl (fun k => [(5, .int .i64 k)]) (fun k => k ≤ xs.length ∧ xs.take k = ys.take k) (fun k => xs.length - k) 0 ⟨Nat.zero_le _, rfl⟩ (by (exact sbS)) (fun k ⟨hk, heq⟩ => ?_)
  by_cases hlt : k < xs.length
  · have hlt' : k < ys.length := by omega
    have hgx := hdx.bat k hlt
    have hgy := hdy.bat k hlt'
    have hx32 := hdx _ (List.getElem_mem hlt)
    have hy32 := hdy _ (List.getElem_mem hlt')
    have hpx : 0 < xs.flatten.length := by omega
    have hpy : 0 < ys.flatten.length := by omega
    repeat' (first | (refine go1 ?_; intros) | (refine goCC ?_ ?_ <;> (intro hb; (try simp only [hSQ] at hb); try (exfalso; omega))) | fail)
    (refine v_draw0 [] (by kernel_rfl) ?_ <;> (refine tA 0 ?_) <;> (refine tA 1 ?_) <;> (refine tA 2 ?_) <;> (refine tA 3 ?_) <;> (refine tA 4 ?_) <;> (refine tA 5 ?_) <;> (refine tA 6 ?_) <;> (refine tA 7 ?_) <;> (refine tA 8 ?_) <;> (refine va_done (by kernel_rfl) ?_))
    repeat' (first | (refine go1 ?_; intros) | (refine goCC ?_ ?_ <;> (intro hb; (try simp only [hSQ] at hb); try (exfalso; omega))) | fail)
    · refine ⟨?_, rfl⟩
      rw [decide_eq_false]
      intro e
      exact hb (by simp [e])
    · refine ⟨rfl, k + 1, ⟨by omega, take_eq_step hlt hlt' heq hb⟩, by omega, ?_, Ent.refl _ _⟩
      (exact sbS)
  · obtain rfl : k = xs.length := by omega
    repeat' (first | (refine go1 ?_; intros) | (refine goCC ?_ ?_ <;> (intro hb; (try simp only [hSQ] at hb); try (exfalso; omega))) | fail)
    refine ⟨by rw [decide_eq_true]; rwa [List.take_of_length_le (by omega), List.take_of_length_le (by omega)] at heq, rfl⟩

theorem eqD_vc (w0 : World) (L : List Asn) (a : Option Addr) (cap : Nat) (xs : List (List UInt8)) (b : Option Addr) (cb : Nat) (ys : List (List UInt8)) {n m : Nat} (hn : n = xs.length) (hm : m = ys.length) (hdx : Dg xs) (hdy : Dg ys) (hl : xs.length ≤ 1000000000000) [hr : RdC w0 L a (bvs xs.flatten)] [hs : RdC w0 L b (bvs ys.flatten)] :
    VC Try.prog w0 68 [.slice a n cap, .slice b m cb] L fun v L' => v = .bool (decide (xs = ys)) ∧ L' = L := by
  subst hn; subst hm
  refine vc_in rfl rfl ?_
  repeat' (first | (refine go1 ?_; intros) | (refine goCC ?_ ?_ <;> (intro hb; (try simp only [hSQ] at hb); try (exfalso; omega))) | fail)
  · exact ⟨by rw [decide_eq_false]; intro e; have := congrArg List.length e; omega, rfl⟩
  have hlen : xs.length = ys.length := by omega
  have hfx := hdx.len
  have hfy := hdy.len
  refine v_loopS Nat [0, 1, 12] rfl (fun k => [(13, .int .i64 k)]) (fun k => k ≤ xs.length ∧ xs.take k = ys.take k) (fun k => xs.length - k) 0 ⟨Nat.zero_le _, rfl⟩ (by (exact sbS)) (fun k ⟨hk, heq⟩ => ?_)
  by_cases hlt : k < xs.length
  · have hlt' : k < ys.length := by omega
    have hgx := hdx.bat k hlt
    have hgy := hdy.bat k hlt'
    have hx32 := hdx _ (List.getElem_mem hlt)
    have hy32 := hdy _ (List.getElem_mem hlt')
    have hpx : 0 < xs.flatten.length := by omega
    have hpy : 0 < ys.flatten.length := by omega
    repeat' (first | (refine go1 ?_; intros) | (refine goCC ?_ ?_ <;> (intro hb; (try simp only [hSQ] at hb); try (exfalso; omega))) | fail)
    (refine v_draw0 [] (by kernel_rfl) ?_ <;> (refine tA 0 ?_) <;> (refine tA 1 ?_) <;> (refine tA 2 ?_) <;> (refine tA 3 ?_) <;> (refine tA 4 ?_) <;> (refine tA 5 ?_) <;> (refine tA 6 ?_) <;> (refine tA 7 ?_) <;> (refine tA 8 ?_) <;> (refine va_done (by kernel_rfl) ?_))
    repeat' (first | (refine go1 ?_; intros) | (refine goCC ?_ ?_ <;> (intro hb; (try simp only [hSQ] at hb); try (exfalso; omega))) | fail)
    · refine ⟨?_, rfl⟩
      rw [decide_eq_false]
      intro e
      exact hb (by simp [e])
    · refine ⟨rfl, k + 1, ⟨by omega, take_eq_step hlt hlt' heq hb⟩, by omega, ?_, Ent.refl _ _⟩
      (exact sbS)
  · obtain rfl : k = xs.length := by omega
    repeat' (first | (refine go1 ?_; intros) | (refine goCC ?_ ?_ <;> (intro hb; (try simp only [hSQ] at hb); try (exfalso; omega))) | fail)
    refine ⟨by rw [decide_eq_true]; rwa [List.take_of_length_le (by omega), List.take_of_length_le (by omega)] at heq, rfl⟩
end Go.Proofs.Ytgffejpcldeklaa
namespace Go.Proofs.Ytgffejpcldeklaa
open Go Go.RowKit

/-- One key is ahead of another one: at the first bit that is not the same, it has 0. -/
def Ahd (a b : List UInt8) : Prop := ∃ n, n < 256 ∧ (∀ m, m < n → bitAt a m = bitAt b m) ∧ bitAt a n < bitAt b n
theorem Ahd.irrefl (a : List UInt8) : ¬ Ahd a a := fun ⟨_, _, _, h⟩ => Nat.lt_irrefl _ h
theorem Ahd.trans {a b c : List UInt8} (h : Ahd a b) (k : Ahd b c) : Ahd a c := by
  obtain ⟨n, hn, h1, h2⟩ := h
  obtain ⟨m, hm, k1, k2⟩ := k
  rcases Nat.lt_trichotomy n m with e | e | e
  · exact ⟨n, hn, fun i hi => (h1 i hi).trans (k1 i (by omega)), by rw [← k1 n e]; exact h2⟩
  · subst e; exact ⟨n, hn, fun i hi => (h1 i hi).trans (k1 i hi), by omega⟩
  · exact ⟨m, hm, fun i hi => (h1 i (by omega)).trans (k1 i hi), by rw [h1 m e]; exact k2⟩
theorem Ahd.ne {a b : List UInt8} (h : Ahd a b) : a ≠ b := fun e => by subst e; exact Ahd.irrefl _ h
theorem Ahd.of_sh {a b : List UInt8} {n : Nat} (h : IsSh a b n) : Ahd a b ↔ n < 256 ∧ bitAt a n < bitAt b n := by
  refine ⟨fun ⟨m, hm, h1, h2⟩ => ?_, fun ⟨h1, h2⟩ => ⟨n, h1, h.2.1, h2⟩⟩
  have : m = n := IsSh.uniq ⟨by omega, h1, fun _ e => by omega⟩ h
  subst this
  exact ⟨hm, h2⟩
theorem isSh_ex (a b : List UInt8) : ∃ n, IsSh a b n := by
  have : ∀ k, k ≤ 256 → (∃ n, IsSh a b n) ∨ ∀ m, m < k → bitAt a m = bitAt b m := by
    intro k
    induction k with
    | zero => exact fun _ => .inr fun m hm => by omega
    | succ k ih =>
      intro hk
      rcases ih (by omega) with h | h
      · exact .inl h
      · by_cases e : bitAt a k = bitAt b k
        · refine .inr fun m hm => ?_
          rcases Nat.lt_or_ge m k with h' | h'
          · exact h m h'
          · obtain rfl : m = k := by omega
            exact e
        · exact .inl ⟨k, by omega, h, fun _ => e⟩
  rcases this 256 (Nat.le_refl _) with h | h
  · exact h
  · exact ⟨256, Nat.le_refl _, h, fun h => absurd h (by decide)⟩
theorem byte_bits {p q : Nat} (hp : p < 256) (hq : q < 256) (h : ∀ k, k < 8 → p / 2 ^ k % 2 = q / 2 ^ k % 2) : p = q := by
  apply Nat.eq_of_testBit_eq
  intro i
  rcases Nat.lt_or_ge i 8 with hi | hi
  · rw [Nat.testBit_eq_decide_div_mod_eq, Nat.testBit_eq_decide_div_mod_eq, h i hi]
  · have h2 : 256 ≤ 2 ^ i := by
      calc 256 = 2 ^ 8 := rfl
        _ ≤ 2 ^ i := Nat.pow_le_pow_right (by decide) hi
    rw [Nat.testBit_lt_two_pow (by omega), Nat.testBit_lt_two_pow (by omega)]
theorem bits_ext {a b : List UInt8} (ha : a.length = 32) (hb : b.length = 32) (h : ∀ m, m < 256 → bitAt a m = bitAt b m) : a = b := by
  apply List.ext_getElem (by omega)
  intro i h1 h2
  have e1 := getD_get a i h1
  have e2 := getD_get b i h2
  apply UInt8.toNat_inj.1
  refine byte_bits a[i].toNat_lt b[i].toNat_lt fun k hk => ?_
  have := h (8 * i + (7 - k)) (by omega)
  unfold bitAt at this
  rw [show (8 * i + (7 - k)) / 8 = i by omega, show (8 * i + (7 - k)) % 8 = 7 - k by omega, e1, e2, show 7 - (7 - k) = k by omega] at this
  exact this
theorem Ahd.tri {a b : List UInt8} (ha : a.length = 32) (hb : b.length = 32) : Ahd a b ∨ a = b ∨ Ahd b a := by
  obtain ⟨n, h⟩ := isSh_ex a b
  by_cases hn : n < 256
  · have := h.2.2 hn
    rcases Nat.lt_or_gt_of_ne this with e | e
    · exact .inl ⟨n, hn, h.2.1, e⟩
    · exact .inr (.inr ⟨n, hn, fun m hm => (h.2.1 m hm).symm, e⟩)
  · exact .inr (.inl (bits_ext ha hb fun m hm => h.2.1 m (by have := h.1; omega)))
theorem IsSh.all {a b : List UInt8} (ha : a.length = 32) (hb : b.length = 32) (h : IsSh a b 256) : a = b := bits_ext ha hb fun m hm => h.2.1 m hm
/-- Of what shares so many bits, the one ahead has 0 at the next one, if the other one has. -/
theorem Ahd.mono {a b : List UInt8} (h : Ahd a b) {d : Nat} (hs : ∀ m, m < d → bitAt a m = bitAt b m) : bitAt a d ≤ bitAt b d := by
  obtain ⟨n, hn, h1, h2⟩ := h
  rcases Nat.lt_trichotomy n d with e | e | e
  · rw [hs n e] at h2; omega
  · subst e; omega
  · rw [h1 d e]; exact Nat.le_refl _
theorem Ahd.of_same {a b : List UInt8} (hp : ∀ j, j < 32 → a.getD j 0 = b.getD j 0) : ¬ Ahd a b := by
  rw [Ahd.of_sh (isSh_all hp)]; omega
end Go.Proofs.Ytgffejpcldeklaa

/-
  The bits of a key; how many of them two keys share. How many bits two keys share: the reference's count. How many bits two keys share: the program's count. Values: lengths 1 to 64. Lists of digests. Keys: which is ahead; the bits by which it is so.
-/
import Derived.Test.YtbgokghmedmhaaaDoorGC
import Derived.KernelRfl
import Derived.Test.YtbgokghmedmhaaaDoorGF
set_option linter.unusedVariables false
set_option linter.unusedSimpArgs false
namespace Go.Proofs.YtbgokghmedmhaaaDoor
open Go Go.RowKit
set_option linter.unusedVariables false
set_option linter.unusedSimpArgs false

/-- Bit i of bytes, the highest of a byte first. -/
def bitAt (k : List UInt8) (i : Nat) : Nat := (k.getD (i / 8) 0).toNat / 2 ^ (7 - i % 8) % 2
theorem getD_get (k : List UInt8) (j : Nat) (h : j < k.length) : k.getD j 0 = k[j] := by simp [List.getD, h]

end Go.Proofs.YtbgokghmedmhaaaDoor
namespace Go.Proofs.YtbgokghmedmhaaaDoor
open Go Go.RowKit
set_option linter.unusedVariables false
set_option linter.unusedSimpArgs false

/-- n bits are shared. -/
def IsSh (a b : List UInt8) (n : Nat) : Prop := n ≤ 256 ∧ (∀ m, m < n → bitAt a m = bitAt b m) ∧ (n < 256 → bitAt a n ≠ bitAt b n)
theorem IsSh.uniq {a b : List UInt8} {n m : Nat} (h : IsSh a b n) (k : IsSh a b m) : n = m := by
  rcases Nat.lt_trichotomy n m with e | e | e
  · exact absurd (k.2.1 n e) (h.2.2 (by have := k.1; omega))
  · exact e
  · exact absurd (h.2.1 m e) (k.2.2 (by have := h.1; omega))

end Go.Proofs.YtbgokghmedmhaaaDoor
namespace Go.Proofs.YtbgokghmedmhaaaDoor
open Go Go.RowKit
set_option linter.unusedVariables false
set_option linter.unusedSimpArgs false

section
variable {P : Program} {w0 : World} {n : Nat} {ds : List Deferred} {fr : Fr} {L : List Asn} {dst : Option Nat} {ty : TypeId} {pos : String} {after : Array Edge} {gd : Option (Nat × Bool)}
end

def len8 (j : Nat) : Nat := if j = 0 then 0 else Nat.log2 j + 1
theorem bitAt_eq {a b : List UInt8} {m : Nat} (h : a.getD (m / 8) 0 = b.getD (m / 8) 0) : bitAt a m = bitAt b m := by unfold bitAt; rw [h]
theorem isSh_all {a b : List UInt8} (hp : ∀ j, j < 32 → a.getD j 0 = b.getD j 0) : IsSh a b 256 := ⟨by omega, fun m hm => bitAt_eq (hp _ (by omega)), fun h => absurd h (by omega)⟩

end Go.Proofs.YtbgokghmedmhaaaDoor
namespace Go.Proofs.YtbgokghmedmhaaaDoor
open Go Go.RowKit
set_option linter.unusedVariables false
set_option linter.unusedSimpArgs false

section
variable {P : Program} {w0 : World} {n : Nat} {ds : List Deferred} {fr : Fr} {L : List Asn} {dst : Option Nat} {ty : TypeId} {pos : String} {after : Array Edge} {gd : Option (Nat × Bool)}
end

/-- A value may stand in a proof. -/
def okVal (n : Nat) : Bool := decide (1 ≤ n ∧ n ≤ 64)

end Go.Proofs.YtbgokghmedmhaaaDoor
namespace Go.Proofs.YtbgokghmedmhaaaDoor
open Go Go.RowKit
set_option linter.unusedVariables false
set_option linter.unusedSimpArgs false

/-- Digests, one behind another. -/
def Dg (xs : List (List UInt8)) : Prop := ∀ x ∈ xs, x.length = 32
theorem Dg.len : ∀ {xs : List (List UInt8)}, Dg xs → xs.flatten.length = xs.length * 32
  | [], _ => rfl
  | x :: xs, h => by
    have := Dg.len (xs := xs) (fun y hy => h y (by simp [hy]))
    have hx := h x (by simp)
    simp [this, hx]; omega
theorem Dg.at : ∀ {xs : List (List UInt8)}, Dg xs → ∀ (k : Nat) (hk : k < xs.length), (xs.flatten.drop (k * 32)).take 32 = xs[k]
  | [], _, _, hk => by simp at hk
  | x :: xs, h, 0, _ => by
    have hx := h x (by simp)
    simp [List.take_append, hx]
  | x :: xs, h, k + 1, hk => by
    have hx := h x (by simp)
    have := Dg.at (xs := xs) (fun y hy => h y (by simp [hy])) k (by simpa using hk)
    have e : (k + 1) * 32 = x.length + k * 32 := by omega
    rw [List.flatten_cons, e, ← List.drop_drop, List.drop_left, this]
    rfl
theorem Dg.bat {xs : List (List UInt8)} (h : Dg xs) (k : Nat) (hk : k < xs.length) : ((bvs xs.flatten).drop (k * 32)).take 32 = bvs xs[k] := by
  rw [bvs_drop, bvs_take, h.at k hk]

set_option maxRecDepth 100000 in
set_option maxHeartbeats 1000000 in
theorem eqD_vc (w0 : World) (L : List Asn) (a : Option Addr) (cap : Nat) (xs : List (List UInt8)) (b : Option Addr) (cb : Nat) (ys : List (List UInt8)) {n m : Nat} (hn : n = xs.length) (hm : m = ys.length) (hdx : Dg xs) (hdy : Dg ys) (hl : xs.length ≤ 1000000000000) [hr : RdC w0 L a (bvs xs.flatten)] [hs : RdC w0 L b (bvs ys.flatten)] :
    VC Tryd.prog w0 173 [.slice a n cap, .slice b m cb] L fun v L' => v = .bool (decide (xs = ys)) ∧ L' = L := by
  subst hn; subst hm
  refine vc_in rfl rfl ?_
  repeat' (first | (refine go1 ?_; intros) | (refine vl_caseG rfl rfl rfl rfl ?_ ?_ <;> (intro hb; (try simp only [decide_eq_true_eq, decide_eq_false_iff_not, Bool.not_eq_true', Bool.not_eq_false', ne_eq, Decidable.not_not, Option.isNone_iff_eq_none, not_true_eq_false, not_false_eq_true] at hb); try (exfalso; omega))) | (refine v_cond rfl ?_ ?_ <;> (intro hb; (try simp only [decide_eq_true_eq, decide_eq_false_iff_not, Bool.not_eq_true', Bool.not_eq_false', ne_eq, Decidable.not_not, Option.isNone_iff_eq_none, not_true_eq_false, not_false_eq_true] at hb); try (exfalso; omega))) | fail)
  · exact ⟨by rw [decide_eq_false]; intro e; have := congrArg List.length e; omega, rfl⟩
  have hlen : xs.length = ys.length := by omega
  have hfx := hdx.len
  have hfy := hdy.len
  refine v_loopS Nat [0, 1, 12] rfl (fun k => [(13, .int .i64 k)]) (fun k => k ≤ xs.length ∧ xs.take k = ys.take k) (fun k => xs.length - k) 0 ⟨Nat.zero_le _, rfl⟩ (by (repeat' (first | exact Sub.nil _ | refine Sub.cons rfl rfl ?_ | refine Sub.cons rfl ?_ ?_))) (fun k ⟨hk, heq⟩ => ?_)
  by_cases hlt : k < xs.length
  · have hlt' : k < ys.length := by omega
    have hgx := hdx.bat k hlt
    have hgy := hdy.bat k hlt'
    have hx32 := hdx _ (List.getElem_mem hlt)
    have hy32 := hdy _ (List.getElem_mem hlt')
    have hpx : 0 < xs.flatten.length := by omega
    have hpy : 0 < ys.flatten.length := by omega
    repeat' (first | (refine go1 ?_; intros) | (refine vl_caseG rfl rfl rfl rfl ?_ ?_ <;> (intro hb; (try simp only [decide_eq_true_eq, decide_eq_false_iff_not, Bool.not_eq_true', Bool.not_eq_false', ne_eq, Decidable.not_not, Option.isNone_iff_eq_none, not_true_eq_false, not_false_eq_true] at hb); try (exfalso; omega))) | (refine v_cond rfl ?_ ?_ <;> (intro hb; (try simp only [decide_eq_true_eq, decide_eq_false_iff_not, Bool.not_eq_true', Bool.not_eq_false', ne_eq, Decidable.not_not, Option.isNone_iff_eq_none, not_true_eq_false, not_false_eq_true] at hb); try (exfalso; omega))) | fail)
    (refine v_draw0 [] (by kernel_rfl) ?_ <;> (refine va_takeA 0 rfl rfl rfl rfl ?_) <;> (refine va_takeA 1 rfl rfl rfl rfl ?_) <;> (refine va_takeA 2 rfl rfl rfl rfl ?_) <;> (refine va_takeA 3 rfl rfl rfl rfl ?_) <;> (refine va_takeA 4 rfl rfl rfl rfl ?_) <;> (refine va_takeA 5 rfl rfl rfl rfl ?_) <;> (refine va_takeA 6 rfl rfl rfl rfl ?_) <;> (refine va_takeA 7 rfl rfl rfl rfl ?_) <;> (refine va_takeA 8 rfl rfl rfl rfl ?_) <;> (refine va_done (by kernel_rfl) ?_))
    repeat' (first | (refine go1 ?_; intros) | (refine vl_caseG rfl rfl rfl rfl ?_ ?_ <;> (intro hb; (try simp only [decide_eq_true_eq, decide_eq_false_iff_not, Bool.not_eq_true', Bool.not_eq_false', ne_eq, Decidable.not_not, Option.isNone_iff_eq_none, not_true_eq_false, not_false_eq_true] at hb); try (exfalso; omega))) | (refine v_cond rfl ?_ ?_ <;> (intro hb; (try simp only [decide_eq_true_eq, decide_eq_false_iff_not, Bool.not_eq_true', Bool.not_eq_false', ne_eq, Decidable.not_not, Option.isNone_iff_eq_none, not_true_eq_false, not_false_eq_true] at hb); try (exfalso; omega))) | fail)
    · refine ⟨?_, rfl⟩
      rw [decide_eq_false]
      intro e
      exact hb (by simp [e])
    · refine ⟨rfl, k + 1, ⟨by omega, take_eq_step hlt hlt' heq hb⟩, by omega, ?_, Ent.refl _ _⟩
      (repeat' (first | exact Sub.nil _ | refine Sub.cons rfl rfl ?_ | refine Sub.cons rfl ?_ ?_))
  · obtain rfl : k = xs.length := by omega
    repeat' (first | (refine go1 ?_; intros) | (refine vl_caseG rfl rfl rfl rfl ?_ ?_ <;> (intro hb; (try simp only [decide_eq_true_eq, decide_eq_false_iff_not, Bool.not_eq_true', Bool.not_eq_false', ne_eq, Decidable.not_not, Option.isNone_iff_eq_none, not_true_eq_false, not_false_eq_true] at hb); try (exfalso; omega))) | (refine v_cond rfl ?_ ?_ <;> (intro hb; (try simp only [decide_eq_true_eq, decide_eq_false_iff_not, Bool.not_eq_true', Bool.not_eq_false', ne_eq, Decidable.not_not, Option.isNone_iff_eq_none, not_true_eq_false, not_false_eq_true] at hb); try (exfalso; omega))) | fail)
    refine ⟨by rw [decide_eq_true]; rwa [List.take_of_length_le (by omega), List.take_of_length_le (by omega)] at heq, rfl⟩
end Go.Proofs.YtbgokghmedmhaaaDoor
namespace Go.Proofs.YtbgokghmedmhaaaDoor
open Go Go.RowKit
set_option linter.unusedVariables false
set_option linter.unusedSimpArgs false

/-- One key is ahead of another one: at the first bit that is not the same, it has 0. -/
def Ahd (a b : List UInt8) : Prop := ∃ n, n < 256 ∧ (∀ m, m < n → bitAt a m = bitAt b m) ∧ bitAt a n < bitAt b n
theorem Ahd.irrefl (a : List UInt8) : ¬ Ahd a a := fun ⟨_, _, _, h⟩ => Nat.lt_irrefl _ h
theorem Ahd.trans {a b c : List UInt8} (h : Ahd a b) (k : Ahd b c) : Ahd a c := by
  obtain ⟨n, hn, h1, h2⟩ := h
  obtain ⟨m, hm, k1, k2⟩ := k
  rcases Nat.lt_trichotomy n m with e | e | e
  · exact ⟨n, hn, fun i hi => (h1 i hi).trans (k1 i (by omega)), by rw [← k1 n e]; exact h2⟩
  · subst e; exact ⟨n, hn, fun i hi => (h1 i hi).trans (k1 i hi), by omega⟩
  · exact ⟨m, hm, fun i hi => (h1 i (by omega)).trans (k1 i hi), by rw [h1 m e]; exact k2⟩
theorem Ahd.ne {a b : List UInt8} (h : Ahd a b) : a ≠ b := fun e => by subst e; exact Ahd.irrefl _ h
theorem bitAt_lt (k : List UInt8) (i : Nat) : bitAt k i < 2 := Nat.mod_lt _ (by decide)
theorem Ahd.of_sh {a b : List UInt8} {n : Nat} (h : IsSh a b n) : Ahd a b ↔ n < 256 ∧ bitAt a n < bitAt b n := by
  refine ⟨fun ⟨m, hm, h1, h2⟩ => ?_, fun ⟨h1, h2⟩ => ⟨n, h1, h.2.1, h2⟩⟩
  have : m = n := IsSh.uniq ⟨by omega, h1, fun _ e => by omega⟩ h
  subst this
  exact ⟨hm, h2⟩
theorem isSh_ex (a b : List UInt8) : ∃ n, IsSh a b n := by
  have : ∀ k, k ≤ 256 → (∃ n, IsSh a b n) ∨ ∀ m, m < k → bitAt a m = bitAt b m := by
    intro k
    induction k with
    | zero => exact fun _ => .inr fun m hm => by omega
    | succ k ih =>
      intro hk
      rcases ih (by omega) with h | h
      · exact .inl h
      · by_cases e : bitAt a k = bitAt b k
        · refine .inr fun m hm => ?_
          rcases Nat.lt_or_ge m k with h' | h'
          · exact h m h'
          · obtain rfl : m = k := by omega
            exact e
        · exact .inl ⟨k, by omega, h, fun _ => e⟩
  rcases this 256 (Nat.le_refl _) with h | h
  · exact h
  · exact ⟨256, Nat.le_refl _, h, fun h => absurd h (by decide)⟩
theorem byte_bits {p q : Nat} (hp : p < 256) (hq : q < 256) (h : ∀ k, k < 8 → p / 2 ^ k % 2 = q / 2 ^ k % 2) : p = q := by
  apply Nat.eq_of_testBit_eq
  intro i
  rcases Nat.lt_or_ge i 8 with hi | hi
  · rw [Nat.testBit_eq_decide_div_mod_eq, Nat.testBit_eq_decide_div_mod_eq, h i hi]
  · have h2 : 256 ≤ 2 ^ i := by
      calc 256 = 2 ^ 8 := rfl
        _ ≤ 2 ^ i := Nat.pow_le_pow_right (by decide) hi
    rw [Nat.testBit_lt_two_pow (by omega), Nat.testBit_lt_two_pow (by omega)]
theorem bits_ext {a b : List UInt8} (ha : a.length = 32) (hb : b.length = 32) (h : ∀ m, m < 256 → bitAt a m = bitAt b m) : a = b := by
  apply List.ext_getElem (by omega)
  intro i h1 h2
  have e1 := getD_get a i h1
  have e2 := getD_get b i h2
  apply UInt8.toNat_inj.1
  refine byte_bits a[i].toNat_lt b[i].toNat_lt fun k hk => ?_
  have := h (8 * i + (7 - k)) (by omega)
  unfold bitAt at this
  rw [show (8 * i + (7 - k)) / 8 = i by omega, show (8 * i + (7 - k)) % 8 = 7 - k by omega, e1, e2, show 7 - (7 - k) = k by omega] at this
  exact this
theorem Ahd.tri {a b : List UInt8} (ha : a.length = 32) (hb : b.length = 32) : Ahd a b ∨ a = b ∨ Ahd b a := by
  obtain ⟨n, h⟩ := isSh_ex a b
  by_cases hn : n < 256
  · have := h.2.2 hn
    rcases Nat.lt_or_gt_of_ne this with e | e
    · exact .inl ⟨n, hn, h.2.1, e⟩
    · exact .inr (.inr ⟨n, hn, fun m hm => (h.2.1 m hm).symm, e⟩)
  · exact .inr (.inl (bits_ext ha hb fun m hm => h.2.1 m (by have := h.1; omega)))
theorem IsSh.all {a b : List UInt8} (ha : a.length = 32) (hb : b.length = 32) (h : IsSh a b 256) : a = b := bits_ext ha hb fun m hm => h.2.1 m hm
/-- Of what shares so many bits, the one ahead has 0 at the next one, if the other one has. -/
theorem Ahd.mono {a b : List UInt8} (h : Ahd a b) {d : Nat} (hs : ∀ m, m < d → bitAt a m = bitAt b m) : bitAt a d ≤ bitAt b d := by
  obtain ⟨n, hn, h1, h2⟩ := h
  rcases Nat.lt_trichotomy n d with e | e | e
  · rw [hs n e] at h2; omega
  · subst e; omega
  · rw [h1 d e]; exact Nat.le_refl _
theorem Ahd.of_same {a b : List UInt8} (hp : ∀ j, j < 32 → a.getD j 0 = b.getD j 0) : ¬ Ahd a b := by
  rw [Ahd.of_sh (isSh_all hp)]; omega
end Go.Proofs.YtbgokghmedmhaaaDoor

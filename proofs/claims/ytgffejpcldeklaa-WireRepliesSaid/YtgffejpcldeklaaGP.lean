/-
  An account's bytes, in plain terms. Accounts of bytes (the program's).
-/
import Derived.Test.YtgffejpcldeklaaGC
import Derived.Test.YtgffejpcldeklaaGZC
import Derived.Test.YtgffejpcldeklaaGB
import Derived.Test.YtgffejpcldeklaaGK
set_option linter.unusedVariables false
set_option linter.unusedSimpArgs false
set_option linter.unusedSectionVars false
set_option maxRecDepth 100000
set_option maxHeartbeats 2000000
namespace Go.Proofs.Ytgffejpcldeklaa
open Go Go.RowKit
open Classical

/-- What bytes tell of an account: nonce, balance, error. -/
noncomputable def accR (b : List UInt8) : Nat × Nat × Int :=
  if b.length < 16 then (0, 0, 10)
  else if 16 < b.length then (0, 0, 11)
  else if numOf (b.take 8) = 0 ∧ numOf (b.drop 8) = 0 then (0, 0, 8)
  else (numOf (b.take 8), numOf (b.drop 8), 0)
theorem accR_short {b : List UInt8} (h : b.length < 16) : accR b = (0, 0, 10) := if_pos h
theorem accR_long {b : List UInt8} (h : 16 < b.length) : accR b = (0, 0, 11) := by
  unfold accR
  rw [if_neg (by omega), if_pos h]
theorem accR_zero {b : List UInt8} (h : b.length = 16) (h1 : numOf (b.take 8) = 0) (h2 : numOf (b.drop 8) = 0) : accR b = (0, 0, 8) := by
  unfold accR
  rw [if_neg (by omega), if_neg (by omega), if_pos ⟨h1, h2⟩]
theorem accR_ok {b : List UInt8} (h : b.length = 16) (h1 : ¬ (numOf (b.take 8) = 0 ∧ numOf (b.drop 8) = 0)) : accR b = (numOf (b.take 8), numOf (b.drop 8), 0) := by
  unfold accR
  rw [if_neg (by omega), if_neg (by omega), if_neg h1]
end Go.Proofs.Ytgffejpcldeklaa
namespace Go.Proofs.Ytgffejpcldeklaa
open Go Go.RowKit
open Classical

theorem takeShort_vc (w0 : World) (L : List Asn) (a : Option Addr) (cap : Nat) (b : List UInt8) (s : Nat) {n : Nat} (hn : n = b.length) (h0 : 0 < s) (h8 : s ≤ 8) (h : b.length < s) :
    VC Try.prog w0 60 [.slice a n cap, .int .i64 s] L fun v L' => v = .tuple #[.int .u64 0, .slice none 0 0, .int .i64 10] ∧ L' = L := by
  subst hn
  refine vc_ent ?_
  refine vc_in rfl rfl ?_
  repeat' (first | (refine go1 ?_; intros) | (refine goCC ?_ ?_ <;> (intro hb; (try simp only [hSQ] at hb); try (exfalso; omega))) | fail)
  all_goals first | (exfalso; omega) | exact ⟨_, sei _ _ L, rfl, rfl⟩
theorem numEnd_vc (w0 : World) (L : List Asn) (a : Option Addr) (n cap : Nat) :
    VC Try.prog w0 69 [.slice a n cap] L fun v L' => v = .int .i64 (if n = 0 then 0 else 11) ∧ L' = L := by
  refine vc_ent ?_
  refine vc_in rfl rfl ?_
  repeat' (first | (refine go1 ?_; intros) | (refine goCC ?_ ?_ <;> (intro hb; (try simp only [hSQ] at hb); try (exfalso; omega))) | fail)
  all_goals first | exact ⟨_, sei _ _ L, by rw [if_neg (by omega)], rfl⟩ | exact ⟨_, sei _ _ L, by rw [if_pos (by omega)], rfl⟩
section
variable {P : Program} {w0 : World} {n : Nat} {ds : List Deferred} {fr : Fr} {L : List Asn} {dst : Option Nat} {ty : TypeId} {pos : String} {after : Array Edge} {gd : Option (Nat × Bool)}
theorem vq_eqAcc {t yt : TypeId} {x y : Operand} {a b c d : Nat} (hx : evA fr x = some (.agg #[.int .u64 a, .int .u64 b])) (hy : evA fr y = some (.agg #[.int .u64 c, .int .u64 d])) [he : EqI P t [some .u64, some .u64]] : VQ P w0 n ⟨dst, .binOp .eql t x y yt, ty, pos, after, gd⟩ (.bool (decide (a = c ∧ b = d))) ds fr L :=
  vq_val (fun u w hk _ => run_eqAgg t yt x y rfl he [.int .u64 a, .int .u64 b] [.int .u64 c, .int .u64 d] (hk.ev hx) (hk.ev hy) ⟨⟨_, rfl⟩, ⟨_, rfl⟩, trivial⟩ ⟨⟨_, rfl⟩, ⟨_, rfl⟩, trivial⟩ _ (by simp only [List.cons.injEq, Value.int.injEq, true_and, and_true]; omega))
end
theorem aread_vc (w0 : World) (L : List Asn) (a : Option Addr) (cap : Nat) (b : List UInt8) {n : Nat} (hn : n = b.length) (hcap : b.length ≤ cap) (hl : b.length ≤ 1000000000000) [hr : RdC w0 L a (bvs b)] :
    VC Try.prog w0 34 [.slice a n cap] L fun v L' => v = .tuple #[.agg #[.int .u64 (accR b).1, .int .u64 (accR b).2.1], .int .i64 (accR b).2.2] ∧ L' = L := by
  subst hn
  refine vc_ent ?_
  refine vc_in rfl rfl ?_
  by_cases h8 : b.length < 8
  · rw [accR_short (by omega)]
    repeat' (first | (refine go1 ?_; intros) | (refine goCC ?_ ?_ <;> (intro hb; (try simp only [hSQ] at hb); try (exfalso; omega))) | fail)
    refine clV ?_
    refine vc_mono (takeShort_vc w0 _ a cap b 8 rfl (by decide) (by decide) h8) ?_
    rintro v L' ⟨rfl, rfl⟩
    repeat' (first | (refine go1 ?_; intros) | (refine goCC ?_ ?_ <;> (intro hb; (try simp only [hSQ] at hb); try (exfalso; omega))) | fail)
    exact ⟨_, sei _ _ L, rfl, rfl⟩
  repeat' (first | (refine go1 ?_; intros) | (refine goCC ?_ ?_ <;> (intro hb; (try simp only [hSQ] at hb); try (exfalso; omega))) | fail)
  refine clV ?_
  refine vc_mono (take_vc w0 _ a cap b 8 rfl (by decide) (by decide) (by omega) hcap hl) ?_
  rintro v L' ⟨a1, c1, hc1, rfl, rfl⟩
  have hdl : (b.drop 8).length = b.length - 8 := List.length_drop
  have hs1 : ∀ X : Value, splice [Value.int .u64 0, .int .u64 0] (0 + 0) [X] = [X, .int .u64 0] := fun _ => rfl
  have hs2 : ∀ X Y : Value, splice [X, Value.int .u64 0] (0 + 1) [Y] = [X, Y] := fun _ _ => rfl
  by_cases h16 : b.length < 16
  · rw [accR_short h16]
    rw [← hdl]
    repeat' (first | (refine go1 ?_; intros) | (refine goCC ?_ ?_ <;> (intro hb; (try simp only [hSQ] at hb); try (exfalso; omega))) | fail)
    rw [hs1]
    refine clV ?_
    refine vc_mono (takeShort_vc w0 _ a1 c1 (b.drop 8) 8 rfl (by decide) (by decide) (by omega)) ?_
    rintro v L' ⟨rfl, rfl⟩
    repeat' (first | (refine go1 ?_; intros) | (refine goCC ?_ ?_ <;> (intro hb; (try simp only [hSQ] at hb); try (exfalso; omega))) | fail)
    exact ⟨_, sei _ _ L, rfl, rfl⟩
  rw [← hdl] at hc1 ⊢
  have hn1 := numOf_lt (b.take 8)
  repeat' (first | (refine go1 ?_; intros) | (refine goCC ?_ ?_ <;> (intro hb; (try simp only [hSQ] at hb); try (exfalso; omega))) | fail)
  rw [hs1]
  refine clV ?_
  refine vc_mono (take_vc w0 _ a1 c1 (b.drop 8) 8 rfl (by decide) (by decide) (by omega) hc1 (by omega)) ?_
  rintro v L' ⟨a2, c2, hc2, rfl, rfl⟩
  repeat' (first | (refine go1 ?_; intros) | (refine goCC ?_ ?_ <;> (intro hb; (try simp only [hSQ] at hb); try (exfalso; omega))) | fail)
  rw [hs2]
  refine clV ?_
  refine vc_mono (numEnd_vc w0 _ a2 _ c2) ?_
  rintro v L' ⟨rfl, rfl⟩
  by_cases hlong : 16 < b.length
  · rw [accR_long hlong, if_neg (by omega)]
    repeat' (first | (refine go1 ?_; intros) | (refine goCC ?_ ?_ <;> (intro hb; (try simp only [hSQ] at hb); try (exfalso; omega))) | fail)
    exact ⟨_, sei _ _ L, rfl, rfl⟩
  have h16' : b.length = 16 := by omega
  rw [if_pos (by omega), List.take_of_length_le (show (b.drop 8).length ≤ 8 by omega)]
  repeat' (first | (refine go1 ?_; intros) | (refine goCC ?_ ?_ <;> (intro hb; (try simp only [hSQ] at hb); try (exfalso; omega))) | fail)
  refine vl_q rfl rfl rfl rfl (vq_eqAcc (c := 0) (d := 0) rfl rfl) ?_
  by_cases hz : numOf (b.take 8) = 0 ∧ numOf (b.drop 8) = 0
  · rw [decide_eq_true hz, accR_zero h16' hz.1 hz.2]
    repeat' (first | (refine go1 ?_; intros) | (refine goCC ?_ ?_ <;> (intro hb; (try simp only [hSQ] at hb); try (exfalso; omega))) | fail)
    exact ⟨_, sei _ _ L, rfl, rfl⟩
  · rw [decide_eq_false hz, accR_ok h16' hz]
    repeat' (first | (refine go1 ?_; intros) | (refine goCC ?_ ?_ <;> (intro hb; (try simp only [hSQ] at hb); try (exfalso; omega))) | fail)
    exact ⟨_, sei _ _ L, rfl, rfl⟩
end Go.Proofs.Ytgffejpcldeklaa

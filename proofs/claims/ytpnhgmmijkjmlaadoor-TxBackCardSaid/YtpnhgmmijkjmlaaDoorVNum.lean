/-
  Quotients of numbers.
-/
import Derived.Test.YtpnhgmmijkjmlaaDoorVConv
namespace Go.Proofs.YtpnhgmmijkjmlaaDoor
open Go Go.RowKit
set_option linter.unusedVariables false
set_option linter.unusedSimpArgs false

theorem q8_i64 {m : Nat} (h : m < 9223372036854775808) : IntKind.i64.wrap ((m : Int).tdiv 8) = ((m / 8 : Nat) : Int) := by
  rw [Int.tdiv_eq_ediv_of_nonneg (by omega)]
  simp only [IntKind.wrap_i64]; omega
theorem q2_u8 {m : Nat} (h : m < 256) : IntKind.u8.wrap ((m : Int).tdiv 2) = ((m / 2 : Nat) : Int) := by
  rw [Int.tdiv_eq_ediv_of_nonneg (by omega)]
  simp only [IntKind.wrap_u8]; omega
theorem q4_i64 {m : Nat} (h : m < 9223372036854775808) : IntKind.i64.wrap ((m : Int).tdiv 4) = ((m / 4 : Nat) : Int) := by
  rw [Int.tdiv_eq_ediv_of_nonneg (by omega)]
  simp only [IntKind.wrap_i64]; omega
theorem r_nat {m p : Nat} : (m : Int).tmod (p : Int) = ((m % p : Nat) : Int) := by
  rw [Int.tmod_eq_emod_of_nonneg (by omega)]; simp
theorem r8 {m : Nat} : (m : Int).tmod 8 = ((m % 8 : Nat) : Int) := r_nat (p := 8)
theorem r2 {m : Nat} : (m : Int).tmod 2 = ((m % 2 : Nat) : Int) := r_nat (p := 2)
theorem r4 {m : Nat} : (m : Int).tmod 4 = ((m % 4 : Nat) : Int) := r_nat (p := 4)
theorem r64 {m : Nat} : (m : Int).tmod 64 = ((m % 64 : Nat) : Int) := r_nat (p := 64)

section
variable {P : Program} {ro : Option Nat} {w0 : World} {n : Nat} {ds : List Deferred} {fr : Fr} {L Lf : List Asn} {Q : Exit → List Deferred → Fr → List Asn → Prop} {ops : Array Oper} {fuel : Nat} {listed : List Bool} {E : List Nat}
/-- An operation whose guard was itself passed over. -/
theorem va_passU (i : Nat) {oi oj : Oper} {d j dj : Nat} {want : Bool} (hl : ops.toList[i]? = some oi) (hg : oi.guard = some (j, want)) (hj : ops.toList[j]? = some oj) (hdj : oj.dst = some dj) (hv : look fr dj = some undef) (hd : oi.dst = some d) (hdn : Nat.blt d n = true) (hc : mayTake ops E listed i = true) (hp : noPanic Q) (he : Ent w0 L Lf ∨ anyE E listed.toArray = true)
    (h : VA P ro w0 n ops Q E Lf fuel (listed.set i true) ds ((d, undef) :: fr) L) : VA P ro w0 n ops Q E Lf (fuel + 1) listed ds fr L :=
  take_core i hl hd hdn hc hp (.inl rfl) he (fun a w hk hs => .inr ⟨by
    have hj' : ops[j]? = some oj := by rw [← hj]; simp
    have hv' := hk.at' dj _ hv
    simp [Region.wanted, hg, yielded, hj', hdj, hv', undef], rfl⟩) h
end
end Go.Proofs.YtpnhgmmijkjmlaaDoor

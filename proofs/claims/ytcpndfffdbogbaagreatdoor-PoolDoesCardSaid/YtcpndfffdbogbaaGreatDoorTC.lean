/-
  Whether a tree may be: the program's and the document's. How great a tree is; twins of trees. Whether two trees are the same. Whether two trees are the same: the program's.
-/
import Derived.Test.YtcpndfffdbogbaaGreatDoorTreD
import Derived.Test.YtcpndfffdbogbaaGreatDoorGK
set_option linter.unusedVariables false
set_option linter.unusedSimpArgs false
set_option linter.unusedSectionVars false
set_option maxRecDepth 100000
set_option maxHeartbeats 1000000
namespace Go.Proofs.YtcpndfffdbogbaaGreatDoor
open Go Go.RowKit
open Classical

theorem MayP.not_one {ns : List Nd} {r : Int} {i : Nat} (hi : i < ns.length) (h : ¬ oneP ns[i] i) : ¬ MayP ns r := fun e => h (e.ones.at hi)
theorem tcheck_vc (w0 : World) (L : List Asn) (a : Option Addr) (c : Nat) (ns : List Nd) (r : Int) {n : Nat} (hn : n = ns.length) (hok : NsOk ns) [hr : RdC w0 L a (ndc ns)] :
    VC Tryz.prog w0 110 [.agg #[.slice a n c, .int .i64 r]] L fun v L' => v = .int .i64 (if MayP ns r then 0 else 8) ∧ L' = L := by
  subst hn
  have hlen := hok.len
  refine vc_ent ?_
  refine vc_in rfl rfl ?_
  have hno : ∀ {v : Value}, ¬ MayP ns r → v = .int .i64 8 → v = .int .i64 (if MayP ns r then 0 else 8) := fun h1 h2 => by rw [h2, if_neg h1]
  by_cases hbad : ns.length ≤ 262144 ∧ 0 ≤ r ∧ r ≤ ns.length
  · obtain ⟨hb1, hb2, hb3⟩ := hbad
    repeat' (first | (refine goU ?_; intros) | (refine goCC ?_ ?_ <;> (intro hb; (try simp only [hSQ] at hb); try (exfalso; omega))) | fail)
    refine v_loopS Nat [1, 26, 25] rfl (fun i => [(27, .int .i64 i)]) (fun i => i ≤ ns.length ∧ onesP (ns.take i)) (fun i => ns.length - i) 0 ⟨Nat.zero_le _, by simp [onesP]⟩ (by (exact sbS)) (fun i ⟨hi, ho⟩ => ?_)
    by_cases hlt : i < ns.length
    · have he := hok.e i hlt
      have hpos := hok.pos i hlt
      have hk := hok.k32at i hlt
      have hv := hok.vlat i hlt
      have hN := MayP.not_one (r := r) hlt
      have hS := onesP_step hlt ho
      have hO := fun L => one_vc w0 L ns[i] i hk hv (by omega)
      have hc := Nd.len hk
      haveI hoc : OC ns[i].cells := oc_nd _
      generalize ns[i] = x at *
      generalize x.cells = cs at *
      repeat' (first | (refine go1 ?_; intros) | (refine goCC ?_ ?_ <;> (intro hb; (try simp only [hSQ] at hb); try (exfalso; omega))) | fail)
      refine clV ?_
      refine vc_mono (hO _) ?_
      rintro v L' ⟨rfl, rfl⟩
      by_cases h1 : oneP x i
      · rw [decide_eq_true h1]
        repeat' (first | (refine go1 ?_; intros) | (refine goCC ?_ ?_ <;> (intro hb; (try simp only [hSQ] at hb); try (exfalso; omega))) | fail)
        exact ⟨rfl, i + 1, ⟨by omega, hS h1⟩, by omega, by (exact sbS), sei _ _ _⟩
      · rw [decide_eq_false h1]
        repeat' (first | (refine go1 ?_; intros) | (refine goCC ?_ ?_ <;> (intro hb; (try simp only [hSQ] at hb); try (exfalso; omega))) | fail)
        exact ⟨L, sei _ _ _, hno (hN h1) rfl, rfl⟩
    · obtain rfl : i = ns.length := by omega
      rw [List.take_length] at ho
      obtain ⟨rn, rfl⟩ : ∃ rn : Nat, r = rn := ⟨r.toNat, by omega⟩
      have hR := fun L (hr : RdC w0 L a (ndc ns)) => tright_vc w0 a c ns rn hok ho rn L 0 z32T (by omega) (by omega) (by rfl) (fun m _ => by rw [bitAt_z32]; rfl)
      rw [bitAt_z32] at hR
      repeat' (first | (refine go1 ?_; intros) | (refine goCC ?_ ?_ <;> (intro hb; (try simp only [hSQ] at hb); try (exfalso; omega))) | fail)
      refine clV ?_
      refine vc_mono (hR _ inferInstance) ?_
      rintro v L' ⟨rfl, rfl⟩
      by_cases h1 : 0 ≤ rightP ns rn 0 zb
      · rw [decide_eq_true h1]
        repeat' (first | (refine go1 ?_; intros) | (refine goCC ?_ ?_ <;> (intro hb; (try simp only [hSQ] at hb); try (exfalso; omega))) | fail)
        exact ⟨L, sei _ _ _, by rw [if_pos ⟨hb1, hb2, hb3, ho, h1⟩], rfl⟩
      · rw [decide_eq_false h1]
        repeat' (first | (refine go1 ?_; intros) | (refine goCC ?_ ?_ <;> (intro hb; (try simp only [hSQ] at hb); try (exfalso; omega))) | fail)
        exact ⟨L, sei _ _ _, hno (fun e => h1 e.right) rfl, rfl⟩
  · repeat' (first | (refine goU ?_; intros) | (refine goCC ?_ ?_ <;> (intro hb; (try simp only [hSQ] at hb); try (exfalso; omega))) | fail)
    all_goals exact ⟨L, sei _ _ _, hno (fun e => hbad ⟨e.len, e.lo, e.hi⟩) rfl, rfl⟩

theorem may6_vc (w0 : World) (L : List Asn) (a : Option Addr) (c : Nat) (ns : List Nd) (r : Int) {n : Nat} (hn : n = ns.length) (hok : NsOk ns) [hr : RdC w0 L a (ndc ns)] :
    VC Tryz.prog w0 81 [.agg #[.slice a n c, .int .i64 r]] L fun v L' => v = .bool (decide (MayP ns r)) ∧ L' = L := by
  subst hn
  have hlen := hok.len
  refine vc_ent ?_
  refine vc_in rfl rfl ?_
  have hno : ∀ {v : Value}, ¬ MayP ns r → v = .bool false → v = .bool (decide (MayP ns r)) := fun h1 h2 => by rw [h2, decide_eq_false h1]
  by_cases hbad : ns.length ≤ 262144 ∧ 0 ≤ r ∧ r ≤ ns.length
  · obtain ⟨hb1, hb2, hb3⟩ := hbad
    repeat' (first | (refine goU ?_; intros) | (refine goCC ?_ ?_ <;> (intro hb; (try simp only [hSQ] at hb); try (exfalso; omega))) | fail)
    refine v_loopS Nat [1] rfl (fun i => [(3, .int .i64 i)]) (fun i => i ≤ ns.length ∧ onesP (ns.take i)) (fun i => ns.length - i) 0 ⟨Nat.zero_le _, by simp [onesP]⟩ (by (exact sbS)) (fun i ⟨hi, ho⟩ => ?_)
    by_cases hlt : i < ns.length
    · have he := hok.e i hlt
      have hpos := hok.pos i hlt
      have hk := hok.k32at i hlt
      have hv := hok.vlat i hlt
      have hN := MayP.not_one (r := r) hlt
      have hS := onesP_step hlt ho
      have hO := fun L => one6_vc w0 L ns[i] i hk hv (by omega)
      have hc := Nd.len hk
      haveI hoc : OC ns[i].cells := oc_nd _
      generalize ns[i] = x at *
      generalize x.cells = cs at *
      repeat' (first | (refine go1 ?_; intros) | (refine goCC ?_ ?_ <;> (intro hb; (try simp only [hSQ] at hb); try (exfalso; omega))) | fail)
      refine clV ?_
      refine vc_mono (hO _) ?_
      rintro v L' ⟨rfl, rfl⟩
      by_cases h1 : oneP x i
      · rw [decide_eq_true h1]
        repeat' (first | (refine go1 ?_; intros) | (refine goCC ?_ ?_ <;> (intro hb; (try simp only [hSQ] at hb); try (exfalso; omega))) | fail)
        exact ⟨rfl, i + 1, ⟨by omega, hS h1⟩, by omega, by (exact sbS), sei _ _ _⟩
      · rw [decide_eq_false h1]
        repeat' (first | (refine go1 ?_; intros) | (refine goCC ?_ ?_ <;> (intro hb; (try simp only [hSQ] at hb); try (exfalso; omega))) | fail)
        exact ⟨L, sei _ _ _, hno (hN h1) rfl, rfl⟩
    · obtain rfl : i = ns.length := by omega
      rw [List.take_length] at ho
      obtain ⟨rn, rfl⟩ : ∃ rn : Nat, r = rn := ⟨r.toNat, by omega⟩
      have hR := fun L (hr : RdC w0 L a (ndc ns)) => right6_vc w0 a c ns rn hok ho rn L 0 z32T (by omega) (by omega) (by rfl) (fun m _ => by rw [bitAt_z32]; rfl)
      rw [bitAt_z32] at hR
      repeat' (first | (refine go1 ?_; intros) | (refine goCC ?_ ?_ <;> (intro hb; (try simp only [hSQ] at hb); try (exfalso; omega))) | fail)
      refine clV ?_
      refine vc_mono (hR _ inferInstance) ?_
      rintro v L' ⟨rfl, rfl⟩
      repeat' (first | (refine go1 ?_; intros) | (refine goCC ?_ ?_ <;> (intro hb; (try simp only [hSQ] at hb); try (exfalso; omega))) | fail)
      exact ⟨L, sei _ _ _, congrArg Value.bool (decide_eq_decide.2 ⟨fun h1 => ⟨hb1, hb2, hb3, ho, h1⟩, fun e => e.right⟩), rfl⟩
  · repeat' (first | (refine goU ?_; intros) | (refine goCC ?_ ?_ <;> (intro hb; (try simp only [hSQ] at hb); try (exfalso; omega))) | fail)
    all_goals exact ⟨L, sei _ _ _, hno (fun e => hbad ⟨e.len, e.lo, e.hi⟩) rfl, rfl⟩
end Go.Proofs.YtcpndfffdbogbaaGreatDoor
namespace Go.Proofs.YtcpndfffdbogbaaGreatDoor
open Go Go.RowKit
open Classical

theorem great6_vc (w0 : World) (L : List Asn) (a : Option Addr) (c : Nat) (ns : List Nd) (r : Int) (m : Nat) {n : Nat} (hn : n = ns.length) (hm : m ≤ 1000000) (hk : ∀ p ∈ ns, p.key.length = 32) (hl : ns.length ≤ 9223372036854775807) [hr : RdC w0 L a (ndc ns)] :
    VC Tryz.prog w0 7 [.agg #[.slice a n c, .int .i64 r], .int .i64 m] L fun v L' => ∃ b, v = .bool b ∧ (b = false → ns.length ≤ m ∧ ∀ x ∈ ns, x.v.length ≤ 100) ∧ L' = L := by
  subst hn
  have hw : Wide Nd.cells 36 ns := fun p hp => Nd.len (hk p hp)
  refine vc_ent ?_
  refine vc_in rfl rfl ?_
  repeat' (first | (refine go1 ?_; intros) | (refine goCC ?_ ?_ <;> (intro hb; (try simp only [hSQ] at hb); try (exfalso; omega))) | fail)
  refine v_loopS Nat [1, 2] rfl (fun i => [(5, .int .i64 i)]) (fun i => i ≤ ns.length ∧ i ≤ m + 1 ∧ ∀ j (hj : j < ns.length), j < i → ns[j].v.length ≤ 100) (fun i => ns.length - i) 0 ⟨Nat.zero_le _, Nat.zero_le _, by omega⟩ (by (exact sbS)) (fun i ⟨hi, him, hv⟩ => ?_)
  by_cases hlt : i < ns.length
  · by_cases hle : i ≤ m
    · have e2 : (ndc ns)[i * 36 + 33]? = some (.slice ns[i].a ns[i].v.length ns[i].c) := by
        rw [hw.cell i hlt 33 (by decide)]
        exact Nd.f2 (hk _ (List.getElem_mem hlt))
      have hpos : 0 < (ndc ns).length := hw.pos (by decide) (by omega)
      repeat' (first | (refine go1 ?_; intros) | (refine goCC ?_ ?_ <;> (intro hb; (try simp only [hSQ] at hb); try (exfalso; omega))) | fail)
      · exact ⟨L, sei _ _ _, true, rfl, by simp, rfl⟩
      · refine ⟨rfl, i + 1, ⟨by omega, by omega, fun j hj hji => ?_⟩, by omega, by (exact sbS), Ent.refl _ _⟩
        by_cases e : j = i
        · subst e; omega
        · exact hv j hj (by omega)
    · repeat' (first | (refine go1 ?_; intros) | (refine goCC ?_ ?_ <;> (intro hb; (try simp only [hSQ] at hb); try (exfalso; omega))) | fail)
      exact ⟨L, sei _ _ _, true, by rw [decide_eq_true (by omega)], by simp, rfl⟩
  · repeat' (first | (refine go1 ?_; intros) | (refine goCC ?_ ?_ <;> (intro hb; (try simp only [hSQ] at hb); try (exfalso; omega))) | fail)
    refine ⟨L, sei _ _ _, _, rfl, fun e => ⟨?_, fun x hx => ?_⟩, rfl⟩
    · have := of_decide_eq_false e
      omega
    · obtain ⟨j, hj, rfl⟩ := List.getElem_of_mem hx
      exact hv j hj (by omega)

/-- A value elsewhere. -/
def Nd.to (x : Nd) (a : Option Addr) (c : Nat) : Nd := { x with a := a, c := c }
end Go.Proofs.YtcpndfffdbogbaaGreatDoor
namespace Go.Proofs.YtcpndfffdbogbaaGreatDoor
open Go Go.RowKit
open Classical

end Go.Proofs.YtcpndfffdbogbaaGreatDoor
namespace Go.Proofs.YtcpndfffdbogbaaGreatDoor
open Go Go.RowKit
open Classical

section
variable {P : Program} {w0 : World} {n : Nat} {ds : List Deferred} {fr : Fr} {L : List Asn} {dst : Option Nat} {ty : TypeId} {pos : String} {after : Array Edge} {gd : Option (Nat × Bool)}
end
end Go.Proofs.YtcpndfffdbogbaaGreatDoor

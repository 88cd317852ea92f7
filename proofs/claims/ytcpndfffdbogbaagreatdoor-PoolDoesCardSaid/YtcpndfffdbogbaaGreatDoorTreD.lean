/-
  Whether what a number stands for is right: the program's and the document's.
-/
import Derived.Test.YtcpndfffdbogbaaGreatDoorTB
set_option linter.unusedVariables false
set_option linter.unusedSimpArgs false
set_option linter.unusedSectionVars false
set_option maxRecDepth 100000
set_option maxHeartbeats 1000000
namespace Go.Proofs.YtcpndfffdbogbaaGreatDoor
open Go Go.RowKit
open Classical

theorem sh_iff {k b : List UInt8} {s d : Nat} (h : IsSh k b s) (hd : d ≤ 256) : (∀ m, m < d → bitAt k m = bitAt b m) ↔ d ≤ s := by
  refine ⟨fun e => ?_, fun e m hm => h.2.1 m (by omega)⟩
  rcases Nat.lt_or_ge s d with h1 | h1
  · exact absurd (e s h1) (h.2.2 (by omega))
  · exact h1

theorem rightP_le (ns : List Nd) (n d : Nat) (β : Nat → Nat) : -1 ≤ rightP ns n d β ∧ rightP ns n d β ≤ 2 := by
  cases n with
  | zero => rw [rightP]; decide
  | succ n =>
    cases hx : ns[n]? with
    | none => rw [rightP, hx]; simp
    | some x =>
      rw [rightP_at hx]
      repeat' split
      all_goals decide
theorem right6_vc (w0 : World) (a : Option Addr) (c : Nat) (ns : List Nd) (r : Int) (hok : NsOk ns) (ho : onesP ns) : ∀ (n : Nat) (L : List Asn) (d : Nat) (b : List UInt8) [hr : RdC w0 L a (ndc ns)], n ≤ ns.length → d ≤ 256 → b.length = 32 → (∀ m, d ≤ m → bitAt b m = 0) →
    VC Tryz.prog w0 125 [.agg #[.slice a ns.length c, .int .i64 r], .int .i64 n, .int .i64 d, .agg (bvs b).toArray] L fun v L' => v = .int .i64 (rightP ns n d (bitAt b)) ∧ L' = L := by
  intro n
  induction n using Nat.strongRecOn with
  | _ n ih =>
  intro L d b hr hn hd hlb hz
  have hlen := hok.len
  cases n with
  | zero =>
    have e0 : rightP ns 0 d (bitAt b) = 0 := by rw [rightP]
    rw [e0]
    refine vc_ent ?_
    refine vc_in rfl rfl ?_
    repeat' (first | (refine go1 ?_; intros) | (refine goCC ?_ ?_ <;> (intro hb; (try simp only [hSQ] at hb); try (exfalso; omega))) | fail)
    exact ⟨L, sei _ _ _, rfl, rfl⟩
  | succ n =>
    have hx : ns[n]? = some ns[n] := List.getElem?_eq_getElem (by omega)
    have he := hok.e n (by omega)
    have hpos := hok.pos n (by omega)
    have hk := hok.k32at n (by omega)
    have e1 := rightP_at (d := d) (β := bitAt b) hx
    have f0 := Nd.f0 (x := ns[n])
    have f1 := Nd.f1 hk
    have f3 := Nd.f3 hk
    have f4 := Nd.f4 hk
    have hc := Nd.len hk
    haveI hoc : OC ns[n].cells := oc_nd _
    have hfk := ho.fork (show n < ns.length by omega)
    have hxl := ho.l (show n < ns.length by omega)
    have hxr := ho.r (show n < ns.length by omega)
    rw [e1]
    generalize ns[n] = x at *
    generalize x.cells = cs at *
    refine vc_ent ?_
    refine vc_in rfl rfl ?_
    cases hl : x.leaf
    · rw [hl] at f0
      rw [if_neg (by simp)]
      have hf := hfk hl
      have h1 := hxl hl
      have h2 := hxr hl
      obtain ⟨l, el⟩ : ∃ l : Nat, x.left = l := ⟨x.left.toNat, by omega⟩
      obtain ⟨q, eq⟩ : ∃ q : Nat, x.right = q := ⟨x.right.toNat, by omega⟩
      rw [el, Int.toNat_natCast] at h1
      rw [eq, Int.toNat_natCast] at h2
      rw [el] at f3
      rw [eq] at f4
      rw [el, eq] at hf
      rw [h1, h2]
      by_cases hd2 : 256 ≤ d
      · rw [if_pos hd2]
        repeat' (first | (refine go1 ?_; intros) | (refine goCC ?_ ?_ <;> (intro hb; (try simp only [hSQ] at hb); try (exfalso; omega))) | fail)
        exact ⟨L, sei _ _ _, rfl, rfl⟩
      rw [if_neg hd2]
      have hb0 := hz d (Nat.le_refl _)
      have hT := bitAt_turn hlb (by omega) hb0
      have hTl : (turnK b d).length = 32 := by rw [turnK_len, hlb]
      rw [← hT]
      repeat' (first | (refine go1 ?_; intros) | (refine goCC ?_ ?_ <;> (intro hb; (try simp only [hSQ] at hb); try (exfalso; omega))) | fail)
      refine clV ?_
      refine vc_mono (rturn_vc w0 _ b hlb d (by omega) hb0) ?_
      rintro v L' ⟨rfl, rfl⟩
      have hzT : ∀ m, d + 1 ≤ m → bitAt (turnK b d) m = 0 := fun m hm => by rw [hT]; unfold flipB; rw [if_neg (by omega)]; exact hz m (by omega)
      generalize turnK b d = T at *
      repeat' (first | (refine go1 ?_; intros) | (refine goCC ?_ ?_ <;> (intro hb; (try simp only [hSQ] at hb); try (exfalso; omega))) | fail)
      refine clV ?_
      refine vc_mono (ih l (by omega) _ (d + 1) b (by omega) (by omega) hlb (fun m hm => hz m (by omega))) ?_
      rintro v L' ⟨rfl, rfl⟩
      have hA := rightP_le ns l (d + 1) (bitAt b)
      generalize rightP ns l (d + 1) (bitAt b) = A at *
      by_cases hA0 : A < 0
      · rw [if_pos hA0]
        repeat' (first | (refine go1 ?_; intros) | (refine goCC ?_ ?_ <;> (intro hb; (try simp only [hSQ] at hb); try (exfalso; omega))) | fail)
        exact ⟨L, sei _ _ _, rfl, rfl⟩
      rw [if_neg hA0]
      repeat' (first | (refine go1 ?_; intros) | (refine goCC ?_ ?_ <;> (intro hb; (try simp only [hSQ] at hb); try (exfalso; omega))) | fail)
      refine clV ?_
      refine vc_mono (ih q (by omega) _ (d + 1) T (by omega) (by omega) hTl hzT) ?_
      rintro v L' ⟨rfl, rfl⟩
      have hB := rightP_le ns q (d + 1) (bitAt T)
      generalize rightP ns q (d + 1) (bitAt T) = B at *
      by_cases hB0 : B < 0 ∨ A + B < 2
      · rw [if_pos hB0]
        repeat' (first | (refine go1 ?_; intros) | (refine goCC ?_ ?_ <;> (intro hb; (try simp only [hSQ] at hb); try (exfalso; omega))) | fail)
        all_goals exact ⟨L, sei _ _ _, rfl, rfl⟩
      · rw [if_neg hB0]
        repeat' (first | (refine go1 ?_; intros) | (refine goCC ?_ ?_ <;> (intro hb; (try simp only [hSQ] at hb); try (exfalso; omega))) | fail)
        exact ⟨L, sei _ _ _, rfl, rfl⟩
    · rw [hl] at f0
      rw [if_pos rfl]
      repeat' (first | (refine go1 ?_; intros) | (refine goCC ?_ ?_ <;> (intro hb; (try simp only [hSQ] at hb); try (exfalso; omega))) | fail)
      refine clV ?_
      refine vc_mono (sh4_vc w0 _ x.key b hk hlb) ?_
      rintro v L' ⟨s, hs, rfl, rfl⟩
      have hS := sh_iff hs hd
      repeat' (first | (refine go1 ?_; intros) | (refine goCC ?_ ?_ <;> (intro hb; (try simp only [hSQ] at hb); try (exfalso; omega))) | fail)
      · exact ⟨L, sei _ _ _, by rw [if_neg (by rw [hS]; omega)], rfl⟩
      · exact ⟨L, sei _ _ _, by rw [if_pos (by rw [hS]; omega)], rfl⟩

def bothN (l q i : Nat) : Nat := (if 0 < i ∧ 0 < l then 1 else 0) + (if 1 < i ∧ 0 < q then 1 else 0)
def twoN (A B : Int) (i : Nat) : Bool := (decide (0 < i) && decide (A = 2)) || (decide (1 < i) && decide (B = 2))
theorem tright_vc (w0 : World) (a : Option Addr) (c : Nat) (ns : List Nd) (r : Int) (hok : NsOk ns) (ho : onesP ns) : ∀ (n : Nat) (L : List Asn) (d : Nat) (b : List UInt8) [hr : RdC w0 L a (ndc ns)], n ≤ ns.length → d ≤ 256 → b.length = 32 → (∀ m, d ≤ m → bitAt b m = 0) →
    VC Tryz.prog w0 144 [.agg #[.slice a ns.length c, .int .i64 r], .int .i64 n, .int .i64 d, .agg (bvs b).toArray] L fun v L' => v = .tuple #[.bool (decide (0 ≤ rightP ns n d (bitAt b))), .bool (decide (rightP ns n d (bitAt b) = 2))] ∧ L' = L := by
  intro n
  induction n using Nat.strongRecOn with
  | _ n ih =>
  intro L d b hr hn hd hlb hz
  have hlen := hok.len
  cases n with
  | zero =>
    have e0 : rightP ns 0 d (bitAt b) = 0 := by rw [rightP]
    rw [e0]
    refine vc_ent ?_
    refine vc_in rfl rfl ?_
    repeat' (first | (refine go1 ?_; intros) | (refine goCC ?_ ?_ <;> (intro hb; (try simp only [hSQ] at hb); try (exfalso; omega))) | fail)
    exact ⟨L, sei _ _ _, rfl, rfl⟩
  | succ n =>
    have hx : ns[n]? = some ns[n] := List.getElem?_eq_getElem (by omega)
    have he := hok.e n (by omega)
    have hpos := hok.pos n (by omega)
    have hk := hok.k32at n (by omega)
    have e1 := rightP_at (d := d) (β := bitAt b) hx
    have f0 := Nd.f0 (x := ns[n])
    have f1 := Nd.f1 hk
    have hR := fun L => roads_vc w0 L ns[n] hk
    have hc := Nd.len hk
    haveI hoc : OC ns[n].cells := oc_nd _
    have hfk := ho.fork (show n < ns.length by omega)
    have hxl := ho.l (show n < ns.length by omega)
    have hxr := ho.r (show n < ns.length by omega)
    rw [e1]
    generalize ns[n] = x at *
    generalize x.cells = cs at *
    refine vc_ent ?_
    refine vc_in rfl rfl ?_
    cases hl : x.leaf
    · rw [hl] at f0
      rw [if_neg (by simp)]
      have hf := hfk hl
      have h1 := hxl hl
      have h2 := hxr hl
      obtain ⟨l, el⟩ : ∃ l : Nat, x.left = l := ⟨x.left.toNat, by omega⟩
      obtain ⟨q, eq⟩ : ∃ q : Nat, x.right = q := ⟨x.right.toNat, by omega⟩
      rw [el, Int.toNat_natCast] at h1
      rw [eq, Int.toNat_natCast] at h2
      rw [el, eq] at hf hR
      rw [h1, h2]
      by_cases hd2 : 256 ≤ d
      · rw [if_pos hd2]
        obtain rfl : d = 256 := by omega
        repeat' (first | (refine go1 ?_; intros) | (refine goCC ?_ ?_ <;> (intro hb; (try simp only [hSQ] at hb); try (exfalso; omega))) | fail)
        exact ⟨L, sei _ _ _, rfl, rfl⟩
      rw [if_neg hd2]
      have hb0 := hz d (Nat.le_refl _)
      have hT := bitAt_turn hlb (by omega) hb0
      have hTl : (turnK b d).length = 32 := by rw [turnK_len, hlb]
      rw [← hT]
      have pl : 0 < l → 0 ≤ rightP ns l (d + 1) (bitAt b) → 1 ≤ rightP ns l (d + 1) (bitAt b) := fun h0 h3 => right_pos h0 (by omega) h3
      have pq : 0 < q → 0 ≤ rightP ns q (d + 1) (bitAt (turnK b d)) → 1 ≤ rightP ns q (d + 1) (bitAt (turnK b d)) := fun h0 h3 => right_pos h0 (by omega) h3
      have zl : l = 0 → rightP ns l (d + 1) (bitAt b) = 0 := fun e => by rw [e, rightP]
      have zq : q = 0 → rightP ns q (d + 1) (bitAt (turnK b d)) = 0 := fun e => by rw [e, rightP]
      have hzT : ∀ m, d + 1 ≤ m → bitAt (turnK b d) m = 0 := fun m hm => by rw [hT]; unfold flipB; rw [if_neg (by omega)]; exact hz m (by omega)
      repeat' (first | (refine go1 ?_; intros) | (refine goCC ?_ ?_ <;> (intro hb; (try simp only [hSQ] at hb); try (exfalso; omega))) | fail)
      refine clV ?_
      refine vc_mono (pturn_vc w0 _ b hlb d (by omega) hb0) ?_
      rintro v L' ⟨rfl, rfl⟩
      generalize turnK b d = T at *
      repeat' (first | (refine go1 ?_; intros) | (refine goCC ?_ ?_ <;> (intro hb; (try simp only [hSQ] at hb); try (exfalso; omega))) | fail)
      refine vl_q rfl rfl rfl rfl (vq_buildArr (us := bvs b ++ (bvs T ++ [])) rfl rfl (by simp [plOf, Value.cells, hlb, hTl]; rfl) (by simp [hlb, hTl])) ?_
      rw [List.append_nil]
      generalize hAe : rightP ns l (d + 1) (bitAt b) = A at *
      generalize hBe : rightP ns q (d + 1) (bitAt T) = B at *
      repeat' (first | (refine go1 ?_; intros) | (refine goCC ?_ ?_ <;> (intro hb; (try simp only [hSQ] at hb); try (exfalso; omega))) | fail)
      refine v_loopS Nat [2, 4, 10, 45] rfl (fun i => [(46, .int .i64 i), (13, .int .i64 (bothN l q i)), (9, .bool (twoN A B i))]) (fun i => i ≤ 2 ∧ (0 < i → 0 ≤ A) ∧ (1 < i → 0 ≤ B)) (fun i => 2 - i) 0 ⟨by omega, by omega, by omega⟩ (by (exact sbS)) (fun i ⟨hi, hi1, hi2⟩ => ?_)
      rcases (by omega : i = 0 ∨ i = 1 ∨ i = 2) with rfl | rfl | rfl
      · have t0 : twoN A B 0 = false := by simp [twoN]
        have b0 : bothN l q 0 = 0 := by simp [bothN]
        rw [t0, b0]
        repeat' (first | (refine go1 ?_; intros) | (refine goCC ?_ ?_ <;> (intro hb; (try simp only [hSQ] at hb); try (exfalso; omega))) | fail)
        refine vl_q rfl rfl rfl rfl (vq_ixVA (us := bvs b) rfl rfl (by decide) (by decide) (by simp [hlb])) ?_
        repeat' (first | (refine go1 ?_; intros) | (refine goCC ?_ ?_ <;> (intro hb; (try simp only [hSQ] at hb); try (exfalso; omega))) | fail)
        refine clV ?_
        refine vc_mono (hR _) ?_
        rintro v L' ⟨rfl, rfl⟩
        repeat' (first | (refine go1 ?_; intros) | (refine goCC ?_ ?_ <;> (intro hb; (try simp only [hSQ] at hb); try (exfalso; omega))) | fail)
        refine vl_q rfl rfl rfl rfl (vq_ixV1 rfl rfl (by decide) (by decide) rfl) ?_
        repeat' (first | (refine go1 ?_; intros) | (refine goCC ?_ ?_ <;> (intro hb; (try simp only [hSQ] at hb); try (exfalso; omega))) | fail)
        refine clV ?_
        refine vc_mono (ih l (by omega) _ (d + 1) b (by omega) (by omega) hlb (fun m hm => hz m (by omega))) ?_
        rintro v L' ⟨rfl, rfl⟩
        rw [hAe]
        by_cases hA0 : 0 ≤ A
        · rw [decide_eq_true hA0]
          have t1 : twoN A B 1 = decide (A = 2) := by simp [twoN]
          repeat' (first | (refine go1 ?_; intros) | (refine goCC ?_ ?_ <;> (intro hb; (try simp only [hSQ] at hb); try (exfalso; omega))) | fail)
          · have b1 : bothN l q 1 = 1 := by simp [bothN]; omega
            refine ⟨rfl, 1, ⟨by omega, fun _ => hA0, by omega⟩, by omega, ?_, sei _ _ _⟩
            rw [b1, t1]
            (exact sbS)
          · have b1 : bothN l q 1 = 0 := by simp [bothN]; omega
            refine ⟨rfl, 1, ⟨by omega, fun _ => hA0, by omega⟩, by omega, ?_, sei _ _ _⟩
            rw [b1, t1]
            (exact sbS)
        · rw [decide_eq_false hA0]
          repeat' (first | (refine go1 ?_; intros) | (refine goCC ?_ ?_ <;> (intro hb; (try simp only [hSQ] at hb); try (exfalso; omega))) | fail)
          refine ⟨L, sei _ _ _, ?_, rfl⟩
          rw [if_pos (by omega)]
          rfl
      · have t0 : twoN A B 1 = decide (A = 2) := by simp [twoN]
        have hA0 := hi1 (by omega)
        rw [t0]
        repeat' (first | (refine go1 ?_; intros) | (refine goCC ?_ ?_ <;> (intro hb; (try simp only [hSQ] at hb); try (exfalso; omega))) | fail)
        refine vl_q rfl rfl rfl rfl (vq_ixVA (us := bvs T) rfl rfl (by decide) (by decide) (by simp [hlb]; exact List.take_of_length_le (by simp [hTl]))) ?_
        repeat' (first | (refine go1 ?_; intros) | (refine goCC ?_ ?_ <;> (intro hb; (try simp only [hSQ] at hb); try (exfalso; omega))) | fail)
        refine clV ?_
        refine vc_mono (hR _) ?_
        rintro v L' ⟨rfl, rfl⟩
        repeat' (first | (refine go1 ?_; intros) | (refine goCC ?_ ?_ <;> (intro hb; (try simp only [hSQ] at hb); try (exfalso; omega))) | fail)
        refine vl_q rfl rfl rfl rfl (vq_ixV1 rfl rfl (by decide) (by decide) rfl) ?_
        repeat' (first | (refine go1 ?_; intros) | (refine goCC ?_ ?_ <;> (intro hb; (try simp only [hSQ] at hb); try (exfalso; omega))) | fail)
        refine clV ?_
        refine vc_mono (ih q (by omega) _ (d + 1) T (by omega) (by omega) hTl hzT) ?_
        rintro v L' ⟨rfl, rfl⟩
        rw [hBe]
        by_cases hB0 : 0 ≤ B
        · rw [decide_eq_true hB0]
          have b1 : bothN l q 1 ≤ 1 := by unfold bothN; split <;> simp
          by_cases hA2 : A = 2
          · have t2 : twoN A B 2 = true := by simp [twoN, hA2]
            rw [decide_eq_true hA2]
            repeat' (first | (refine go1 ?_; intros) | (refine goCC ?_ ?_ <;> (intro hb; (try simp only [hSQ] at hb); try (exfalso; omega))) | fail)
            · have b2 : bothN l q 2 = bothN l q 1 + 1 := by simp [bothN]; omega
              refine ⟨rfl, 2, ⟨by omega, fun _ => hA0, fun _ => hB0⟩, by omega, ?_, sei _ _ _⟩
              rw [b2, t2]
              (exact sbS)
            · have b2 : bothN l q 2 = bothN l q 1 := by simp [bothN]; omega
              refine ⟨rfl, 2, ⟨by omega, fun _ => hA0, fun _ => hB0⟩, by omega, ?_, sei _ _ _⟩
              rw [b2, t2]
              (exact sbS)
          · have t2 : twoN A B 2 = decide (B = 2) := by simp [twoN, hA2]
            rw [decide_eq_false hA2]
            repeat' (first | (refine go1 ?_; intros) | (refine goCC ?_ ?_ <;> (intro hb; (try simp only [hSQ] at hb); try (exfalso; omega))) | fail)
            · have b2 : bothN l q 2 = bothN l q 1 + 1 := by simp [bothN]; omega
              refine ⟨rfl, 2, ⟨by omega, fun _ => hA0, fun _ => hB0⟩, by omega, ?_, sei _ _ _⟩
              rw [b2, t2]
              (exact sbS)
            · have b2 : bothN l q 2 = bothN l q 1 := by simp [bothN]; omega
              refine ⟨rfl, 2, ⟨by omega, fun _ => hA0, fun _ => hB0⟩, by omega, ?_, sei _ _ _⟩
              rw [b2, t2]
              (exact sbS)
        · rw [decide_eq_false hB0]
          repeat' (first | (refine go1 ?_; intros) | (refine goCC ?_ ?_ <;> (intro hb; (try simp only [hSQ] at hb); try (exfalso; omega))) | fail)
          refine ⟨L, sei _ _ _, ?_, rfl⟩
          rw [if_neg (by omega), if_pos (by omega)]
          rfl
      · have hA0 := hi1 (by omega)
        have hB0 := hi2 (by omega)
        have hA2 := rightP_le ns l (d + 1) (bitAt b)
        have hB2 := rightP_le ns q (d + 1) (bitAt T)
        rw [hAe] at hA2
        rw [hBe] at hB2
        have hsum : (A + B < 2) ↔ ¬ (twoN A B 2 = true ∨ bothN l q 2 = 2) := by
          have e1 : twoN A B 2 = true ↔ (A = 2 ∨ B = 2) := by simp [twoN]
          have e2 : bothN l q 2 = 2 ↔ (0 < l ∧ 0 < q) := by
            unfold bothN
            by_cases x1 : 0 < l <;> by_cases x2 : 0 < q <;> simp [x1, x2]
          rw [e1, e2]
          have h3 : 0 < l → 1 ≤ A := fun h0 => pl h0 hA0
          have h4 : 0 < q → 1 ≤ B := fun h0 => pq h0 hB0
          have h5 : ¬ 0 < l → A = 0 := fun h0 => zl (by omega)
          have h6 : ¬ 0 < q → B = 0 := fun h0 => zq (by omega)
          by_cases x1 : 0 < l
          · have y1 := h3 x1
            by_cases x2 : 0 < q
            · have y2 := h4 x2; omega
            · have y2 := h6 x2; omega
          · have y1 := h5 x1
            by_cases x2 : 0 < q
            · have y2 := h4 x2; omega
            · have y2 := h6 x2; omega
        rw [if_neg (show ¬ A < 0 by omega)]
        cases htw : twoN A B 2
        · repeat' (first | (refine go1 ?_; intros) | (refine goCC ?_ ?_ <;> (intro hb; (try simp only [hSQ] at hb); try (exfalso; omega))) | fail)
          refine ⟨L, sei _ _ _, ?_, rfl⟩
          by_cases h2 : bothN l q 2 = 2
          · rw [if_neg (by rw [hsum]; simp [h2]; omega)]
            simp [h2]
          · rw [if_pos (by rw [hsum]; simp [h2, htw])]
            simp [h2]; omega
        · repeat' (first | (refine go1 ?_; intros) | (refine goCC ?_ ?_ <;> (intro hb; (try simp only [hSQ] at hb); try (exfalso; omega))) | fail)
          refine ⟨L, sei _ _ _, ?_, rfl⟩
          rw [if_neg (by rw [hsum]; simp [htw]; omega)]
          rfl
    · rw [hl] at f0
      rw [if_pos rfl]
      repeat' (first | (refine go1 ?_; intros) | (refine goCC ?_ ?_ <;> (intro hb; (try simp only [hSQ] at hb); try (exfalso; omega))) | fail)
      refine clV ?_
      refine vc_mono (shp_vc w0 _ x.key b hk hlb) ?_
      rintro v L' ⟨s, hs, rfl, rfl⟩
      have hS := sh_iff hs hd
      repeat' (first | (refine go1 ?_; intros) | (refine goCC ?_ ?_ <;> (intro hb; (try simp only [hSQ] at hb); try (exfalso; omega))) | fail)
      refine ⟨L, sei _ _ _, ?_, rfl⟩
      by_cases h3 : d ≤ s
      · rw [if_pos (hS.2 h3)]
        simp [h3]
      · rw [if_neg (fun e => h3 (hS.1 e))]
        simp [h3]
end Go.Proofs.YtcpndfffdbogbaaGreatDoor

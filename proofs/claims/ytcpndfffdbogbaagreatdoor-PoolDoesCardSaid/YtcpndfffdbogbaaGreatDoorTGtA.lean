/-
  A key's leaf, and its value: the program's and the document's.
-/
import Derived.Test.YtcpndfffdbogbaaGreatDoorTD
set_option linter.unusedVariables false
set_option linter.unusedSimpArgs false
set_option linter.unusedSectionVars false
set_option maxRecDepth 100000
set_option maxHeartbeats 2000000
namespace Go.Proofs.YtcpndfffdbogbaaGreatDoor
open Go Go.RowKit
open Classical

/-- A search under way. -/
structure FindI (ns : List Nd) (k : List UInt8) (n0 : Nat) (n d : Nat) (β : Nat → Nat) : Prop where
  hn : n ≤ ns.length
  z : ∀ m, d ≤ m → β m = 0
  r : 0 ≤ rightP ns n d β
  e : leafP ns k n0 0 = leafP ns k n d
theorem find_vc (w0 : World) (L : List Asn) (a : Option Addr) (c : Nat) (ns : List Nd) (r : Int) (k : List UInt8) {n : Nat} (hn : n = ns.length) (hok : NsOk ns) (hlk : k.length = 32) (hm : MayP ns r) [hr : RdC w0 L a (ndc ns)] :
    VC Tryz.prog w0 111 [.agg #[.slice a n c, .int .i64 r], .agg (bvs k).toArray] L fun v L' => v = .int .i64 (leafP ns k r.toNat 0 : Nat) ∧ L' = L := by
  subst hn
  have hlen := hok.len
  obtain ⟨rn, rfl⟩ : ∃ rn : Nat, r = rn := ⟨r.toNat, by have := hm.lo; omega⟩
  have hhi := hm.hi
  have ho := hm.ones
  rw [Int.toNat_natCast]
  refine vc_ent ?_
  refine vc_in rfl rfl ?_
  repeat' (first | (refine go1 ?_; intros) | (refine goCC ?_ ?_ <;> (intro hb; (try simp only [hSQ] at hb); try (exfalso; omega))) | fail)
  refine v_loopS (Nat × Nat × (Nat → Nat)) [2, 3, 4] rfl (fun x => [(5, .int .i64 x.1), (6, .int .i64 x.2.1)]) (fun x => FindI ns k rn x.1 x.2.1 x.2.2) (fun x => x.1) (rn, 0, zb) ⟨by dsimp only; omega, fun _ _ => rfl, hm.right, rfl⟩ (by (exact sbS)) ?_
  rintro ⟨n, d, β⟩ hI
  dsimp only at hI ⊢
  have hnl := hI.hn
  by_cases hn0 : n = 0
  · subst hn0
    repeat' (first | (refine go1 ?_; intros) | (refine goCC ?_ ?_ <;> (intro hb; (try simp only [hSQ] at hb); try (exfalso; omega))) | fail)
    refine ⟨L, sei _ _ _, ?_, rfl⟩
    rw [hI.e, leafP]
    rfl
  obtain ⟨n, rfl⟩ : ∃ m, n = m + 1 := ⟨n - 1, by omega⟩
  have hx : ns[n]? = some ns[n] := List.getElem?_eq_getElem (by omega)
  have he := hok.e n (by omega)
  have hpos := hok.pos n (by omega)
  have hk := hok.k32at n (by omega)
  have f0 := Nd.f0 (x := ns[n])
  have f1 := Nd.f1 hk
  have hc := Nd.len hk
  haveI hoc : OC ns[n].cells := oc_nd _
  have hR := fun L => roads_vc w0 L ns[n] hk
  have hfk := ho.fork (show n < ns.length by omega)
  have hql := ho.l (show n < ns.length by omega)
  have hqr := ho.r (show n < ns.length by omega)
  have hE := hI.e
  rw [leafP_at hx] at hE
  have hFk := fun (e : ¬ ns[n].leaf = true) => right_fork hx e hI.r
  have hz := hI.z
  generalize ns[n] = x at *
  generalize x.cells = cs at *
  cases hl : x.leaf
  · rw [hl] at f0
    rw [if_neg (by simp [hl])] at hE
    have hf := hfk hl
    have h1 := hql hl
    have h2 := hqr hl
    obtain ⟨l, el⟩ : ∃ l : Nat, x.left = l := ⟨x.left.toNat, by omega⟩
    obtain ⟨q, eq⟩ : ∃ q : Nat, x.right = q := ⟨x.right.toNat, by omega⟩
    rw [el, Int.toNat_natCast] at h1
    rw [eq, Int.toNat_natCast] at h2
    rw [el, eq] at hf hR
    have FF := hFk (by simp [hl])
    obtain ⟨F1, F2, F3, F4⟩ := FF
    rw [h1] at F2 F4
    rw [h2] at F3 F4
    rw [h1, h2] at hE
    have hbl := bitAt_lt k d
    repeat' (first | (refine go1 ?_; intros) | (refine goCC ?_ ?_ <;> (intro hb; (try simp only [hSQ] at hb); try (exfalso; omega))) | fail)
    (refine v_draw0 [] (by kernel_rfl) ?_ <;> (refine tA 0 ?_) <;> (refine tA 2 ?_) <;> (refine tA 3 ?_))
    first | refine va_one 1 (by kernel_rfl) rfl rfl (vo_call rfl rfl ?_) | refine va_one 1 (by kernel_rfl) rfl rfl (vo_callV rfl rfl rfl ?_)
    refine vc_mono (hR _) ?_
    rintro v L' ⟨rfl, rfl⟩
    refine ⟨.inr entD, ?_⟩
    skip
    first | refine va_one 4 (by kernel_rfl) rfl rfl (vo_call rfl rfl ?_) | refine va_one 4 (by kernel_rfl) rfl rfl (vo_callV rfl rfl rfl ?_)
    refine vc_mono (tbit_vc w0 _ k hlk d F1) ?_
    rintro v L' ⟨rfl, rfl⟩
    refine ⟨.inr entD, ?_⟩
    by_cases hb0 : bitAt k d = 0
    · rw [if_pos hb0] at hE
      rw [hb0]
      refine va_take 5 rfl rfl rfl rfl (by kernel_rfl) (fun _ _ _ _ h => h) (sei _ _ _) (vq_ixV1 rfl rfl (by decide) (by decide) rfl) ?_
      (refine tA 6 ?_)
      (refine va_done (by kernel_rfl) ?_)
      repeat' (first | (refine go1 ?_; intros) | (refine goCC ?_ ?_ <;> (intro hb; (try simp only [hSQ] at hb); try (exfalso; omega))) | fail)
      exact ⟨rfl, (l, d + 1, β), ⟨by dsimp only; omega, zero_next hz, F2, hE⟩, by show l < n + 1; omega, by (exact sbS), sei _ _ _⟩
    · rw [if_neg hb0] at hE
      have hb1 : bitAt k d = 1 := by omega
      rw [hb1]
      refine va_take 5 rfl rfl rfl rfl (by kernel_rfl) (fun _ _ _ _ h => h) (sei _ _ _) (vq_ixV1 rfl rfl (by decide) (by decide) rfl) ?_
      (refine tA 6 ?_)
      (refine va_done (by kernel_rfl) ?_)
      repeat' (first | (refine go1 ?_; intros) | (refine goCC ?_ ?_ <;> (intro hb; (try simp only [hSQ] at hb); try (exfalso; omega))) | fail)
      exact ⟨rfl, (q, d + 1, flipB β d), ⟨by dsimp only; omega, zero_flip hz, F3, hE⟩, by show q < n + 1; omega, by (exact sbS), sei _ _ _⟩
  · rw [hl] at f0
    rw [if_pos hl] at hE
    repeat' (first | (refine go1 ?_; intros) | (refine goCC ?_ ?_ <;> (intro hb; (try simp only [hSQ] at hb); try (exfalso; omega))) | fail)
    · exact ⟨L, sei _ _ _, by rw [hE, if_pos hb], rfl⟩
    · exact ⟨L, sei _ _ _, by rw [hE, if_neg hb]; rfl, rfl⟩
noncomputable def getT (ns : List Nd) (r : Int) (k : List UInt8) : List UInt8 := if MayP ns r then getF (forP ns r.toNat) k else []
noncomputable def hasT (ns : List Nd) (r : Int) (k : List UInt8) : Bool := if MayP ns r then has (forP ns r.toNat) k else false
theorem getF_not {l : List KV} {k : List UInt8} (h : has l k = false) : getF l k = [] := by
  unfold getF
  have : l.find? (fun x => decide (x.1 = k)) = none := by
    rw [List.find?_eq_none]
    intro x hx
    simpa using has_false.1 h x hx
  rw [this]; rfl
/-- What a search finds. -/
theorem find_law {ns : List Nd} {r : Int} {k : List UInt8} (h : MayP ns r) : (leafP ns k r.toNat 0 = 0 → has (forP ns r.toNat) k = false) ∧ ∀ i, leafP ns k r.toNat 0 = i + 1 → i < ns.length ∧ has (forP ns r.toNat) k = true ∧ ∃ x, ns[i]? = some x ∧ getF (forP ns r.toNat) k = x.v := by
  have LL := leaf_law ns k r.toNat 0 zb (fun _ _ => rfl) (fun m hm => by omega) h.right
  refine ⟨LL.no, fun i hi => ?_⟩
  obtain ⟨h1, x, h2, h3, h4, h5⟩ := LL.yes i hi
  exact ⟨(List.getElem?_eq_some_iff.1 h2).1, h1, x, h2, h5⟩
theorem tget_vc (w0 : World) (L : List Asn) (a : Option Addr) (c : Nat) (ns : List Nd) (r : Int) (k : List UInt8) {n : Nat} (hn : n = ns.length) (hok : NsOk ns) (hlk : k.length = 32) [hr : RdC w0 L a (ndc ns)] [hv : RdNs w0 L ns] :
    VC Tryz.prog w0 70 [.agg #[.slice a n c, .int .i64 r], .agg (bvs k).toArray] L fun v L' => ∃ a' c', v = .tuple #[.slice a' (getT ns r k).length c', .bool (hasT ns r k)] ∧ L' = ownB a' c' (getT ns r k) :: L := by
  subst hn
  have hlen := hok.len
  refine vc_ent ?_
  refine vc_in rfl rfl ?_
  repeat' (first | (refine go1 ?_; intros) | (refine goCC ?_ ?_ <;> (intro hb; (try simp only [hSQ] at hb); try (exfalso; omega))) | fail)
  refine clV ?_
  refine vc_mono (tcheck_vc w0 _ a c ns r rfl hok) ?_
  rintro v L' ⟨rfl, rfl⟩
  have hnil : ∀ M : List Asn, SE M L → getT ns r k = [] → ∃ L'', Ent w0 M L'' ∧ ∃ a' c', (Value.tuple #[.slice none 0 0, .bool (hasT ns r k)] = .tuple #[.slice a' (getT ns r k).length c', .bool (hasT ns r k)]) ∧ L'' = ownB a' c' (getT ns r k) :: L := fun M h e => by
    rw [e]
    exact ⟨_, (h.trans (se_own_nil 5 1 _)).ent w0, none, 0, rfl, rfl⟩
  by_cases hm : MayP ns r
  · rw [if_pos hm]
    have hG : getT ns r k = getF (forP ns r.toNat) k := if_pos hm
    have hH : hasT ns r k = has (forP ns r.toNat) k := if_pos hm
    obtain ⟨w1, w2⟩ := find_law (k := k) hm
    repeat' (first | (refine go1 ?_; intros) | (refine goCC ?_ ?_ <;> (intro hb; (try simp only [hSQ] at hb); try (exfalso; omega))) | fail)
    refine clV ?_
    refine vc_mono (find_vc w0 _ a c ns r k rfl hok hlk hm) ?_
    rintro v L' ⟨rfl, rfl⟩
    generalize leafP ns k r.toNat 0 = j at *
    cases j with
    | zero =>
      have h0 := w1 rfl
      rw [h0] at hH
      repeat' (first | (refine go1 ?_; intros) | (refine goCC ?_ ?_ <;> (intro hb; (try simp only [hSQ] at hb); try (exfalso; omega))) | fail)
      rw [← hH]
      exact hnil _ (SEI.out) (by rw [hG, getF_not h0])
    | succ j =>
      obtain ⟨h1, h2, x, h3, h4⟩ := w2 j rfl
      obtain ⟨_, rfl⟩ := List.getElem?_eq_some_iff.1 h3
      have he := hok.e2 j h1
      have hpos := hok.pos j h1
      have hvl := hok.vlat j h1
      haveI := hv.at j h1
      rw [h2] at hH
      rw [h4] at hG
      generalize ns[j] = x at *
      repeat' (first | (refine go1 ?_; intros) | (refine goCC ?_ ?_ <;> (intro hb; (try simp only [hSQ] at hb); try (exfalso; omega))) | fail)
      refine clV ?_
      refine vc_mono (clone_vc w0 _ x.a x.c x.v rfl (by omega)) ?_
      rintro v L' ⟨a2, c2, _, rfl, rfl⟩
      repeat' (first | (refine go1 ?_; intros) | (refine goCC ?_ ?_ <;> (intro hb; (try simp only [hSQ] at hb); try (exfalso; omega))) | fail)
      exact ⟨_, sei _ _ (ownB a2 c2 x.v :: L), a2, c2, by rw [hH, hG], by rw [hG]⟩
  · rw [if_neg hm]
    have hG : getT ns r k = [] := if_neg hm
    have hH : hasT ns r k = false := if_neg hm
    repeat' (first | (refine go1 ?_; intros) | (refine goCC ?_ ?_ <;> (intro hb; (try simp only [hSQ] at hb); try (exfalso; omega))) | fail)
    rw [← hH]
    exact hnil _ (SEI.out) hG
end Go.Proofs.YtcpndfffdbogbaaGreatDoor

/-
  Roads: where a key's road ends, and its sides; the program's and the document's.
-/
import Derived.Test.YtnoihibaoalkaaaDoorTD
set_option linter.unusedVariables false
set_option linter.unusedSimpArgs false
namespace Go.Proofs.YtnoihibaoalkaaaDoor
open Go Go.RowKit
set_option linter.unusedVariables false
set_option linter.unusedSimpArgs false
open Classical

def zN : Nd := ⟨false, z32, none, 0, [], 0, 0⟩
noncomputable def roadN (ns : List Nd) (r : Int) (k : List UInt8) : Nd := if MayP ns r then (match (roadD ns k r.toNat 0).1 with | 0 => zN | m + 1 => (ns[m]?.getD zN).pl) else zN
noncomputable def roadX (ns : List Nd) (r : Int) (k : List UInt8) : List (List UInt8) := if MayP ns r then (roadD ns k r.toNat 0).2 else []
noncomputable def mayE (ns : List Nd) (r : Int) : Int := if MayP ns r then 0 else 8
/-- What is told of a road: its memory is new. -/
structure RoadR (w0 : World) (L : List Asn) (ns : List Nd) (r : Int) (k : List UInt8) (x : Nd) (xs : List (List UInt8)) (a' : Option Addr) (c' : Nat) (L' : List Asn) : Prop where
  pl : x.pl = roadN ns r k
  hxs : xs = roadX ns r k
  key : x.key.length = 32
  vl : x.v.length ≤ 1000000
  dg : Dg xs
  len : xs.length ≤ 256
  hL : L' = ownB x.a x.c x.v :: ownDg a' c' xs :: L
def RRoad (w0 : World) (L : List Asn) (ns : List Nd) (r : Int) (k : List UInt8) (v : Value) (L' : List Asn) : Prop := ∃ x xs a' c', v = .tuple #[.agg x.cells.toArray, .slice a' xs.length c', .int .i64 (mayE ns r)] ∧ RoadR w0 L ns r k x xs a' c' L'
theorem roadR_bad (w0 : World) (L : List Asn) {ns : List Nd} {r : Int} {k : List UInt8} (h : ¬ MayP ns r) : RoadR w0 L ns r k zN [] none 0 (ownB none 0 [] :: ownDg none 0 [] :: L) :=
  ⟨by unfold roadN; rw [if_neg h]; rfl, by unfold roadX; rw [if_neg h], rfl, by decide, by simp [Dg], by decide, rfl⟩
theorem roadR_zero (w0 : World) (L : List Asn) {ns : List Nd} {r : Int} {k : List UInt8} {xs : List (List UInt8)} (a' : Option Addr) (c' : Nat) (h : MayP ns r) (e : roadD ns k r.toNat 0 = (0, xs)) (hd : Dg xs) (hl : xs.length ≤ 256) : RoadR w0 L ns r k zN xs a' c' (ownB none 0 [] :: ownDg a' c' xs :: L) :=
  ⟨by unfold roadN; rw [if_pos h, e]; rfl, by unfold roadX; rw [if_pos h, e], rfl, by decide, hd, hl, rfl⟩
theorem roadR_leaf (w0 : World) (L : List Asn) {ns : List Nd} {r : Int} {k : List UInt8} {xs : List (List UInt8)} (a' a2 : Option Addr) (c' c2 : Nat) {m : Nat} {x : Nd} (hx : ns[m]? = some x) (h : MayP ns r) (e : roadD ns k r.toNat 0 = (m + 1, xs)) (hk : x.key.length = 32) (hv : x.v.length ≤ 1000000) (hd : Dg xs) (hl : xs.length ≤ 256) : RoadR w0 L ns r k (x.to a2 c2) xs a' c' (ownB a2 c2 x.v :: ownDg a' c' xs :: L) :=
  ⟨by unfold roadN; rw [if_pos h, e]; dsimp only; rw [hx]; rfl, by unfold roadX; rw [if_pos h, e], hk, hv, hd, hl, rfl⟩
set_option maxRecDepth 100000 in
set_option maxHeartbeats 4000000 in
theorem troad_vc (w0 : World) [hK : RdA w0 (some ⟨0, 0, none⟩) (wds K64)] (L : List Asn) (a : Option Addr) (c : Nat) (ns : List Nd) (r : Int) (k : List UInt8) {n : Nat} (hn : n = ns.length) (hok : NsOk ns) (hlk : k.length = 32) [hr : RdC w0 L a (ndc ns)] [hv : RdNs w0 L ns] :
    VC Tryd.prog w0 100 [.agg #[.slice a n c, .int .i64 r], .agg (bvs k).toArray] L (RRoad w0 L ns r k) := by
  subst hn
  have hlen := hok.len
  refine vc_ent ?_
  refine vc_in rfl rfl ?_
  repeat' (first | (refine go1 ?_; intros) | (refine vl_caseG rfl rfl rfl rfl ?_ ?_ <;> (intro hb; (try simp only [decide_eq_true_eq, decide_eq_false_iff_not, Bool.not_eq_true', Bool.not_eq_false', ne_eq, Decidable.not_not, Option.isNone_iff_eq_none, not_true_eq_false, not_false_eq_true] at hb); try (exfalso; omega))) | (refine v_cond rfl ?_ ?_ <;> (intro hb; (try simp only [decide_eq_true_eq, decide_eq_false_iff_not, Bool.not_eq_true', Bool.not_eq_false', ne_eq, Decidable.not_not, Option.isNone_iff_eq_none, not_true_eq_false, not_false_eq_true] at hb); try (exfalso; omega))) | fail)
  refine vl_o rfl (vo_call rfl rfl ?_)
  refine vc_mono (tcheck_vc w0 _ a c ns r rfl hok) ?_
  rintro v L' ⟨rfl, rfl⟩
  by_cases hm : MayP ns r
  · rw [if_pos hm]
    have hE : mayE ns r = 0 := if_pos hm
    obtain ⟨rn, rfl⟩ : ∃ rn : Nat, r = rn := ⟨r.toNat, by have := hm.lo; omega⟩
    have hhi := hm.hi
    have ho := hm.ones
    repeat' (first | (refine go1 ?_; intros) | (refine vl_caseG rfl rfl rfl rfl ?_ ?_ <;> (intro hb; (try simp only [decide_eq_true_eq, decide_eq_false_iff_not, Bool.not_eq_true', Bool.not_eq_false', ne_eq, Decidable.not_not, Option.isNone_iff_eq_none, not_true_eq_false, not_false_eq_true] at hb); try (exfalso; omega))) | (refine v_cond rfl ?_ ?_ <;> (intro hb; (try simp only [decide_eq_true_eq, decide_eq_false_iff_not, Bool.not_eq_true', Bool.not_eq_false', ne_eq, Decidable.not_not, Option.isNone_iff_eq_none, not_true_eq_false, not_false_eq_true] at hb); try (exfalso; omega))) | fail)
    rename_i g1 g2 g3
    refine v_loopF (Nat × Nat × (Nat → Nat) × List (List UInt8) × Option Addr × Nat) [2, 3, 4] rfl (fun x => [(8, .int .i64 x.1), (9, .int .i64 x.2.1), (5, .slice x.2.2.2.2.1 x.2.2.2.1.length x.2.2.2.2.2)]) (fun M x => ownDg x.2.2.2.2.1 x.2.2.2.2.2 x.2.2.2.1 :: M) (fun x => RoadI ns k rn x.1 x.2.1 x.2.2.1 x.2.2.2.1) (fun x => x.1) (rn, 0, zb, [], none, 0) ⟨by omega, Nat.zero_le 256, fun _ _ => rfl, hm.right, by simp, by simp [Dg], rfl⟩ (by (repeat' (first | exact Sub.nil _ | refine Sub.cons rfl rfl ?_ | refine Sub.cons rfl ?_ ?_))) ?_ ?_
    · exact (se_own_nil 26 32 _).ent w0
    rintro ⟨n, d, β, xs, a', c'⟩ hI
    dsimp only at hI ⊢
    have hnl := hI.hn
    have hxl := hI.len
    have hd := hI.hd
    by_cases hn0 : n = 0
    · subst hn0
      repeat' (first | (refine go1 ?_; intros) | (refine vl_caseG rfl rfl rfl rfl ?_ ?_ <;> (intro hb; (try simp only [decide_eq_true_eq, decide_eq_false_iff_not, Bool.not_eq_true', Bool.not_eq_false', ne_eq, Decidable.not_not, Option.isNone_iff_eq_none, not_true_eq_false, not_false_eq_true] at hb); try (exfalso; omega))) | (refine v_cond rfl ?_ ?_ <;> (intro hb; (try simp only [decide_eq_true_eq, decide_eq_false_iff_not, Bool.not_eq_true', Bool.not_eq_false', ne_eq, Decidable.not_not, Option.isNone_iff_eq_none, not_true_eq_false, not_false_eq_true] at hb); try (exfalso; omega))) | fail)
      refine ⟨_, ?_, zN, xs, a', c', by rw [hE]; rfl, roadR_zero w0 L a' c' hm (hI.fin (.inl rfl)) hI.dg (by omega)⟩
      exact (sei w0 _ (ownDg a' c' xs :: L)).trans ((se_own_nil 5 1 _).ent w0)
    obtain ⟨n, rfl⟩ : ∃ m, n = m + 1 := ⟨n - 1, by omega⟩
    have hx : ns[n]? = some ns[n] := List.getElem?_eq_getElem (by omega)
    have he0 := hok.e0 n (by omega)
    have he := hok.e n (by omega)
    have hpos := hok.pos n (by omega)
    have hk := hok.k32at n (by omega)
    have hvl := hok.vlat n (by omega)
    haveI := hv.at n (by omega)
    have f2 := Nd.f2 hk
    have hc := Nd.len hk
    haveI hoc : OC ns[n].cells := oc_nd _
    have hto := fun a2 c2 => Nd.to_cells ns[n] a2 c2 hk
    have htl := fun a2 c2 => Nd.len (x := ns[n].to a2 c2) hk
    haveI hoc2 : ∀ a2 c2, OC (ns[n].to a2 c2).cells := fun _ _ => oc_nd _
    have hR := fun L => roads_vc w0 L ns[n] hk
    have hfk := ho.fork (show n < ns.length by omega)
    have hql := ho.l (show n < ns.length by omega)
    have hqr := ho.r (show n < ns.length by omega)
    have hfin := fun (e : ns[n].leaf = true) => hI.fin (.inr ⟨n, _, rfl, hx, e⟩)
    have hIl := fun (e : ¬ ns[n].leaf = true) => hI.l hx e
    have hIr := fun (e : ¬ ns[n].leaf = true) => hI.r' hx e
    have hFk := fun (e : ¬ ns[n].leaf = true) => right_fork hx e hI.r
    have hRR := fun (e : ns[n].leaf = true) (a' a2 : Option Addr) (c' c2 : Nat) (he : roadD ns k rn 0 = (n + 1, xs)) => roadR_leaf w0 L (r := rn) a' a2 c' c2 hx hm he hk hvl hI.dg (by omega)
    generalize ns[n] = x at *
    generalize x.cells = cs at *
    cases hl : x.leaf
    · rw [hl] at he0
      have hf := hfk hl
      have h1 := hql hl
      have h2 := hqr hl
      obtain ⟨l, el⟩ : ∃ l : Nat, x.left = l := ⟨x.left.toNat, by omega⟩
      obtain ⟨q, eq⟩ : ∃ q : Nat, x.right = q := ⟨x.right.toNat, by omega⟩
      rw [el, Int.toNat_natCast] at h1
      rw [eq, Int.toNat_natCast] at h2
      rw [el, eq] at hf hR
      have hIl' := hIl (by simp [hl])
      have hIr' := hIr (by simp [hl])
      have FF := hFk (by simp [hl])
      rw [h1, h2] at hIl' hIr'
      obtain ⟨F1, F2, F3, F4⟩ := FF
      rw [h1] at F2 F4
      rw [h2] at F3 F4
      have s1 := sum_law ns l (d + 1) (256 - d) β (zero_next hI.z) (by omega) F2
      have s2 := sum_law ns q (d + 1) (256 - d) (flipB β d) (zero_flip hI.z) (by omega) F3
      rw [← s1] at hIr'
      rw [← s2] at hIl'
      have t1 := fun L (hr : RdC w0 L a (ndc ns)) (hv : RdNs w0 L ns) => tsum_vc w0 a c ns rn hok ho l L (by omega)
      have t2 := fun L (hr : RdC w0 L a (ndc ns)) (hv : RdNs w0 L ns) => tsum_vc w0 a c ns rn hok ho q L (by omega)
      have lA := sumP_len ns l
      have lB := sumP_len ns q
      clear s1 s2
      generalize sumP ns l = A at *
      generalize sumP ns q = B at *
      repeat' (first | (refine go1 ?_; intros) | (refine vl_caseG rfl rfl rfl rfl ?_ ?_ <;> (intro hb; (try simp only [decide_eq_true_eq, decide_eq_false_iff_not, Bool.not_eq_true', Bool.not_eq_false', ne_eq, Decidable.not_not, Option.isNone_iff_eq_none, not_true_eq_false, not_false_eq_true] at hb); try (exfalso; omega))) | (refine v_cond rfl ?_ ?_ <;> (intro hb; (try simp only [decide_eq_true_eq, decide_eq_false_iff_not, Bool.not_eq_true', Bool.not_eq_false', ne_eq, Decidable.not_not, Option.isNone_iff_eq_none, not_true_eq_false, not_false_eq_true] at hb); try (exfalso; omega))) | fail)
      refine v_cut Nat [2, 3, 4, 8, 9, 5] rfl (fun z => [(10, .pointer (some ⟨z, 0, none⟩)), (11, .int .u8 (bitAt k d))]) (fun z => blk z 174 [.int .i64 l, .int .i64 q] :: ownDg a' c' xs :: blk g3 100 (Value.bool false :: (bvs (List.replicate 32 0) ++ [Value.slice none 0 0, Value.int IntKind.i64 0, Value.int IntKind.i64 0])) :: blk g2 26 (bvs k) :: blk g1 24 [.slice a ns.length c, .int .i64 rn] :: L) ?_ ?_
      · refine v_id ?_
        refine v_draw0 [9, 11] (by kernel_rfl) ?_
        refine va_takeA 0 rfl rfl rfl rfl ?_
        refine va_takeA 1 rfl rfl rfl rfl ?_
        refine va_takeA 2 rfl rfl rfl rfl ?_
        refine va_takeA 3 rfl rfl rfl rfl ?_
        refine va_takeA 4 rfl rfl rfl rfl ?_
        refine va_takeA 5 rfl rfl rfl rfl ?_
        refine va_takeA 7 rfl rfl rfl rfl ?_
        refine va_takeA 8 rfl rfl rfl rfl ?_
        refine va_two 6 10 (by kernel_rfl) rfl rfl rfl rfl ?_ ?_
        · first | refine vo_call rfl rfl ?_ | refine vo_callV rfl rfl rfl ?_
          refine vc_mono (hR _) ?_
          rintro v L' ⟨rfl, rfl⟩
          refine ⟨.inr (sei _ _ _), ?_⟩
          refine va_two 9 10 (by kernel_rfl) rfl rfl rfl rfl ?_ ?_
          · first | refine vo_call rfl rfl ?_ | refine vo_callV rfl rfl rfl ?_
            refine vc_mono (tbit_vc w0 _ k hlk d F1) ?_
            rintro v L' ⟨rfl, rfl⟩
            refine ⟨.inl (by kernel_rfl), ?_⟩
            refine va_one 10 (by kernel_rfl) rfl rfl ?_
            (first | (refine vo_box rfl rfl rfl ?_; intro _) | (refine vo_alloc rfl ?_; intro _) | (refine vo_isStore ?_; first | (refine vo_isPt0 rfl ?_; refine vo_stWA rfl rfl ?_) | (refine vo_isPt rfl ?_; refine vo_stBA rfl rfl ?_) | (refine vo_stO rfl rfl (by rfl) (by first | rfl | assumption) (by first | assumption | (simp; done) | (simp; omega) | omega) rfl ?_; skip)) | (refine vo_isCall ?_; first | (refine vo_isApp ?_; first | (refine vo_append0A rfl rfl rfl ?_; intro _ _ _ _) | (refine vo_appendA rfl rfl rfl ?_; intro _ _ _ _)) | (refine vo_isCopy ?_; refine vo_copyB rfl rfl rfl (by assumption) (by assumption) (by assumption) (by assumption) ?_) | refine vo_yield rfl rfl rfl rfl rfl ?_ | refine vo_callV rfl rfl rfl (vc_in rfl rfl ?_)) | refine vo_convRow rfl rfl ?_ | (refine vo_isBs ?_; refine vo_buildSlice rfl rfl rfl (by decide) (by repeat' (first | exact trivial | rfl | assumption | refine ⟨?_, ?_⟩ | (simp; done) | (simp; omega))) (by decide) rfl ?_; intro _) | (refine vo_buildSlice0 rfl ?_; intro _) | fail)
            refine ⟨.inl (by kernel_rfl), ?_⟩
            refine va_one 11 (by kernel_rfl) rfl rfl ?_
            (first | (refine vo_box rfl rfl rfl ?_; intro _) | (refine vo_alloc rfl ?_; intro _) | (refine vo_isStore ?_; first | (refine vo_isPt0 rfl ?_; refine vo_stWA rfl rfl ?_) | (refine vo_isPt rfl ?_; refine vo_stBA rfl rfl ?_) | (refine vo_stO rfl rfl (by rfl) (by first | rfl | assumption) (by first | assumption | (simp; done) | (simp; omega) | omega) rfl ?_; skip)) | (refine vo_isCall ?_; first | (refine vo_isApp ?_; first | (refine vo_append0A rfl rfl rfl ?_; intro _ _ _ _) | (refine vo_appendA rfl rfl rfl ?_; intro _ _ _ _)) | (refine vo_isCopy ?_; refine vo_copyB rfl rfl rfl (by assumption) (by assumption) (by assumption) (by assumption) ?_) | refine vo_yield rfl rfl rfl rfl rfl ?_ | refine vo_callV rfl rfl rfl (vc_in rfl rfl ?_)) | refine vo_convRow rfl rfl ?_ | (refine vo_isBs ?_; refine vo_buildSlice rfl rfl rfl (by decide) (by repeat' (first | exact trivial | rfl | assumption | refine ⟨?_, ?_⟩ | (simp; done) | (simp; omega))) (by decide) rfl ?_; intro _) | (refine vo_buildSlice0 rfl ?_; intro _) | fail)
            refine ⟨.inl (by kernel_rfl), ?_⟩
            refine va_takePA 12 rfl rfl rfl rfl ?_
            refine va_done (by kernel_rfl) ?_
            refine ⟨rfl, _, by (repeat' (first | exact Sub.nil _ | refine Sub.cons rfl rfl ?_ | refine Sub.cons rfl ?_ ?_)), ?_⟩
            exact sei _ _ _
          · (first | (refine vo_box rfl rfl rfl ?_; intro _) | (refine vo_alloc rfl ?_; intro _) | (refine vo_isStore ?_; first | (refine vo_isPt0 rfl ?_; refine vo_stWA rfl rfl ?_) | (refine vo_isPt rfl ?_; refine vo_stBA rfl rfl ?_) | (refine vo_stO rfl rfl (by rfl) (by first | rfl | assumption) (by first | assumption | (simp; done) | (simp; omega) | omega) rfl ?_; skip)) | (refine vo_isCall ?_; first | (refine vo_isApp ?_; first | (refine vo_append0A rfl rfl rfl ?_; intro _ _ _ _) | (refine vo_appendA rfl rfl rfl ?_; intro _ _ _ _)) | (refine vo_isCopy ?_; refine vo_copyB rfl rfl rfl (by assumption) (by assumption) (by assumption) (by assumption) ?_) | refine vo_yield rfl rfl rfl rfl rfl ?_ | refine vo_callV rfl rfl rfl (vc_in rfl rfl ?_)) | refine vo_convRow rfl rfl ?_ | (refine vo_isBs ?_; refine vo_buildSlice rfl rfl rfl (by decide) (by repeat' (first | exact trivial | rfl | assumption | refine ⟨?_, ?_⟩ | (simp; done) | (simp; omega))) (by decide) rfl ?_; intro _) | (refine vo_buildSlice0 rfl ?_; intro _) | fail)
            refine ⟨.inr (sei _ _ _), ?_⟩
            refine va_one 9 (by kernel_rfl) rfl rfl ?_
            first | refine vo_call rfl rfl ?_ | refine vo_callV rfl rfl rfl ?_
            refine vc_mono (tbit_vc w0 _ k hlk d F1) ?_
            rintro v L' ⟨rfl, rfl⟩
            refine ⟨.inl (by kernel_rfl), ?_⟩
            refine va_one 11 (by kernel_rfl) rfl rfl ?_
            (first | (refine vo_box rfl rfl rfl ?_; intro _) | (refine vo_alloc rfl ?_; intro _) | (refine vo_isStore ?_; first | (refine vo_isPt0 rfl ?_; refine vo_stWA rfl rfl ?_) | (refine vo_isPt rfl ?_; refine vo_stBA rfl rfl ?_) | (refine vo_stO rfl rfl (by rfl) (by first | rfl | assumption) (by first | assumption | (simp; done) | (simp; omega) | omega) rfl ?_; skip)) | (refine vo_isCall ?_; first | (refine vo_isApp ?_; first | (refine vo_append0A rfl rfl rfl ?_; intro _ _ _ _) | (refine vo_appendA rfl rfl rfl ?_; intro _ _ _ _)) | (refine vo_isCopy ?_; refine vo_copyB rfl rfl rfl (by assumption) (by assumption) (by assumption) (by assumption) ?_) | refine vo_yield rfl rfl rfl rfl rfl ?_ | refine vo_callV rfl rfl rfl (vc_in rfl rfl ?_)) | refine vo_convRow rfl rfl ?_ | (refine vo_isBs ?_; refine vo_buildSlice rfl rfl rfl (by decide) (by repeat' (first | exact trivial | rfl | assumption | refine ⟨?_, ?_⟩ | (simp; done) | (simp; omega))) (by decide) rfl ?_; intro _) | (refine vo_buildSlice0 rfl ?_; intro _) | fail)
            refine ⟨.inl (by kernel_rfl), ?_⟩
            refine va_takePA 12 rfl rfl rfl rfl ?_
            refine va_done (by kernel_rfl) ?_
            refine ⟨rfl, _, by (repeat' (first | exact Sub.nil _ | refine Sub.cons rfl rfl ?_ | refine Sub.cons rfl ?_ ?_)), ?_⟩
            exact sei _ _ _
        · (first | (refine vo_box rfl rfl rfl ?_; intro _) | (refine vo_alloc rfl ?_; intro _) | (refine vo_isStore ?_; first | (refine vo_isPt0 rfl ?_; refine vo_stWA rfl rfl ?_) | (refine vo_isPt rfl ?_; refine vo_stBA rfl rfl ?_) | (refine vo_stO rfl rfl (by rfl) (by first | rfl | assumption) (by first | assumption | (simp; done) | (simp; omega) | omega) rfl ?_; skip)) | (refine vo_isCall ?_; first | (refine vo_isApp ?_; first | (refine vo_append0A rfl rfl rfl ?_; intro _ _ _ _) | (refine vo_appendA rfl rfl rfl ?_; intro _ _ _ _)) | (refine vo_isCopy ?_; refine vo_copyB rfl rfl rfl (by assumption) (by assumption) (by assumption) (by assumption) ?_) | refine vo_yield rfl rfl rfl rfl rfl ?_ | refine vo_callV rfl rfl rfl (vc_in rfl rfl ?_)) | refine vo_convRow rfl rfl ?_ | (refine vo_isBs ?_; refine vo_buildSlice rfl rfl rfl (by decide) (by repeat' (first | exact trivial | rfl | assumption | refine ⟨?_, ?_⟩ | (simp; done) | (simp; omega))) (by decide) rfl ?_; intro _) | (refine vo_buildSlice0 rfl ?_; intro _) | fail)
          refine ⟨.inr (sei _ _ _), ?_⟩
          refine va_one 6 (by kernel_rfl) rfl rfl ?_
          first | refine vo_call rfl rfl ?_ | refine vo_callV rfl rfl rfl ?_
          refine vc_mono (hR _) ?_
          rintro v L' ⟨rfl, rfl⟩
          refine ⟨.inr (sei _ _ _), ?_⟩
          refine va_one 9 (by kernel_rfl) rfl rfl ?_
          first | refine vo_call rfl rfl ?_ | refine vo_callV rfl rfl rfl ?_
          refine vc_mono (tbit_vc w0 _ k hlk d F1) ?_
          rintro v L' ⟨rfl, rfl⟩
          refine ⟨.inl (by kernel_rfl), ?_⟩
          refine va_one 11 (by kernel_rfl) rfl rfl ?_
          (first | (refine vo_box rfl rfl rfl ?_; intro _) | (refine vo_alloc rfl ?_; intro _) | (refine vo_isStore ?_; first | (refine vo_isPt0 rfl ?_; refine vo_stWA rfl rfl ?_) | (refine vo_isPt rfl ?_; refine vo_stBA rfl rfl ?_) | (refine vo_stO rfl rfl (by rfl) (by first | rfl | assumption) (by first | assumption | (simp; done) | (simp; omega) | omega) rfl ?_; skip)) | (refine vo_isCall ?_; first | (refine vo_isApp ?_; first | (refine vo_append0A rfl rfl rfl ?_; intro _ _ _ _) | (refine vo_appendA rfl rfl rfl ?_; intro _ _ _ _)) | (refine vo_isCopy ?_; refine vo_copyB rfl rfl rfl (by assumption) (by assumption) (by assumption) (by assumption) ?_) | refine vo_yield rfl rfl rfl rfl rfl ?_ | refine vo_callV rfl rfl rfl (vc_in rfl rfl ?_)) | refine vo_convRow rfl rfl ?_ | (refine vo_isBs ?_; refine vo_buildSlice rfl rfl rfl (by decide) (by repeat' (first | exact trivial | rfl | assumption | refine ⟨?_, ?_⟩ | (simp; done) | (simp; omega))) (by decide) rfl ?_; intro _) | (refine vo_buildSlice0 rfl ?_; intro _) | fail)
          refine ⟨.inl (by kernel_rfl), ?_⟩
          refine va_takePA 12 rfl rfl rfl rfl ?_
          refine va_done (by kernel_rfl) ?_
          refine ⟨rfl, _, by (repeat' (first | exact Sub.nil _ | refine Sub.cons rfl rfl ?_ | refine Sub.cons rfl ?_ ?_)), ?_⟩
          exact sei _ _ _
      intro z
      have hbl := bitAt_lt k d
      by_cases hb0 : bitAt k d = 0
      · rw [hb0]
        have hII := hIl' hb0
        repeat' (first | (refine go1 ?_; intros) | (refine vl_caseG rfl rfl rfl rfl ?_ ?_ <;> (intro hb; (try simp only [decide_eq_true_eq, decide_eq_false_iff_not, Bool.not_eq_true', Bool.not_eq_false', ne_eq, Decidable.not_not, Option.isNone_iff_eq_none, not_true_eq_false, not_false_eq_true] at hb); try (exfalso; omega))) | (refine v_cond rfl ?_ ?_ <;> (intro hb; (try simp only [decide_eq_true_eq, decide_eq_false_iff_not, Bool.not_eq_true', Bool.not_eq_false', ne_eq, Decidable.not_not, Option.isNone_iff_eq_none, not_true_eq_false, not_false_eq_true] at hb); try (exfalso; omega))) | fail)
        refine v_drawX [] 1 (by kernel_rfl) ?_
        refine va_takeA 0 rfl rfl rfl rfl ?_
        refine va_takeA 1 rfl rfl rfl rfl ?_
        refine va_takeA 2 rfl rfl rfl rfl ?_
        refine va_take 3 rfl rfl rfl rfl (by kernel_rfl) (fun _ _ _ _ h => h) (sei _ _ _) (vq_minus (r := 1) rfl rfl (by decide)) ?_
        refine va_takeA 4 rfl rfl rfl rfl ?_
        refine va_takeA 5 rfl rfl rfl rfl ?_
        refine va_one 6 (by kernel_rfl) rfl rfl ?_
        first | refine vo_call rfl rfl ?_ | refine vo_callV rfl rfl rfl ?_
        refine vc_mono (t2 _ inferInstance inferInstance) ?_
        rintro v L' ⟨rfl, rfl⟩
        refine ⟨.inr (sei _ _ _), ?_⟩
        refine va_one 7 (by kernel_rfl) rfl rfl ?_
        (first | (refine vo_box rfl rfl rfl ?_; intro _) | (refine vo_alloc rfl ?_; intro _) | (refine vo_isStore ?_; first | (refine vo_isPt0 rfl ?_; refine vo_stWA rfl rfl ?_) | (refine vo_isPt rfl ?_; refine vo_stBA rfl rfl ?_) | (refine vo_stO rfl rfl (by rfl) (by first | rfl | assumption) (by first | assumption | (simp; done) | (simp; omega) | omega) rfl ?_; skip)) | (refine vo_isCall ?_; first | (refine vo_isApp ?_; first | (refine vo_append0A rfl rfl rfl ?_; intro _ _ _ _) | (refine vo_appendA rfl rfl rfl ?_; intro _ _ _ _)) | (refine vo_isCopy ?_; refine vo_copyB rfl rfl rfl (by assumption) (by assumption) (by assumption) (by assumption) ?_) | refine vo_yield rfl rfl rfl rfl rfl ?_ | refine vo_callV rfl rfl rfl (vc_in rfl rfl ?_)) | refine vo_convRow rfl rfl ?_ | (refine vo_isBs ?_; refine vo_buildSlice rfl rfl rfl (by decide) (by repeat' (first | exact trivial | rfl | assumption | refine ⟨?_, ?_⟩ | (simp; done) | (simp; omega))) (by decide) rfl ?_; intro _) | (refine vo_buildSlice0 rfl ?_; intro _) | fail)
        refine ⟨.inr (sei _ _ _), ?_⟩
        refine va_one 8 (by kernel_rfl) rfl rfl ?_
        (first | (refine vo_box rfl rfl rfl ?_; intro _) | (refine vo_alloc rfl ?_; intro _) | (refine vo_isStore ?_; first | (refine vo_isPt0 rfl ?_; refine vo_stWA rfl rfl ?_) | (refine vo_isPt rfl ?_; refine vo_stBA rfl rfl ?_) | (refine vo_stO rfl rfl (by rfl) (by first | rfl | assumption) (by first | assumption | (simp; done) | (simp; omega) | omega) rfl ?_; skip)) | (refine vo_isCall ?_; first | (refine vo_isApp ?_; first | (refine vo_append0A rfl rfl rfl ?_; intro _ _ _ _) | (refine vo_appendA rfl rfl rfl ?_; intro _ _ _ _)) | (refine vo_isCopy ?_; refine vo_copyB rfl rfl rfl (by assumption) (by assumption) (by assumption) (by assumption) ?_) | refine vo_yield rfl rfl rfl rfl rfl ?_ | refine vo_callV rfl rfl rfl (vc_in rfl rfl ?_)) | refine vo_convRow rfl rfl ?_ | (refine vo_isBs ?_; refine vo_buildSlice rfl rfl rfl (by decide) (by repeat' (first | exact trivial | rfl | assumption | refine ⟨?_, ?_⟩ | (simp; done) | (simp; omega))) (by decide) rfl ?_; intro _) | (refine vo_buildSlice0 rfl ?_; intro _) | fail)
        refine ⟨.inr (sei _ _ _), ?_⟩
        refine va_takeA 9 rfl rfl rfl rfl ?_
        refine va_done (by kernel_rfl) ?_
        skip
        repeat' (first | (refine go1 ?_; intros) | (refine vl_caseG rfl rfl rfl rfl ?_ ?_ <;> (intro hb; (try simp only [decide_eq_true_eq, decide_eq_false_iff_not, Bool.not_eq_true', Bool.not_eq_false', ne_eq, Decidable.not_not, Option.isNone_iff_eq_none, not_true_eq_false, not_false_eq_true] at hb); try (exfalso; omega))) | (refine v_cond rfl ?_ ?_ <;> (intro hb; (try simp only [decide_eq_true_eq, decide_eq_false_iff_not, Bool.not_eq_true', Bool.not_eq_false', ne_eq, Decidable.not_not, Option.isNone_iff_eq_none, not_true_eq_false, not_false_eq_true] at hb); try (exfalso; omega))) | fail)
        rename_i a2 c2 _ _
        refine ⟨rfl, (l, d + 1, β, xs ++ [B], a2, c2), hII, by show l < n + 1; omega, ?_, ?_⟩
        · simp only [List.length_append, List.length_cons, List.length_nil, Nat.zero_add]
          (repeat' (first | exact Sub.nil _ | refine Sub.cons rfl rfl ?_ | refine Sub.cons rfl ?_ ?_))
        · dsimp only
          rw [ownDg_snoc]
          exact sei _ _ _
      · have hb1 : bitAt k d = 1 := by omega
        rw [hb1]
        have hII := hIr' hb0
        repeat' (first | (refine go1 ?_; intros) | (refine vl_caseG rfl rfl rfl rfl ?_ ?_ <;> (intro hb; (try simp only [decide_eq_true_eq, decide_eq_false_iff_not, Bool.not_eq_true', Bool.not_eq_false', ne_eq, Decidable.not_not, Option.isNone_iff_eq_none, not_true_eq_false, not_false_eq_true] at hb); try (exfalso; omega))) | (refine v_cond rfl ?_ ?_ <;> (intro hb; (try simp only [decide_eq_true_eq, decide_eq_false_iff_not, Bool.not_eq_true', Bool.not_eq_false', ne_eq, Decidable.not_not, Option.isNone_iff_eq_none, not_true_eq_false, not_false_eq_true] at hb); try (exfalso; omega))) | fail)
        refine v_drawX [] 1 (by kernel_rfl) ?_
        refine va_takeA 0 rfl rfl rfl rfl ?_
        refine va_takeA 1 rfl rfl rfl rfl ?_
        refine va_takeA 2 rfl rfl rfl rfl ?_
        refine va_take 3 rfl rfl rfl rfl (by kernel_rfl) (fun _ _ _ _ h => h) (sei _ _ _) (vq_minus (r := 0) rfl rfl (by decide)) ?_
        refine va_takeA 4 rfl rfl rfl rfl ?_
        refine va_takeA 5 rfl rfl rfl rfl ?_
        refine va_one 6 (by kernel_rfl) rfl rfl ?_
        first | refine vo_call rfl rfl ?_ | refine vo_callV rfl rfl rfl ?_
        refine vc_mono (t1 _ inferInstance inferInstance) ?_
        rintro v L' ⟨rfl, rfl⟩
        refine ⟨.inr (sei _ _ _), ?_⟩
        refine va_one 7 (by kernel_rfl) rfl rfl ?_
        (first | (refine vo_box rfl rfl rfl ?_; intro _) | (refine vo_alloc rfl ?_; intro _) | (refine vo_isStore ?_; first | (refine vo_isPt0 rfl ?_; refine vo_stWA rfl rfl ?_) | (refine vo_isPt rfl ?_; refine vo_stBA rfl rfl ?_) | (refine vo_stO rfl rfl (by rfl) (by first | rfl | assumption) (by first | assumption | (simp; done) | (simp; omega) | omega) rfl ?_; skip)) | (refine vo_isCall ?_; first | (refine vo_isApp ?_; first | (refine vo_append0A rfl rfl rfl ?_; intro _ _ _ _) | (refine vo_appendA rfl rfl rfl ?_; intro _ _ _ _)) | (refine vo_isCopy ?_; refine vo_copyB rfl rfl rfl (by assumption) (by assumption) (by assumption) (by assumption) ?_) | refine vo_yield rfl rfl rfl rfl rfl ?_ | refine vo_callV rfl rfl rfl (vc_in rfl rfl ?_)) | refine vo_convRow rfl rfl ?_ | (refine vo_isBs ?_; refine vo_buildSlice rfl rfl rfl (by decide) (by repeat' (first | exact trivial | rfl | assumption | refine ⟨?_, ?_⟩ | (simp; done) | (simp; omega))) (by decide) rfl ?_; intro _) | (refine vo_buildSlice0 rfl ?_; intro _) | fail)
        refine ⟨.inr (sei _ _ _), ?_⟩
        refine va_one 8 (by kernel_rfl) rfl rfl ?_
        (first | (refine vo_box rfl rfl rfl ?_; intro _) | (refine vo_alloc rfl ?_; intro _) | (refine vo_isStore ?_; first | (refine vo_isPt0 rfl ?_; refine vo_stWA rfl rfl ?_) | (refine vo_isPt rfl ?_; refine vo_stBA rfl rfl ?_) | (refine vo_stO rfl rfl (by rfl) (by first | rfl | assumption) (by first | assumption | (simp; done) | (simp; omega) | omega) rfl ?_; skip)) | (refine vo_isCall ?_; first | (refine vo_isApp ?_; first | (refine vo_append0A rfl rfl rfl ?_; intro _ _ _ _) | (refine vo_appendA rfl rfl rfl ?_; intro _ _ _ _)) | (refine vo_isCopy ?_; refine vo_copyB rfl rfl rfl (by assumption) (by assumption) (by assumption) (by assumption) ?_) | refine vo_yield rfl rfl rfl rfl rfl ?_ | refine vo_callV rfl rfl rfl (vc_in rfl rfl ?_)) | refine vo_convRow rfl rfl ?_ | (refine vo_isBs ?_; refine vo_buildSlice rfl rfl rfl (by decide) (by repeat' (first | exact trivial | rfl | assumption | refine ⟨?_, ?_⟩ | (simp; done) | (simp; omega))) (by decide) rfl ?_; intro _) | (refine vo_buildSlice0 rfl ?_; intro _) | fail)
        refine ⟨.inr (sei _ _ _), ?_⟩
        refine va_takeA 9 rfl rfl rfl rfl ?_
        refine va_done (by kernel_rfl) ?_
        skip
        repeat' (first | (refine go1 ?_; intros) | (refine vl_caseG rfl rfl rfl rfl ?_ ?_ <;> (intro hb; (try simp only [decide_eq_true_eq, decide_eq_false_iff_not, Bool.not_eq_true', Bool.not_eq_false', ne_eq, Decidable.not_not, Option.isNone_iff_eq_none, not_true_eq_false, not_false_eq_true] at hb); try (exfalso; omega))) | (refine v_cond rfl ?_ ?_ <;> (intro hb; (try simp only [decide_eq_true_eq, decide_eq_false_iff_not, Bool.not_eq_true', Bool.not_eq_false', ne_eq, Decidable.not_not, Option.isNone_iff_eq_none, not_true_eq_false, not_false_eq_true] at hb); try (exfalso; omega))) | fail)
        rename_i a2 c2 _ _
        refine ⟨rfl, (q, d + 1, flipB β d, xs ++ [A], a2, c2), hII, by show q < n + 1; omega, ?_, ?_⟩
        · simp only [List.length_append, List.length_cons, List.length_nil, Nat.zero_add]
          (repeat' (first | exact Sub.nil _ | refine Sub.cons rfl rfl ?_ | refine Sub.cons rfl ?_ ?_))
        · dsimp only
          rw [ownDg_snoc]
          exact sei _ _ _
    · rw [hl] at he0
      repeat' (first | (refine go1 ?_; intros) | (refine vl_caseG rfl rfl rfl rfl ?_ ?_ <;> (intro hb; (try simp only [decide_eq_true_eq, decide_eq_false_iff_not, Bool.not_eq_true', Bool.not_eq_false', ne_eq, Decidable.not_not, Option.isNone_iff_eq_none, not_true_eq_false, not_false_eq_true] at hb); try (exfalso; omega))) | (refine v_cond rfl ?_ ?_ <;> (intro hb; (try simp only [decide_eq_true_eq, decide_eq_false_iff_not, Bool.not_eq_true', Bool.not_eq_false', ne_eq, Decidable.not_not, Option.isNone_iff_eq_none, not_true_eq_false, not_false_eq_true] at hb); try (exfalso; omega))) | fail)
      refine vl_o rfl (vo_call rfl rfl ?_)
      refine vc_mono (clone_vc w0 _ x.a x.c x.v rfl (by omega)) ?_
      rintro v L' ⟨a2, c2, _, rfl, rfl⟩
      have hto2 := hto a2 c2
      have htl2 := htl a2 c2
      haveI hoc3 := hoc2 a2 c2
      repeat' (first | (refine go1 ?_; intros) | (refine vl_caseG rfl rfl rfl rfl ?_ ?_ <;> (intro hb; (try simp only [decide_eq_true_eq, decide_eq_false_iff_not, Bool.not_eq_true', Bool.not_eq_false', ne_eq, Decidable.not_not, Option.isNone_iff_eq_none, not_true_eq_false, not_false_eq_true] at hb); try (exfalso; omega))) | (refine v_cond rfl ?_ ?_ <;> (intro hb; (try simp only [decide_eq_true_eq, decide_eq_false_iff_not, Bool.not_eq_true', Bool.not_eq_false', ne_eq, Decidable.not_not, Option.isNone_iff_eq_none, not_true_eq_false, not_false_eq_true] at hb); try (exfalso; omega))) | fail)
      rw [hto2]
      repeat' (first | (refine go1 ?_; intros) | (refine vl_caseG rfl rfl rfl rfl ?_ ?_ <;> (intro hb; (try simp only [decide_eq_true_eq, decide_eq_false_iff_not, Bool.not_eq_true', Bool.not_eq_false', ne_eq, Decidable.not_not, Option.isNone_iff_eq_none, not_true_eq_false, not_false_eq_true] at hb); try (exfalso; omega))) | (refine v_cond rfl ?_ ?_ <;> (intro hb; (try simp only [decide_eq_true_eq, decide_eq_false_iff_not, Bool.not_eq_true', Bool.not_eq_false', ne_eq, Decidable.not_not, Option.isNone_iff_eq_none, not_true_eq_false, not_false_eq_true] at hb); try (exfalso; omega))) | fail)
      refine ⟨_, ?_, x.to a2 c2, xs, a', c', by rw [hE], hRR hl a' a2 c' c2 (hfin hl)⟩
      exact sei _ _ _
  · rw [if_neg hm]
    have hE : mayE ns r = 8 := if_neg hm
    repeat' (first | (refine go1 ?_; intros) | (refine vl_caseG rfl rfl rfl rfl ?_ ?_ <;> (intro hb; (try simp only [decide_eq_true_eq, decide_eq_false_iff_not, Bool.not_eq_true', Bool.not_eq_false', ne_eq, Decidable.not_not, Option.isNone_iff_eq_none, not_true_eq_false, not_false_eq_true] at hb); try (exfalso; omega))) | (refine v_cond rfl ?_ ?_ <;> (intro hb; (try simp only [decide_eq_true_eq, decide_eq_false_iff_not, Bool.not_eq_true', Bool.not_eq_false', ne_eq, Decidable.not_not, Option.isNone_iff_eq_none, not_true_eq_false, not_false_eq_true] at hb); try (exfalso; omega))) | fail)
    refine ⟨_, ?_, zN, [], none, 0, by rw [hE]; rfl, roadR_bad w0 L hm⟩
    exact (sei w0 _ L).trans (((se_own_nil 26 32 _).trans (se_own_nil 5 1 _)).ent w0)
end Go.Proofs.YtnoihibaoalkaaaDoor

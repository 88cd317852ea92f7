/-
  What a number stands for: the document's list. A number's sum: the program's.
-/
import Derived.Test.YtcpndfffdbogbaaGreatDoorTC
import Derived.Test.YtcpndfffdbogbaaGreatDoorGJ
import Derived.Test.YtcpndfffdbogbaaGreatDoorGC
set_option linter.unusedVariables false
set_option linter.unusedSimpArgs false
set_option linter.unusedSectionVars false

namespace Go.Proofs.YtcpndfffdbogbaaGreatDoor
open Go Go.RowKit
open Classical

theorem se_vs_app (ps qs : List PR) (L : List Asn) : SE (vsA ps :: vsA qs :: L) (vsA (ps ++ qs) :: L) := by
  unfold vsA psA
  rw [List.map_append, List.map_append]
  refine (se_unbundle _ _).trans ?_
  refine SE.trans ?_ (se_bundle _ _)
  rw [List.append_assoc]
  have : ∀ M : List Asn, SE (M ++ bundle ((qs.map PR.pb).map fun p => ownB p.a p.cap p.l) :: L) (M ++ ((qs.map PR.pb).map (fun p => ownB p.a p.cap p.l) ++ L)) := fun M => by
    induction M with
    | nil => exact se_unbundle _ _
    | cons A M ih => exact SE.cons A ih
  exact this _
theorem ownPs_app (a : Option Addr) (c : Nat) (ps qs : List PR) : ownPs a c (ps ++ qs) = own 170 33 a (ps.length + qs.length) c (prc ps ++ prc qs) := by
  unfold ownPs prc
  rw [flat_append, List.length_append]
theorem for_ok {ns : List Nd} {n d : Nat} {β : Nat → Nat} (hok : NsOk ns) (h0 : ∀ j, d ≤ j → β j = 0) (hr : 0 ≤ rightP ns n d β) {ps : List PR} (e : kvs ps = forP ns n) : PsOk ps := by
  have h1 := for_half h0 hr
  have h2 := congrArg List.length e
  simp only [List.length_map] at h2
  have h3 := hok.len
  have hm : ∀ p ∈ ps, p.kv ∈ forP ns n := fun p hp => by rw [← e]; exact List.mem_map.2 ⟨p, hp, rfl⟩
  exact ⟨fun p hp => for_k32 hok n _ (hm p hp), fun p hp => for_vl hok n _ (hm p hp), by omega⟩
set_option maxRecDepth 100000 in
set_option maxHeartbeats 1000000 in
theorem for6_vc (w0 : World) (a : Option Addr) (c : Nat) (ns : List Nd) (r : Int) (hok : NsOk ns) (ho : onesP ns) : ∀ (n : Nat) (L : List Asn) (d : Nat) (β : Nat → Nat) [hr : RdC w0 L a (ndc ns)] [hv : RdNs w0 L ns], n ≤ ns.length → (∀ m, d ≤ m → β m = 0) → 0 ≤ rightP ns n d β →
    VC Tryz.prog w0 87 [.agg #[.slice a ns.length c, .int .i64 r], .int .i64 n] L (RPs w0 L (forP ns n)) := by
  intro n
  induction n using Nat.strongRecOn with
  | _ n ih =>
  intro L d β hr hv hn h0 hri
  have hlen := hok.len
  cases n with
  | zero =>
    have e0 : forP ns 0 = [] := by rw [forP]
    rw [e0]
    refine vc_ent ?_
    refine vc_in rfl rfl ?_
    repeat' (first | (refine go1 ?_; intros) | (refine goCC ?_ ?_ <;> (intro hb; (try simp only [hSQ] at hb); try (exfalso; omega))) | fail)
    exact ⟨_, ((se_drop _ _).trans (se_ps_nil L)).ent w0, none, 0, [], rfl, rfl, rfl⟩
  | succ n =>
    have hx : ns[n]? = some ns[n] := List.getElem?_eq_getElem (by omega)
    have he := hok.e n (by omega)
    have hpos := hok.pos n (by omega)
    have hk := hok.k32at n (by omega)
    have hvl := hok.vlat n (by omega)
    haveI := hv.at n (by omega)
    have e1 := forP_at hx
    have f0 := Nd.f0 (x := ns[n])
    have f1 := Nd.f1 hk
    have f2 := Nd.f2 hk
    have f3 := Nd.f3 hk
    have f4 := Nd.f4 hk
    have hc := Nd.len hk
    haveI hoc : OC ns[n].cells := oc_nd _
    have hfk := ho.fork (show n < ns.length by omega)
    have hxl := ho.l (show n < ns.length by omega)
    have hxr := ho.r (show n < ns.length by omega)
    have hF := right_fork (d := d) (β := β) hx
    rw [e1]
    generalize ns[n] = x at *
    generalize x.cells = cs at *
    refine vc_ent ?_
    refine vc_in rfl rfl ?_
    cases hl : x.leaf
    · rw [hl] at f0
      rw [if_neg (by simp)]
      have hf := hfk hl
      have h1 := hxl hl
      have h2 := hxr hl
      obtain ⟨l, el⟩ : ∃ l : Nat, x.left = l := ⟨x.left.toNat, by omega⟩
      obtain ⟨q, eq⟩ : ∃ q : Nat, x.right = q := ⟨x.right.toNat, by omega⟩
      rw [el, Int.toNat_natCast] at h1
      rw [eq, Int.toNat_natCast] at h2
      rw [el] at f3
      rw [eq] at f4
      rw [el, eq] at hf
      have FF := hF (by simp [hl]) hri
      obtain ⟨F1, F2, F3, F4⟩ := FF
      rw [h1] at F2 F4
      rw [h2] at F3 F4
      rw [h1, h2]
      repeat' (first | (refine go1 ?_; intros) | (refine goCC ?_ ?_ <;> (intro hb; (try simp only [hSQ] at hb); try (exfalso; omega))) | fail)
      (refine v_draw0 [] (by kernel_rfl) ?_ <;> (refine tA 0 ?_) <;> (refine tA 1 ?_) <;> (refine tA 2 ?_) <;> (refine tA 4 ?_) <;> (refine tA 5 ?_) <;> (refine tA 6 ?_))
      first | refine va_one 3 (by kernel_rfl) rfl rfl (vo_call rfl rfl ?_) | refine va_one 3 (by kernel_rfl) rfl rfl (vo_callV rfl rfl rfl ?_)
      refine vc_mono (ih l (by omega) _ (d + 1) β (by omega) (zero_next h0) F2) ?_
      rintro v L' ⟨a1, c1, ps, rfl, hps, rfl⟩
      have okp := for_ok hok (zero_next h0) F2 hps
      have l1 := okp.len
      refine ⟨.inr entD, ?_⟩
      skip
      first | refine va_one 7 (by kernel_rfl) rfl rfl (vo_call rfl rfl ?_) | refine va_one 7 (by kernel_rfl) rfl rfl (vo_callV rfl rfl rfl ?_)
      refine vc_mono (ih q (by omega) _ (d + 1) (flipB β d) (by omega) (zero_flip h0) F3) ?_
      rintro v L' ⟨a2, c2, qs, rfl, hqs, rfl⟩
      have okq := for_ok hok (zero_flip h0) F3 hqs
      have l2 := okq.len
      have hwq := okq.wide.len
      unfold ownPs
      refine ⟨.inr entD, ?_⟩
      ((refine va_one 8 (by kernel_rfl) rfl rfl ?_; (refine goV ?_; intros); refine ⟨.inr entD, ?_⟩) <;> (refine tA 9 ?_) <;> (refine va_done (by kernel_rfl) ?_))
      repeat' (first | (refine go1 ?_; intros) | (refine goCC ?_ ?_ <;> (intro hb; (try simp only [hSQ] at hb); try (exfalso; omega))) | fail)
      rename_i a3 c3 _ _
      refine ⟨_, ?_, a3, c3, ps ++ qs, by rw [List.length_append], by rw [← hps, ← hqs]; exact List.map_append, rfl⟩
      rw [ownPs_app]
      refine (sei w0 _ (vsA ps :: vsA qs :: own 170 33 a3 (ps.length + qs.length) c3 (prc ps ++ prc qs) :: L)).trans (((se_vs_app ps qs _).ent w0).trans (sei _ _ _))
    · rw [hl] at f0
      rw [if_pos rfl]
      repeat' (first | (refine go1 ?_; intros) | (refine goCC ?_ ?_ <;> (intro hb; (try simp only [hSQ] at hb); try (exfalso; omega))) | fail)
      (refine v_draw0 [] (by kernel_rfl) ?_ <;> (refine tA 0 ?_) <;> (refine tA 1 ?_) <;> (refine tA 2 ?_) <;> (refine tA 3 ?_))
      first | refine va_one 4 (by kernel_rfl) rfl rfl (vo_call rfl rfl ?_) | refine va_one 4 (by kernel_rfl) rfl rfl (vo_callV rfl rfl rfl ?_)
      refine vc_mono (twin_vc w0 _ x.a x.c x.v rfl (by omega)) ?_
      rintro v L' ⟨a2, c2, _, rfl, rfl⟩
      refine ⟨.inr entD, ?_⟩
      refine va_take 5 rfl rfl rfl rfl (by kernel_rfl) (fun _ _ _ _ h => h) (sei _ _ _) (vq_build (us := PR.cells ⟨x.key, a2, c2, x.v⟩) rfl rfl (by simp [plOf, Value.cells, hk]) (PR.len hk)) ?_
      have hp33 : (PR.cells ⟨x.key, a2, c2, x.v⟩).length = 33 := PR.len hk
      (refine va_one 6 (by kernel_rfl) rfl rfl ?_)
      (refine goV ?_; intros)
      refine ⟨.inr (sei _ _ _), ?_⟩
      (refine tA 7 ?_)
      (refine va_done (by kernel_rfl) ?_)
      repeat' (first | (refine go1 ?_; intros) | (refine goCC ?_ ?_ <;> (intro hb; (try simp only [hSQ] at hb); try (exfalso; omega))) | fail)
      rename_i g3
      refine ⟨_, ?_, some ⟨g3, 0, none⟩, 1, [⟨x.key, a2, c2, x.v⟩], rfl, rfl, rfl⟩
      have e4 : ownPs (some ⟨g3, 0, none⟩) 1 [⟨x.key, a2, c2, x.v⟩] = own 170 33 (some ⟨g3, 0, none⟩) 1 1 ((PR.mk x.key a2 c2 x.v).cells ++ []) := by
        unfold ownPs prc
        rw [flat_one, List.append_nil]
        rfl
      rw [e4]
      refine (sei w0 _ (ownB a2 c2 x.v :: own 170 33 (some ⟨g3, 0, none⟩) 1 1 ((PR.mk x.key a2 c2 x.v).cells ++ []) :: L)).trans ?_
      have e5 := se_ps_snoc [] ⟨x.key, a2, c2, x.v⟩ (own 170 33 (some ⟨g3, 0, none⟩) 1 1 ((PR.mk x.key a2 c2 x.v).cells ++ []) :: L)
      rw [List.nil_append] at e5
      exact (((SE.cons _ (se_psA_nil _)).trans e5).ent w0).trans (sei _ _ _)
end Go.Proofs.YtcpndfffdbogbaaGreatDoor
namespace Go.Proofs.YtcpndfffdbogbaaGreatDoor
open Go Go.RowKit
open Classical

end Go.Proofs.YtcpndfffdbogbaaGreatDoor

/-
  A proof that fits a tree's sum tells what the tree has, or a clash is shown: the statement's law.
-/
import Derived.Test.YtnoihibaoalkaaaDoorClaF
import Derived.Test.YtnoihibaoalkaaaDoorGT
import Derived.Test.YtnoihibaoalkaaaDoorTGtA
import Derived.Test.YtnoihibaoalkaaaDoorTC
import Derived.Test.YtnoihibaoalkaaaDoorGN
set_option linter.unusedVariables false
set_option linter.unusedSimpArgs false
namespace Go.Proofs.YtnoihibaoalkaaaDoor
open Go Go.RowKit
set_option linter.unusedVariables false
set_option linter.unusedSimpArgs false
open Classical

theorem roadP_dg (ns : List Nd) (k : List UInt8) : ∀ n d, Dg (roadP ns k n d).2 := by
  intro n
  induction n using Nat.strongRecOn with
  | _ n ih =>
    intro d
    cases n with
    | zero => rw [roadP]; intro x hx; cases hx
    | succ n =>
      cases hx : ns[n]? with
      | none => rw [roadP, hx]; intro x hx; cases hx
      | some x =>
        rw [roadP_at hx]
        split
        · intro y hy; cases hy
        split
        · intro y hy
          rcases List.mem_cons.1 hy with rfl | hy
          · exact sumP_len _ _
          · exact ih _ (Nd.l_lt _ n) _ y hy
        · intro y hy
          rcases List.mem_cons.1 hy with rfl | hy
          · exact sumP_len _ _
          · exact ih _ (Nd.r_lt _ n) _ y hy
theorem prfT_ok {ns : List Nd} {r : Int} {k : List UInt8} (hok : NsOk ns) (hk : k.length = 32) (h : MayP ns r) : (prfT ns r k).ok := by
  have M := made_law hok hk h
  have hv := Prf.may_vl M.may
  have e0 : prfT ns r k = (prfE (roadN ns r k) (roadX ns r k) k none 0).ct := if_pos h
  have hX : roadX ns r k = (roadP ns k r.toNat 0).2 := by unfold roadX; rw [if_pos h, road_law ns k r.toNat 0 zb (fun _ _ => rfl) h.right]
  have hN : (roadN ns r k).key.length = 32 := by
    unfold roadN
    rw [if_pos h]
    split
    · rfl
    · rename_i m _
      cases hm : ns[m]? with
      | none => rfl
      | some x => exact hok.key x (List.mem_of_getElem? hm)
  have hkd : (prfT ns r k).kind < 256 := by
    rcases may_kind M.may with h | h | h <;> omega
  have hpl : (prfT ns r k).pl.length ≤ 256 := by
    have := M.may
    unfold Prf.may at this
    simp only [Bool.and_eq_true, decide_eq_true_eq] at this
    exact this.1
  refine ⟨by rw [M.key]; exact hk, hkd, ?_, ?_, by omega, by omega⟩
  · rw [e0]
    show (endO (roadN ns r k) k).length = 32
    unfold endO
    split
    · split
      · rfl
      · exact hN
    · rfl
  · rw [e0]
    show Dg (roadX ns r k)
    rw [hX]
    exact roadP_dg _ _ _ _
theorem prfT_isT {ns : List Nd} {r : Int} {k : List UInt8} (hok : NsOk ns) (hk : k.length = 32) (hm : MayP ns r) : (prfT ns r k).isT = hasT ns r k := by
  have M := made_law hok hk hm
  unfold hasT Prf.isT
  rw [if_pos hm, M.may, Bool.true_and]
  have := M.told
  cases h : has (forP ns r.toNat) k with
  | true => rw [decide_eq_true (this.2 h)]
  | false => rw [decide_eq_false (fun e => by rw [this.1 e] at h; cases h)]
theorem prfT_tl {ns : List Nd} {r : Int} {k : List UInt8} (hok : NsOk ns) (hk : k.length = 32) (hm : MayP ns r) : (prfT ns r k).tl = getT ns r k := by
  have M := made_law hok hk hm
  have hIs := prfT_isT hok hk hm
  unfold Prf.tl getT
  rw [if_pos hm]
  by_cases h : (prfT ns r k).isT = true
  · rw [if_pos h]
    refine M.v ?_
    have : ((prfT ns r k).may && decide ((prfT ns r k).kind = 1)) = true := h
    rw [M.may, Bool.true_and] at this
    exact of_decide_eq_true this
  · rw [if_neg h]
    have : hasT ns r k = false := by rw [← hIs]; simpa using h
    unfold hasT at this
    rw [if_pos hm] at this
    exact (getF_not this).symm
theorem ins_bound {p : Prf} (h : p.ok) (hm : p.may = true) {x : List UInt8} (hx : x ∈ p.ins) : x.length ≤ 1000000000 := by
  rw [Prf.ins, if_pos hm] at hx
  have := fromB_bound h (Prf.may_vl hm) _ (Nat.le_refl _) _ hx
  omega
theorem shows_law {ns : List Nd} {r : Int} {p : Prf} (hok : NsOk ns) (hp : p.ok) (hm : MayP ns r) (hpm : p.may = true) (hroot : p.root = sumT ns r) (hne : ¬ (p.isT = hasT ns r p.key ∧ p.tl = getT ns r p.key)) : ∃ x y, ofG ns r p = (x, y, 0) ∧ x ≠ y ∧ sha x = sha y ∧ x.length ≤ 1000000000 ∧ y.length ≤ 1000000000 := by
  have M := made_law hok hp.key hm
  have hq := prfT_ok hok hp.key hm
  have hIs := prfT_isT hok hp.key hm
  have hTl := prfT_tl hok hp.key hm
  have hS : sumT ns r = sumP ns r.toNat := if_pos hm
  have hun : unB (prfT ns r p.key) p = true := by
    unfold unB
    rw [hIs, hTl]
    by_cases h1 : hasT ns r p.key = p.isT
    · by_cases h2 : getT ns r p.key = p.tl
      · exact absurd ⟨h1.symm, h2.symm⟩ hne
      · rw [decide_eq_false h2]; simp
    · rw [decide_eq_false h1]; rfl
  obtain ⟨x, y, h1, h2, h3⟩ := seek_law hq hp M.may hpm (unB_unl M.may hpm M.key hun)
  have hun2 : unC (prfT ns r p.key) p = true := by unfold unC; rw [decide_eq_true M.key, hun]; rfl
  have hmem := firstU_mem h1
  refine ⟨x, y, ?_, h2, h3 (by rw [M.root, hroot, hS]), ins_bound hq M.may hmem.1, ins_bound hp hpm hmem.2⟩
  unfold ofG
  rw [if_pos ⟨hm, hpm⟩, if_pos ⟨by rw [hroot, hS], hun2⟩]
  unfold seekG
  rw [M.may, hpm, if_pos (show (true && true) = true from rfl), if_pos hun2, h1]
set_option maxRecDepth 100000 in
set_option maxHeartbeats 8000000 in
theorem clashShows_vc (w0 : World) [hK : RdA w0 (some ⟨0, 0, none⟩) (wds K64)] (a : Option Addr) (c : Nat) (ns : List Nd) (r : Int) (p : Prf) (hkey : ∀ p ∈ ns, p.key.length = 32) (hl : ns.length ≤ 9223372036854775807) (h0 : p.ok0) [hr : RdA w0 a (ndc ns)] [hv : RdNs w0 [] ns] [hr1 : RdA w0 p.va (bvs p.vl)] [hr2 : RdA w0 p.pa (bvs p.pl.flatten)] :
    VC Tryd.prog w0 3 [.agg #[.slice a ns.length c, .int .i64 r], .agg p.cells.toArray] [] fun v L' => v = .bool true := by
  have hcl := h0.len
  refine vc_in rfl rfl ?_
  repeat' (first | (refine go1 ?_; intros) | (refine vl_caseG rfl rfl rfl rfl ?_ ?_ <;> (intro hb; (try simp only [decide_eq_true_eq, decide_eq_false_iff_not, Bool.not_eq_true', Bool.not_eq_false', ne_eq, Decidable.not_not, Option.isNone_iff_eq_none, not_true_eq_false, not_false_eq_true] at hb); try (exfalso; omega))) | (refine v_cond rfl ?_ ?_ <;> (intro hb; (try simp only [decide_eq_true_eq, decide_eq_false_iff_not, Bool.not_eq_true', Bool.not_eq_false', ne_eq, Decidable.not_not, Option.isNone_iff_eq_none, not_true_eq_false, not_false_eq_true] at hb); try (exfalso; omega))) | fail)
  refine vl_o rfl (vo_call rfl rfl ?_)
  refine vc_mono (lalive9_vc w0 _) ?_
  rintro v L' ⟨rfl, rfl⟩
  repeat' (first | (refine go1 ?_; intros) | (refine vl_caseG rfl rfl rfl rfl ?_ ?_ <;> (intro hb; (try simp only [decide_eq_true_eq, decide_eq_false_iff_not, Bool.not_eq_true', Bool.not_eq_false', ne_eq, Decidable.not_not, Option.isNone_iff_eq_none, not_true_eq_false, not_false_eq_true] at hb); try (exfalso; omega))) | (refine v_cond rfl ?_ ?_ <;> (intro hb; (try simp only [decide_eq_true_eq, decide_eq_false_iff_not, Bool.not_eq_true', Bool.not_eq_false', ne_eq, Decidable.not_not, Option.isNone_iff_eq_none, not_true_eq_false, not_false_eq_true] at hb); try (exfalso; omega))) | fail)
  refine vl_o rfl (vo_call rfl rfl ?_)
  refine vc_mono (great6_vc w0 _ a c ns r 600 rfl (by decide) hkey hl) ?_
  rintro v L' ⟨b, rfl, hg, rfl⟩
  cases b with
  | true =>
    repeat' (first | (refine go1 ?_; intros) | (refine vl_caseG rfl rfl rfl rfl ?_ ?_ <;> (intro hb; (try simp only [decide_eq_true_eq, decide_eq_false_iff_not, Bool.not_eq_true', Bool.not_eq_false', ne_eq, Decidable.not_not, Option.isNone_iff_eq_none, not_true_eq_false, not_false_eq_true] at hb); try (exfalso; omega))) | (refine v_cond rfl ?_ ?_ <;> (intro hb; (try simp only [decide_eq_true_eq, decide_eq_false_iff_not, Bool.not_eq_true', Bool.not_eq_false', ne_eq, Decidable.not_not, Option.isNone_iff_eq_none, not_true_eq_false, not_false_eq_true] at hb); try (exfalso; omega))) | fail)
    exact rfl
  | false =>
  obtain ⟨hg1, hg2⟩ := hg rfl
  have hok : NsOk ns := ⟨hkey, fun p hp => by have := hg2 p hp; omega, by omega⟩
  repeat' (first | (refine go1 ?_; intros) | (refine vl_caseG rfl rfl rfl rfl ?_ ?_ <;> (intro hb; (try simp only [decide_eq_true_eq, decide_eq_false_iff_not, Bool.not_eq_true', Bool.not_eq_false', ne_eq, Decidable.not_not, Option.isNone_iff_eq_none, not_true_eq_false, not_false_eq_true] at hb); try (exfalso; omega))) | (refine v_cond rfl ?_ ?_ <;> (intro hb; (try simp only [decide_eq_true_eq, decide_eq_false_iff_not, Bool.not_eq_true', Bool.not_eq_false', ne_eq, Decidable.not_not, Option.isNone_iff_eq_none, not_true_eq_false, not_false_eq_true] at hb); try (exfalso; omega))) | fail)
  refine vl_o rfl (vo_call rfl rfl ?_)
  refine vc_mono (great7_vc w0 _ p h0) ?_
  rintro v L' ⟨rfl, rfl⟩
  cases hb1 : decide (100 < p.vl.length ∨ 300 < p.pl.length)
  rotate_left
  · repeat' (first | (refine go1 ?_; intros) | (refine vl_caseG rfl rfl rfl rfl ?_ ?_ <;> (intro hb; (try simp only [decide_eq_true_eq, decide_eq_false_iff_not, Bool.not_eq_true', Bool.not_eq_false', ne_eq, Decidable.not_not, Option.isNone_iff_eq_none, not_true_eq_false, not_false_eq_true] at hb); try (exfalso; omega))) | (refine v_cond rfl ?_ ?_ <;> (intro hb; (try simp only [decide_eq_true_eq, decide_eq_false_iff_not, Bool.not_eq_true', Bool.not_eq_false', ne_eq, Decidable.not_not, Option.isNone_iff_eq_none, not_true_eq_false, not_false_eq_true] at hb); try (exfalso; omega))) | fail)
    exact rfl
  have hb1' := of_decide_eq_false hb1
  have hp : p.ok := ⟨h0.key, h0.kind, h0.other, h0.dg, by omega, by omega⟩
  have f0 := Prf.f0 hp
  have hpk := hp.key
  have hsl := sumT_len ns r
  repeat' (first | (refine go1 ?_; intros) | (refine vl_caseG rfl rfl rfl rfl ?_ ?_ <;> (intro hb; (try simp only [decide_eq_true_eq, decide_eq_false_iff_not, Bool.not_eq_true', Bool.not_eq_false', ne_eq, Decidable.not_not, Option.isNone_iff_eq_none, not_true_eq_false, not_false_eq_true] at hb); try (exfalso; omega))) | (refine v_cond rfl ?_ ?_ <;> (intro hb; (try simp only [decide_eq_true_eq, decide_eq_false_iff_not, Bool.not_eq_true', Bool.not_eq_false', ne_eq, Decidable.not_not, Option.isNone_iff_eq_none, not_true_eq_false, not_false_eq_true] at hb); try (exfalso; omega))) | fail)
  refine vl_o rfl (vo_call rfl rfl ?_)
  refine vc_mono (tSum_vc w0 _ a c ns r rfl hok) ?_
  rintro v L' ⟨rfl, rfl⟩
  obtain ⟨S, hS⟩ : ∃ S, S = sumT ns r := ⟨_, rfl⟩
  rw [← hS] at hsl ⊢
  by_cases hm : MayP ns r
  rotate_left
  · rw [show mayE ns r = 8 by unfold mayE; rw [if_neg hm]]
    repeat' (first | (refine go1 ?_; intros) | (refine vl_caseG rfl rfl rfl rfl ?_ ?_ <;> (intro hb; (try simp only [decide_eq_true_eq, decide_eq_false_iff_not, Bool.not_eq_true', Bool.not_eq_false', ne_eq, Decidable.not_not, Option.isNone_iff_eq_none, not_true_eq_false, not_false_eq_true] at hb); try (exfalso; omega))) | (refine v_cond rfl ?_ ?_ <;> (intro hb; (try simp only [decide_eq_true_eq, decide_eq_false_iff_not, Bool.not_eq_true', Bool.not_eq_false', ne_eq, Decidable.not_not, Option.isNone_iff_eq_none, not_true_eq_false, not_false_eq_true] at hb); try (exfalso; omega))) | fail)
    exact rfl
  rw [show mayE ns r = 0 by unfold mayE; rw [if_pos hm]]
  repeat' (first | (refine go1 ?_; intros) | (refine vl_caseG rfl rfl rfl rfl ?_ ?_ <;> (intro hb; (try simp only [decide_eq_true_eq, decide_eq_false_iff_not, Bool.not_eq_true', Bool.not_eq_false', ne_eq, Decidable.not_not, Option.isNone_iff_eq_none, not_true_eq_false, not_false_eq_true] at hb); try (exfalso; omega))) | (refine v_cond rfl ?_ ?_ <;> (intro hb; (try simp only [decide_eq_true_eq, decide_eq_false_iff_not, Bool.not_eq_true', Bool.not_eq_false', ne_eq, Decidable.not_not, Option.isNone_iff_eq_none, not_true_eq_false, not_false_eq_true] at hb); try (exfalso; omega))) | fail)
  refine vl_o rfl (vo_call rfl rfl ?_)
  refine vc_mono (vfits_vc w0 _ p hp S hsl) ?_
  rintro v L' ⟨rfl, rfl⟩
  cases hfit : (p.may && decide (p.root = S))
  · repeat' (first | (refine go1 ?_; intros) | (refine vl_caseG rfl rfl rfl rfl ?_ ?_ <;> (intro hb; (try simp only [decide_eq_true_eq, decide_eq_false_iff_not, Bool.not_eq_true', Bool.not_eq_false', ne_eq, Decidable.not_not, Option.isNone_iff_eq_none, not_true_eq_false, not_false_eq_true] at hb); try (exfalso; omega))) | (refine v_cond rfl ?_ ?_ <;> (intro hb; (try simp only [decide_eq_true_eq, decide_eq_false_iff_not, Bool.not_eq_true', Bool.not_eq_false', ne_eq, Decidable.not_not, Option.isNone_iff_eq_none, not_true_eq_false, not_false_eq_true] at hb); try (exfalso; omega))) | fail)
    exact rfl
  obtain ⟨hpm, hroot⟩ : p.may = true ∧ p.root = S := by simpa using hfit
  repeat' (first | (refine go1 ?_; intros) | (refine vl_caseG rfl rfl rfl rfl ?_ ?_ <;> (intro hb; (try simp only [decide_eq_true_eq, decide_eq_false_iff_not, Bool.not_eq_true', Bool.not_eq_false', ne_eq, Decidable.not_not, Option.isNone_iff_eq_none, not_true_eq_false, not_false_eq_true] at hb); try (exfalso; omega))) | (refine v_cond rfl ?_ ?_ <;> (intro hb; (try simp only [decide_eq_true_eq, decide_eq_false_iff_not, Bool.not_eq_true', Bool.not_eq_false', ne_eq, Decidable.not_not, Option.isNone_iff_eq_none, not_true_eq_false, not_false_eq_true] at hb); try (exfalso; omega))) | fail)
  refine vl_o rfl (vo_call rfl rfl ?_)
  refine vc_mono (told_vc w0 _ p hp) ?_
  rintro v L' ⟨a2, c2, rfl, rfl⟩
  repeat' (first | (refine go1 ?_; intros) | (refine vl_caseG rfl rfl rfl rfl ?_ ?_ <;> (intro hb; (try simp only [decide_eq_true_eq, decide_eq_false_iff_not, Bool.not_eq_true', Bool.not_eq_false', ne_eq, Decidable.not_not, Option.isNone_iff_eq_none, not_true_eq_false, not_false_eq_true] at hb); try (exfalso; omega))) | (refine v_cond rfl ?_ ?_ <;> (intro hb; (try simp only [decide_eq_true_eq, decide_eq_false_iff_not, Bool.not_eq_true', Bool.not_eq_false', ne_eq, Decidable.not_not, Option.isNone_iff_eq_none, not_true_eq_false, not_false_eq_true] at hb); try (exfalso; omega))) | fail)
  refine vl_o rfl (vo_call rfl rfl ?_)
  refine vc_mono (tget_vc w0 _ a c ns r p.key rfl hok hpk) ?_
  rintro v L' ⟨a3, c3, rfl, rfl⟩
  have hlaw := fun hne => shows_law (ns := ns) (r := r) (p := p) hok hp hm hpm (hroot.trans hS) hne
  generalize getT ns r p.key = G at *
  generalize hasT ns r p.key = H at *
  generalize p.isT = I at *
  by_cases hT : p.tl = G
  · cases I <;> cases H
    · skip
      repeat' (first | (refine goE ?_; intros) | (refine vl_caseG rfl rfl rfl rfl ?_ ?_ <;> (intro hb; (try simp only [decide_eq_true_eq, decide_eq_false_iff_not, Bool.not_eq_true', Bool.not_eq_false', ne_eq, Decidable.not_not, Option.isNone_iff_eq_none, not_true_eq_false, not_false_eq_true] at hb); try (exfalso; omega))) | (refine v_cond rfl ?_ ?_ <;> (intro hb; (try simp only [decide_eq_true_eq, decide_eq_false_iff_not, Bool.not_eq_true', Bool.not_eq_false', ne_eq, Decidable.not_not, Option.isNone_iff_eq_none, not_true_eq_false, not_false_eq_true] at hb); try (exfalso; omega))) | fail)
      refine vl_o rfl (vo_call rfl rfl ?_)
      refine vc_mono (same_vc w0 _ a2 c2 p.tl a3 c3 G rfl rfl) ?_
      rintro v L' ⟨rfl, rfl⟩
      rw [decide_eq_true hT]
      repeat' (first | (refine goE ?_; intros) | (refine vl_caseG rfl rfl rfl rfl ?_ ?_ <;> (intro hb; (try simp only [decide_eq_true_eq, decide_eq_false_iff_not, Bool.not_eq_true', Bool.not_eq_false', ne_eq, Decidable.not_not, Option.isNone_iff_eq_none, not_true_eq_false, not_false_eq_true] at hb); try (exfalso; omega))) | (refine v_cond rfl ?_ ?_ <;> (intro hb; (try simp only [decide_eq_true_eq, decide_eq_false_iff_not, Bool.not_eq_true', Bool.not_eq_false', ne_eq, Decidable.not_not, Option.isNone_iff_eq_none, not_true_eq_false, not_false_eq_true] at hb); try (exfalso; omega))) | fail)
      exact rfl
    · obtain ⟨x, y, eO, hxy, hsh, hx9, hy9⟩ := hlaw (fun h => by cases h.1)
      repeat' (first | (refine goE ?_; intros) | (refine vl_caseG rfl rfl rfl rfl ?_ ?_ <;> (intro hb; (try simp only [decide_eq_true_eq, decide_eq_false_iff_not, Bool.not_eq_true', Bool.not_eq_false', ne_eq, Decidable.not_not, Option.isNone_iff_eq_none, not_true_eq_false, not_false_eq_true] at hb); try (exfalso; omega))) | (refine v_cond rfl ?_ ?_ <;> (intro hb; (try simp only [decide_eq_true_eq, decide_eq_false_iff_not, Bool.not_eq_true', Bool.not_eq_false', ne_eq, Decidable.not_not, Option.isNone_iff_eq_none, not_true_eq_false, not_false_eq_true] at hb); try (exfalso; omega))) | fail)
      refine vl_o rfl (vo_call rfl rfl ?_)
      refine vc_mono (cof_vc w0 _ a c ns r p rfl hok hp) ?_
      rintro v L' ⟨ax, cx, ay, cy, rfl, rfl⟩
      rw [eO]
      dsimp only
      have lS := sha_length x
      repeat' (first | (refine goE ?_; intros) | (refine vl_caseG rfl rfl rfl rfl ?_ ?_ <;> (intro hb; (try simp only [decide_eq_true_eq, decide_eq_false_iff_not, Bool.not_eq_true', Bool.not_eq_false', ne_eq, Decidable.not_not, Option.isNone_iff_eq_none, not_true_eq_false, not_false_eq_true] at hb); try (exfalso; omega))) | (refine v_cond rfl ?_ ?_ <;> (intro hb; (try simp only [decide_eq_true_eq, decide_eq_false_iff_not, Bool.not_eq_true', Bool.not_eq_false', ne_eq, Decidable.not_not, Option.isNone_iff_eq_none, not_true_eq_false, not_false_eq_true] at hb); try (exfalso; omega))) | fail)
      refine vl_o rfl (vo_call rfl rfl ?_)
      refine vc_mono (same_vc w0 _ ax cx x ay cy y rfl rfl) ?_
      rintro v L' ⟨rfl, rfl⟩
      rw [decide_eq_false hxy]
      repeat' (first | (refine goE ?_; intros) | (refine vl_caseG rfl rfl rfl rfl ?_ ?_ <;> (intro hb; (try simp only [decide_eq_true_eq, decide_eq_false_iff_not, Bool.not_eq_true', Bool.not_eq_false', ne_eq, Decidable.not_not, Option.isNone_iff_eq_none, not_true_eq_false, not_false_eq_true] at hb); try (exfalso; omega))) | (refine v_cond rfl ?_ ?_ <;> (intro hb; (try simp only [decide_eq_true_eq, decide_eq_false_iff_not, Bool.not_eq_true', Bool.not_eq_false', ne_eq, Decidable.not_not, Option.isNone_iff_eq_none, not_true_eq_false, not_false_eq_true] at hb); try (exfalso; omega))) | fail)
      refine vl_o rfl (vo_call rfl rfl ?_)
      rename_i gX
      refine vc_mono (of_vc w0 _ (some ⟨gX, 0, none⟩) 1 ⟨ax, cx, x⟩ rfl hx9 (hr := (inferInstance : RdC w0 _ _ [.slice ax x.length cx]))) ?_
      rintro v L' ⟨rfl, rfl⟩
      dsimp only
      repeat' (first | (refine goE ?_; intros) | (refine vl_caseG rfl rfl rfl rfl ?_ ?_ <;> (intro hb; (try simp only [decide_eq_true_eq, decide_eq_false_iff_not, Bool.not_eq_true', Bool.not_eq_false', ne_eq, Decidable.not_not, Option.isNone_iff_eq_none, not_true_eq_false, not_false_eq_true] at hb); try (exfalso; omega))) | (refine v_cond rfl ?_ ?_ <;> (intro hb; (try simp only [decide_eq_true_eq, decide_eq_false_iff_not, Bool.not_eq_true', Bool.not_eq_false', ne_eq, Decidable.not_not, Option.isNone_iff_eq_none, not_true_eq_false, not_false_eq_true] at hb); try (exfalso; omega))) | fail)
      refine vl_o rfl (vo_call rfl rfl ?_)
      rename_i gY
      refine vc_mono (of_vc w0 _ (some ⟨gY, 0, none⟩) 1 ⟨ay, cy, y⟩ rfl hy9 (hr := (inferInstance : RdC w0 _ _ [.slice ay y.length cy]))) ?_
      rintro v L' ⟨rfl, rfl⟩
      dsimp only
      rw [← hsh]
      repeat' (first | (refine goE ?_; intros) | (refine vl_caseG rfl rfl rfl rfl ?_ ?_ <;> (intro hb; (try simp only [decide_eq_true_eq, decide_eq_false_iff_not, Bool.not_eq_true', Bool.not_eq_false', ne_eq, Decidable.not_not, Option.isNone_iff_eq_none, not_true_eq_false, not_false_eq_true] at hb); try (exfalso; omega))) | (refine v_cond rfl ?_ ?_ <;> (intro hb; (try simp only [decide_eq_true_eq, decide_eq_false_iff_not, Bool.not_eq_true', Bool.not_eq_false', ne_eq, Decidable.not_not, Option.isNone_iff_eq_none, not_true_eq_false, not_false_eq_true] at hb); try (exfalso; omega))) | fail)
      exact rfl
    · obtain ⟨x, y, eO, hxy, hsh, hx9, hy9⟩ := hlaw (fun h => by cases h.1)
      repeat' (first | (refine goE ?_; intros) | (refine vl_caseG rfl rfl rfl rfl ?_ ?_ <;> (intro hb; (try simp only [decide_eq_true_eq, decide_eq_false_iff_not, Bool.not_eq_true', Bool.not_eq_false', ne_eq, Decidable.not_not, Option.isNone_iff_eq_none, not_true_eq_false, not_false_eq_true] at hb); try (exfalso; omega))) | (refine v_cond rfl ?_ ?_ <;> (intro hb; (try simp only [decide_eq_true_eq, decide_eq_false_iff_not, Bool.not_eq_true', Bool.not_eq_false', ne_eq, Decidable.not_not, Option.isNone_iff_eq_none, not_true_eq_false, not_false_eq_true] at hb); try (exfalso; omega))) | fail)
      refine vl_o rfl (vo_call rfl rfl ?_)
      refine vc_mono (cof_vc w0 _ a c ns r p rfl hok hp) ?_
      rintro v L' ⟨ax, cx, ay, cy, rfl, rfl⟩
      rw [eO]
      dsimp only
      have lS := sha_length x
      repeat' (first | (refine goE ?_; intros) | (refine vl_caseG rfl rfl rfl rfl ?_ ?_ <;> (intro hb; (try simp only [decide_eq_true_eq, decide_eq_false_iff_not, Bool.not_eq_true', Bool.not_eq_false', ne_eq, Decidable.not_not, Option.isNone_iff_eq_none, not_true_eq_false, not_false_eq_true] at hb); try (exfalso; omega))) | (refine v_cond rfl ?_ ?_ <;> (intro hb; (try simp only [decide_eq_true_eq, decide_eq_false_iff_not, Bool.not_eq_true', Bool.not_eq_false', ne_eq, Decidable.not_not, Option.isNone_iff_eq_none, not_true_eq_false, not_false_eq_true] at hb); try (exfalso; omega))) | fail)
      refine vl_o rfl (vo_call rfl rfl ?_)
      refine vc_mono (same_vc w0 _ ax cx x ay cy y rfl rfl) ?_
      rintro v L' ⟨rfl, rfl⟩
      rw [decide_eq_false hxy]
      repeat' (first | (refine goE ?_; intros) | (refine vl_caseG rfl rfl rfl rfl ?_ ?_ <;> (intro hb; (try simp only [decide_eq_true_eq, decide_eq_false_iff_not, Bool.not_eq_true', Bool.not_eq_false', ne_eq, Decidable.not_not, Option.isNone_iff_eq_none, not_true_eq_false, not_false_eq_true] at hb); try (exfalso; omega))) | (refine v_cond rfl ?_ ?_ <;> (intro hb; (try simp only [decide_eq_true_eq, decide_eq_false_iff_not, Bool.not_eq_true', Bool.not_eq_false', ne_eq, Decidable.not_not, Option.isNone_iff_eq_none, not_true_eq_false, not_false_eq_true] at hb); try (exfalso; omega))) | fail)
      refine vl_o rfl (vo_call rfl rfl ?_)
      rename_i gX
      refine vc_mono (of_vc w0 _ (some ⟨gX, 0, none⟩) 1 ⟨ax, cx, x⟩ rfl hx9 (hr := (inferInstance : RdC w0 _ _ [.slice ax x.length cx]))) ?_
      rintro v L' ⟨rfl, rfl⟩
      dsimp only
      repeat' (first | (refine goE ?_; intros) | (refine vl_caseG rfl rfl rfl rfl ?_ ?_ <;> (intro hb; (try simp only [decide_eq_true_eq, decide_eq_false_iff_not, Bool.not_eq_true', Bool.not_eq_false', ne_eq, Decidable.not_not, Option.isNone_iff_eq_none, not_true_eq_false, not_false_eq_true] at hb); try (exfalso; omega))) | (refine v_cond rfl ?_ ?_ <;> (intro hb; (try simp only [decide_eq_true_eq, decide_eq_false_iff_not, Bool.not_eq_true', Bool.not_eq_false', ne_eq, Decidable.not_not, Option.isNone_iff_eq_none, not_true_eq_false, not_false_eq_true] at hb); try (exfalso; omega))) | fail)
      refine vl_o rfl (vo_call rfl rfl ?_)
      rename_i gY
      refine vc_mono (of_vc w0 _ (some ⟨gY, 0, none⟩) 1 ⟨ay, cy, y⟩ rfl hy9 (hr := (inferInstance : RdC w0 _ _ [.slice ay y.length cy]))) ?_
      rintro v L' ⟨rfl, rfl⟩
      dsimp only
      rw [← hsh]
      repeat' (first | (refine goE ?_; intros) | (refine vl_caseG rfl rfl rfl rfl ?_ ?_ <;> (intro hb; (try simp only [decide_eq_true_eq, decide_eq_false_iff_not, Bool.not_eq_true', Bool.not_eq_false', ne_eq, Decidable.not_not, Option.isNone_iff_eq_none, not_true_eq_false, not_false_eq_true] at hb); try (exfalso; omega))) | (refine v_cond rfl ?_ ?_ <;> (intro hb; (try simp only [decide_eq_true_eq, decide_eq_false_iff_not, Bool.not_eq_true', Bool.not_eq_false', ne_eq, Decidable.not_not, Option.isNone_iff_eq_none, not_true_eq_false, not_false_eq_true] at hb); try (exfalso; omega))) | fail)
      exact rfl
    · skip
      repeat' (first | (refine goE ?_; intros) | (refine vl_caseG rfl rfl rfl rfl ?_ ?_ <;> (intro hb; (try simp only [decide_eq_true_eq, decide_eq_false_iff_not, Bool.not_eq_true', Bool.not_eq_false', ne_eq, Decidable.not_not, Option.isNone_iff_eq_none, not_true_eq_false, not_false_eq_true] at hb); try (exfalso; omega))) | (refine v_cond rfl ?_ ?_ <;> (intro hb; (try simp only [decide_eq_true_eq, decide_eq_false_iff_not, Bool.not_eq_true', Bool.not_eq_false', ne_eq, Decidable.not_not, Option.isNone_iff_eq_none, not_true_eq_false, not_false_eq_true] at hb); try (exfalso; omega))) | fail)
      refine vl_o rfl (vo_call rfl rfl ?_)
      refine vc_mono (same_vc w0 _ a2 c2 p.tl a3 c3 G rfl rfl) ?_
      rintro v L' ⟨rfl, rfl⟩
      rw [decide_eq_true hT]
      repeat' (first | (refine goE ?_; intros) | (refine vl_caseG rfl rfl rfl rfl ?_ ?_ <;> (intro hb; (try simp only [decide_eq_true_eq, decide_eq_false_iff_not, Bool.not_eq_true', Bool.not_eq_false', ne_eq, Decidable.not_not, Option.isNone_iff_eq_none, not_true_eq_false, not_false_eq_true] at hb); try (exfalso; omega))) | (refine v_cond rfl ?_ ?_ <;> (intro hb; (try simp only [decide_eq_true_eq, decide_eq_false_iff_not, Bool.not_eq_true', Bool.not_eq_false', ne_eq, Decidable.not_not, Option.isNone_iff_eq_none, not_true_eq_false, not_false_eq_true] at hb); try (exfalso; omega))) | fail)
      exact rfl
  · obtain ⟨x, y, eO, hxy, hsh, hx9, hy9⟩ := hlaw (fun h => hT h.2)
    cases I <;> cases H
    · skip
      repeat' (first | (refine goE ?_; intros) | (refine vl_caseG rfl rfl rfl rfl ?_ ?_ <;> (intro hb; (try simp only [decide_eq_true_eq, decide_eq_false_iff_not, Bool.not_eq_true', Bool.not_eq_false', ne_eq, Decidable.not_not, Option.isNone_iff_eq_none, not_true_eq_false, not_false_eq_true] at hb); try (exfalso; omega))) | (refine v_cond rfl ?_ ?_ <;> (intro hb; (try simp only [decide_eq_true_eq, decide_eq_false_iff_not, Bool.not_eq_true', Bool.not_eq_false', ne_eq, Decidable.not_not, Option.isNone_iff_eq_none, not_true_eq_false, not_false_eq_true] at hb); try (exfalso; omega))) | fail)
      refine vl_o rfl (vo_call rfl rfl ?_)
      refine vc_mono (same_vc w0 _ a2 c2 p.tl a3 c3 G rfl rfl) ?_
      rintro v L' ⟨rfl, rfl⟩
      rw [decide_eq_false hT]
      repeat' (first | (refine goE ?_; intros) | (refine vl_caseG rfl rfl rfl rfl ?_ ?_ <;> (intro hb; (try simp only [decide_eq_true_eq, decide_eq_false_iff_not, Bool.not_eq_true', Bool.not_eq_false', ne_eq, Decidable.not_not, Option.isNone_iff_eq_none, not_true_eq_false, not_false_eq_true] at hb); try (exfalso; omega))) | (refine v_cond rfl ?_ ?_ <;> (intro hb; (try simp only [decide_eq_true_eq, decide_eq_false_iff_not, Bool.not_eq_true', Bool.not_eq_false', ne_eq, Decidable.not_not, Option.isNone_iff_eq_none, not_true_eq_false, not_false_eq_true] at hb); try (exfalso; omega))) | fail)
      refine vl_o rfl (vo_call rfl rfl ?_)
      refine vc_mono (cof_vc w0 _ a c ns r p rfl hok hp) ?_
      rintro v L' ⟨ax, cx, ay, cy, rfl, rfl⟩
      rw [eO]
      dsimp only
      have lS := sha_length x
      repeat' (first | (refine goE ?_; intros) | (refine vl_caseG rfl rfl rfl rfl ?_ ?_ <;> (intro hb; (try simp only [decide_eq_true_eq, decide_eq_false_iff_not, Bool.not_eq_true', Bool.not_eq_false', ne_eq, Decidable.not_not, Option.isNone_iff_eq_none, not_true_eq_false, not_false_eq_true] at hb); try (exfalso; omega))) | (refine v_cond rfl ?_ ?_ <;> (intro hb; (try simp only [decide_eq_true_eq, decide_eq_false_iff_not, Bool.not_eq_true', Bool.not_eq_false', ne_eq, Decidable.not_not, Option.isNone_iff_eq_none, not_true_eq_false, not_false_eq_true] at hb); try (exfalso; omega))) | fail)
      refine vl_o rfl (vo_call rfl rfl ?_)
      refine vc_mono (same_vc w0 _ ax cx x ay cy y rfl rfl) ?_
      rintro v L' ⟨rfl, rfl⟩
      rw [decide_eq_false hxy]
      repeat' (first | (refine goE ?_; intros) | (refine vl_caseG rfl rfl rfl rfl ?_ ?_ <;> (intro hb; (try simp only [decide_eq_true_eq, decide_eq_false_iff_not, Bool.not_eq_true', Bool.not_eq_false', ne_eq, Decidable.not_not, Option.isNone_iff_eq_none, not_true_eq_false, not_false_eq_true] at hb); try (exfalso; omega))) | (refine v_cond rfl ?_ ?_ <;> (intro hb; (try simp only [decide_eq_true_eq, decide_eq_false_iff_not, Bool.not_eq_true', Bool.not_eq_false', ne_eq, Decidable.not_not, Option.isNone_iff_eq_none, not_true_eq_false, not_false_eq_true] at hb); try (exfalso; omega))) | fail)
      refine vl_o rfl (vo_call rfl rfl ?_)
      rename_i gX
      refine vc_mono (of_vc w0 _ (some ⟨gX, 0, none⟩) 1 ⟨ax, cx, x⟩ rfl hx9 (hr := (inferInstance : RdC w0 _ _ [.slice ax x.length cx]))) ?_
      rintro v L' ⟨rfl, rfl⟩
      dsimp only
      repeat' (first | (refine goE ?_; intros) | (refine vl_caseG rfl rfl rfl rfl ?_ ?_ <;> (intro hb; (try simp only [decide_eq_true_eq, decide_eq_false_iff_not, Bool.not_eq_true', Bool.not_eq_false', ne_eq, Decidable.not_not, Option.isNone_iff_eq_none, not_true_eq_false, not_false_eq_true] at hb); try (exfalso; omega))) | (refine v_cond rfl ?_ ?_ <;> (intro hb; (try simp only [decide_eq_true_eq, decide_eq_false_iff_not, Bool.not_eq_true', Bool.not_eq_false', ne_eq, Decidable.not_not, Option.isNone_iff_eq_none, not_true_eq_false, not_false_eq_true] at hb); try (exfalso; omega))) | fail)
      refine vl_o rfl (vo_call rfl rfl ?_)
      rename_i gY
      refine vc_mono (of_vc w0 _ (some ⟨gY, 0, none⟩) 1 ⟨ay, cy, y⟩ rfl hy9 (hr := (inferInstance : RdC w0 _ _ [.slice ay y.length cy]))) ?_
      rintro v L' ⟨rfl, rfl⟩
      dsimp only
      rw [← hsh]
      repeat' (first | (refine goE ?_; intros) | (refine vl_caseG rfl rfl rfl rfl ?_ ?_ <;> (intro hb; (try simp only [decide_eq_true_eq, decide_eq_false_iff_not, Bool.not_eq_true', Bool.not_eq_false', ne_eq, Decidable.not_not, Option.isNone_iff_eq_none, not_true_eq_false, not_false_eq_true] at hb); try (exfalso; omega))) | (refine v_cond rfl ?_ ?_ <;> (intro hb; (try simp only [decide_eq_true_eq, decide_eq_false_iff_not, Bool.not_eq_true', Bool.not_eq_false', ne_eq, Decidable.not_not, Option.isNone_iff_eq_none, not_true_eq_false, not_false_eq_true] at hb); try (exfalso; omega))) | fail)
      exact rfl
    · skip
      repeat' (first | (refine goE ?_; intros) | (refine vl_caseG rfl rfl rfl rfl ?_ ?_ <;> (intro hb; (try simp only [decide_eq_true_eq, decide_eq_false_iff_not, Bool.not_eq_true', Bool.not_eq_false', ne_eq, Decidable.not_not, Option.isNone_iff_eq_none, not_true_eq_false, not_false_eq_true] at hb); try (exfalso; omega))) | (refine v_cond rfl ?_ ?_ <;> (intro hb; (try simp only [decide_eq_true_eq, decide_eq_false_iff_not, Bool.not_eq_true', Bool.not_eq_false', ne_eq, Decidable.not_not, Option.isNone_iff_eq_none, not_true_eq_false, not_false_eq_true] at hb); try (exfalso; omega))) | fail)
      refine vl_o rfl (vo_call rfl rfl ?_)
      refine vc_mono (cof_vc w0 _ a c ns r p rfl hok hp) ?_
      rintro v L' ⟨ax, cx, ay, cy, rfl, rfl⟩
      rw [eO]
      dsimp only
      have lS := sha_length x
      repeat' (first | (refine goE ?_; intros) | (refine vl_caseG rfl rfl rfl rfl ?_ ?_ <;> (intro hb; (try simp only [decide_eq_true_eq, decide_eq_false_iff_not, Bool.not_eq_true', Bool.not_eq_false', ne_eq, Decidable.not_not, Option.isNone_iff_eq_none, not_true_eq_false, not_false_eq_true] at hb); try (exfalso; omega))) | (refine v_cond rfl ?_ ?_ <;> (intro hb; (try simp only [decide_eq_true_eq, decide_eq_false_iff_not, Bool.not_eq_true', Bool.not_eq_false', ne_eq, Decidable.not_not, Option.isNone_iff_eq_none, not_true_eq_false, not_false_eq_true] at hb); try (exfalso; omega))) | fail)
      refine vl_o rfl (vo_call rfl rfl ?_)
      refine vc_mono (same_vc w0 _ ax cx x ay cy y rfl rfl) ?_
      rintro v L' ⟨rfl, rfl⟩
      rw [decide_eq_false hxy]
      repeat' (first | (refine goE ?_; intros) | (refine vl_caseG rfl rfl rfl rfl ?_ ?_ <;> (intro hb; (try simp only [decide_eq_true_eq, decide_eq_false_iff_not, Bool.not_eq_true', Bool.not_eq_false', ne_eq, Decidable.not_not, Option.isNone_iff_eq_none, not_true_eq_false, not_false_eq_true] at hb); try (exfalso; omega))) | (refine v_cond rfl ?_ ?_ <;> (intro hb; (try simp only [decide_eq_true_eq, decide_eq_false_iff_not, Bool.not_eq_true', Bool.not_eq_false', ne_eq, Decidable.not_not, Option.isNone_iff_eq_none, not_true_eq_false, not_false_eq_true] at hb); try (exfalso; omega))) | fail)
      refine vl_o rfl (vo_call rfl rfl ?_)
      rename_i gX
      refine vc_mono (of_vc w0 _ (some ⟨gX, 0, none⟩) 1 ⟨ax, cx, x⟩ rfl hx9 (hr := (inferInstance : RdC w0 _ _ [.slice ax x.length cx]))) ?_
      rintro v L' ⟨rfl, rfl⟩
      dsimp only
      repeat' (first | (refine goE ?_; intros) | (refine vl_caseG rfl rfl rfl rfl ?_ ?_ <;> (intro hb; (try simp only [decide_eq_true_eq, decide_eq_false_iff_not, Bool.not_eq_true', Bool.not_eq_false', ne_eq, Decidable.not_not, Option.isNone_iff_eq_none, not_true_eq_false, not_false_eq_true] at hb); try (exfalso; omega))) | (refine v_cond rfl ?_ ?_ <;> (intro hb; (try simp only [decide_eq_true_eq, decide_eq_false_iff_not, Bool.not_eq_true', Bool.not_eq_false', ne_eq, Decidable.not_not, Option.isNone_iff_eq_none, not_true_eq_false, not_false_eq_true] at hb); try (exfalso; omega))) | fail)
      refine vl_o rfl (vo_call rfl rfl ?_)
      rename_i gY
      refine vc_mono (of_vc w0 _ (some ⟨gY, 0, none⟩) 1 ⟨ay, cy, y⟩ rfl hy9 (hr := (inferInstance : RdC w0 _ _ [.slice ay y.length cy]))) ?_
      rintro v L' ⟨rfl, rfl⟩
      dsimp only
      rw [← hsh]
      repeat' (first | (refine goE ?_; intros) | (refine vl_caseG rfl rfl rfl rfl ?_ ?_ <;> (intro hb; (try simp only [decide_eq_true_eq, decide_eq_false_iff_not, Bool.not_eq_true', Bool.not_eq_false', ne_eq, Decidable.not_not, Option.isNone_iff_eq_none, not_true_eq_false, not_false_eq_true] at hb); try (exfalso; omega))) | (refine v_cond rfl ?_ ?_ <;> (intro hb; (try simp only [decide_eq_true_eq, decide_eq_false_iff_not, Bool.not_eq_true', Bool.not_eq_false', ne_eq, Decidable.not_not, Option.isNone_iff_eq_none, not_true_eq_false, not_false_eq_true] at hb); try (exfalso; omega))) | fail)
      exact rfl
    · skip
      repeat' (first | (refine goE ?_; intros) | (refine vl_caseG rfl rfl rfl rfl ?_ ?_ <;> (intro hb; (try simp only [decide_eq_true_eq, decide_eq_false_iff_not, Bool.not_eq_true', Bool.not_eq_false', ne_eq, Decidable.not_not, Option.isNone_iff_eq_none, not_true_eq_false, not_false_eq_true] at hb); try (exfalso; omega))) | (refine v_cond rfl ?_ ?_ <;> (intro hb; (try simp only [decide_eq_true_eq, decide_eq_false_iff_not, Bool.not_eq_true', Bool.not_eq_false', ne_eq, Decidable.not_not, Option.isNone_iff_eq_none, not_true_eq_false, not_false_eq_true] at hb); try (exfalso; omega))) | fail)
      refine vl_o rfl (vo_call rfl rfl ?_)
      refine vc_mono (cof_vc w0 _ a c ns r p rfl hok hp) ?_
      rintro v L' ⟨ax, cx, ay, cy, rfl, rfl⟩
      rw [eO]
      dsimp only
      have lS := sha_length x
      repeat' (first | (refine goE ?_; intros) | (refine vl_caseG rfl rfl rfl rfl ?_ ?_ <;> (intro hb; (try simp only [decide_eq_true_eq, decide_eq_false_iff_not, Bool.not_eq_true', Bool.not_eq_false', ne_eq, Decidable.not_not, Option.isNone_iff_eq_none, not_true_eq_false, not_false_eq_true] at hb); try (exfalso; omega))) | (refine v_cond rfl ?_ ?_ <;> (intro hb; (try simp only [decide_eq_true_eq, decide_eq_false_iff_not, Bool.not_eq_true', Bool.not_eq_false', ne_eq, Decidable.not_not, Option.isNone_iff_eq_none, not_true_eq_false, not_false_eq_true] at hb); try (exfalso; omega))) | fail)
      refine vl_o rfl (vo_call rfl rfl ?_)
      refine vc_mono (same_vc w0 _ ax cx x ay cy y rfl rfl) ?_
      rintro v L' ⟨rfl, rfl⟩
      rw [decide_eq_false hxy]
      repeat' (first | (refine goE ?_; intros) | (refine vl_caseG rfl rfl rfl rfl ?_ ?_ <;> (intro hb; (try simp only [decide_eq_true_eq, decide_eq_false_iff_not, Bool.not_eq_true', Bool.not_eq_false', ne_eq, Decidable.not_not, Option.isNone_iff_eq_none, not_true_eq_false, not_false_eq_true] at hb); try (exfalso; omega))) | (refine v_cond rfl ?_ ?_ <;> (intro hb; (try simp only [decide_eq_true_eq, decide_eq_false_iff_not, Bool.not_eq_true', Bool.not_eq_false', ne_eq, Decidable.not_not, Option.isNone_iff_eq_none, not_true_eq_false, not_false_eq_true] at hb); try (exfalso; omega))) | fail)
      refine vl_o rfl (vo_call rfl rfl ?_)
      rename_i gX
      refine vc_mono (of_vc w0 _ (some ⟨gX, 0, none⟩) 1 ⟨ax, cx, x⟩ rfl hx9 (hr := (inferInstance : RdC w0 _ _ [.slice ax x.length cx]))) ?_
      rintro v L' ⟨rfl, rfl⟩
      dsimp only
      repeat' (first | (refine goE ?_; intros) | (refine vl_caseG rfl rfl rfl rfl ?_ ?_ <;> (intro hb; (try simp only [decide_eq_true_eq, decide_eq_false_iff_not, Bool.not_eq_true', Bool.not_eq_false', ne_eq, Decidable.not_not, Option.isNone_iff_eq_none, not_true_eq_false, not_false_eq_true] at hb); try (exfalso; omega))) | (refine v_cond rfl ?_ ?_ <;> (intro hb; (try simp only [decide_eq_true_eq, decide_eq_false_iff_not, Bool.not_eq_true', Bool.not_eq_false', ne_eq, Decidable.not_not, Option.isNone_iff_eq_none, not_true_eq_false, not_false_eq_true] at hb); try (exfalso; omega))) | fail)
      refine vl_o rfl (vo_call rfl rfl ?_)
      rename_i gY
      refine vc_mono (of_vc w0 _ (some ⟨gY, 0, none⟩) 1 ⟨ay, cy, y⟩ rfl hy9 (hr := (inferInstance : RdC w0 _ _ [.slice ay y.length cy]))) ?_
      rintro v L' ⟨rfl, rfl⟩
      dsimp only
      rw [← hsh]
      repeat' (first | (refine goE ?_; intros) | (refine vl_caseG rfl rfl rfl rfl ?_ ?_ <;> (intro hb; (try simp only [decide_eq_true_eq, decide_eq_false_iff_not, Bool.not_eq_true', Bool.not_eq_false', ne_eq, Decidable.not_not, Option.isNone_iff_eq_none, not_true_eq_false, not_false_eq_true] at hb); try (exfalso; omega))) | (refine v_cond rfl ?_ ?_ <;> (intro hb; (try simp only [decide_eq_true_eq, decide_eq_false_iff_not, Bool.not_eq_true', Bool.not_eq_false', ne_eq, Decidable.not_not, Option.isNone_iff_eq_none, not_true_eq_false, not_false_eq_true] at hb); try (exfalso; omega))) | fail)
      exact rfl
    · skip
      repeat' (first | (refine goE ?_; intros) | (refine vl_caseG rfl rfl rfl rfl ?_ ?_ <;> (intro hb; (try simp only [decide_eq_true_eq, decide_eq_false_iff_not, Bool.not_eq_true', Bool.not_eq_false', ne_eq, Decidable.not_not, Option.isNone_iff_eq_none, not_true_eq_false, not_false_eq_true] at hb); try (exfalso; omega))) | (refine v_cond rfl ?_ ?_ <;> (intro hb; (try simp only [decide_eq_true_eq, decide_eq_false_iff_not, Bool.not_eq_true', Bool.not_eq_false', ne_eq, Decidable.not_not, Option.isNone_iff_eq_none, not_true_eq_false, not_false_eq_true] at hb); try (exfalso; omega))) | fail)
      refine vl_o rfl (vo_call rfl rfl ?_)
      refine vc_mono (same_vc w0 _ a2 c2 p.tl a3 c3 G rfl rfl) ?_
      rintro v L' ⟨rfl, rfl⟩
      rw [decide_eq_false hT]
      repeat' (first | (refine goE ?_; intros) | (refine vl_caseG rfl rfl rfl rfl ?_ ?_ <;> (intro hb; (try simp only [decide_eq_true_eq, decide_eq_false_iff_not, Bool.not_eq_true', Bool.not_eq_false', ne_eq, Decidable.not_not, Option.isNone_iff_eq_none, not_true_eq_false, not_false_eq_true] at hb); try (exfalso; omega))) | (refine v_cond rfl ?_ ?_ <;> (intro hb; (try simp only [decide_eq_true_eq, decide_eq_false_iff_not, Bool.not_eq_true', Bool.not_eq_false', ne_eq, Decidable.not_not, Option.isNone_iff_eq_none, not_true_eq_false, not_false_eq_true] at hb); try (exfalso; omega))) | fail)
      refine vl_o rfl (vo_call rfl rfl ?_)
      refine vc_mono (cof_vc w0 _ a c ns r p rfl hok hp) ?_
      rintro v L' ⟨ax, cx, ay, cy, rfl, rfl⟩
      rw [eO]
      dsimp only
      have lS := sha_length x
      repeat' (first | (refine goE ?_; intros) | (refine vl_caseG rfl rfl rfl rfl ?_ ?_ <;> (intro hb; (try simp only [decide_eq_true_eq, decide_eq_false_iff_not, Bool.not_eq_true', Bool.not_eq_false', ne_eq, Decidable.not_not, Option.isNone_iff_eq_none, not_true_eq_false, not_false_eq_true] at hb); try (exfalso; omega))) | (refine v_cond rfl ?_ ?_ <;> (intro hb; (try simp only [decide_eq_true_eq, decide_eq_false_iff_not, Bool.not_eq_true', Bool.not_eq_false', ne_eq, Decidable.not_not, Option.isNone_iff_eq_none, not_true_eq_false, not_false_eq_true] at hb); try (exfalso; omega))) | fail)
      refine vl_o rfl (vo_call rfl rfl ?_)
      refine vc_mono (same_vc w0 _ ax cx x ay cy y rfl rfl) ?_
      rintro v L' ⟨rfl, rfl⟩
      rw [decide_eq_false hxy]
      repeat' (first | (refine goE ?_; intros) | (refine vl_caseG rfl rfl rfl rfl ?_ ?_ <;> (intro hb; (try simp only [decide_eq_true_eq, decide_eq_false_iff_not, Bool.not_eq_true', Bool.not_eq_false', ne_eq, Decidable.not_not, Option.isNone_iff_eq_none, not_true_eq_false, not_false_eq_true] at hb); try (exfalso; omega))) | (refine v_cond rfl ?_ ?_ <;> (intro hb; (try simp only [decide_eq_true_eq, decide_eq_false_iff_not, Bool.not_eq_true', Bool.not_eq_false', ne_eq, Decidable.not_not, Option.isNone_iff_eq_none, not_true_eq_false, not_false_eq_true] at hb); try (exfalso; omega))) | fail)
      refine vl_o rfl (vo_call rfl rfl ?_)
      rename_i gX
      refine vc_mono (of_vc w0 _ (some ⟨gX, 0, none⟩) 1 ⟨ax, cx, x⟩ rfl hx9 (hr := (inferInstance : RdC w0 _ _ [.slice ax x.length cx]))) ?_
      rintro v L' ⟨rfl, rfl⟩
      dsimp only
      repeat' (first | (refine goE ?_; intros) | (refine vl_caseG rfl rfl rfl rfl ?_ ?_ <;> (intro hb; (try simp only [decide_eq_true_eq, decide_eq_false_iff_not, Bool.not_eq_true', Bool.not_eq_false', ne_eq, Decidable.not_not, Option.isNone_iff_eq_none, not_true_eq_false, not_false_eq_true] at hb); try (exfalso; omega))) | (refine v_cond rfl ?_ ?_ <;> (intro hb; (try simp only [decide_eq_true_eq, decide_eq_false_iff_not, Bool.not_eq_true', Bool.not_eq_false', ne_eq, Decidable.not_not, Option.isNone_iff_eq_none, not_true_eq_false, not_false_eq_true] at hb); try (exfalso; omega))) | fail)
      refine vl_o rfl (vo_call rfl rfl ?_)
      rename_i gY
      refine vc_mono (of_vc w0 _ (some ⟨gY, 0, none⟩) 1 ⟨ay, cy, y⟩ rfl hy9 (hr := (inferInstance : RdC w0 _ _ [.slice ay y.length cy]))) ?_
      rintro v L' ⟨rfl, rfl⟩
      dsimp only
      rw [← hsh]
      repeat' (first | (refine goE ?_; intros) | (refine vl_caseG rfl rfl rfl rfl ?_ ?_ <;> (intro hb; (try simp only [decide_eq_true_eq, decide_eq_false_iff_not, Bool.not_eq_true', Bool.not_eq_false', ne_eq, Decidable.not_not, Option.isNone_iff_eq_none, not_true_eq_false, not_false_eq_true] at hb); try (exfalso; omega))) | (refine v_cond rfl ?_ ?_ <;> (intro hb; (try simp only [decide_eq_true_eq, decide_eq_false_iff_not, Bool.not_eq_true', Bool.not_eq_false', ne_eq, Decidable.not_not, Option.isNone_iff_eq_none, not_true_eq_false, not_false_eq_true] at hb); try (exfalso; omega))) | fail)
      exact rfl
end Go.Proofs.YtnoihibaoalkaaaDoor

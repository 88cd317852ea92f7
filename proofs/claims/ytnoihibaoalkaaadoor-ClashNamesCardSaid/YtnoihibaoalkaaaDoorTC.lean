/-
  Whether a tree may be: the program's and the document's. How great a tree is; twins of trees. Whether two trees are the same. Whether two trees are the same: the program's.
-/
import Derived.Test.YtnoihibaoalkaaaDoorTreD
import Derived.Test.YtnoihibaoalkaaaDoorGK
set_option linter.unusedVariables false
set_option linter.unusedSimpArgs false
namespace Go.Proofs.YtnoihibaoalkaaaDoor
open Go Go.RowKit
set_option linter.unusedVariables false
set_option linter.unusedSimpArgs false
open Classical

theorem MayP.not_one {ns : List Nd} {r : Int} {i : Nat} (hi : i < ns.length) (h : ¬ oneP ns[i] i) : ¬ MayP ns r := fun e => h (e.ones.at hi)
set_option maxRecDepth 100000 in
set_option maxHeartbeats 1000000 in
theorem tcheck_vc (w0 : World) (L : List Asn) (a : Option Addr) (c : Nat) (ns : List Nd) (r : Int) {n : Nat} (hn : n = ns.length) (hok : NsOk ns) [hr : RdC w0 L a (ndc ns)] :
    VC Tryd.prog w0 47 [.agg #[.slice a n c, .int .i64 r]] L fun v L' => v = .int .i64 (if MayP ns r then 0 else 8) ∧ L' = L := by
  subst hn
  have hlen := hok.len
  refine vc_ent ?_
  refine vc_in rfl rfl ?_
  have hno : ∀ {v : Value}, ¬ MayP ns r → v = .int .i64 8 → v = .int .i64 (if MayP ns r then 0 else 8) := fun h1 h2 => by rw [h2, if_neg h1]
  by_cases hbad : ns.length ≤ 262144 ∧ 0 ≤ r ∧ r ≤ ns.length
  · obtain ⟨hb1, hb2, hb3⟩ := hbad
    repeat' (first | (refine goU ?_; intros) | (refine vl_caseG rfl rfl rfl rfl ?_ ?_ <;> (intro hb; (try simp only [decide_eq_true_eq, decide_eq_false_iff_not, Bool.not_eq_true', Bool.not_eq_false', ne_eq, Decidable.not_not, Option.isNone_iff_eq_none, not_true_eq_false, not_false_eq_true] at hb); try (exfalso; omega))) | (refine v_cond rfl ?_ ?_ <;> (intro hb; (try simp only [decide_eq_true_eq, decide_eq_false_iff_not, Bool.not_eq_true', Bool.not_eq_false', ne_eq, Decidable.not_not, Option.isNone_iff_eq_none, not_true_eq_false, not_false_eq_true] at hb); try (exfalso; omega))) | fail)
    refine v_loopS Nat [1, 26, 25] rfl (fun i => [(27, .int .i64 i)]) (fun i => i ≤ ns.length ∧ onesP (ns.take i)) (fun i => ns.length - i) 0 ⟨Nat.zero_le _, by simp [onesP]⟩ (by (repeat' (first | exact Sub.nil _ | refine Sub.cons rfl rfl ?_ | refine Sub.cons rfl ?_ ?_))) (fun i ⟨hi, ho⟩ => ?_)
    by_cases hlt : i < ns.length
    · have he := hok.e i hlt
      have hpos := hok.pos i hlt
      have hk := hok.k32at i hlt
      have hv := hok.vlat i hlt
      have hN := MayP.not_one (r := r) hlt
      have hS := onesP_step hlt ho
      have hO := fun L => one_vc w0 L ns[i] i hk hv (by omega)
      have hc := Nd.len hk
      haveI hoc : OC ns[i].cells := oc_nd _
      generalize ns[i] = x at *
      generalize x.cells = cs at *
      repeat' (first | (refine go1 ?_; intros) | (refine vl_caseG rfl rfl rfl rfl ?_ ?_ <;> (intro hb; (try simp only [decide_eq_true_eq, decide_eq_false_iff_not, Bool.not_eq_true', Bool.not_eq_false', ne_eq, Decidable.not_not, Option.isNone_iff_eq_none, not_true_eq_false, not_false_eq_true] at hb); try (exfalso; omega))) | (refine v_cond rfl ?_ ?_ <;> (intro hb; (try simp only [decide_eq_true_eq, decide_eq_false_iff_not, Bool.not_eq_true', Bool.not_eq_false', ne_eq, Decidable.not_not, Option.isNone_iff_eq_none, not_true_eq_false, not_false_eq_true] at hb); try (exfalso; omega))) | fail)
      refine vl_o rfl (vo_call rfl rfl ?_)
      refine vc_mono (hO _) ?_
      rintro v L' ⟨rfl, rfl⟩
      by_cases h1 : oneP x i
      · rw [decide_eq_true h1]
        repeat' (first | (refine go1 ?_; intros) | (refine vl_caseG rfl rfl rfl rfl ?_ ?_ <;> (intro hb; (try simp only [decide_eq_true_eq, decide_eq_false_iff_not, Bool.not_eq_true', Bool.not_eq_false', ne_eq, Decidable.not_not, Option.isNone_iff_eq_none, not_true_eq_false, not_false_eq_true] at hb); try (exfalso; omega))) | (refine v_cond rfl ?_ ?_ <;> (intro hb; (try simp only [decide_eq_true_eq, decide_eq_false_iff_not, Bool.not_eq_true', Bool.not_eq_false', ne_eq, Decidable.not_not, Option.isNone_iff_eq_none, not_true_eq_false, not_false_eq_true] at hb); try (exfalso; omega))) | fail)
        exact ⟨rfl, i + 1, ⟨by omega, hS h1⟩, by omega, by (repeat' (first | exact Sub.nil _ | refine Sub.cons rfl rfl ?_ | refine Sub.cons rfl ?_ ?_)), sei _ _ _⟩
      · rw [decide_eq_false h1]
        repeat' (first | (refine go1 ?_; intros) | (refine vl_caseG rfl rfl rfl rfl ?_ ?_ <;> (intro hb; (try simp only [decide_eq_true_eq, decide_eq_false_iff_not, Bool.not_eq_true', Bool.not_eq_false', ne_eq, Decidable.not_not, Option.isNone_iff_eq_none, not_true_eq_false, not_false_eq_true] at hb); try (exfalso; omega))) | (refine v_cond rfl ?_ ?_ <;> (intro hb; (try simp only [decide_eq_true_eq, decide_eq_false_iff_not, Bool.not_eq_true', Bool.not_eq_false', ne_eq, Decidable.not_not, Option.isNone_iff_eq_none, not_true_eq_false, not_false_eq_true] at hb); try (exfalso; omega))) | fail)
        exact ⟨L, sei _ _ _, hno (hN h1) rfl, rfl⟩
    · obtain rfl : i = ns.length := by omega
      rw [List.take_length] at ho
      obtain ⟨rn, rfl⟩ : ∃ rn : Nat, r = rn := ⟨r.toNat, by omega⟩
      have hR := fun L (hr : RdC w0 L a (ndc ns)) => tright_vc w0 a c ns rn hok ho rn L 0 z32 (by omega) (by omega) (by rfl) (fun m _ => by rw [bitAt_z32]; rfl)
      rw [bitAt_z32] at hR
      repeat' (first | (refine go1 ?_; intros) | (refine vl_caseG rfl rfl rfl rfl ?_ ?_ <;> (intro hb; (try simp only [decide_eq_true_eq, decide_eq_false_iff_not, Bool.not_eq_true', Bool.not_eq_false', ne_eq, Decidable.not_not, Option.isNone_iff_eq_none, not_true_eq_false, not_false_eq_true] at hb); try (exfalso; omega))) | (refine v_cond rfl ?_ ?_ <;> (intro hb; (try simp only [decide_eq_true_eq, decide_eq_false_iff_not, Bool.not_eq_true', Bool.not_eq_false', ne_eq, Decidable.not_not, Option.isNone_iff_eq_none, not_true_eq_false, not_false_eq_true] at hb); try (exfalso; omega))) | fail)
      refine vl_o rfl (vo_call rfl rfl ?_)
      refine vc_mono (hR _ inferInstance) ?_
      rintro v L' ⟨rfl, rfl⟩
      by_cases h1 : 0 ≤ rightP ns rn 0 zb
      · rw [decide_eq_true h1]
        repeat' (first | (refine go1 ?_; intros) | (refine vl_caseG rfl rfl rfl rfl ?_ ?_ <;> (intro hb; (try simp only [decide_eq_true_eq, decide_eq_false_iff_not, Bool.not_eq_true', Bool.not_eq_false', ne_eq, Decidable.not_not, Option.isNone_iff_eq_none, not_true_eq_false, not_false_eq_true] at hb); try (exfalso; omega))) | (refine v_cond rfl ?_ ?_ <;> (intro hb; (try simp only [decide_eq_true_eq, decide_eq_false_iff_not, Bool.not_eq_true', Bool.not_eq_false', ne_eq, Decidable.not_not, Option.isNone_iff_eq_none, not_true_eq_false, not_false_eq_true] at hb); try (exfalso; omega))) | fail)
        exact ⟨L, sei _ _ _, by rw [if_pos ⟨hb1, hb2, hb3, ho, h1⟩], rfl⟩
      · rw [decide_eq_false h1]
        repeat' (first | (refine go1 ?_; intros) | (refine vl_caseG rfl rfl rfl rfl ?_ ?_ <;> (intro hb; (try simp only [decide_eq_true_eq, decide_eq_false_iff_not, Bool.not_eq_true', Bool.not_eq_false', ne_eq, Decidable.not_not, Option.isNone_iff_eq_none, not_true_eq_false, not_false_eq_true] at hb); try (exfalso; omega))) | (refine v_cond rfl ?_ ?_ <;> (intro hb; (try simp only [decide_eq_true_eq, decide_eq_false_iff_not, Bool.not_eq_true', Bool.not_eq_false', ne_eq, Decidable.not_not, Option.isNone_iff_eq_none, not_true_eq_false, not_false_eq_true] at hb); try (exfalso; omega))) | fail)
        exact ⟨L, sei _ _ _, hno (fun e => h1 e.right) rfl, rfl⟩
  · repeat' (first | (refine goU ?_; intros) | (refine vl_caseG rfl rfl rfl rfl ?_ ?_ <;> (intro hb; (try simp only [decide_eq_true_eq, decide_eq_false_iff_not, Bool.not_eq_true', Bool.not_eq_false', ne_eq, Decidable.not_not, Option.isNone_iff_eq_none, not_true_eq_false, not_false_eq_true] at hb); try (exfalso; omega))) | (refine v_cond rfl ?_ ?_ <;> (intro hb; (try simp only [decide_eq_true_eq, decide_eq_false_iff_not, Bool.not_eq_true', Bool.not_eq_false', ne_eq, Decidable.not_not, Option.isNone_iff_eq_none, not_true_eq_false, not_false_eq_true] at hb); try (exfalso; omega))) | fail)
    all_goals exact ⟨L, sei _ _ _, hno (fun e => hbad ⟨e.len, e.lo, e.hi⟩) rfl, rfl⟩

end Go.Proofs.YtnoihibaoalkaaaDoor
namespace Go.Proofs.YtnoihibaoalkaaaDoor
open Go Go.RowKit
set_option linter.unusedVariables false
set_option linter.unusedSimpArgs false
open Classical

/-- A new tree: all of it the call's own. -/
def RTr (w0 : World) (L : List Asn) (ns : List Nd) (r : Int) (v : Value) (L' : List Asn) : Prop := ∃ a c ms, v = .agg #[.slice a ms.length c, .int .i64 r] ∧ pls ms = pls ns ∧ L' = ownNs a c ms :: vnA ms :: L
theorem ownNs_snoc (a : Option Addr) (c : Nat) (ns : List Nd) (p : Nd) : ownNs a c (ns ++ [p]) = own 100 36 a (ns.length + 1) c (ndc ns ++ p.cells) := by
  unfold ownNs ndc
  rw [flat_snoc, List.length_append]
  rfl
theorem se_ns_nil (L : List Asn) : SE L (ownNs none 0 [] :: vnA [] :: L) := (se_psA_nil L).trans (se_own_nil 100 36 _)
theorem se_ns_snoc (ns : List Nd) (p : Nd) (L : List Asn) : SE (ownB p.a p.c p.v :: vnA ns :: L) (vnA (ns ++ [p]) :: L) := by
  have := se_psA_snoc (ns.map Nd.pb) L p.a p.c p.v
  rw [show ns.map Nd.pb ++ [⟨p.a, p.c, p.v⟩] = (ns ++ [p]).map Nd.pb by simp [Nd.pb]] at this
  exact this
/-- A value elsewhere. -/
def Nd.to (x : Nd) (a : Option Addr) (c : Nat) : Nd := { x with a := a, c := c }
theorem Nd.to_cells (x : Nd) (a : Option Addr) (c : Nat) (hk : x.key.length = 32) : splice x.cells (0 + 33) [.slice a x.v.length c] = (x.to a c).cells := by
  have := splice_mid (.bool x.leaf :: bvs x.key) [.slice x.a x.v.length x.c] [.int .i64 x.left, .int .i64 x.right] [.slice a x.v.length c] 33 (by simp [hk]) rfl
  simpa [Nd.cells, Nd.to] using this
theorem cloneNs_vc (w0 : World) (L : List Asn) (a : Option Addr) (cap : Nat) (ns : List Nd) {n : Nat} (hn : n = ns.length) (hok : NsOk ns) [hr : RdC w0 L a (ndc ns)] :
    VC Tryd.prog w0 109 [.slice a n cap] L fun v L' => ∃ a' c', v = .slice a' ns.length c' ∧ L' = ownNs a' c' ns :: L := by
  subst hn
  have hlen := hok.len
  have hfx : (ndc ns).length = ns.length * 36 := hok.wide.len
  refine vc_know (φ := a = none → ns.length = 0) (fun w hs e => ?_) (fun hnil => ?_)
  · rcases hr.out w hs with h | ⟨_, _, e', _⟩
    · rw [h] at hfx
      simp only [List.length_nil] at hfx
      omega
    · rw [e] at e'; cases e'
  refine vc_ent ?_
  refine vc_in rfl rfl ?_
  repeat' (first | (refine go1 ?_; intros) | (refine vl_caseG rfl rfl rfl rfl ?_ ?_ <;> (intro hb; (try simp only [decide_eq_true_eq, decide_eq_false_iff_not, Bool.not_eq_true', Bool.not_eq_false', ne_eq, Decidable.not_not, Option.isNone_iff_eq_none, not_true_eq_false, not_false_eq_true] at hb); try (exfalso; omega))) | (refine v_cond rfl ?_ ?_ <;> (intro hb; (try simp only [decide_eq_true_eq, decide_eq_false_iff_not, Bool.not_eq_true', Bool.not_eq_false', ne_eq, Decidable.not_not, Option.isNone_iff_eq_none, not_true_eq_false, not_false_eq_true] at hb); try (exfalso; omega))) | fail)
  · have h0 := hnil hb
    obtain rfl : ns = [] := List.eq_nil_of_length_eq_zero h0
    exact ⟨_, (se_own_nil _ 36 _).ent w0, none, 0, rfl, rfl⟩
  · rename_i g a' c' _ _
    refine ⟨_, Ent.refl _ _, a', c', ?_, ?_⟩
    · rw [Nat.zero_add]
    · rw [Nat.zero_add]; rfl

set_option maxRecDepth 100000 in
set_option maxHeartbeats 1000000 in
theorem ttwin_vc (w0 : World) (L : List Asn) (a : Option Addr) (cap : Nat) (ns : List Nd) (r : Int) {n : Nat} (hn : n = ns.length) (hok : NsOk ns) [hr : RdC w0 L a (ndc ns)] [hv : RdNs w0 L ns] :
    VC Tryd.prog w0 60 [.agg #[.slice a n cap, .int .i64 r]] L (RTr w0 L ns r) := by
  subst hn
  have hlen := hok.len
  refine vc_ent ?_
  refine vc_in rfl rfl ?_
  repeat' (first | (refine go1 ?_; intros) | (refine vl_caseG rfl rfl rfl rfl ?_ ?_ <;> (intro hb; (try simp only [decide_eq_true_eq, decide_eq_false_iff_not, Bool.not_eq_true', Bool.not_eq_false', ne_eq, Decidable.not_not, Option.isNone_iff_eq_none, not_true_eq_false, not_false_eq_true] at hb); try (exfalso; omega))) | (refine v_cond rfl ?_ ?_ <;> (intro hb; (try simp only [decide_eq_true_eq, decide_eq_false_iff_not, Bool.not_eq_true', Bool.not_eq_false', ne_eq, Decidable.not_not, Option.isNone_iff_eq_none, not_true_eq_false, not_false_eq_true] at hb); try (exfalso; omega))) | fail)
  refine vl_o rfl (vo_call rfl rfl ?_)
  refine vc_mono (cloneNs_vc w0 _ a cap ns rfl hok) ?_
  rintro v L' ⟨a', c', rfl, rfl⟩
  repeat' (first | (refine go1 ?_; intros) | (refine vl_caseG rfl rfl rfl rfl ?_ ?_ <;> (intro hb; (try simp only [decide_eq_true_eq, decide_eq_false_iff_not, Bool.not_eq_true', Bool.not_eq_false', ne_eq, Decidable.not_not, Option.isNone_iff_eq_none, not_true_eq_false, not_false_eq_true] at hb); try (exfalso; omega))) | (refine v_cond rfl ?_ ?_ <;> (intro hb; (try simp only [decide_eq_true_eq, decide_eq_false_iff_not, Bool.not_eq_true', Bool.not_eq_false', ne_eq, Decidable.not_not, Option.isNone_iff_eq_none, not_true_eq_false, not_false_eq_true] at hb); try (exfalso; omega))) | fail)
  rename_i g1 g2
  refine v_loopF (List Nd) [1, 2, 10] rfl (fun ms => [(11, .int .i64 ms.length)]) (fun _ ms => own 100 36 a' ns.length c' (ndc (ms ++ ns.drop ms.length)) :: vnA ms :: blk g2 24 [.slice none 0 0, .int .i64 0] :: blk g1 24 [.slice a' ns.length c', .int .i64 r] :: L) (fun ms => ms.length ≤ ns.length ∧ pls ms = (pls ns).take ms.length) (fun ms => ns.length - ms.length) [] ⟨Nat.zero_le _, by simp⟩ (by (repeat' (first | exact Sub.nil _ | refine Sub.cons rfl rfl ?_ | refine Sub.cons rfl ?_ ?_))) ?_ ?_
  · exact (SE.cons _ (se_psA_nil _)).ent w0
  rintro ms ⟨hi, hp⟩
  obtain ⟨i, hni⟩ : ∃ i, i = ms.length := ⟨_, rfl⟩
  rw [← hni] at hi hp ⊢
  by_cases hlt : i < ns.length
  · obtain ⟨ws, hws⟩ : ∃ ws, ws = ms ++ ns.drop i := ⟨_, rfl⟩
    rw [← hws]
    have hkw : pls ws = pls ns := by
      rw [hws]
      simp only [List.map_append]
      rw [show ms.map Nd.pl = pls ms from rfl, hp, List.map_drop, List.take_append_drop]
    have okw := hok.of_pls hkw
    have hwl : ws.length = ns.length := pls_len hkw
    have hwi : ws[i]'(by omega) = ns[i] := by
      have : ws[i]? = ns[i]? := by rw [hws, List.getElem?_append_right (by omega), List.getElem?_drop, show i + (i - ms.length) = i by omega]
      rw [List.getElem?_eq_getElem (by omega), List.getElem?_eq_getElem hlt] at this
      exact Option.some.inj this
    have e1 := okw.e2 i (by omega)
    rw [hwi] at e1
    have hpos := okw.pos i (by omega)
    have hmul : i * 36 + 36 ≤ (ndc ws).length := okw.wide.mul i (by omega)
    have hvl := hok.vlat i hlt
    have hk := hok.k32at i hlt
    haveI := hv.at i hlt
    have hpt : (pls ns).take (i + 1) = (pls ns).take i ++ [ns[i].pl] := by rw [List.take_succ_eq_append_getElem (by simpa using hlt), List.getElem_map]
    have hsp : ∀ a2 c2, splice (ndc ws) (i * 36 + 33) [.slice a2 ns[i].v.length c2] = ndc (ms ++ [ns[i].to a2 c2] ++ ns.drop (i + 1)) := by
      intro a2 c2
      have hset : ws.set i (ns[i].to a2 c2) = ms ++ [ns[i].to a2 c2] ++ ns.drop (i + 1) := by
        rw [hws, List.set_append_right _ _ (by omega), show i - ms.length = 0 by omega, List.drop_eq_getElem_cons hlt, List.set_cons_zero, List.append_assoc]
        rfl
      rw [← hset]
      refine okw.wide.splIn (x := ns[i].to a2 c2) i (by omega) 33 _ (by simp) ?_
      rw [hwi]
      have := Nd.to_cells ns[i] a2 c2 hk
      rwa [Nat.zero_add] at this
    have hpb : ∀ a2 c2, (ns[i].to a2 c2).pl = ns[i].pl := fun _ _ => rfl
    generalize ndc ws = cs at *
    repeat' (first | (refine go1 ?_; intros) | (refine vl_caseG rfl rfl rfl rfl ?_ ?_ <;> (intro hb; (try simp only [decide_eq_true_eq, decide_eq_false_iff_not, Bool.not_eq_true', Bool.not_eq_false', ne_eq, Decidable.not_not, Option.isNone_iff_eq_none, not_true_eq_false, not_false_eq_true] at hb); try (exfalso; omega))) | (refine v_cond rfl ?_ ?_ <;> (intro hb; (try simp only [decide_eq_true_eq, decide_eq_false_iff_not, Bool.not_eq_true', Bool.not_eq_false', ne_eq, Decidable.not_not, Option.isNone_iff_eq_none, not_true_eq_false, not_false_eq_true] at hb); try (exfalso; omega))) | fail)
    refine v_draw0 [12] (by kernel_rfl) ?_
    refine va_takeA 0 rfl rfl rfl rfl ?_
    refine va_takeA 1 rfl rfl rfl rfl ?_
    refine va_takeA 2 rfl rfl rfl rfl ?_
    refine va_takeA 3 rfl rfl rfl rfl ?_
    refine va_takeA 4 rfl rfl rfl rfl ?_
    refine va_takeA 5 rfl rfl rfl rfl ?_
    refine va_takeA 6 rfl rfl rfl rfl ?_
    refine va_takeA 7 rfl rfl rfl rfl ?_
    refine va_takeA 8 rfl rfl rfl rfl ?_
    refine va_one 9 (by kernel_rfl) rfl rfl ?_
    first | refine vo_call rfl rfl ?_ | refine vo_callV rfl rfl rfl ?_
    refine vc_mono (clone_vc w0 _ ns[i].a ns[i].c ns[i].v rfl (by omega)) ?_
    rintro v L' ⟨a2, c2, _, rfl, rfl⟩
    refine ⟨.inr (sei _ _ _), ?_⟩
    refine va_takeA 10 rfl rfl rfl rfl ?_
    refine va_takeA 11 rfl rfl rfl rfl ?_
    refine va_one 12 (by kernel_rfl) rfl rfl ?_
    (first | (refine vo_box rfl rfl rfl ?_; intro _) | (refine vo_alloc rfl ?_; intro _) | (refine vo_isStore ?_; first | (refine vo_isPt0 rfl ?_; refine vo_stWA rfl rfl ?_) | (refine vo_isPt rfl ?_; refine vo_stBA rfl rfl ?_) | (refine vo_stO rfl rfl (by rfl) (by first | rfl | assumption) (by first | assumption | (simp; done) | (simp; omega) | omega) rfl ?_; skip)) | (refine vo_isCall ?_; first | (refine vo_isApp ?_; first | (refine vo_append0A rfl rfl rfl ?_; intro _ _ _ _) | (refine vo_appendA rfl rfl rfl ?_; intro _ _ _ _)) | (refine vo_isCopy ?_; refine vo_copyB rfl rfl rfl (by assumption) (by assumption) (by assumption) (by assumption) ?_) | refine vo_yield rfl rfl rfl rfl rfl ?_ | refine vo_callV rfl rfl rfl (vc_in rfl rfl ?_)) | refine vo_convRow rfl rfl ?_ | (refine vo_isBs ?_; refine vo_buildSlice rfl rfl rfl (by decide) (by repeat' (first | exact trivial | rfl | assumption | refine ⟨?_, ?_⟩ | (simp; done) | (simp; omega))) (by decide) rfl ?_; intro _) | (refine vo_buildSlice0 rfl ?_; intro _) | fail)
    refine ⟨.inl (by kernel_rfl), ?_⟩
    refine va_done (by kernel_rfl) ?_
    skip
    repeat' (first | (refine go1 ?_; intros) | (refine vl_caseG rfl rfl rfl rfl ?_ ?_ <;> (intro hb; (try simp only [decide_eq_true_eq, decide_eq_false_iff_not, Bool.not_eq_true', Bool.not_eq_false', ne_eq, Decidable.not_not, Option.isNone_iff_eq_none, not_true_eq_false, not_false_eq_true] at hb); try (exfalso; omega))) | (refine v_cond rfl ?_ ?_ <;> (intro hb; (try simp only [decide_eq_true_eq, decide_eq_false_iff_not, Bool.not_eq_true', Bool.not_eq_false', ne_eq, Decidable.not_not, Option.isNone_iff_eq_none, not_true_eq_false, not_false_eq_true] at hb); try (exfalso; omega))) | fail)
    rw [hsp]
    refine ⟨rfl, ms ++ [ns[i].to a2 c2], ⟨by simp; omega, ?_⟩, by simp; omega, ?_, ?_⟩
    · simp only [List.map_append, List.map_cons, List.map_nil, List.length_append, List.length_cons, List.length_nil, ← hni, Nat.zero_add]
      rw [show List.map Nd.pl ms = pls ms from rfl, hp, hpt, hpb]
    · simp only [List.length_append, List.length_cons, List.length_nil, ← hni, Nat.zero_add]
      (repeat' (first | exact Sub.nil _ | refine Sub.cons rfl rfl ?_ | refine Sub.cons rfl ?_ ?_))
    · simp only [List.length_append, List.length_cons, List.length_nil, ← hni, Nat.zero_add]
      exact ((se_swap _ _ _).trans (SE.cons _ (se_ns_snoc ms (ns[i].to a2 c2) _))).ent w0
  · have hin : i = ns.length := by omega
    rw [List.drop_eq_nil_of_le (by omega), List.append_nil]
    repeat' (first | (refine go1 ?_; intros) | (refine vl_caseG rfl rfl rfl rfl ?_ ?_ <;> (intro hb; (try simp only [decide_eq_true_eq, decide_eq_false_iff_not, Bool.not_eq_true', Bool.not_eq_false', ne_eq, Decidable.not_not, Option.isNone_iff_eq_none, not_true_eq_false, not_false_eq_true] at hb); try (exfalso; omega))) | (refine v_cond rfl ?_ ?_ <;> (intro hb; (try simp only [decide_eq_true_eq, decide_eq_false_iff_not, Bool.not_eq_true', Bool.not_eq_false', ne_eq, Decidable.not_not, Option.isNone_iff_eq_none, not_true_eq_false, not_false_eq_true] at hb); try (exfalso; omega))) | fail)
    refine ⟨_, ?_, a', c', ms, by rw [← hni, hin], by rw [hp, List.take_of_length_le (by simp; omega)], rfl⟩
    unfold ownNs
    rw [← hni, hin]
    exact sei _ _ _
end Go.Proofs.YtnoihibaoalkaaaDoor
namespace Go.Proofs.YtnoihibaoalkaaaDoor
open Go Go.RowKit
set_option linter.unusedVariables false
set_option linter.unusedSimpArgs false
open Classical

theorem pl_eq {x y : Nd} : x.pl = y.pl ↔ x.leaf = y.leaf ∧ x.key = y.key ∧ x.v = y.v ∧ x.left = y.left ∧ x.right = y.right := by
  unfold Nd.pl
  simp only [Nd.mk.injEq, true_and]
end Go.Proofs.YtnoihibaoalkaaaDoor
namespace Go.Proofs.YtnoihibaoalkaaaDoor
open Go Go.RowKit
set_option linter.unusedVariables false
set_option linter.unusedSimpArgs false
open Classical

section
variable {P : Program} {w0 : World} {n : Nat} {ds : List Deferred} {fr : Fr} {L : List Asn} {dst : Option Nat} {ty : TypeId} {pos : String} {after : Array Edge} {gd : Option (Nat × Bool)}
end
end Go.Proofs.YtnoihibaoalkaaaDoor

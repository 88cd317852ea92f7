/-
  A shard with transactions that go back (the program's).
-/
import Derived.Test.YtccbcdhpnkbkgaaDoorShdO
import Derived.Test.YtccbcdhpnkbkgaaDoorGZ
set_option linter.unusedVariables false
set_option linter.unusedSimpArgs false
namespace Go.Proofs.YtccbcdhpnkbkgaaDoor
open Go Go.RowKit
set_option linter.unusedVariables false
set_option linter.unusedSimpArgs false
set_option linter.unusedSectionVars false
open Classical

def idxX (xs : List Tx) (φ : Tx → Bool) : Int := if xs.findIdx φ < xs.length then (xs.findIdx φ : Int) else -1
theorem idxX_at {xs : List Tx} {φ : Tx → Bool} {i : Nat} (hi : i < xs.length) (h : φ xs[i] = true) (hb : ∀ j (hj : j < xs.length), j < i → φ xs[j] = false) : idxX xs φ = (i : Int) := by
  have : xs.findIdx φ = i := by
    rw [List.findIdx_eq hi]
    exact ⟨h, fun j hj => hb j (by omega) hj⟩
  unfold idxX
  rw [this, if_pos hi]
theorem idxX_no {xs : List Tx} {φ : Tx → Bool} (hb : ∀ j (hj : j < xs.length), φ xs[j] = false) : idxX xs φ = -1 := by
  unfold idxX
  rw [if_neg]
  intro h
  have h1 := List.findIdx_getElem (w := h)
  rw [hb _ h] at h1
  cases h1
set_option maxRecDepth 100000 in
set_option maxHeartbeats 1000000 in
theorem idxX_vc (w0 : World) (L : List Asn) (a : Option Addr) (c : Nat) (xs : List Tx) (f : FuncId) (cap : Array Value) (φ : Tx → Bool) {n : Nat} (hn : n = xs.length) (h : TsOk xs) [hf : FnB Tryd.prog f] [hr : RdC w0 L a (txc xs)] (hφ : ∀ x ∈ xs, VC Tryd.prog w0 f ([.agg x.cells.toArray] ++ cap.toList) L fun v L' => v = .bool (φ x) ∧ L' = L) :
    VC Tryd.prog w0 93 [.slice a n c, .func (.func f) #[] cap] L fun v L' => v = .int .i64 (idxX xs φ) ∧ L' = L := by
  subst hn
  have hlen := h.len
  refine vc_ent ?_
  refine vc_in rfl rfl ?_
  repeat' (first | (refine go1 ?_; intros) | ((first | refine vl_caseG rfl rfl rfl rfl ?_ ?_ | refine v_cond rfl ?_ ?_) <;> (intro hb; (try simp only [hq1, hq2, hq3, hq4, ne_eq, hq5, hq6, hq7, hq8] at hb); try (exfalso; omega))) | fail)
  refine v_loopS Nat [0, 1, 7] rfl (fun i => [(8, .int .i64 i)]) (fun i => i ≤ xs.length ∧ ∀ j (hj : j < xs.length), j < i → φ xs[j] = false) (fun i => xs.length - i) 0 ⟨Nat.zero_le _, fun j hj h => by omega⟩ (by (repeat' (first | exact Sub.nil _ | refine Sub.cons rfl rfl ?_ | refine Sub.cons rfl ?_ ?_))) (fun i ⟨hi, hbb⟩ => ?_)
  by_cases hlt : i < xs.length
  · have e := h.el i hlt
    have hpos := h.pos i hlt
    have hcl := Tx.len (h.at i hlt)
    have hF := hφ _ (List.getElem_mem hlt)
    repeat' (first | (refine go1 ?_; intros) | ((first | refine vl_caseG rfl rfl rfl rfl ?_ ?_ | refine v_cond rfl ?_ ?_) <;> (intro hb; (try simp only [hq1, hq2, hq3, hq4, ne_eq, hq5, hq6, hq7, hq8] at hb); try (exfalso; omega))) | fail)
    refine vl_o rfl (vo_callV rfl rfl rfl ?_)
    refine vc_mono hF ?_
    rintro v L' ⟨rfl, hL⟩
    obtain rfl := hL.symm
    cases hp : φ xs[i]
    · repeat' (first | (refine go1 ?_; intros) | ((first | refine vl_caseG rfl rfl rfl rfl ?_ ?_ | refine v_cond rfl ?_ ?_) <;> (intro hb; (try simp only [hq1, hq2, hq3, hq4, ne_eq, hq5, hq6, hq7, hq8] at hb); try (exfalso; omega))) | fail)
      refine ⟨rfl, i + 1, ⟨by omega, fun j hj hji => ?_⟩, by omega, by (repeat' (first | exact Sub.nil _ | refine Sub.cons rfl rfl ?_ | refine Sub.cons rfl ?_ ?_)), Ent.refl _ _⟩
      by_cases e : j = i
      · subst e; exact hp
      · exact hbb j hj (by omega)
    · repeat' (first | (refine go1 ?_; intros) | ((first | refine vl_caseG rfl rfl rfl rfl ?_ ?_ | refine v_cond rfl ?_ ?_) <;> (intro hb; (try simp only [hq1, hq2, hq3, hq4, ne_eq, hq5, hq6, hq7, hq8] at hb); try (exfalso; omega))) | fail)
      exact ⟨L, sei _ _ _, by rw [idxX_at hlt hp hbb], rfl⟩
  · obtain rfl : i = xs.length := by omega
    repeat' (first | (refine go1 ?_; intros) | ((first | refine vl_caseG rfl rfl rfl rfl ?_ ?_ | refine v_cond rfl ?_ ?_) <;> (intro hb; (try simp only [hq1, hq2, hq3, hq4, ne_eq, hq5, hq6, hq7, hq8] at hb); try (exfalso; omega))) | fail)
    exact ⟨L, sei _ _ _, by rw [idxX_no (fun j hj => hbb j hj hj)], rfl⟩
theorem hasX_vc (w0 : World) (L : List Asn) (a : Option Addr) (c : Nat) (xs : List Tx) (f : FuncId) (cap : Array Value) (φ : Tx → Bool) {n : Nat} (hn : n = xs.length) (h : TsOk xs) [hf : FnB Tryd.prog f] [hr : RdC w0 L a (txc xs)] (hφ : ∀ x ∈ xs, VC Tryd.prog w0 f ([.agg x.cells.toArray] ++ cap.toList) L fun v L' => v = .bool (φ x) ∧ L' = L) :
    VC Tryd.prog w0 57 [.slice a n c, .func (.func f) #[] cap] L fun v L' => v = .bool (xs.any φ) ∧ L' = L := by
  subst hn
  have e : decide (0 ≤ idxX xs φ) = xs.any φ := by
    unfold idxX
    cases hb : xs.any φ
    · rw [if_neg (fun h => by
        have h1 := List.findIdx_getElem (w := h)
        rw [List.any_eq_false] at hb
        exact hb _ (List.getElem_mem h) h1)]
      rfl
    · rw [if_pos (by rw [List.findIdx_lt_length]; simpa using hb)]
      simp
  refine vc_ent ?_
  refine vc_in rfl rfl ?_
  repeat' (first | (refine go1 ?_; intros) | ((first | refine vl_caseG rfl rfl rfl rfl ?_ ?_ | refine v_cond rfl ?_ ?_) <;> (intro hb; (try simp only [hq1, hq2, hq3, hq4, ne_eq, hq5, hq6, hq7, hq8] at hb); try (exfalso; omega))) | fail)
  refine vl_o rfl (vo_call rfl rfl ?_)
  refine vc_mono (idxX_vc w0 _ a c xs f cap φ rfl h hφ) ?_
  rintro v L' ⟨rfl, hL⟩
  obtain rfl := hL.symm
  rw [← e]
  generalize idxX xs φ = I
  repeat' (first | (refine go1 ?_; intros) | ((first | refine vl_caseG rfl rfl rfl rfl ?_ ?_ | refine v_cond rfl ?_ ?_) <;> (intro hb; (try simp only [hq1, hq2, hq3, hq4, ne_eq, hq5, hq6, hq7, hq8] at hb); try (exfalso; omega))) | fail)
  exact ⟨L, sei _ _ _, rfl, rfl⟩
theorem sback1_vc (w0 : World) (L : List Asn) (x : Tx) (hx : x.ok) [hK : RdA w0 (some ⟨0, 0, none⟩) (wds K64)] :
    VC Tryd.prog w0 58 [.agg x.cells.toArray] L fun v L' => v = .bool (!decide (x.sign = sgn x)) ∧ L' = L := by
  have hxl := Tx.len hx
  haveI oxc : OC x.cells := oc_tx _
  refine vc_ent ?_
  refine vc_in rfl rfl ?_
  obtain ⟨xc, hxc⟩ : ∃ xc, xc = x.cells := ⟨_, rfl⟩
  rw [← hxc] at hxl oxc ⊢
  repeat' (first | (refine go1 ?_; intros) | ((first | refine vl_caseG rfl rfl rfl rfl ?_ ?_ | refine v_cond rfl ?_ ?_) <;> (intro hb; (try simp only [hq1, hq2, hq3, hq4, ne_eq, hq5, hq6, hq7, hq8] at hb); try (exfalso; omega))) | fail)
  refine vl_o rfl (vo_call rfl rfl ?_)
  rw [hxc]
  refine vc_mono (txCheck_vc w0 _ x hx) ?_
  rintro v L' ⟨rfl, rfl⟩
  by_cases hs : x.sign = sgn x
  · rw [if_pos hs, decide_eq_true hs]
    repeat' (first | (refine go1 ?_; intros) | ((first | refine vl_caseG rfl rfl rfl rfl ?_ ?_ | refine v_cond rfl ?_ ?_) <;> (intro hb; (try simp only [hq1, hq2, hq3, hq4, ne_eq, hq5, hq6, hq7, hq8] at hb); try (exfalso; omega))) | fail)
    exact ⟨L, sei _ _ _, rfl, rfl⟩
  · rw [if_neg hs, decide_eq_false hs]
    repeat' (first | (refine go1 ?_; intros) | ((first | refine vl_caseG rfl rfl rfl rfl ?_ ?_ | refine v_cond rfl ?_ ?_) <;> (intro hb; (try simp only [hq1, hq2, hq3, hq4, ne_eq, hq5, hq6, hq7, hq8] at hb); try (exfalso; omega))) | fail)
    exact ⟨L, sei _ _ _, rfl, rfl⟩
def RBack (q : List LC × Int) (L : List Asn) (v : Value) (L' : List Asn) : Prop := ∃ a c ms, v = .tuple #[.agg #[.slice a ms.length c], .int .i64 q.2] ∧ lls ms = q.1 ∧ LsOk ms ∧ L' = ownLs a c ms :: tsA ms :: L
theorem RBack.bad (w0 : World) (L : List Asn) (e : Int) {M : List Asn} (h : Ent w0 M L) : ∃ L', Ent w0 M L' ∧ RBack ([], e) L (.tuple #[.agg #[.slice none 0 0], .int .i64 e]) L' :=
  ⟨_, h.trans ((se_ls_nil _).ent w0), none, 0, [], rfl, rfl, LsOk.nil, rfl⟩
noncomputable def backQ (cs : List LC) (ns : List Nd) (r : Int) (l : List Tx) : List LC × Int :=
  if MayC cs ∧ StP ns r then (if ∀ x ∈ l, x.sign = sgn x then (match backC (nonceA ns r) cs l with
    | some zs => (zs, 0)
    | none => ([], 9)) else ([], 110)) else ([], 8)
theorem any_sign {l : List Tx} : l.any (fun x => !decide (x.sign = sgn x)) = false ↔ ∀ x ∈ l, x.sign = sgn x := by
  rw [List.any_eq_false]
  simp
set_option maxRecDepth 100000 in
set_option maxHeartbeats 8000000 in
theorem sback_vc (w0 : World) (L : List Asn) (a : Option Addr) (c : Nat) (ls : List Ln) (ta : Option Addr) (tc : Nat) (ns : List Nd) (r : Int) (ea : Option Addr) (ec : Nat) (xs : List Tx) {n tn en : Nat} (hn : n = ls.length) (htn : tn = ns.length) (hen : en = xs.length) (h : LsOk ls) (h9 : ls.length ≤ 800000) (hok : NsOk ns) (hxs : TsOk xs) (hx9 : xs.length ≤ 100000) [hK : RdA w0 (some ⟨0, 0, none⟩) (wds K64)] [hr : RdC w0 L a (lnc ls)] [hv : RdLs w0 L ls] [hr2 : RdC w0 L ta (ndc ns)] [hv2 : RdNs w0 L ns] [hr3 : RdC w0 L ea (txc xs)] :
    VC Tryd.prog w0 27 [.agg #[.slice a n c], .agg #[.slice ta tn tc, .int .i64 r], .slice ea en ec] L (RBack (backQ (lls ls) ns r xs) L) := by
  subst hn
  subst htn
  subst hen
  have hlen := h.len
  refine vc_ent ?_
  refine vc_in rfl rfl ?_
  unfold backQ
  repeat' (first | (refine go1 ?_; intros) | ((first | refine vl_caseG rfl rfl rfl rfl ?_ ?_ | refine v_cond rfl ?_ ?_) <;> (intro hb; (try simp only [hq1, hq2, hq3, hq4, ne_eq, hq5, hq6, hq7, hq8] at hb); try (exfalso; omega))) | fail)
  refine vl_o rfl (vo_call rfl rfl ?_)
  refine vc_mono (scheck_vc w0 _ a c ls rfl h) ?_
  rintro v L' ⟨rfl, rfl⟩
  by_cases hm : mayS ls = true
  rotate_left
  · rw [if_neg hm, if_neg (fun e => hm (mayS_iff.2 e.1))]
    repeat' (first | (refine go1 ?_; intros) | ((first | refine vl_caseG rfl rfl rfl rfl ?_ ?_ | refine v_cond rfl ?_ ?_) <;> (intro hb; (try simp only [hq1, hq2, hq3, hq4, ne_eq, hq5, hq6, hq7, hq8] at hb); try (exfalso; omega))) | fail)
    all_goals first | (exfalso; omega) | exact RBack.bad w0 L 8 (sei _ _ _)
  have hmc := mayS_iff.1 hm
  rw [if_pos hm]
  repeat' (first | (refine go1 ?_; intros) | ((first | refine vl_caseG rfl rfl rfl rfl ?_ ?_ | refine v_cond rfl ?_ ?_) <;> (intro hb; (try simp only [hq1, hq2, hq3, hq4, ne_eq, hq5, hq6, hq7, hq8] at hb); try (exfalso; omega))) | fail)
  all_goals first | (exfalso; omega) | skip
  refine vl_o rfl (vo_call rfl rfl ?_)
  refine vc_mono (acheck_vc w0 _ ta tc ns r rfl hok) ?_
  rintro v L' ⟨rfl, rfl⟩
  by_cases hst : StP ns r
  rotate_left
  · rw [if_neg hst, if_neg (fun e => hst e.2)]
    repeat' (first | (refine go1 ?_; intros) | ((first | refine vl_caseG rfl rfl rfl rfl ?_ ?_ | refine v_cond rfl ?_ ?_) <;> (intro hb; (try simp only [hq1, hq2, hq3, hq4, ne_eq, hq5, hq6, hq7, hq8] at hb); try (exfalso; omega))) | fail)
    all_goals first | (exfalso; omega) | exact RBack.bad w0 L 8 (sei _ _ _)
  rw [if_pos hst, if_pos ⟨hmc, hst⟩]
  repeat' (first | (refine go1 ?_; intros) | ((first | refine vl_caseG rfl rfl rfl rfl ?_ ?_ | refine v_cond rfl ?_ ?_) <;> (intro hb; (try simp only [hq1, hq2, hq3, hq4, ne_eq, hq5, hq6, hq7, hq8] at hb); try (exfalso; omega))) | fail)
  all_goals first | (exfalso; omega) | skip
  refine vl_o rfl (vo_call rfl rfl ?_)
  refine vc_mono (hasX_vc w0 _ ea ec xs 58 #[] (fun x => !decide (x.sign = sgn x)) rfl hxs (fun x hx => sback1_vc w0 _ x (hxs.ok x hx))) ?_
  rintro v L' ⟨rfl, rfl⟩
  by_cases hsg : ∀ x ∈ xs, x.sign = sgn x
  rotate_left
  · rw [if_neg hsg, show xs.any (fun x => !decide (x.sign = sgn x)) = true from Bool.of_not_eq_false (fun e => hsg (any_sign.1 e))]
    repeat' (first | (refine go1 ?_; intros) | ((first | refine vl_caseG rfl rfl rfl rfl ?_ ?_ | refine v_cond rfl ?_ ?_) <;> (intro hb; (try simp only [hq1, hq2, hq3, hq4, ne_eq, hq5, hq6, hq7, hq8] at hb); try (exfalso; omega))) | fail)
    all_goals first | (exfalso; omega) | exact RBack.bad w0 L 110 (sei _ _ _)
  rw [if_pos hsg, any_sign.2 hsg]
  repeat' (first | (refine go1 ?_; intros) | ((first | refine vl_caseG rfl rfl rfl rfl ?_ ?_ | refine v_cond rfl ?_ ?_) <;> (intro hb; (try simp only [hq1, hq2, hq3, hq4, ne_eq, hq5, hq6, hq7, hq8] at hb); try (exfalso; omega))) | fail)
  refine vl_o rfl (vo_call rfl rfl ?_)
  refine vc_mono (stwin_vc w0 _ a c ls rfl h) ?_
  rintro v L' ⟨a1, c1, ms0, rfl, hms0, rfl⟩
  have hmo0 := h.of_lls hms0
  repeat' (first | (refine go1 ?_; intros) | ((first | refine vl_caseG rfl rfl rfl rfl ?_ ?_ | refine v_cond rfl ?_ ?_) <;> (intro hb; (try simp only [hq1, hq2, hq3, hq4, ne_eq, hq5, hq6, hq7, hq8] at hb); try (exfalso; omega))) | fail)
  rename_i g3 g4 g6 gp
  rw [List.append_nil]
  refine v_loopF (Nat × Option Addr × Nat × List Ln) [4, 6, 7, 8, 35, 36] rfl (fun z => [(37, .int .i64 z.1)]) (fun _ z => partB gp z.2.1 z.2.2.1 z.2.2.2 :: ownLs z.2.1 z.2.2.1 z.2.2.2 :: tsA z.2.2.2 :: blk g6 24 [.slice none 0 0] :: blk g4 53 [.slice ta ns.length tc, .int .i64 r] :: L) (fun z => z.1 ≤ xs.length ∧ backC (nonceA ns r) (lls ls) (xs.take z.1) = some (lls z.2.2.2) ∧ LsOk z.2.2.2 ∧ z.2.2.2.length ≤ ls.length + z.1) (fun z => xs.length - z.1) (0, a1, c1, ms0) ⟨Nat.zero_le _, by rw [List.take_zero, hms0]; rfl, hmo0, by rw [lls_len hms0]; exact Nat.le_refl _⟩ (by (repeat' (first | exact Sub.nil _ | refine Sub.cons rfl rfl ?_ | refine Sub.cons rfl ?_ ?_))) (sei _ _ _) ?_
  rintro ⟨i, aM, cM, mm⟩ ⟨hi, hbk, hmo, hml⟩
  dsimp only at hi hbk hmo hml ⊢
  by_cases hlt : i < xs.length
  rotate_left
  · obtain rfl : i = xs.length := by omega
    rw [List.take_length] at hbk
    rw [hbk]
    repeat' (first | (refine go1 ?_; intros) | ((first | refine vl_caseG rfl rfl rfl rfl ?_ ?_ | refine v_cond rfl ?_ ?_) <;> (intro hb; (try simp only [hq1, hq2, hq3, hq4, ne_eq, hq5, hq6, hq7, hq8] at hb); try (exfalso; omega))) | fail)
    exact ⟨_, sei w0 _ (ownLs aM cM mm :: tsA mm :: L), aM, cM, mm, rfl, rfl, hmo, rfl⟩
  obtain ⟨hmmc, hmk, _⟩ := backC_law hmc h.k2 hsg i (by omega) _ hbk
  have hstep := backC_take (f := nonceA ns r) (cs := lls ls) hlt
  rw [hbk] at hstep
  have hstep : backC (nonceA ns r) (lls ls) (xs.take (i + 1)) = backS (nonceA ns r) (lls mm) xs[i] := hstep
  have hnone : backC (nonceA ns r) (lls ls) (xs.take (i + 1)) = none → backC (nonceA ns r) (lls ls) xs = none := fun e => backC_none e
  have e := hxs.el i hlt
  have hpos := hxs.pos i hlt
  have hx := hxs.at i hlt
  have hsx := hsg _ (List.getElem_mem hlt)
  generalize xs[i] = x at *
  have hxl := Tx.len hx
  have hx2 := Tx.f2 hx
  have hxn := hx.nonce
  have hfl := fromT_len x
  haveI oxc : OC x.cells := oc_tx _
  obtain ⟨xc, hxc⟩ : ∃ xc, xc = x.cells := ⟨_, rfl⟩
  rw [← hxc] at e hxl hx2 oxc
  obtain ⟨K, hKe⟩ : ∃ K, K = nonceA ns r (fromT x) := ⟨_, rfl⟩
  unfold backS at hstep
  rw [← hKe] at hstep
  repeat' (first | (refine go1 ?_; intros) | ((first | refine vl_caseG rfl rfl rfl rfl ?_ ?_ | refine v_cond rfl ?_ ?_) <;> (intro hb; (try simp only [hq1, hq2, hq3, hq4, ne_eq, hq5, hq6, hq7, hq8] at hb); try (exfalso; omega))) | fail)
  refine vl_o rfl (vo_call rfl rfl ?_)
  rw [hxc]
  refine vc_mono (txFrom_vc w0 _ x hx) ?_
  rintro v L' ⟨rfl, rfl⟩
  rw [← hxc, show sha (tagB 3 [x.pub]) = fromT x from rfl]
  repeat' (first | (refine go1 ?_; intros) | ((first | refine vl_caseG rfl rfl rfl rfl ?_ ?_ | refine v_cond rfl ?_ ?_) <;> (intro hb; (try simp only [hq1, hq2, hq3, hq4, ne_eq, hq5, hq6, hq7, hq8] at hb); try (exfalso; omega))) | fail)
  refine vl_o rfl (vo_call rfl rfl ?_)
  refine vc_mono (aget_vc w0 _ ta tc ns r (fromT x) rfl hok hfl) ?_
  rintro v L' ⟨rfl, rfl⟩
  rw [show (accG ns r (fromT x)).1 = K from hKe.symm]
  generalize (accG ns r (fromT x)).2 = bal at *
  by_cases hlow : x.nonce < K
  · rw [if_pos hlow] at hstep
    repeat' (first | (refine go1 ?_; intros) | ((first | refine vl_caseG rfl rfl rfl rfl ?_ ?_ | refine v_cond rfl ?_ ?_) <;> (intro hb; (try simp only [hq1, hq2, hq3, hq4, ne_eq, hq5, hq6, hq7, hq8] at hb); try (exfalso; omega))) | fail)
    all_goals first | (exfalso; omega) | skip
    exact ⟨rfl, (i + 1, aM, cM, mm), ⟨by dsimp only; omega, hstep, hmo, by dsimp only; omega⟩, by dsimp only; omega, by (repeat' (first | exact Sub.nil _ | refine Sub.cons rfl rfl ?_ | refine Sub.cons rfl ?_ ?_)), sei _ _ _⟩
  rw [if_neg hlow] at hstep
  repeat' (first | (refine go1 ?_; intros) | ((first | refine vl_caseG rfl rfl rfl rfl ?_ ?_ | refine v_cond rfl ?_ ?_) <;> (intro hb; (try simp only [hq1, hq2, hq3, hq4, ne_eq, hq5, hq6, hq7, hq8] at hb); try (exfalso; omega))) | fail)
  all_goals first | (exfalso; omega) | skip
  rename_i g10 g11 g12 _
  have hs := hmmc.srt
  refine v_cut (Nat × Option Addr × Nat × Option Addr × Nat) [4, 6, 7, 8, 35, 36, 37] rfl (fun z => [(14, .pointer (some ⟨z.1, 0, none⟩)), (15, .slice z.2.2.2.1 (putT (Ln.mk (fromT x) none 0 (lineC (lls mm) (fromT x))) x).2.2.1.length z.2.2.2.2), (16, .int .i64 (putT (Ln.mk (fromT x) none 0 (lineC (lls mm) (fromT x))) x).2.2.2)]) (fun z => blk z.1 49 (Ln.mk (putT (Ln.mk (fromT x) none 0 (lineC (lls mm) (fromT x))) x).1 z.2.1 z.2.2.1 (putT (Ln.mk (fromT x) none 0 (lineC (lls mm) (fromT x))) x).2.1).cells :: ownTs z.2.1 z.2.2.1 (putT (Ln.mk (fromT x) none 0 (lineC (lls mm) (fromT x))) x).2.1 :: partB gp aM cM mm :: ownLs aM cM mm :: tsA mm :: blk g6 24 [.slice none 0 0] :: blk g4 53 [.slice ta ns.length tc, .int .i64 r] :: L) ?_ ?_
  · refine v_id ?_
    refine v_draw0 [] (by kernel_rfl) ?_
    refine va_takeA 0 rfl rfl rfl rfl ?_
    refine va_takeA 1 rfl rfl rfl rfl ?_
    refine va_takeA 3 rfl rfl rfl rfl ?_
    refine va_two 2 9 (by kernel_rfl) rfl rfl rfl rfl ?_ ?_
    · first | refine vo_call rfl rfl ?_ | refine vo_callV rfl rfl rfl ?_
      refine vc_mono (sline_vc w0 _ gp aM cM mm (fromT x) hmo hs hfl) ?_
      rintro v L' ⟨l, rfl, hlo, hlx, hlm, rfl⟩
      have hlok : l.ok := by
        rcases hlm with e | ⟨_, e⟩
        · exact hmo.ok l e
        · exact ⟨by rw [hlo]; exact hfl, by rw [e]; exact TsOk.nil⟩
      have hput : putT l x = putT (Ln.mk (fromT x) none 0 (lineC (lls mm) (fromT x))) x := by
        obtain ⟨o, la, lc, lx⟩ := l
        dsimp only at hlo hlx
        subst hlo hlx
        rfl
      haveI hrl : ∀ M [RdLs w0 M mm], RdC w0 M l.a (txc l.xs) := fun M k => by
        rcases hlm with e | ⟨_, e⟩
        · exact k.out l e
        · rw [e]; exact rdC_nil _ _ _
      refine ⟨.inr (sei _ _ _), ?_⟩
      refine va_two 4 9 (by kernel_rfl) rfl rfl rfl rfl ?_ ?_
      · first | refine vo_call rfl rfl ?_ | refine vo_callV rfl rfl rfl ?_
        rw [hxc]
        refine vc_mono (qput_vc w0 _ l hlok x hx) ?_
        rw [hput, ← hxc]
        rintro v L' ⟨a2, c2, b2, d2, rfl, rfl⟩
        have hPo := putT_ok (l := Ln.mk (fromT x) none 0 (lineC (lls mm) (fromT x))) ⟨hfl, hlx ▸ hlok.ts⟩ hx
        have hPl : (Ln.mk (putT (Ln.mk (fromT x) none 0 (lineC (lls mm) (fromT x))) x).1 a2 c2 (putT (Ln.mk (fromT x) none 0 (lineC (lls mm) (fromT x))) x).2.1).cells.length = 33 := Ln.len hPo.own
        refine ⟨.inr (sei _ _ _), ?_⟩
        refine va_takeA 5 rfl rfl rfl rfl ?_
        refine va_takeA 6 rfl rfl rfl rfl ?_
        refine va_takeA 7 rfl rfl rfl rfl ?_
        refine va_takeA 8 rfl rfl rfl rfl ?_
        refine va_one 9 (by kernel_rfl) rfl rfl ?_
        (first | (refine vo_box rfl rfl rfl ?_; intro _) | (refine vo_alloc rfl ?_; intro _) | (refine vo_isStore ?_; first | (refine vo_isPt0 rfl ?_; refine vo_stWA rfl rfl ?_) | (refine vo_isPt rfl ?_; refine vo_stBA rfl rfl ?_) | (refine vo_stO rfl rfl (by rfl) (by first | rfl | assumption) (by first | assumption | (simp; done) | (simp; omega) | omega) rfl ?_; skip)) | (refine vo_isCall ?_; first | (refine vo_isApp ?_; first | (refine vo_append0A rfl rfl rfl ?_; intro _ _ _ _) | (refine vo_appendA rfl rfl rfl ?_; intro _ _ _ _)) | (refine vo_isCopy ?_; refine vo_copyB rfl rfl rfl (by assumption) (by assumption) (by assumption) (by assumption) ?_) | refine vo_yield rfl rfl rfl rfl rfl ?_ | refine vo_callV rfl rfl rfl (vc_in rfl rfl ?_)) | refine vo_convRow rfl rfl ?_ | (refine vo_isBs ?_; refine vo_buildSlice rfl rfl rfl (by decide) (by repeat' (first | exact trivial | rfl | assumption | refine ⟨?_, ?_⟩ | (simp; done) | (simp; omega))) (by decide) rfl ?_; intro _) | (refine vo_buildSlice0 rfl ?_; intro _) | fail)
        refine ⟨.inr (sei _ _ _), ?_⟩
        refine va_one 10 (by kernel_rfl) rfl rfl ?_
        (first | (refine vo_box rfl rfl rfl ?_; intro _) | (refine vo_alloc rfl ?_; intro _) | (refine vo_isStore ?_; first | (refine vo_isPt0 rfl ?_; refine vo_stWA rfl rfl ?_) | (refine vo_isPt rfl ?_; refine vo_stBA rfl rfl ?_) | (refine vo_stO rfl rfl (by rfl) (by first | rfl | assumption) (by first | assumption | (simp; done) | (simp; omega) | omega) rfl ?_; skip)) | (refine vo_isCall ?_; first | (refine vo_isApp ?_; first | (refine vo_append0A rfl rfl rfl ?_; intro _ _ _ _) | (refine vo_appendA rfl rfl rfl ?_; intro _ _ _ _)) | (refine vo_isCopy ?_; refine vo_copyB rfl rfl rfl (by assumption) (by assumption) (by assumption) (by assumption) ?_) | refine vo_yield rfl rfl rfl rfl rfl ?_ | refine vo_callV rfl rfl rfl (vc_in rfl rfl ?_)) | refine vo_convRow rfl rfl ?_ | (refine vo_isBs ?_; refine vo_buildSlice rfl rfl rfl (by decide) (by repeat' (first | exact trivial | rfl | assumption | refine ⟨?_, ?_⟩ | (simp; done) | (simp; omega))) (by decide) rfl ?_; intro _) | (refine vo_buildSlice0 rfl ?_; intro _) | fail)
        refine ⟨.inr (sei _ _ _), ?_⟩
        refine va_takeA 11 rfl rfl rfl rfl ?_
        refine va_takeA 12 rfl rfl rfl rfl ?_
        refine va_done (by kernel_rfl) ?_
        refine ⟨rfl, (_, a2, c2, b2, d2), by (repeat' (first | exact Sub.nil _ | refine Sub.cons rfl rfl ?_ | refine Sub.cons rfl ?_ ?_)), ?_⟩
        dsimp only
        exact sei _ _ _
      · (first | (refine vo_box rfl rfl rfl ?_; intro _) | (refine vo_alloc rfl ?_; intro _) | (refine vo_isStore ?_; first | (refine vo_isPt0 rfl ?_; refine vo_stWA rfl rfl ?_) | (refine vo_isPt rfl ?_; refine vo_stBA rfl rfl ?_) | (refine vo_stO rfl rfl (by rfl) (by first | rfl | assumption) (by first | assumption | (simp; done) | (simp; omega) | omega) rfl ?_; skip)) | (refine vo_isCall ?_; first | (refine vo_isApp ?_; first | (refine vo_append0A rfl rfl rfl ?_; intro _ _ _ _) | (refine vo_appendA rfl rfl rfl ?_; intro _ _ _ _)) | (refine vo_isCopy ?_; refine vo_copyB rfl rfl rfl (by assumption) (by assumption) (by assumption) (by assumption) ?_) | refine vo_yield rfl rfl rfl rfl rfl ?_ | refine vo_callV rfl rfl rfl (vc_in rfl rfl ?_)) | refine vo_convRow rfl rfl ?_ | (refine vo_isBs ?_; refine vo_buildSlice rfl rfl rfl (by decide) (by repeat' (first | exact trivial | rfl | assumption | refine ⟨?_, ?_⟩ | (simp; done) | (simp; omega))) (by decide) rfl ?_; intro _) | (refine vo_buildSlice0 rfl ?_; intro _) | fail)
        refine ⟨.inr (sei _ _ _), ?_⟩
        refine va_one 4 (by kernel_rfl) rfl rfl ?_
        first | refine vo_call rfl rfl ?_ | refine vo_callV rfl rfl rfl ?_
        rw [hxc]
        refine vc_mono (qput_vc w0 _ l hlok x hx) ?_
        rw [hput, ← hxc]
        rintro v L' ⟨a2, c2, b2, d2, rfl, rfl⟩
        have hPo := putT_ok (l := Ln.mk (fromT x) none 0 (lineC (lls mm) (fromT x))) ⟨hfl, hlx ▸ hlok.ts⟩ hx
        have hPl : (Ln.mk (putT (Ln.mk (fromT x) none 0 (lineC (lls mm) (fromT x))) x).1 a2 c2 (putT (Ln.mk (fromT x) none 0 (lineC (lls mm) (fromT x))) x).2.1).cells.length = 33 := Ln.len hPo.own
        refine ⟨.inr (sei _ _ _), ?_⟩
        refine va_takeA 5 rfl rfl rfl rfl ?_
        refine va_takeA 6 rfl rfl rfl rfl ?_
        refine va_takeA 7 rfl rfl rfl rfl ?_
        refine va_takeA 8 rfl rfl rfl rfl ?_
        refine va_one 10 (by kernel_rfl) rfl rfl ?_
        (first | (refine vo_box rfl rfl rfl ?_; intro _) | (refine vo_alloc rfl ?_; intro _) | (refine vo_isStore ?_; first | (refine vo_isPt0 rfl ?_; refine vo_stWA rfl rfl ?_) | (refine vo_isPt rfl ?_; refine vo_stBA rfl rfl ?_) | (refine vo_stO rfl rfl (by rfl) (by first | rfl | assumption) (by first | assumption | (simp; done) | (simp; omega) | omega) rfl ?_; skip)) | (refine vo_isCall ?_; first | (refine vo_isApp ?_; first | (refine vo_append0A rfl rfl rfl ?_; intro _ _ _ _) | (refine vo_appendA rfl rfl rfl ?_; intro _ _ _ _)) | (refine vo_isCopy ?_; refine vo_copyB rfl rfl rfl (by assumption) (by assumption) (by assumption) (by assumption) ?_) | refine vo_yield rfl rfl rfl rfl rfl ?_ | refine vo_callV rfl rfl rfl (vc_in rfl rfl ?_)) | refine vo_convRow rfl rfl ?_ | (refine vo_isBs ?_; refine vo_buildSlice rfl rfl rfl (by decide) (by repeat' (first | exact trivial | rfl | assumption | refine ⟨?_, ?_⟩ | (simp; done) | (simp; omega))) (by decide) rfl ?_; intro _) | (refine vo_buildSlice0 rfl ?_; intro _) | fail)
        refine ⟨.inr (sei _ _ _), ?_⟩
        refine va_takeA 11 rfl rfl rfl rfl ?_
        refine va_takeA 12 rfl rfl rfl rfl ?_
        refine va_done (by kernel_rfl) ?_
        refine ⟨rfl, (_, a2, c2, b2, d2), by (repeat' (first | exact Sub.nil _ | refine Sub.cons rfl rfl ?_ | refine Sub.cons rfl ?_ ?_)), ?_⟩
        dsimp only
        exact sei _ _ _
    · (first | (refine vo_box rfl rfl rfl ?_; intro _) | (refine vo_alloc rfl ?_; intro _) | (refine vo_isStore ?_; first | (refine vo_isPt0 rfl ?_; refine vo_stWA rfl rfl ?_) | (refine vo_isPt rfl ?_; refine vo_stBA rfl rfl ?_) | (refine vo_stO rfl rfl (by rfl) (by first | rfl | assumption) (by first | assumption | (simp; done) | (simp; omega) | omega) rfl ?_; skip)) | (refine vo_isCall ?_; first | (refine vo_isApp ?_; first | (refine vo_append0A rfl rfl rfl ?_; intro _ _ _ _) | (refine vo_appendA rfl rfl rfl ?_; intro _ _ _ _)) | (refine vo_isCopy ?_; refine vo_copyB rfl rfl rfl (by assumption) (by assumption) (by assumption) (by assumption) ?_) | refine vo_yield rfl rfl rfl rfl rfl ?_ | refine vo_callV rfl rfl rfl (vc_in rfl rfl ?_)) | refine vo_convRow rfl rfl ?_ | (refine vo_isBs ?_; refine vo_buildSlice rfl rfl rfl (by decide) (by repeat' (first | exact trivial | rfl | assumption | refine ⟨?_, ?_⟩ | (simp; done) | (simp; omega))) (by decide) rfl ?_; intro _) | (refine vo_buildSlice0 rfl ?_; intro _) | fail)
      refine ⟨.inr (sei _ _ _), ?_⟩
      refine va_one 2 (by kernel_rfl) rfl rfl ?_
      first | refine vo_call rfl rfl ?_ | refine vo_callV rfl rfl rfl ?_
      refine vc_mono (sline_vc w0 _ gp aM cM mm (fromT x) hmo hs hfl) ?_
      rintro v L' ⟨l, rfl, hlo, hlx, hlm, rfl⟩
      have hlok : l.ok := by
        rcases hlm with e | ⟨_, e⟩
        · exact hmo.ok l e
        · exact ⟨by rw [hlo]; exact hfl, by rw [e]; exact TsOk.nil⟩
      have hput : putT l x = putT (Ln.mk (fromT x) none 0 (lineC (lls mm) (fromT x))) x := by
        obtain ⟨o, la, lc, lx⟩ := l
        dsimp only at hlo hlx
        subst hlo hlx
        rfl
      haveI hrl : ∀ M [RdLs w0 M mm], RdC w0 M l.a (txc l.xs) := fun M k => by
        rcases hlm with e | ⟨_, e⟩
        · exact k.out l e
        · rw [e]; exact rdC_nil _ _ _
      refine ⟨.inr (sei _ _ _), ?_⟩
      refine va_one 4 (by kernel_rfl) rfl rfl ?_
      first | refine vo_call rfl rfl ?_ | refine vo_callV rfl rfl rfl ?_
      rw [hxc]
      refine vc_mono (qput_vc w0 _ l hlok x hx) ?_
      rw [hput, ← hxc]
      rintro v L' ⟨a2, c2, b2, d2, rfl, rfl⟩
      have hPo := putT_ok (l := Ln.mk (fromT x) none 0 (lineC (lls mm) (fromT x))) ⟨hfl, hlx ▸ hlok.ts⟩ hx
      have hPl : (Ln.mk (putT (Ln.mk (fromT x) none 0 (lineC (lls mm) (fromT x))) x).1 a2 c2 (putT (Ln.mk (fromT x) none 0 (lineC (lls mm) (fromT x))) x).2.1).cells.length = 33 := Ln.len hPo.own
      refine ⟨.inr (sei _ _ _), ?_⟩
      refine va_takeA 5 rfl rfl rfl rfl ?_
      refine va_takeA 6 rfl rfl rfl rfl ?_
      refine va_takeA 7 rfl rfl rfl rfl ?_
      refine va_takeA 8 rfl rfl rfl rfl ?_
      refine va_one 10 (by kernel_rfl) rfl rfl ?_
      (first | (refine vo_box rfl rfl rfl ?_; intro _) | (refine vo_alloc rfl ?_; intro _) | (refine vo_isStore ?_; first | (refine vo_isPt0 rfl ?_; refine vo_stWA rfl rfl ?_) | (refine vo_isPt rfl ?_; refine vo_stBA rfl rfl ?_) | (refine vo_stO rfl rfl (by rfl) (by first | rfl | assumption) (by first | assumption | (simp; done) | (simp; omega) | omega) rfl ?_; skip)) | (refine vo_isCall ?_; first | (refine vo_isApp ?_; first | (refine vo_append0A rfl rfl rfl ?_; intro _ _ _ _) | (refine vo_appendA rfl rfl rfl ?_; intro _ _ _ _)) | (refine vo_isCopy ?_; refine vo_copyB rfl rfl rfl (by assumption) (by assumption) (by assumption) (by assumption) ?_) | refine vo_yield rfl rfl rfl rfl rfl ?_ | refine vo_callV rfl rfl rfl (vc_in rfl rfl ?_)) | refine vo_convRow rfl rfl ?_ | (refine vo_isBs ?_; refine vo_buildSlice rfl rfl rfl (by decide) (by repeat' (first | exact trivial | rfl | assumption | refine ⟨?_, ?_⟩ | (simp; done) | (simp; omega))) (by decide) rfl ?_; intro _) | (refine vo_buildSlice0 rfl ?_; intro _) | fail)
      refine ⟨.inr (sei _ _ _), ?_⟩
      refine va_takeA 11 rfl rfl rfl rfl ?_
      refine va_takeA 12 rfl rfl rfl rfl ?_
      refine va_done (by kernel_rfl) ?_
      refine ⟨rfl, (_, a2, c2, b2, d2), by (repeat' (first | exact Sub.nil _ | refine Sub.cons rfl rfl ?_ | refine Sub.cons rfl ?_ ?_)), ?_⟩
      dsimp only
      exact sei _ _ _
  rintro ⟨g14, a2, c2, b2, d2⟩
  dsimp only
  have hLok := lineC_ok hmo (fromT x)
  have hgood := hmmc.line (fromT x)
  rw [putT_good hgood hsx]
  have hWok := hLok.with (by have := hgood.len; omega) hx
  have hmlen : mm.length ≤ 999999 := by omega
  cases hat : atT (lineC (lls mm) (fromT x)) x.nonce with
  | some y =>
    rw [hat] at hstep
    dsimp only at hstep ⊢
    by_cases hf : x.fee ≤ y.fee
    · rw [if_pos hf] at hstep ⊢
      dsimp only
      repeat' (first | (refine go1 ?_; intros) | ((first | refine vl_caseG rfl rfl rfl rfl ?_ ?_ | refine v_cond rfl ?_ ?_) <;> (intro hb; (try simp only [hq1, hq2, hq3, hq4, ne_eq, hq5, hq6, hq7, hq8] at hb); try (exfalso; omega))) | fail)
      all_goals first | (exfalso; omega) | skip
      exact ⟨rfl, (i + 1, aM, cM, mm), ⟨by dsimp only; omega, hstep, hmo, by dsimp only; omega⟩, by dsimp only; omega, by (repeat' (first | exact Sub.nil _ | refine Sub.cons rfl rfl ?_ | refine Sub.cons rfl ?_ ?_)), sei _ _ _⟩
    · rw [if_neg hf] at hstep ⊢
      dsimp only
      generalize hW : withT (lineC (lls mm) (fromT x)) x = W at *
      have hWl : (Ln.mk (fromT x) a2 c2 W).cells.length = 33 := Ln.len hfl
      haveI hWc : OC (Ln.mk (fromT x) a2 c2 W).cells := oc_ln _
      obtain ⟨wc, hwc⟩ : ∃ wc, wc = (Ln.mk (fromT x) a2 c2 W).cells := ⟨_, rfl⟩
      rw [← hwc] at hWl hWc ⊢
      repeat' (first | (refine go1 ?_; intros) | ((first | refine vl_caseG rfl rfl rfl rfl ?_ ?_ | refine v_cond rfl ?_ ?_) <;> (intro hb; (try simp only [hq1, hq2, hq3, hq4, ne_eq, hq5, hq6, hq7, hq8] at hb); try (exfalso; omega))) | fail)
      all_goals first | (exfalso; omega) | skip
      refine vl_o rfl (vo_call rfl rfl ?_)
      refine vc_pre (L2 := partB gp aM cM mm :: ownLs aM cM mm :: ownTs a2 c2 W :: tsA (offL mm (fromT x)) :: blk g6 24 [.slice none 0 0] :: blk g4 53 [.slice ta ns.length tc, .int .i64 r] :: L) ?_ ?_
      · exact (sei w0 _ (tsA mm :: partB gp aM cM mm :: ownLs aM cM mm :: ownTs a2 c2 W :: blk g6 24 [.slice none 0 0] :: blk g4 53 [.slice ta ns.length tc, .int .i64 r] :: L)).trans (((se_tsA_off mm (fromT x) _).ent w0).trans (sei w0 _ _))
      rw [hwc]
      refine vc_mono (sset_vc w0 _ gp aM cM mm (Ln.mk (fromT x) a2 c2 W) hmo hs ⟨hfl, hWok⟩ hmlen) ?_
      rintro v L' ⟨a5, c5, m5, hm5, ho5, rfl⟩
      have hm5 : lls m5 = setC (lls mm) (fromT x) W := hm5
      have hl5 : m5.length ≤ mm.length + 1 := by
        have e1 := congrArg List.length hm5
        have e2 := setC_len hs hmo.k2 hfl W
        rw [List.length_map] at e1 e2
        omega
      unfold shP
      repeat' (first | (refine go1 ?_; intros) | ((first | refine vl_caseG rfl rfl rfl rfl ?_ ?_ | refine v_cond rfl ?_ ?_) <;> (intro hb; (try simp only [hq1, hq2, hq3, hq4, ne_eq, hq5, hq6, hq7, hq8] at hb); try (exfalso; omega))) | fail)
      exact ⟨rfl, (i + 1, a5, c5, m5), ⟨by dsimp only; omega, by dsimp only; rw [hstep, hm5], ho5, by dsimp only; omega⟩, by dsimp only; omega, by (repeat' (first | exact Sub.nil _ | refine Sub.cons rfl rfl ?_ | refine Sub.cons rfl ?_ ?_)), sei _ _ _⟩
  | none =>
    rw [hat] at hstep
    dsimp only at hstep ⊢
    by_cases hfu : 256 ≤ (lineC (lls mm) (fromT x)).length
    · rw [if_pos hfu] at hstep ⊢
      dsimp only
      rw [hnone hstep]
      repeat' (first | (refine go1 ?_; intros) | ((first | refine vl_caseG rfl rfl rfl rfl ?_ ?_ | refine v_cond rfl ?_ ?_) <;> (intro hb; (try simp only [hq1, hq2, hq3, hq4, ne_eq, hq5, hq6, hq7, hq8] at hb); try (exfalso; omega))) | fail)
      all_goals first | (exfalso; omega) | exact RBack.bad w0 L 9 (sei _ _ _)
    · rw [if_neg hfu] at hstep ⊢
      dsimp only
      generalize hW : withT (lineC (lls mm) (fromT x)) x = W at *
      have hWl : (Ln.mk (fromT x) a2 c2 W).cells.length = 33 := Ln.len hfl
      haveI hWc : OC (Ln.mk (fromT x) a2 c2 W).cells := oc_ln _
      obtain ⟨wc, hwc⟩ : ∃ wc, wc = (Ln.mk (fromT x) a2 c2 W).cells := ⟨_, rfl⟩
      rw [← hwc] at hWl hWc ⊢
      repeat' (first | (refine go1 ?_; intros) | ((first | refine vl_caseG rfl rfl rfl rfl ?_ ?_ | refine v_cond rfl ?_ ?_) <;> (intro hb; (try simp only [hq1, hq2, hq3, hq4, ne_eq, hq5, hq6, hq7, hq8] at hb); try (exfalso; omega))) | fail)
      all_goals first | (exfalso; omega) | skip
      refine vl_o rfl (vo_call rfl rfl ?_)
      refine vc_pre (L2 := partB gp aM cM mm :: ownLs aM cM mm :: ownTs a2 c2 W :: tsA (offL mm (fromT x)) :: blk g6 24 [.slice none 0 0] :: blk g4 53 [.slice ta ns.length tc, .int .i64 r] :: L) ?_ ?_
      · exact (sei w0 _ (tsA mm :: partB gp aM cM mm :: ownLs aM cM mm :: ownTs a2 c2 W :: blk g6 24 [.slice none 0 0] :: blk g4 53 [.slice ta ns.length tc, .int .i64 r] :: L)).trans (((se_tsA_off mm (fromT x) _).ent w0).trans (sei w0 _ _))
      rw [hwc]
      refine vc_mono (sset_vc w0 _ gp aM cM mm (Ln.mk (fromT x) a2 c2 W) hmo hs ⟨hfl, hWok⟩ hmlen) ?_
      rintro v L' ⟨a5, c5, m5, hm5, ho5, rfl⟩
      have hm5 : lls m5 = setC (lls mm) (fromT x) W := hm5
      have hl5 : m5.length ≤ mm.length + 1 := by
        have e1 := congrArg List.length hm5
        have e2 := setC_len hs hmo.k2 hfl W
        rw [List.length_map] at e1 e2
        omega
      unfold shP
      repeat' (first | (refine go1 ?_; intros) | ((first | refine vl_caseG rfl rfl rfl rfl ?_ ?_ | refine v_cond rfl ?_ ?_) <;> (intro hb; (try simp only [hq1, hq2, hq3, hq4, ne_eq, hq5, hq6, hq7, hq8] at hb); try (exfalso; omega))) | fail)
      exact ⟨rfl, (i + 1, a5, c5, m5), ⟨by dsimp only; omega, by dsimp only; rw [hstep, hm5], ho5, by dsimp only; omega⟩, by dsimp only; omega, by (repeat' (first | exact Sub.nil _ | refine Sub.cons rfl rfl ?_ | refine Sub.cons rfl ?_ ?_)), sei _ _ _⟩
end Go.Proofs.YtccbcdhpnkbkgaaDoor

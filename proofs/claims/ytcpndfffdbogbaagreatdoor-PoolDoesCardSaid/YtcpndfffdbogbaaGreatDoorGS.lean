/-
  Shards: lines, one behind the other, with their transactions. Shards: whether two are the same. Shards: twins. Shards: how great one is; how many transactions it has; whether it may be. The first of a shard's lines that something holds of. Shards: what becomes of them, in plain terms. Shards: what Submit does, in plain terms; all else stays. Shards: what Draw and Back do, in plain terms.
-/
import Derived.Test.YtcpndfffdbogbaaGreatDoorGX
import Derived.Test.YtcpndfffdbogbaaGreatDoorGC
import Derived.Test.YtcpndfffdbogbaaGreatDoorGI
set_option linter.unusedVariables false
set_option linter.unusedSimpArgs false
set_option linter.unusedSectionVars false
set_option maxRecDepth 100000
set_option maxHeartbeats 2000000
namespace Go.Proofs.YtcpndfffdbogbaaGreatDoor
open Go Go.RowKit
open Classical

abbrev lnc (ls : List Ln) : List Value := flat Ln.cells ls
structure LsOk (ls : List Ln) : Prop where
  ok : ∀ l ∈ ls, l.ok
  len : ls.length ≤ 1000000
/-- What a line tells, wherever it lies. -/
def Ln.pl (l : Ln) : List UInt8 × List Tx := (l.own, l.xs)
abbrev lls (ls : List Ln) : List (List UInt8 × List Tx) := ls.map Ln.pl
theorem LsOk.wide {ls : List Ln} (h : LsOk ls) : Wide Ln.cells 33 ls := fun l hl => Ln.len (h.ok l hl).own
theorem LsOk.sub {ls ms : List Ln} (h : LsOk ls) (hs : ∀ p ∈ ms, p ∈ ls) (hl : ms.length ≤ ls.length) : LsOk ms := ⟨fun p hp => h.ok p (hs p hp), by have := h.len; omega⟩
theorem LsOk.nil : LsOk [] := ⟨fun _ h => (by cases h), by simp⟩
instance oc_ln (l : Ln) : OC l.cells := (inferInstance : OC (bvs l.own ++ [.slice l.a l.xs.length l.c]))
section
variable {ls : List Ln}
theorem LsOk.at (h : LsOk ls) (k : Nat) (hk : k < ls.length) : (ls[k]).ok := h.ok _ (List.getElem_mem hk)
theorem LsOk.e (h : LsOk ls) (k : Nat) (hk : k < ls.length) : ((lnc ls).drop (k * 33)).take 33 = ls[k].cells := h.wide.at k hk
theorem LsOk.e0 (h : LsOk ls) (k : Nat) (hk : k < ls.length) : ((lnc ls).drop (k * 33 + 0)).take 32 = bvs ls[k].own := by
  rw [h.wide.part k hk 0 32 (by decide)]
  exact Ln.f0 (h.at k hk).own
theorem LsOk.e1 (h : LsOk ls) (k : Nat) (hk : k < ls.length) : (lnc ls)[k * 33 + 32]? = some (.slice ls[k].a ls[k].xs.length ls[k].c) := by
  rw [h.wide.cell k hk 32 (by decide)]
  simpa using Ln.f1 (h.at k hk).own
theorem LsOk.pos (h : LsOk ls) (k : Nat) (hk : k < ls.length) : 0 < (lnc ls).length := h.wide.pos (by decide) (by omega)
end
/-- Their transactions can be read. -/
class RdLs (w0 : World) (L : List Asn) (ls : List Ln) : Prop where
  out : ∀ p ∈ ls, RdC w0 L p.a (txc p.xs)
instance (priority := 50) rdLs_cons (w0 : World) (A : Asn) (L : List Asn) (ls : List Ln) [h : RdLs w0 L ls] : RdLs w0 (A :: L) ls := ⟨fun p hp => by
    have := h.out p hp
    infer_instance⟩
theorem RdLs.at {w0 : World} {L : List Asn} {ls : List Ln} (h : RdLs w0 L ls) (k : Nat) (hk : k < ls.length) : RdC w0 L (ls[k]).a (txc (ls[k]).xs) := h.out _ (List.getElem_mem hk)
theorem RdLs.sub {w0 : World} {L : List Asn} {ls ms : List Ln} (h : RdLs w0 L ls) (hs : ∀ p ∈ ms, p ∈ ls) : RdLs w0 L ms := ⟨fun p hp => h.out p (hs p hp)⟩
/-- All transactions of the call's own. -/
def tsA (ls : List Ln) : Asn := bundle (ls.map fun l => ownTs l.a l.c l.xs)
theorem se_tsA_pull (ls : List Ln) (L : List Asn) (k : Nat) (hk : k < ls.length) : SE (tsA ls :: L) (ownTs (ls[k]).a (ls[k]).c (ls[k]).xs :: tsA (ls.eraseIdx k) :: L) := by
  have h1 : (ls.map fun l => ownTs l.a l.c l.xs).Perm (ownTs (ls[k]).a (ls[k]).c (ls[k]).xs :: (ls.eraseIdx k).map fun l => ownTs l.a l.c l.xs) := by
    have := (perm_pull ls k ls[k] (by simp [hk])).map (fun l => ownTs l.a l.c l.xs)
    simpa using this
  exact (se_unbundle _ L).trans ((se_perm (h1.append_right L)).trans (SE.cons _ (se_bundle _ L)))
theorem se_tsA_push (ls qs : List Ln) (L : List Asn) (l : Ln) (h : (l :: ls).Perm qs) : SE (ownTs l.a l.c l.xs :: tsA ls :: L) (tsA qs :: L) := by
  have h1 := h.map (fun l => ownTs l.a l.c l.xs)
  exact (SE.cons _ (se_unbundle _ L)).trans ((se_perm (h1.append_right L)).trans (se_bundle _ L))
theorem se_tsA_snoc (ls : List Ln) (L : List Asn) (l : Ln) : SE (ownTs l.a l.c l.xs :: tsA ls :: L) (tsA (ls ++ [l]) :: L) := se_tsA_push ls _ L l (by simpa using (List.perm_append_comm (l₁ := [l]) (l₂ := ls)))
theorem se_tsA_nil (L : List Asn) : SE L (tsA [] :: L) := se_bundle [] L
class HasTs (L : List Asn) (ls : List Ln) : Prop where
  out : ∃ i : Nat, L[i]? = some (tsA ls)
instance hasTs_zero (L : List Asn) (ls : List Ln) : HasTs (tsA ls :: L) ls := ⟨0, rfl⟩
instance (priority := low) hasTs_succ (P : Asn) (L : List Asn) (ls : List Ln) [h : HasTs L ls] : HasTs (P :: L) ls := ⟨by obtain ⟨i, hi⟩ := h.out; exact ⟨i + 1, by simpa using hi⟩⟩
instance rdLs_own (w0 : World) (L : List Asn) (ls : List Ln) [h : HasTs L ls] : RdLs w0 L ls := ⟨fun l hl => ⟨fun w hs => by
  obtain ⟨i, hi⟩ := h.out
  refine hs.know i hi (fun F hF => ?_)
  obtain ⟨G, hG⟩ := SLs.mem (P := ownTs l.a l.c l.xs) hF (List.mem_map.2 ⟨l, hl, rfl⟩)
  exact own.rc hG⟩⟩
abbrev ownLs (a : Option Addr) (cap : Nat) (ls : List Ln) : Asn := own 69 33 a ls.length cap (lnc ls)
theorem ownLs_snoc (a : Option Addr) (c : Nat) (ls : List Ln) (l : Ln) : ownLs a c (ls ++ [l]) = own 69 33 a (ls.length + 1) c (lnc ls ++ l.cells) := by
  unfold ownLs lnc
  rw [flat_snoc, List.length_append]
  rfl
/-- What is told of a shard: its memory is new. -/
def RSh (w0 : World) (L : List Asn) (ls : List Ln) (v : Value) (L' : List Asn) : Prop := ∃ a c ms, v = .agg #[.slice a ms.length c] ∧ lls ms = lls ls ∧ L' = ownLs a c ms :: tsA ms :: L
theorem LsOk.of_lls {ms ls : List Ln} (h : LsOk ls) (e : lls ms = lls ls) : LsOk ms := by
  have hl : ms.length = ls.length := by simpa using congrArg List.length e
  refine ⟨fun p hp => ?_, by have := h.len; omega⟩
  have : p.pl ∈ lls ls := by rw [← e]; exact List.mem_map.2 ⟨p, hp, rfl⟩
  obtain ⟨q, hq, e2⟩ := List.mem_map.1 this
  obtain ⟨h1, h2⟩ := h.ok q hq
  unfold Ln.pl at e2
  obtain ⟨e3, e4⟩ := Prod.mk.inj e2
  rw [e3] at h1
  rw [e4] at h2
  exact ⟨h1, h2⟩
end Go.Proofs.YtcpndfffdbogbaaGreatDoor
namespace Go.Proofs.YtcpndfffdbogbaaGreatDoor
open Go Go.RowKit
open Classical

theorem lls_len {ms ns : List Ln} (h : lls ms = lls ns) : ms.length = ns.length := by simpa using congrArg List.length h
theorem lls_step {ms ns : List Ln} {i : Nat} (hm : i < ms.length) (hn : i < ns.length) (he : (lls ms).take i = (lls ns).take i) (h : ms[i].pl = ns[i].pl) : (lls ms).take (i + 1) = (lls ns).take (i + 1) := by
  rw [List.take_succ_eq_append_getElem (by simpa using hm), List.take_succ_eq_append_getElem (by simpa using hn), he, List.getElem_map, List.getElem_map, h]
theorem lls_get {ms ns : List Ln} (h : lls ms = lls ns) {i : Nat} (hm : i < ms.length) (hn : i < ns.length) : ms[i].pl = ns[i].pl := by
  have h1 : (lls ms)[i]? = (lls ns)[i]? := by rw [h]
  rw [List.getElem?_map, List.getElem?_map, List.getElem?_eq_getElem hm, List.getElem?_eq_getElem hn] at h1
  simpa using h1
theorem lls_ne {ms ns : List Ln} {i : Nat} (hm : i < ms.length) (hn : i < ns.length) (h : ¬ ms[i].pl = ns[i].pl) : ¬ lls ms = lls ns := fun e => h (lls_get e hm hn)
theorem lpl_eq {x y : Ln} : x.pl = y.pl ↔ x.own = y.own ∧ x.xs = y.xs := by
  unfold Ln.pl
  simp only [Prod.mk.injEq]
theorem rsame20_vc (w0 : World) (L : List Asn) (a : Option Addr) (c : Nat) (ls : List Ln) (b : Option Addr) (d : Nat) (ms : List Ln) {n m : Nat} (hn : n = ls.length) (hm : m = ms.length) (h : LsOk ls) (k : LsOk ms) [hr : RdC w0 L a (lnc ls)] [hv : RdLs w0 L ls] [hr2 : RdC w0 L b (lnc ms)] [hv2 : RdLs w0 L ms] :
    VC Tryz.prog w0 13 [.agg #[.slice a n c], .agg #[.slice b m d]] L fun v L' => v = .bool (decide (lls ls = lls ms)) ∧ L' = L := by
  subst hn
  subst hm
  have hlen := h.len
  have hlen2 := k.len
  refine vc_ent ?_
  refine vc_in rfl rfl ?_
  by_cases hl : ls.length = ms.length
  rotate_left
  · repeat' (first | (refine go1 ?_; intros) | (refine goCC ?_ ?_ <;> (intro hb; (try simp only [hSQ] at hb); try (exfalso; omega))) | fail)
    all_goals first | exact ⟨L, sei _ _ _, by rw [decide_eq_false (fun e => hl (lls_len e))], rfl⟩ | (exfalso; omega)
  repeat' (first | (refine go1 ?_; intros) | (refine goCC ?_ ?_ <;> (intro hb; (try simp only [hSQ] at hb); try (exfalso; omega))) | fail)
  all_goals first | (exfalso; omega) | skip
  refine v_loopS Nat [2, 3] rfl (fun i => [(5, .int .i64 i)]) (fun i => i ≤ ls.length ∧ (lls ls).take i = (lls ms).take i) (fun i => ls.length - i) 0 ⟨Nat.zero_le _, by simp⟩ (by (exact sbS)) (fun i ⟨hi, he⟩ => ?_)
  by_cases hlt : i < ls.length
  · have hlt2 : i < ms.length := by omega
    have e := h.e i hlt
    have e2 := k.e i hlt2
    have hpos := h.pos i hlt
    have hpos2 := k.pos i hlt2
    haveI := hv.at i hlt
    haveI := hv2.at i hlt2
    have lok := h.at i hlt
    have kok := k.at i hlt2
    have hcl := Ln.len lok.own
    have kcl := Ln.len kok.own
    have hstep := lls_step hlt hlt2 he
    have hne := lls_ne hlt hlt2
    generalize ls[i] = x at *
    generalize ms[i] = y at *
    rw [lpl_eq] at hstep hne
    repeat' (first | (refine go1 ?_; intros) | (refine goCC ?_ ?_ <;> (intro hb; (try simp only [hSQ] at hb); try (exfalso; omega))) | fail)
    (refine v_draw0 [] (by kernel_rfl) ?_ <;> (refine tA 0 ?_) <;> (refine tA 1 ?_) <;> (refine tA 2 ?_) <;> (refine tA 3 ?_) <;> (refine tA 4 ?_) <;> (refine tA 5 ?_) <;> (refine tA 6 ?_) <;> (refine tA 7 ?_) <;> (refine tA 8 ?_) <;> (refine tA 9 ?_))
    first | refine va_one 10 (by kernel_rfl) rfl rfl (vo_call rfl rfl ?_) | refine va_one 10 (by kernel_rfl) rfl rfl (vo_callV rfl rfl rfl ?_)
    refine vc_mono (rsameL_vc w0 _ x y lok kok) ?_
    rintro v L' ⟨rfl, rfl⟩
    by_cases hs : x.own = y.own ∧ x.xs = y.xs
    · rw [decide_eq_true hs]
      refine ⟨.inr entD, ?_⟩
      ((refine tA 11 ?_) <;> (refine va_done (by kernel_rfl) ?_))
      repeat' (first | (refine go1 ?_; intros) | (refine goCC ?_ ?_ <;> (intro hb; (try simp only [hSQ] at hb); try (exfalso; omega))) | fail)
      exact ⟨rfl, i + 1, ⟨by omega, hstep hs⟩, by omega, by (exact sbS), sei _ _ _⟩
    · rw [decide_eq_false hs]
      refine ⟨.inr entD, ?_⟩
      ((refine tA 11 ?_) <;> (refine va_done (by kernel_rfl) ?_))
      repeat' (first | (refine go1 ?_; intros) | (refine goCC ?_ ?_ <;> (intro hb; (try simp only [hSQ] at hb); try (exfalso; omega))) | fail)
      exact ⟨L, sei _ _ _, by rw [decide_eq_false (hne hs)], rfl⟩
  · obtain rfl : i = ls.length := by omega
    rw [List.take_of_length_le (by simp), List.take_of_length_le (by simp; omega)] at he
    repeat' (first | (refine go1 ?_; intros) | (refine goCC ?_ ?_ <;> (intro hb; (try simp only [hSQ] at hb); try (exfalso; omega))) | fail)
    exact ⟨L, sei _ _ _, by rw [decide_eq_true he], rfl⟩
end Go.Proofs.YtcpndfffdbogbaaGreatDoor
namespace Go.Proofs.YtcpndfffdbogbaaGreatDoor
open Go Go.RowKit
open Classical

theorem se_ls_nil (L : List Asn) : SE L (ownLs none 0 [] :: tsA [] :: L) := (se_tsA_nil L).trans (se_own_nil 69 33 _)
/-- A line elsewhere. -/
abbrev Ln.to (l : Ln) (a : Option Addr) (c : Nat) : Ln := { l with a := a, c := c }
theorem Ln.to_pl (l : Ln) (a : Option Addr) (c : Nat) : (l.to a c).pl = l.pl := rfl
theorem rtwin20_vc (w0 : World) (L : List Asn) (a : Option Addr) (c : Nat) (ls : List Ln) {n : Nat} (hn : n = ls.length) (h : LsOk ls) [hr : RdC w0 L a (lnc ls)] [hv : RdLs w0 L ls] :
    VC Tryz.prog w0 8 [.agg #[.slice a n c]] L (RSh w0 L ls) := by
  subst hn
  have hlen := h.len
  refine vc_ent ?_
  refine vc_in rfl rfl ?_
  repeat' (first | (refine go1 ?_; intros) | (refine goCC ?_ ?_ <;> (intro hb; (try simp only [hSQ] at hb); try (exfalso; omega))) | fail)
  rename_i g1 g2 g3
  refine v_loopF (List Ln × Option Addr × Nat) [1, 2, 3] rfl (fun x => [(4, .int .i64 x.1.length)]) (fun _ x => blk g3 24 [.slice x.2.1 x.1.length x.2.2] :: ownLs x.2.1 x.2.2 x.1 :: tsA x.1 :: blk g2 24 [.slice none 0 0] :: blk g1 24 [.slice a ls.length c] :: L) (fun x => x.1.length ≤ ls.length ∧ lls x.1 = (lls ls).take x.1.length) (fun x => ls.length - x.1.length) ([], none, 0) ⟨Nat.zero_le _, by simp⟩ (by (exact sbS)) ?_ ?_
  · exact (SE.cons _ (se_ls_nil _)).ent w0
  rintro ⟨ms, a', c'⟩ ⟨hi, hp⟩
  dsimp only at hi hp ⊢
  obtain ⟨i, hni⟩ : ∃ i, i = ms.length := ⟨_, rfl⟩
  rw [← hni] at hi hp
  have okm : LsOk ms := (h.sub (ms := ls.take i) (fun p hp => List.mem_of_mem_take hp) (by simp; omega)).of_lls (by rw [hp, ← List.map_take])
  have hwl := okm.wide.len
  rw [show ownLs a' c' ms = own 69 33 a' i c' (lnc ms) by rw [hni], ← hni]
  by_cases hlt : i < ls.length
  · have he := h.e i hlt
    have hpos := h.pos i hlt
    have lok := h.at i hlt
    haveI := hv.at i hlt
    have hpt : (lls ls).take (i + 1) = (lls ls).take i ++ [ls[i].pl] := by rw [List.take_succ_eq_append_getElem (by simpa using hlt), List.getElem_map]
    generalize ls[i] = x at *
    have hcl := Ln.len lok.own
    repeat' (first | (refine go1 ?_; intros) | (refine goCC ?_ ?_ <;> (intro hb; (try simp only [hSQ] at hb); try (exfalso; omega))) | fail)
    refine v_draw0 [9, 11] (by kernel_rfl) ?_
    refine tA 0 ?_
    refine tA 1 ?_
    refine tA 2 ?_
    refine tA 3 ?_
    refine tA 4 ?_
    refine tA 5 ?_
    refine tA 6 ?_
    refine va_one 7 (by kernel_rfl) rfl rfl ?_
    first | refine vo_call rfl rfl ?_ | refine vo_callV rfl rfl rfl ?_
    refine vc_mono (rtwinL_vc w0 _ x lok) ?_
    rintro v L' ⟨a2, c2, rfl, rfl⟩
    have hcl2 : (x.to a2 c2).cells.length = 33 := Ln.len lok.own
    refine ⟨.inr (sei _ _ _), ?_⟩
    refine va_one 8 (by kernel_rfl) rfl rfl ?_
    (refine goV ?_; intros)
    refine ⟨.inr (sei _ _ _), ?_⟩
    refine va_one 9 (by kernel_rfl) rfl rfl ?_
    (refine goV ?_; intros)
    refine ⟨.inl (by kernel_rfl), ?_⟩
    refine tP 10 ?_
    refine va_one 11 (by kernel_rfl) rfl rfl ?_
    (refine goV ?_; intros)
    refine ⟨.inl (by kernel_rfl), ?_⟩
    refine va_done (by kernel_rfl) ?_
    skip
    repeat' (first | (refine go1 ?_; intros) | (refine goCC ?_ ?_ <;> (intro hb; (try simp only [hSQ] at hb); try (exfalso; omega))) | fail)
    rename_i g a3 c3 _ _
    refine ⟨rfl, (ms ++ [x.to a2 c2], a3, c3), ⟨by simp; omega, ?_⟩, by simp; omega, ?_, ?_⟩
    · simp only [List.map_append, List.map_cons, List.map_nil, List.length_append, List.length_cons, List.length_nil, ← hni, Nat.zero_add]
      rw [show List.map Ln.pl ms = lls ms from rfl, hp, hpt, Ln.to_pl]
    · simp only [List.length_append, List.length_cons, List.length_nil, ← hni, Nat.zero_add]
      (exact sbS)
    · rw [ownLs_snoc, ← hni]
      simp only [List.append_nil, List.length_append, List.length_cons, List.length_nil, Nat.zero_add, ← hni]
      refine (sei w0 _ (ownTs a2 c2 x.xs :: tsA ms :: blk g3 24 [.slice a3 (i + 1) c3] :: own 69 33 a3 (i + 1) c3 (lnc ms ++ (Ln.mk x.own a2 c2 x.xs).cells) :: blk g2 24 [.slice none 0 0] :: blk g1 24 [.slice a ls.length c] :: L)).trans (((se_tsA_snoc ms _ (x.to a2 c2)).ent w0).trans (sei _ _ _))
  · have hin : i = ls.length := by omega
    repeat' (first | (refine go1 ?_; intros) | (refine goCC ?_ ?_ <;> (intro hb; (try simp only [hSQ] at hb); try (exfalso; omega))) | fail)
    refine ⟨_, ?_, a', c', ms, by rw [hni], by rw [hp, List.take_of_length_le (by simp; omega)], rfl⟩
    rw [show ownLs a' c' ms = own 69 33 a' i c' (lnc ms) by rw [hni]]
    exact sei _ _ _
theorem cloneLs_vc (w0 : World) (L : List Asn) (a : Option Addr) (cap : Nat) (ls : List Ln) {n : Nat} (hn : n = ls.length) (h : LsOk ls) [hr : RdC w0 L a (lnc ls)] :
    VC Tryz.prog w0 68 [.slice a n cap] L fun v L' => ∃ a' c', v = .slice a' ls.length c' ∧ L' = ownLs a' c' ls :: L := by
  subst hn
  have hlen := h.len
  have hfx : (lnc ls).length = ls.length * 33 := h.wide.len
  refine vc_know (φ := a = none → ls.length = 0) (fun w hs e => ?_) (fun hnil => ?_)
  · rcases hr.out w hs with h | ⟨_, _, e', _⟩
    · rw [h] at hfx
      simp only [List.length_nil] at hfx
      omega
    · rw [e] at e'; cases e'
  refine vc_ent ?_
  refine vc_in rfl rfl ?_
  repeat' (first | (refine go1 ?_; intros) | (refine goCC ?_ ?_ <;> (intro hb; (try simp only [hSQ] at hb); try (exfalso; omega))) | fail)
  · have h0 := hnil hb
    obtain rfl : ls = [] := List.eq_nil_of_length_eq_zero h0
    exact ⟨_, (se_own_nil _ 33 _).ent w0, none, 0, rfl, rfl⟩
  · rename_i g a' c' _ _
    refine ⟨_, Ent.refl _ _, a', c', ?_, ?_⟩
    · rw [Nat.zero_add]
    · rw [Nat.zero_add]; rfl
theorem stwin_vc (w0 : World) (L : List Asn) (a : Option Addr) (c : Nat) (ls : List Ln) {n : Nat} (hn : n = ls.length) (h : LsOk ls) [hr : RdC w0 L a (lnc ls)] [hv : RdLs w0 L ls] :
    VC Tryz.prog w0 32 [.agg #[.slice a n c]] L (RSh w0 L ls) := by
  subst hn
  have hlen := h.len
  refine vc_ent ?_
  refine vc_in rfl rfl ?_
  repeat' (first | (refine go1 ?_; intros) | (refine goCC ?_ ?_ <;> (intro hb; (try simp only [hSQ] at hb); try (exfalso; omega))) | fail)
  refine clV ?_
  refine vc_mono (cloneLs_vc w0 _ a c ls rfl h) ?_
  rintro v L' ⟨a', c', rfl, rfl⟩
  repeat' (first | (refine go1 ?_; intros) | (refine goCC ?_ ?_ <;> (intro hb; (try simp only [hSQ] at hb); try (exfalso; omega))) | fail)
  rename_i g1 g2 g3
  refine v_loopF (List Ln) [1, 2, 3, 11] rfl (fun ms => [(12, .int .i64 ms.length)]) (fun _ ms => own 69 33 a' ls.length c' (lnc (ms ++ ls.drop ms.length)) :: tsA ms :: blk g3 24 [.slice a' ls.length c'] :: blk g2 24 [.slice none 0 0] :: blk g1 24 [.slice a ls.length c] :: L) (fun ms => ms.length ≤ ls.length ∧ lls ms = (lls ls).take ms.length) (fun ms => ls.length - ms.length) [] ⟨Nat.zero_le _, by simp⟩ (by (exact sbS)) ?_ ?_
  · exact (sei w0 _ (ownLs a' c' ls :: blk g3 24 [.slice a' ls.length c'] :: blk g2 24 [.slice none 0 0] :: blk g1 24 [.slice a ls.length c] :: L)).trans ((SE.cons _ (se_tsA_nil _)).ent w0)
  rintro ms ⟨hi, hp⟩
  obtain ⟨i, hni⟩ : ∃ i, i = ms.length := ⟨_, rfl⟩
  rw [← hni] at hi hp ⊢
  by_cases hlt : i < ls.length
  · obtain ⟨ws, hws⟩ : ∃ ws, ws = ms ++ ls.drop i := ⟨_, rfl⟩
    rw [← hws]
    have hkw : lls ws = lls ls := by
      rw [hws]
      simp only [List.map_append]
      rw [show ms.map Ln.pl = lls ms from rfl, hp, List.map_drop, List.take_append_drop]
    have okw := h.of_lls hkw
    have hwl : ws.length = ls.length := lls_len hkw
    have hwi : ws[i]'(by omega) = ls[i] := by
      have : ws[i]? = ls[i]? := by rw [hws, List.getElem?_append_right (by omega), List.getElem?_drop, show i + (i - ms.length) = i by omega]
      rw [List.getElem?_eq_getElem (by omega), List.getElem?_eq_getElem hlt] at this
      exact Option.some.inj this
    have e1 := okw.e i (by omega)
    rw [hwi] at e1
    have hpos := okw.pos i (by omega)
    have hmul : i * 33 + 33 ≤ (lnc ws).length := okw.wide.mul i (by omega)
    have lok := h.at i hlt
    haveI := hv.at i hlt
    have hpt : (lls ls).take (i + 1) = (lls ls).take i ++ [ls[i].pl] := by rw [List.take_succ_eq_append_getElem (by simpa using hlt), List.getElem_map]
    have hsp : ∀ a2 c2, splice (lnc ws) (i * 33) (ls[i].to a2 c2).cells = lnc (ms ++ [ls[i].to a2 c2] ++ ls.drop (i + 1)) := by
      intro a2 c2
      have hset : ws.set i (ls[i].to a2 c2) = ms ++ [ls[i].to a2 c2] ++ ls.drop (i + 1) := by
        rw [hws, List.set_append_right _ _ (by omega), show i - ms.length = 0 by omega, List.drop_eq_getElem_cons hlt, List.set_cons_zero, List.append_assoc]
        rfl
      rw [← hset]
      exact okw.wide.spl (x := ls[i].to a2 c2) (Ln.len lok.own) i (by omega)
    have hcl2 : ∀ a2 c2, (ls[i].to a2 c2).cells.length = 33 := fun a2 c2 => Ln.len lok.own
    have hcl := Ln.len lok.own
    generalize lnc ws = cs at *
    repeat' (first | (refine go1 ?_; intros) | (refine goCC ?_ ?_ <;> (intro hb; (try simp only [hSQ] at hb); try (exfalso; omega))) | fail)
    refine v_draw0 [10] (by kernel_rfl) ?_
    refine tA 0 ?_
    refine tA 1 ?_
    refine tA 2 ?_
    refine tA 3 ?_
    refine tA 4 ?_
    refine tA 5 ?_
    refine tA 6 ?_
    refine tA 7 ?_
    refine va_one 8 (by kernel_rfl) rfl rfl ?_
    first | refine vo_call rfl rfl ?_ | refine vo_callV rfl rfl rfl ?_
    refine vc_mono (qtwinL_vc w0 _ ls[i] lok) ?_
    rintro v L' ⟨a2, c2, rfl, rfl⟩
    have hcl3 : (Ln.mk ls[i].own a2 c2 ls[i].xs).cells.length = 33 := hcl2 a2 c2
    refine ⟨.inr (sei _ _ _), ?_⟩
    refine tA 9 ?_
    refine va_one 10 (by kernel_rfl) rfl rfl ?_
    (refine goV ?_; intros)
    refine ⟨.inl (by kernel_rfl), ?_⟩
    refine va_done (by kernel_rfl) ?_
    skip
    repeat' (first | (refine go1 ?_; intros) | (refine goCC ?_ ?_ <;> (intro hb; (try simp only [hSQ] at hb); try (exfalso; omega))) | fail)
    rw [show splice cs (i * 33) (Ln.mk ls[i].own a2 c2 ls[i].xs).cells = _ from hsp a2 c2]
    refine ⟨rfl, ms ++ [ls[i].to a2 c2], ⟨by simp; omega, ?_⟩, by simp; omega, ?_, ?_⟩
    · simp only [List.map_append, List.map_cons, List.map_nil, List.length_append, List.length_cons, List.length_nil, ← hni, Nat.zero_add]
      rw [show List.map Ln.pl ms = lls ms from rfl, hp, hpt, Ln.to_pl]
    · simp only [List.length_append, List.length_cons, List.length_nil, ← hni, Nat.zero_add]
      (exact sbS)
    · simp only [List.length_append, List.length_cons, List.length_nil, ← hni, Nat.zero_add]
      exact ((se_swap _ _ _).trans (SE.cons _ (se_tsA_snoc ms _ (ls[i].to a2 c2)))).ent w0
  · have hin : i = ls.length := by omega
    rw [List.drop_eq_nil_of_le (by omega), List.append_nil]
    repeat' (first | (refine go1 ?_; intros) | (refine goCC ?_ ?_ <;> (intro hb; (try simp only [hSQ] at hb); try (exfalso; omega))) | fail)
    refine ⟨_, ?_, a', c', ms, by rw [← hni, hin], by rw [hp, List.take_of_length_le (by simp; omega)], rfl⟩
    unfold ownLs
    rw [← hni, hin]
    exact sei _ _ _
end Go.Proofs.YtcpndfffdbogbaaGreatDoor
namespace Go.Proofs.YtcpndfffdbogbaaGreatDoor
open Go Go.RowKit
open Classical

/-- How many transactions lines have. -/
def cntL (ls : List Ln) : Nat := (ls.map fun l => l.xs.length).sum
theorem cntL_take {ls : List Ln} {i : Nat} (hi : i < ls.length) : cntL (ls.take (i + 1)) = cntL (ls.take i) + ls[i].xs.length := by
  unfold cntL
  rw [List.take_succ_eq_append_getElem hi, List.map_append, List.sum_append]
  simp only [List.map_cons, List.map_nil, List.sum_cons, List.sum_nil, Nat.add_zero]
theorem cntL_le {ls : List Ln} (h : LsOk ls) : cntL ls ≤ ls.length * 1000000 := by
  have h1 := fun l hl => (h.ok l hl).ts.len
  clear h
  induction ls with
  | nil => simp [cntL]
  | cons l ls ih =>
    have h2 := ih (fun x hx => h1 x (List.mem_cons_of_mem _ hx))
    have h3 := h1 l (by simp)
    unfold cntL at *
    simp only [List.map_cons, List.sum_cons, List.length_cons]
    omega
theorem cntL_take_le {ls : List Ln} (i : Nat) : cntL (ls.take i) ≤ cntL ls := by
  unfold cntL
  conv => rhs; rw [← List.take_append_drop i ls, List.map_append, List.sum_append]
  omega
/-- The same, each line of 100 at most. -/
def cntH (ls : List Ln) : Nat := (ls.map fun l => min l.xs.length 100).sum
theorem cntH_take {ls : List Ln} {i : Nat} (hi : i < ls.length) : cntH (ls.take (i + 1)) = cntH (ls.take i) + min ls[i].xs.length 100 := by
  unfold cntH
  rw [List.take_succ_eq_append_getElem hi, List.map_append, List.sum_append]
  simp only [List.map_cons, List.map_nil, List.sum_cons, List.sum_nil, Nat.add_zero]
theorem cntH_le (ls : List Ln) : cntH ls ≤ ls.length * 100 := by
  induction ls with
  | nil => simp [cntH]
  | cons l ls ih =>
    unfold cntH at *
    simp only [List.map_cons, List.sum_cons, List.length_cons]
    omega
theorem cntH_small : ∀ {ls : List Ln}, cntH ls ≤ 20 → ∀ l ∈ ls, l.xs.length ≤ 20
  | [], _, l, hl => by cases hl
  | m :: ls, h, l, hl => by
    unfold cntH at h
    simp only [List.map_cons, List.sum_cons] at h
    rcases List.mem_cons.1 hl with rfl | hl
    · omega
    · exact cntH_small (by unfold cntH; omega) l hl
section
variable {P : Program} {w0 : World} {n : Nat} {ds : List Deferred} {fr : Fr} {L : List Asn} {dst : Option Nat} {ty : TypeId} {pos : String} {after : Array Edge} {gd : Option (Nat × Bool)}
theorem vq_minS {ts : Array TypeId} {x y : Operand} {m k : Nat} (hx : evA fr x = some (.int .i64 m)) (hy : evA fr y = some (.int .i64 k)) : VQ P w0 n ⟨dst, .call { callee := .builtin .min, args := #[x, y], argTypes := ts }, ty, pos, after, gd⟩ (.int .i64 ((min m k : Nat) : Int)) ds fr L := vq_val (fun a w hk _ => by
  have e : (if (k : Int) < (m : Int) then (k : Int) else (m : Int)) = ((min m k : Nat) : Int) := by split <;> omega
  simp only [← e]
  simp [execOp, resolve, invoke, builtin, hk.ev hx, hk.ev hy, Builtin.min_, Builtin.min2])
end
theorem great20_vc (w0 : World) (L : List Asn) (a : Option Addr) (c : Nat) (ls : List Ln) {n : Nat} (hn : n = ls.length) (hk : ∀ p ∈ ls, p.own.length = 32 ∧ p.xs.length ≤ 9223372036854775807) (hl : ls.length ≤ 9223372036854775807) [hr : RdC w0 L a (lnc ls)] :
    VC Tryz.prog w0 6 [.agg #[.slice a n c]] L fun v L' => ∃ b, v = .bool b ∧ (b = false → ls.length ≤ 6 ∧ ∀ x ∈ ls, x.xs.length ≤ 20) ∧ L' = L := by
  subst hn
  have hw : Wide Ln.cells 33 ls := fun p hp => Ln.len (hk p hp).1
  refine vc_ent ?_
  refine vc_in rfl rfl ?_
  repeat' (first | (refine go1 ?_; intros) | (refine goCC ?_ ?_ <;> (intro hb; (try simp only [hSQ] at hb); try (exfalso; omega))) | fail)
  refine v_loopS (Nat × Nat) [1] rfl (fun x => [(4, .int .i64 x.1), (3, .int .i64 x.2)]) (fun x => x.1 ≤ ls.length ∧ x.1 ≤ 20 ∧ x.2 = cntH (ls.take x.1)) (fun x => ls.length - x.1) (0, 0) ⟨Nat.zero_le _, Nat.zero_le _, rfl⟩ (by (exact sbS)) ?_
  rintro ⟨i, k⟩ ⟨hi, h20, hk2⟩
  dsimp only at hi h20 hk2 ⊢
  have hb := cntH_le (ls.take i)
  rw [← hk2, List.length_take, Nat.min_eq_left hi] at hb
  by_cases hlt : i < ls.length ∧ i < 20
  · obtain ⟨h1, h2⟩ := hlt
    have e1 : (lnc ls)[i * 33 + 32]? = some (.slice ls[i].a ls[i].xs.length ls[i].c) := by
      rw [hw.cell i h1 32 (by decide)]
      simpa using Ln.f1 (hk _ (List.getElem_mem h1)).1
    have hxl := (hk _ (List.getElem_mem h1)).2
    have hpos : 0 < (lnc ls).length := hw.pos (by decide) (by omega)
    have hst := cntH_take h1
    rw [← hk2] at hst
    repeat' (first | (refine go1 ?_; intros) | (refine goCC ?_ ?_ <;> (intro hb; (try simp only [hSQ] at hb); try (exfalso; omega))) | fail)
    all_goals first | (exfalso; omega) | skip
    refine vl_q rfl rfl rfl rfl (vq_minS (k := 100) rfl rfl) ?_
    repeat' (first | (refine go1 ?_; intros) | (refine goCC ?_ ?_ <;> (intro hb; (try simp only [hSQ] at hb); try (exfalso; omega))) | fail)
    refine ⟨rfl, (i + 1, k + min ls[i].xs.length 100), ⟨by dsimp only; omega, by dsimp only; omega, by dsimp only; omega⟩, by dsimp only; omega, ?_, Ent.refl _ _⟩
    (exact sbS)
  · repeat' (first | (refine go1 ?_; intros) | (refine goCC ?_ ?_ <;> (intro hb; (try simp only [hSQ] at hb); try (exfalso; omega))) | fail)
    all_goals first
      | (exfalso; omega)
      | exact ⟨L, sei _ _ _, true, rfl, by simp, rfl⟩
      | (refine ⟨L, sei _ _ _, _, rfl, fun e => ?_, rfl⟩
         have h3 := of_decide_eq_false e
         obtain rfl : i = ls.length := by omega
         rw [List.take_length] at hk2
         exact ⟨by omega, cntH_small (by omega)⟩)
theorem scount_vc (w0 : World) (L : List Asn) (a : Option Addr) (c : Nat) (ls : List Ln) {n : Nat} (hn : n = ls.length) (h : LsOk ls) [hr : RdC w0 L a (lnc ls)] :
    VC Tryz.prog w0 98 [.agg #[.slice a n c]] L fun v L' => v = .int .i64 (cntL ls) ∧ L' = L := by
  subst hn
  have hlen := h.len
  have hcl := cntL_le h
  refine vc_ent ?_
  refine vc_in rfl rfl ?_
  repeat' (first | (refine go1 ?_; intros) | (refine goCC ?_ ?_ <;> (intro hb; (try simp only [hSQ] at hb); try (exfalso; omega))) | fail)
  refine v_loopS (Nat × Nat) [1, 6, 7] rfl (fun x => [(8, .int .i64 x.1), (2, .int .i64 x.2)]) (fun x => x.1 ≤ ls.length ∧ x.2 = cntL (ls.take x.1)) (fun x => ls.length - x.1) (0, 0) ⟨Nat.zero_le _, rfl⟩ (by (exact sbS)) ?_
  rintro ⟨i, k⟩ ⟨hi, hk⟩
  dsimp only at hi hk ⊢
  have hle : k ≤ cntL ls := by rw [hk]; exact cntL_take_le i
  by_cases hlt : i < ls.length
  · have el := h.e i hlt
    have lok := h.at i hlt
    have hxl := lok.ts.len
    have hcl2 := Ln.len lok.own
    have f1 := Ln.f1 lok.own
    have hpos := h.pos i hlt
    have hst := cntL_take hlt
    rw [← hk] at hst
    repeat' (first | (refine go1 ?_; intros) | (refine goCC ?_ ?_ <;> (intro hb; (try simp only [hSQ] at hb); try (exfalso; omega))) | fail)
    refine ⟨rfl, (i + 1, k + ls[i].xs.length), ⟨by dsimp only; omega, by dsimp only; omega⟩, by dsimp only; omega, ?_, sei _ _ _⟩
    (exact sbS)
  · obtain rfl : i = ls.length := by omega
    rw [List.take_length] at hk
    repeat' (first | (refine go1 ?_; intros) | (refine goCC ?_ ?_ <;> (intro hb; (try simp only [hSQ] at hb); try (exfalso; omega))) | fail)
    exact ⟨L, sei _ _ _, by rw [hk], rfl⟩
theorem rcount20_vc (w0 : World) (L : List Asn) (a : Option Addr) (c : Nat) (ls : List Ln) {n : Nat} (hn : n = ls.length) (h : LsOk ls) [hr : RdC w0 L a (lnc ls)] :
    VC Tryz.prog w0 136 [.agg #[.slice a n c]] L fun v L' => v = .int .i64 (cntL ls) ∧ L' = L := by
  subst hn
  have hlen := h.len
  have hcl := cntL_le h
  refine vc_ent ?_
  refine vc_in rfl rfl ?_
  repeat' (first | (refine go1 ?_; intros) | (refine goCC ?_ ?_ <;> (intro hb; (try simp only [hSQ] at hb); try (exfalso; omega))) | fail)
  refine v_loopS (Nat × Nat) [1] rfl (fun x => [(4, .int .i64 x.1), (3, .int .i64 x.2)]) (fun x => x.1 ≤ ls.length ∧ x.2 = cntL (ls.take x.1)) (fun x => ls.length - x.1) (0, 0) ⟨Nat.zero_le _, rfl⟩ (by (exact sbS)) ?_
  rintro ⟨i, k⟩ ⟨hi, hk⟩
  dsimp only at hi hk ⊢
  have hle : k ≤ cntL ls := by rw [hk]; exact cntL_take_le i
  by_cases hlt : i < ls.length
  · have e1 := h.e1 i hlt
    have hxl := (h.at i hlt).ts.len
    have hpos := h.pos i hlt
    have hst := cntL_take hlt
    rw [← hk] at hst
    repeat' (first | (refine go1 ?_; intros) | (refine goCC ?_ ?_ <;> (intro hb; (try simp only [hSQ] at hb); try (exfalso; omega))) | fail)
    refine ⟨rfl, (i + 1, k + ls[i].xs.length), ⟨by dsimp only; omega, by dsimp only; omega⟩, by dsimp only; omega, ?_, Ent.refl _ _⟩
    (exact sbS)
  · obtain rfl : i = ls.length := by omega
    rw [List.take_length] at hk
    repeat' (first | (refine go1 ?_; intros) | (refine goCC ?_ ?_ <;> (intro hb; (try simp only [hSQ] at hb); try (exfalso; omega))) | fail)
    exact ⟨L, sei _ _ _, by rw [hk], rfl⟩
/-- Whether the i-th line may stand where it stands. -/
noncomputable def lnAt (ls : List Ln) (i : Nat) : Bool :=
  match ls[i]?, ls[i - 1]? with
  | some l, some m => decide (l.xs.length ≠ 0) && (l.may && (decide (i = 0) || decide (Ahd m.own l.own)))
  | _, _ => false
theorem lnAt_eq {ls : List Ln} (i : Nat) (hi : i < ls.length) : lnAt ls i = (decide (ls[i].xs.length ≠ 0) && (ls[i].may && (decide (i = 0) || decide (Ahd (ls[i - 1]'(by omega)).own ls[i].own)))) := by
  unfold lnAt
  rw [List.getElem?_eq_getElem hi, List.getElem?_eq_getElem (by omega : i - 1 < ls.length)]
/-- Whether lines may be a shard. -/
noncomputable def mayS (ls : List Ln) : Bool := decide (∀ i, i < ls.length → lnAt ls i = true)
theorem rmay20_vc (w0 : World) (L : List Asn) (a : Option Addr) (c : Nat) (ls : List Ln) {n : Nat} (hn : n = ls.length) (h : LsOk ls) [hr : RdC w0 L a (lnc ls)] [hv : RdLs w0 L ls] :
    VC Tryz.prog w0 37 [.agg #[.slice a n c]] L fun v L' => v = .bool (mayS ls) ∧ L' = L := by
  subst hn
  have hlen := h.len
  refine vc_ent ?_
  refine vc_in rfl rfl ?_
  repeat' (first | (refine go1 ?_; intros) | (refine goCC ?_ ?_ <;> (intro hb; (try simp only [hSQ] at hb); try (exfalso; omega))) | fail)
  refine v_loopF Nat [1] rfl (fun i => [(3, .int .i64 i)]) (fun M i => M) (fun i => i ≤ ls.length ∧ ∀ j, j < i → lnAt ls j = true) (fun i => ls.length - i) 0 ⟨Nat.zero_le _, fun j h => by omega⟩ (by (exact sbS)) (Ent.refl _ _) ?_
  rintro i ⟨hi, hok⟩
  by_cases hlt : i < ls.length
  rotate_left
  · obtain rfl : i = ls.length := by omega
    have hm : mayS ls = true := by unfold mayS; rw [decide_eq_true hok]
    repeat' (first | (refine go1 ?_; intros) | (refine goCC ?_ ?_ <;> (intro hb; (try simp only [hSQ] at hb); try (exfalso; omega))) | fail)
    exact ⟨L, sei _ _ _, by rw [hm], rfl⟩
  have el := h.e i hlt
  have lok := h.at i hlt
  have hcl := Ln.len lok.own
  have f1 := Ln.f1 lok.own
  have f0 := Ln.f0 lok.own
  have hpos := h.pos i hlt
  have hol := lok.own
  have hol2 := (h.at (i - 1) (by omega)).own
  have e0' := h.e0 (i - 1) (by omega)
  have hxl := lok.ts.len
  have hq := lnAt_eq i hlt
  haveI := hv.at i hlt
  have hbad : lnAt ls i = false → mayS ls = false := fun e => by
    unfold mayS
    rw [decide_eq_false]
    intro f
    rw [f i hlt] at e
    cases e
  have hgood : lnAt ls i = true → ∀ j, j < i + 1 → lnAt ls j = true := fun e j hj => by
    by_cases e' : j = i
    · rw [e']; exact e
    · exact hok j (by omega)
  haveI hoc : OC ls[i].cells := oc_ln _
  have hM := fun L (h1 : RdC w0 L ls[i].a (txc ls[i].xs)) => rmay19_vc w0 L ls[i] lok
  generalize hcs : ls[i].cells = cs at *
  repeat' (first | (refine go1 ?_; intros) | (refine goCC ?_ ?_ <;> (intro hb; (try simp only [hSQ] at hb); try (exfalso; omega))) | fail)
  by_cases hx0 : ls[i].xs.length = 0
  · (refine v_draw0 [] (by kernel_rfl) ?_ <;> (refine tA 0 ?_) <;> (refine tA 1 ?_) <;> (refine tA 2 ?_) <;> (refine tA 3 ?_) <;> (refine tA 4 ?_) <;> (first | refine tG 5 ?_ | refine pG 5 ?_ | (refine va_caseG 5 rfl rfl rfl rfl rfl ?_ ?_ <;> (intro hb; (try simp only [hSQ] at hb); try (exfalso; omega)) <;> first | refine tG 5 ?_ | refine pG 5 ?_)))
    rw [decide_eq_false (by simpa using hx0), Bool.false_and] at hq
    refine pG 6 ?_
    ((first | refine tG 7 ?_ | (first | refine pG 7 ?_ | refine pU 7 ?_) | (refine va_caseG 7 rfl rfl rfl rfl rfl ?_ ?_ <;> (intro hb; (try simp only [hSQ] at hb); try (exfalso; omega)) <;> first | refine tG 7 ?_ | (first | refine pG 7 ?_ | refine pU 7 ?_))) <;> (refine tA 8 ?_) <;> (refine tA 9 ?_) <;> (first | refine tG 10 ?_ | (first | refine pG 10 ?_ | refine pU 10 ?_) | (refine va_caseG 10 rfl rfl rfl rfl rfl ?_ ?_ <;> (intro hb; (try simp only [hSQ] at hb); try (exfalso; omega)) <;> first | refine tG 10 ?_ | (first | refine pG 10 ?_ | refine pU 10 ?_))) <;> (first | refine tG 11 ?_ | (first | refine pG 11 ?_ | refine pU 11 ?_) | (refine va_caseG 11 rfl rfl rfl rfl rfl ?_ ?_ <;> (intro hb; (try simp only [hSQ] at hb); try (exfalso; omega)) <;> first | refine tG 11 ?_ | (first | refine pG 11 ?_ | refine pU 11 ?_))) <;> (first | refine tG 12 ?_ | (first | refine pG 12 ?_ | refine pU 12 ?_) | (refine va_caseG 12 rfl rfl rfl rfl rfl ?_ ?_ <;> (intro hb; (try simp only [hSQ] at hb); try (exfalso; omega)) <;> first | refine tG 12 ?_ | (first | refine pG 12 ?_ | refine pU 12 ?_))) <;> (first | refine tG 13 ?_ | (first | refine pG 13 ?_ | refine pU 13 ?_) | (refine va_caseG 13 rfl rfl rfl rfl rfl ?_ ?_ <;> (intro hb; (try simp only [hSQ] at hb); try (exfalso; omega)) <;> first | refine tG 13 ?_ | (first | refine pG 13 ?_ | refine pU 13 ?_))) <;> (first | refine tG 14 ?_ | (first | refine pG 14 ?_ | refine pU 14 ?_) | (refine va_caseG 14 rfl rfl rfl rfl rfl ?_ ?_ <;> (intro hb; (try simp only [hSQ] at hb); try (exfalso; omega)) <;> first | refine tG 14 ?_ | (first | refine pG 14 ?_ | refine pU 14 ?_))) <;> (first | refine tG 15 ?_ | (first | refine pG 15 ?_ | refine pU 15 ?_) | (refine va_caseG 15 rfl rfl rfl rfl rfl ?_ ?_ <;> (intro hb; (try simp only [hSQ] at hb); try (exfalso; omega)) <;> first | refine tG 15 ?_ | (first | refine pG 15 ?_ | refine pU 15 ?_))) <;> (first | refine tG 16 ?_ | (first | refine pG 16 ?_ | refine pU 16 ?_) | (refine va_caseG 16 rfl rfl rfl rfl rfl ?_ ?_ <;> (intro hb; (try simp only [hSQ] at hb); try (exfalso; omega)) <;> first | refine tG 16 ?_ | (first | refine pG 16 ?_ | refine pU 16 ?_))) <;> (first | refine tG 17 ?_ | (first | refine pG 17 ?_ | refine pU 17 ?_) | (refine va_caseG 17 rfl rfl rfl rfl rfl ?_ ?_ <;> (intro hb; (try simp only [hSQ] at hb); try (exfalso; omega)) <;> first | refine tG 17 ?_ | (first | refine pG 17 ?_ | refine pU 17 ?_))) <;> (first | refine tG 18 ?_ | (first | refine pG 18 ?_ | refine pU 18 ?_) | (refine va_caseG 18 rfl rfl rfl rfl rfl ?_ ?_ <;> (intro hb; (try simp only [hSQ] at hb); try (exfalso; omega)) <;> first | refine tG 18 ?_ | (first | refine pG 18 ?_ | refine pU 18 ?_))) <;> (first | refine tG 19 ?_ | (first | refine pG 19 ?_ | refine pU 19 ?_) | (refine va_caseG 19 rfl rfl rfl rfl rfl ?_ ?_ <;> (intro hb; (try simp only [hSQ] at hb); try (exfalso; omega)) <;> first | refine tG 19 ?_ | (first | refine pG 19 ?_ | refine pU 19 ?_))) <;> (first | refine tG 20 ?_ | (first | refine pG 20 ?_ | refine pU 20 ?_) | (refine va_caseG 20 rfl rfl rfl rfl rfl ?_ ?_ <;> (intro hb; (try simp only [hSQ] at hb); try (exfalso; omega)) <;> first | refine tG 20 ?_ | (first | refine pG 20 ?_ | refine pU 20 ?_))) <;> (first | refine tG 21 ?_ | (first | refine pG 21 ?_ | refine pU 21 ?_) | (refine va_caseG 21 rfl rfl rfl rfl rfl ?_ ?_ <;> (intro hb; (try simp only [hSQ] at hb); try (exfalso; omega)) <;> first | refine tG 21 ?_ | (first | refine pG 21 ?_ | refine pU 21 ?_))))
    refine pU 22 ?_
    ((first | refine tG 23 ?_ | (first | refine pG 23 ?_ | refine pU 23 ?_) | (refine va_caseG 23 rfl rfl rfl rfl rfl ?_ ?_ <;> (intro hb; (try simp only [hSQ] at hb); try (exfalso; omega)) <;> first | refine tG 23 ?_ | (first | refine pG 23 ?_ | refine pU 23 ?_))) <;> (first | refine tG 24 ?_ | (first | refine pG 24 ?_ | refine pU 24 ?_) | (refine va_caseG 24 rfl rfl rfl rfl rfl ?_ ?_ <;> (intro hb; (try simp only [hSQ] at hb); try (exfalso; omega)) <;> first | refine tG 24 ?_ | (first | refine pG 24 ?_ | refine pU 24 ?_))) <;> (refine tA 25 ?_) <;> (refine va_done (by kernel_rfl) ?_))
    repeat' (first | (refine go1 ?_; intros) | (refine goCC ?_ ?_ <;> (intro hb; (try simp only [hSQ] at hb); try (exfalso; omega))) | fail)
    exact ⟨L, sei _ _ _, by rw [hbad hq], rfl⟩
  rw [decide_eq_true hx0, Bool.true_and] at hq
  (refine v_draw0 [] (by kernel_rfl) ?_ <;> (refine tA 0 ?_) <;> (refine tA 1 ?_) <;> (refine tA 2 ?_) <;> (refine tA 3 ?_) <;> (refine tA 4 ?_) <;> (first | refine tG 5 ?_ | refine pG 5 ?_ | (refine va_caseG 5 rfl rfl rfl rfl rfl ?_ ?_ <;> (intro hb; (try simp only [hSQ] at hb); try (exfalso; omega)) <;> first | refine tG 5 ?_ | refine pG 5 ?_)))
  first | refine va_oneG 6 (by kernel_rfl) rfl rfl rfl rfl rfl rfl (vo_call rfl rfl ?_) | refine va_oneG 6 (by kernel_rfl) rfl rfl rfl rfl rfl rfl (vo_callV rfl rfl rfl ?_)
  refine vc_mono (hM _ inferInstance) ?_
  rintro v L' ⟨rfl, rfl⟩
  cases hm : ls[i].may
  · rw [hm, Bool.false_and] at hq
    refine ⟨.inr entD, ?_⟩
    ((first | refine tG 7 ?_ | (first | refine pG 7 ?_ | refine pU 7 ?_) | (refine va_caseG 7 rfl rfl rfl rfl rfl ?_ ?_ <;> (intro hb; (try simp only [hSQ] at hb); try (exfalso; omega)) <;> first | refine tG 7 ?_ | (first | refine pG 7 ?_ | refine pU 7 ?_))) <;> (refine tA 8 ?_) <;> (refine tA 9 ?_) <;> (first | refine tG 10 ?_ | (first | refine pG 10 ?_ | refine pU 10 ?_) | (refine va_caseG 10 rfl rfl rfl rfl rfl ?_ ?_ <;> (intro hb; (try simp only [hSQ] at hb); try (exfalso; omega)) <;> first | refine tG 10 ?_ | (first | refine pG 10 ?_ | refine pU 10 ?_))) <;> (first | refine tG 11 ?_ | (first | refine pG 11 ?_ | refine pU 11 ?_) | (refine va_caseG 11 rfl rfl rfl rfl rfl ?_ ?_ <;> (intro hb; (try simp only [hSQ] at hb); try (exfalso; omega)) <;> first | refine tG 11 ?_ | (first | refine pG 11 ?_ | refine pU 11 ?_))) <;> (first | refine tG 12 ?_ | (first | refine pG 12 ?_ | refine pU 12 ?_) | (refine va_caseG 12 rfl rfl rfl rfl rfl ?_ ?_ <;> (intro hb; (try simp only [hSQ] at hb); try (exfalso; omega)) <;> first | refine tG 12 ?_ | (first | refine pG 12 ?_ | refine pU 12 ?_))) <;> (first | refine tG 13 ?_ | (first | refine pG 13 ?_ | refine pU 13 ?_) | (refine va_caseG 13 rfl rfl rfl rfl rfl ?_ ?_ <;> (intro hb; (try simp only [hSQ] at hb); try (exfalso; omega)) <;> first | refine tG 13 ?_ | (first | refine pG 13 ?_ | refine pU 13 ?_))) <;> (first | refine tG 14 ?_ | (first | refine pG 14 ?_ | refine pU 14 ?_) | (refine va_caseG 14 rfl rfl rfl rfl rfl ?_ ?_ <;> (intro hb; (try simp only [hSQ] at hb); try (exfalso; omega)) <;> first | refine tG 14 ?_ | (first | refine pG 14 ?_ | refine pU 14 ?_))) <;> (first | refine tG 15 ?_ | (first | refine pG 15 ?_ | refine pU 15 ?_) | (refine va_caseG 15 rfl rfl rfl rfl rfl ?_ ?_ <;> (intro hb; (try simp only [hSQ] at hb); try (exfalso; omega)) <;> first | refine tG 15 ?_ | (first | refine pG 15 ?_ | refine pU 15 ?_))) <;> (first | refine tG 16 ?_ | (first | refine pG 16 ?_ | refine pU 16 ?_) | (refine va_caseG 16 rfl rfl rfl rfl rfl ?_ ?_ <;> (intro hb; (try simp only [hSQ] at hb); try (exfalso; omega)) <;> first | refine tG 16 ?_ | (first | refine pG 16 ?_ | refine pU 16 ?_))) <;> (first | refine tG 17 ?_ | (first | refine pG 17 ?_ | refine pU 17 ?_) | (refine va_caseG 17 rfl rfl rfl rfl rfl ?_ ?_ <;> (intro hb; (try simp only [hSQ] at hb); try (exfalso; omega)) <;> first | refine tG 17 ?_ | (first | refine pG 17 ?_ | refine pU 17 ?_))) <;> (first | refine tG 18 ?_ | (first | refine pG 18 ?_ | refine pU 18 ?_) | (refine va_caseG 18 rfl rfl rfl rfl rfl ?_ ?_ <;> (intro hb; (try simp only [hSQ] at hb); try (exfalso; omega)) <;> first | refine tG 18 ?_ | (first | refine pG 18 ?_ | refine pU 18 ?_))) <;> (first | refine tG 19 ?_ | (first | refine pG 19 ?_ | refine pU 19 ?_) | (refine va_caseG 19 rfl rfl rfl rfl rfl ?_ ?_ <;> (intro hb; (try simp only [hSQ] at hb); try (exfalso; omega)) <;> first | refine tG 19 ?_ | (first | refine pG 19 ?_ | refine pU 19 ?_))) <;> (first | refine tG 20 ?_ | (first | refine pG 20 ?_ | refine pU 20 ?_) | (refine va_caseG 20 rfl rfl rfl rfl rfl ?_ ?_ <;> (intro hb; (try simp only [hSQ] at hb); try (exfalso; omega)) <;> first | refine tG 20 ?_ | (first | refine pG 20 ?_ | refine pU 20 ?_))) <;> (first | refine tG 21 ?_ | (first | refine pG 21 ?_ | refine pU 21 ?_) | (refine va_caseG 21 rfl rfl rfl rfl rfl ?_ ?_ <;> (intro hb; (try simp only [hSQ] at hb); try (exfalso; omega)) <;> first | refine tG 21 ?_ | (first | refine pG 21 ?_ | refine pU 21 ?_))))
    refine pU 22 ?_
    ((first | refine tG 23 ?_ | (first | refine pG 23 ?_ | refine pU 23 ?_) | (refine va_caseG 23 rfl rfl rfl rfl rfl ?_ ?_ <;> (intro hb; (try simp only [hSQ] at hb); try (exfalso; omega)) <;> first | refine tG 23 ?_ | (first | refine pG 23 ?_ | refine pU 23 ?_))) <;> (first | refine tG 24 ?_ | (first | refine pG 24 ?_ | refine pU 24 ?_) | (refine va_caseG 24 rfl rfl rfl rfl rfl ?_ ?_ <;> (intro hb; (try simp only [hSQ] at hb); try (exfalso; omega)) <;> first | refine tG 24 ?_ | (first | refine pG 24 ?_ | refine pU 24 ?_))) <;> (refine tA 25 ?_) <;> (refine va_done (by kernel_rfl) ?_))
    repeat' (first | (refine go1 ?_; intros) | (refine goCC ?_ ?_ <;> (intro hb; (try simp only [hSQ] at hb); try (exfalso; omega))) | fail)
    exact ⟨L, sei _ _ _, by rw [hbad hq], rfl⟩
  rw [hm, Bool.true_and] at hq
  by_cases i0 : i = 0
  · obtain rfl := i0
    refine ⟨.inr entD, ?_⟩
    ((first | refine tG 7 ?_ | (first | refine pG 7 ?_ | refine pU 7 ?_) | (refine va_caseG 7 rfl rfl rfl rfl rfl ?_ ?_ <;> (intro hb; (try simp only [hSQ] at hb); try (exfalso; omega)) <;> first | refine tG 7 ?_ | (first | refine pG 7 ?_ | refine pU 7 ?_))) <;> (refine tA 8 ?_) <;> (refine tA 9 ?_) <;> (first | refine tG 10 ?_ | (first | refine pG 10 ?_ | refine pU 10 ?_) | (refine va_caseG 10 rfl rfl rfl rfl rfl ?_ ?_ <;> (intro hb; (try simp only [hSQ] at hb); try (exfalso; omega)) <;> first | refine tG 10 ?_ | (first | refine pG 10 ?_ | refine pU 10 ?_))) <;> (first | refine tG 11 ?_ | (first | refine pG 11 ?_ | refine pU 11 ?_) | (refine va_caseG 11 rfl rfl rfl rfl rfl ?_ ?_ <;> (intro hb; (try simp only [hSQ] at hb); try (exfalso; omega)) <;> first | refine tG 11 ?_ | (first | refine pG 11 ?_ | refine pU 11 ?_))) <;> (first | refine tG 12 ?_ | (first | refine pG 12 ?_ | refine pU 12 ?_) | (refine va_caseG 12 rfl rfl rfl rfl rfl ?_ ?_ <;> (intro hb; (try simp only [hSQ] at hb); try (exfalso; omega)) <;> first | refine tG 12 ?_ | (first | refine pG 12 ?_ | refine pU 12 ?_))) <;> (first | refine tG 13 ?_ | (first | refine pG 13 ?_ | refine pU 13 ?_) | (refine va_caseG 13 rfl rfl rfl rfl rfl ?_ ?_ <;> (intro hb; (try simp only [hSQ] at hb); try (exfalso; omega)) <;> first | refine tG 13 ?_ | (first | refine pG 13 ?_ | refine pU 13 ?_))) <;> (first | refine tG 14 ?_ | (first | refine pG 14 ?_ | refine pU 14 ?_) | (refine va_caseG 14 rfl rfl rfl rfl rfl ?_ ?_ <;> (intro hb; (try simp only [hSQ] at hb); try (exfalso; omega)) <;> first | refine tG 14 ?_ | (first | refine pG 14 ?_ | refine pU 14 ?_))) <;> (first | refine tG 15 ?_ | (first | refine pG 15 ?_ | refine pU 15 ?_) | (refine va_caseG 15 rfl rfl rfl rfl rfl ?_ ?_ <;> (intro hb; (try simp only [hSQ] at hb); try (exfalso; omega)) <;> first | refine tG 15 ?_ | (first | refine pG 15 ?_ | refine pU 15 ?_))) <;> (first | refine tG 16 ?_ | (first | refine pG 16 ?_ | refine pU 16 ?_) | (refine va_caseG 16 rfl rfl rfl rfl rfl ?_ ?_ <;> (intro hb; (try simp only [hSQ] at hb); try (exfalso; omega)) <;> first | refine tG 16 ?_ | (first | refine pG 16 ?_ | refine pU 16 ?_))) <;> (first | refine tG 17 ?_ | (first | refine pG 17 ?_ | refine pU 17 ?_) | (refine va_caseG 17 rfl rfl rfl rfl rfl ?_ ?_ <;> (intro hb; (try simp only [hSQ] at hb); try (exfalso; omega)) <;> first | refine tG 17 ?_ | (first | refine pG 17 ?_ | refine pU 17 ?_))) <;> (first | refine tG 18 ?_ | (first | refine pG 18 ?_ | refine pU 18 ?_) | (refine va_caseG 18 rfl rfl rfl rfl rfl ?_ ?_ <;> (intro hb; (try simp only [hSQ] at hb); try (exfalso; omega)) <;> first | refine tG 18 ?_ | (first | refine pG 18 ?_ | refine pU 18 ?_))) <;> (first | refine tG 19 ?_ | (first | refine pG 19 ?_ | refine pU 19 ?_) | (refine va_caseG 19 rfl rfl rfl rfl rfl ?_ ?_ <;> (intro hb; (try simp only [hSQ] at hb); try (exfalso; omega)) <;> first | refine tG 19 ?_ | (first | refine pG 19 ?_ | refine pU 19 ?_))) <;> (first | refine tG 20 ?_ | (first | refine pG 20 ?_ | refine pU 20 ?_) | (refine va_caseG 20 rfl rfl rfl rfl rfl ?_ ?_ <;> (intro hb; (try simp only [hSQ] at hb); try (exfalso; omega)) <;> first | refine tG 20 ?_ | (first | refine pG 20 ?_ | refine pU 20 ?_))) <;> (first | refine tG 21 ?_ | (first | refine pG 21 ?_ | refine pU 21 ?_) | (refine va_caseG 21 rfl rfl rfl rfl rfl ?_ ?_ <;> (intro hb; (try simp only [hSQ] at hb); try (exfalso; omega)) <;> first | refine tG 21 ?_ | (first | refine pG 21 ?_ | refine pU 21 ?_))))
    refine pG 22 ?_
    ((first | refine tG 23 ?_ | refine pG 23 ?_ | (refine va_caseG 23 rfl rfl rfl rfl rfl ?_ ?_ <;> (intro hb; (try simp only [hSQ] at hb); try (exfalso; omega)) <;> first | refine tG 23 ?_ | refine pG 23 ?_)) <;> (first | refine tG 24 ?_ | refine pG 24 ?_ | (refine va_caseG 24 rfl rfl rfl rfl rfl ?_ ?_ <;> (intro hb; (try simp only [hSQ] at hb); try (exfalso; omega)) <;> first | refine tG 24 ?_ | refine pG 24 ?_)) <;> (refine tA 25 ?_) <;> (refine va_done (by kernel_rfl) ?_))
    repeat' (first | (refine go1 ?_; intros) | (refine goCC ?_ ?_ <;> (intro hb; (try simp only [hSQ] at hb); try (exfalso; omega))) | fail)
    refine ⟨rfl, 1, ⟨by omega, hgood (by rw [hq]; rfl)⟩, by omega, ?_, sei _ _ _⟩
    (exact sbS)
  rw [decide_eq_false i0, Bool.false_or] at hq
  have hi0 : (0 : Int) < (i : Int) := by omega
  refine ⟨.inr entD, ?_⟩
  ((first | refine tG 7 ?_ | refine pG 7 ?_ | (refine va_caseG 7 rfl rfl rfl rfl rfl ?_ ?_ <;> (intro hb; (try simp only [hSQ] at hb); try (exfalso; omega)) <;> first | refine tG 7 ?_ | refine pG 7 ?_)) <;> (refine tA 8 ?_) <;> (refine tA 9 ?_) <;> (first | refine tG 10 ?_ | refine pG 10 ?_ | (refine va_caseG 10 rfl rfl rfl rfl rfl ?_ ?_ <;> (intro hb; (try simp only [hSQ] at hb); try (exfalso; omega)) <;> first | refine tG 10 ?_ | refine pG 10 ?_)) <;> (first | refine tG 11 ?_ | refine pG 11 ?_ | (refine va_caseG 11 rfl rfl rfl rfl rfl ?_ ?_ <;> (intro hb; (try simp only [hSQ] at hb); try (exfalso; omega)) <;> first | refine tG 11 ?_ | refine pG 11 ?_)) <;> (first | refine tG 12 ?_ | refine pG 12 ?_ | (refine va_caseG 12 rfl rfl rfl rfl rfl ?_ ?_ <;> (intro hb; (try simp only [hSQ] at hb); try (exfalso; omega)) <;> first | refine tG 12 ?_ | refine pG 12 ?_)) <;> (first | refine tG 13 ?_ | refine pG 13 ?_ | (refine va_caseG 13 rfl rfl rfl rfl rfl ?_ ?_ <;> (intro hb; (try simp only [hSQ] at hb); try (exfalso; omega)) <;> first | refine tG 13 ?_ | refine pG 13 ?_)) <;> (first | refine tG 14 ?_ | refine pG 14 ?_ | (refine va_caseG 14 rfl rfl rfl rfl rfl ?_ ?_ <;> (intro hb; (try simp only [hSQ] at hb); try (exfalso; omega)) <;> first | refine tG 14 ?_ | refine pG 14 ?_)) <;> (first | refine tG 15 ?_ | refine pG 15 ?_ | (refine va_caseG 15 rfl rfl rfl rfl rfl ?_ ?_ <;> (intro hb; (try simp only [hSQ] at hb); try (exfalso; omega)) <;> first | refine tG 15 ?_ | refine pG 15 ?_)) <;> (first | refine tG 16 ?_ | refine pG 16 ?_ | (refine va_caseG 16 rfl rfl rfl rfl rfl ?_ ?_ <;> (intro hb; (try simp only [hSQ] at hb); try (exfalso; omega)) <;> first | refine tG 16 ?_ | refine pG 16 ?_)) <;> (first | refine tG 17 ?_ | refine pG 17 ?_ | (refine va_caseG 17 rfl rfl rfl rfl rfl ?_ ?_ <;> (intro hb; (try simp only [hSQ] at hb); try (exfalso; omega)) <;> first | refine tG 17 ?_ | refine pG 17 ?_)) <;> (first | refine tG 18 ?_ | refine pG 18 ?_ | (refine va_caseG 18 rfl rfl rfl rfl rfl ?_ ?_ <;> (intro hb; (try simp only [hSQ] at hb); try (exfalso; omega)) <;> first | refine tG 18 ?_ | refine pG 18 ?_)) <;> (first | refine tG 19 ?_ | refine pG 19 ?_ | (refine va_caseG 19 rfl rfl rfl rfl rfl ?_ ?_ <;> (intro hb; (try simp only [hSQ] at hb); try (exfalso; omega)) <;> first | refine tG 19 ?_ | refine pG 19 ?_)) <;> (first | refine tG 20 ?_ | refine pG 20 ?_ | (refine va_caseG 20 rfl rfl rfl rfl rfl ?_ ?_ <;> (intro hb; (try simp only [hSQ] at hb); try (exfalso; omega)) <;> first | refine tG 20 ?_ | refine pG 20 ?_)) <;> (first | refine tG 21 ?_ | refine pG 21 ?_ | (refine va_caseG 21 rfl rfl rfl rfl rfl ?_ ?_ <;> (intro hb; (try simp only [hSQ] at hb); try (exfalso; omega)) <;> first | refine tG 21 ?_ | refine pG 21 ?_)))
  first | refine va_oneG 22 (by kernel_rfl) rfl rfl rfl rfl rfl rfl (vo_call rfl rfl ?_) | refine va_oneG 22 (by kernel_rfl) rfl rfl rfl rfl rfl rfl (vo_callV rfl rfl rfl ?_)
  refine vc_mono (rahead_vc w0 _ (ls[i - 1]'(by omega)).own ls[i].own hol2 hol) ?_
  rintro v L' ⟨rfl, rfl⟩
  by_cases ha : Ahd (ls[i - 1]'(by omega)).own ls[i].own
  · rw [decide_eq_true ha] at hq ⊢
    refine ⟨.inr entD, ?_⟩
    ((first | refine tG 23 ?_ | refine pG 23 ?_ | (refine va_caseG 23 rfl rfl rfl rfl rfl ?_ ?_ <;> (intro hb; (try simp only [hSQ] at hb); try (exfalso; omega)) <;> first | refine tG 23 ?_ | refine pG 23 ?_)) <;> (first | refine tG 24 ?_ | refine pG 24 ?_ | (refine va_caseG 24 rfl rfl rfl rfl rfl ?_ ?_ <;> (intro hb; (try simp only [hSQ] at hb); try (exfalso; omega)) <;> first | refine tG 24 ?_ | refine pG 24 ?_)) <;> (refine tA 25 ?_) <;> (refine va_done (by kernel_rfl) ?_))
    repeat' (first | (refine go1 ?_; intros) | (refine goCC ?_ ?_ <;> (intro hb; (try simp only [hSQ] at hb); try (exfalso; omega))) | fail)
    refine ⟨rfl, i + 1, ⟨by omega, hgood hq⟩, by omega, ?_, sei _ _ _⟩
    (exact sbS)
  · rw [decide_eq_false ha] at hq ⊢
    refine ⟨.inr entD, ?_⟩
    ((first | refine tG 23 ?_ | refine pG 23 ?_ | (refine va_caseG 23 rfl rfl rfl rfl rfl ?_ ?_ <;> (intro hb; (try simp only [hSQ] at hb); try (exfalso; omega)) <;> first | refine tG 23 ?_ | refine pG 23 ?_)) <;> (first | refine tG 24 ?_ | refine pG 24 ?_ | (refine va_caseG 24 rfl rfl rfl rfl rfl ?_ ?_ <;> (intro hb; (try simp only [hSQ] at hb); try (exfalso; omega)) <;> first | refine tG 24 ?_ | refine pG 24 ?_)) <;> (refine tA 25 ?_) <;> (refine va_done (by kernel_rfl) ?_))
    repeat' (first | (refine go1 ?_; intros) | (refine goCC ?_ ?_ <;> (intro hb; (try simp only [hSQ] at hb); try (exfalso; omega))) | fail)
    exact ⟨L, sei _ _ _, by rw [hbad hq], rfl⟩
theorem scheck_vc (w0 : World) (L : List Asn) (a : Option Addr) (c : Nat) (ls : List Ln) {n : Nat} (hn : n = ls.length) (h : LsOk ls) [hK : RdA w0 (some ⟨0, 0, none⟩) (wds K64)] [hr : RdC w0 L a (lnc ls)] [hv : RdLs w0 L ls] :
    VC Tryz.prog w0 30 [.agg #[.slice a n c]] L fun v L' => v = .int .i64 (if mayS ls then 0 else 8) ∧ L' = L := by
  subst hn
  have hlen := h.len
  refine vc_ent ?_
  refine vc_in rfl rfl ?_
  repeat' (first | (refine go1 ?_; intros) | (refine goCC ?_ ?_ <;> (intro hb; (try simp only [hSQ] at hb); try (exfalso; omega))) | fail)
  refine v_loopF Nat [1, 6, 7] rfl (fun i => [(8, .int .i64 i)]) (fun M i => M) (fun i => i ≤ ls.length ∧ ∀ j, j < i → lnAt ls j = true) (fun i => ls.length - i) 0 ⟨Nat.zero_le _, fun j h => by omega⟩ (by (exact sbS)) (Ent.refl _ _) ?_
  rintro i ⟨hi, hok⟩
  by_cases hlt : i < ls.length
  rotate_left
  · obtain rfl : i = ls.length := by omega
    have hm : mayS ls = true := by unfold mayS; rw [decide_eq_true hok]
    repeat' (first | (refine go1 ?_; intros) | (refine goCC ?_ ?_ <;> (intro hb; (try simp only [hSQ] at hb); try (exfalso; omega))) | fail)
    exact ⟨L, sei _ _ _, by rw [hm]; rfl, rfl⟩
  have el := h.e i hlt
  have lok := h.at i hlt
  have hcl := Ln.len lok.own
  have f1 := Ln.f1 lok.own
  have f0 := Ln.f0 lok.own
  have hpos := h.pos i hlt
  have hol := lok.own
  have hol2 := (h.at (i - 1) (by omega)).own
  have e0' := h.e0 (i - 1) (by omega)
  have hxl := lok.ts.len
  have hq := lnAt_eq i hlt
  haveI := hv.at i hlt
  have hbad : lnAt ls i = false → mayS ls = false := fun e => by
    unfold mayS
    rw [decide_eq_false]
    intro f
    rw [f i hlt] at e
    cases e
  have hgood : lnAt ls i = true → ∀ j, j < i + 1 → lnAt ls j = true := fun e j hj => by
    by_cases e' : j = i
    · rw [e']; exact e
    · exact hok j (by omega)
  haveI hoc : OC ls[i].cells := oc_ln _
  have hM := fun L (h1 : RdC w0 L ls[i].a (txc ls[i].xs)) => qcheck_vc w0 L ls[i] lok
  generalize hcs : ls[i].cells = cs at *
  repeat' (first | (refine go1 ?_; intros) | (refine goCC ?_ ?_ <;> (intro hb; (try simp only [hSQ] at hb); try (exfalso; omega))) | fail)
  by_cases hx0 : ls[i].xs.length = 0
  · (refine v_draw0 [] (by kernel_rfl) ?_ <;> (refine tA 0 ?_) <;> (refine tA 1 ?_) <;> (refine tA 2 ?_) <;> (refine tA 3 ?_) <;> (refine tA 4 ?_) <;> (first | refine tG 5 ?_ | refine pG 5 ?_ | (refine va_caseG 5 rfl rfl rfl rfl rfl ?_ ?_ <;> (intro hb; (try simp only [hSQ] at hb); try (exfalso; omega)) <;> first | refine tG 5 ?_ | refine pG 5 ?_)))
    rw [decide_eq_false (by simpa using hx0), Bool.false_and] at hq
    refine pG 6 ?_
    ((first | refine tG 7 ?_ | (first | refine pG 7 ?_ | refine pU 7 ?_) | (refine va_caseG 7 rfl rfl rfl rfl rfl ?_ ?_ <;> (intro hb; (try simp only [hSQ] at hb); try (exfalso; omega)) <;> first | refine tG 7 ?_ | (first | refine pG 7 ?_ | refine pU 7 ?_))) <;> (refine tA 8 ?_) <;> (refine tA 9 ?_) <;> (first | refine tG 10 ?_ | (first | refine pG 10 ?_ | refine pU 10 ?_) | (refine va_caseG 10 rfl rfl rfl rfl rfl ?_ ?_ <;> (intro hb; (try simp only [hSQ] at hb); try (exfalso; omega)) <;> first | refine tG 10 ?_ | (first | refine pG 10 ?_ | refine pU 10 ?_))) <;> (first | refine tG 11 ?_ | (first | refine pG 11 ?_ | refine pU 11 ?_) | (refine va_caseG 11 rfl rfl rfl rfl rfl ?_ ?_ <;> (intro hb; (try simp only [hSQ] at hb); try (exfalso; omega)) <;> first | refine tG 11 ?_ | (first | refine pG 11 ?_ | refine pU 11 ?_))) <;> (first | refine tG 12 ?_ | (first | refine pG 12 ?_ | refine pU 12 ?_) | (refine va_caseG 12 rfl rfl rfl rfl rfl ?_ ?_ <;> (intro hb; (try simp only [hSQ] at hb); try (exfalso; omega)) <;> first | refine tG 12 ?_ | (first | refine pG 12 ?_ | refine pU 12 ?_))) <;> (first | refine tG 13 ?_ | (first | refine pG 13 ?_ | refine pU 13 ?_) | (refine va_caseG 13 rfl rfl rfl rfl rfl ?_ ?_ <;> (intro hb; (try simp only [hSQ] at hb); try (exfalso; omega)) <;> first | refine tG 13 ?_ | (first | refine pG 13 ?_ | refine pU 13 ?_))) <;> (first | refine tG 14 ?_ | (first | refine pG 14 ?_ | refine pU 14 ?_) | (refine va_caseG 14 rfl rfl rfl rfl rfl ?_ ?_ <;> (intro hb; (try simp only [hSQ] at hb); try (exfalso; omega)) <;> first | refine tG 14 ?_ | (first | refine pG 14 ?_ | refine pU 14 ?_))) <;> (first | refine tG 15 ?_ | (first | refine pG 15 ?_ | refine pU 15 ?_) | (refine va_caseG 15 rfl rfl rfl rfl rfl ?_ ?_ <;> (intro hb; (try simp only [hSQ] at hb); try (exfalso; omega)) <;> first | refine tG 15 ?_ | (first | refine pG 15 ?_ | refine pU 15 ?_))) <;> (first | refine tG 16 ?_ | (first | refine pG 16 ?_ | refine pU 16 ?_) | (refine va_caseG 16 rfl rfl rfl rfl rfl ?_ ?_ <;> (intro hb; (try simp only [hSQ] at hb); try (exfalso; omega)) <;> first | refine tG 16 ?_ | (first | refine pG 16 ?_ | refine pU 16 ?_))) <;> (first | refine tG 17 ?_ | (first | refine pG 17 ?_ | refine pU 17 ?_) | (refine va_caseG 17 rfl rfl rfl rfl rfl ?_ ?_ <;> (intro hb; (try simp only [hSQ] at hb); try (exfalso; omega)) <;> first | refine tG 17 ?_ | (first | refine pG 17 ?_ | refine pU 17 ?_))) <;> (first | refine tG 18 ?_ | (first | refine pG 18 ?_ | refine pU 18 ?_) | (refine va_caseG 18 rfl rfl rfl rfl rfl ?_ ?_ <;> (intro hb; (try simp only [hSQ] at hb); try (exfalso; omega)) <;> first | refine tG 18 ?_ | (first | refine pG 18 ?_ | refine pU 18 ?_))) <;> (first | refine tG 19 ?_ | (first | refine pG 19 ?_ | refine pU 19 ?_) | (refine va_caseG 19 rfl rfl rfl rfl rfl ?_ ?_ <;> (intro hb; (try simp only [hSQ] at hb); try (exfalso; omega)) <;> first | refine tG 19 ?_ | (first | refine pG 19 ?_ | refine pU 19 ?_))) <;> (first | refine tG 20 ?_ | (first | refine pG 20 ?_ | refine pU 20 ?_) | (refine va_caseG 20 rfl rfl rfl rfl rfl ?_ ?_ <;> (intro hb; (try simp only [hSQ] at hb); try (exfalso; omega)) <;> first | refine tG 20 ?_ | (first | refine pG 20 ?_ | refine pU 20 ?_))) <;> (first | refine tG 21 ?_ | (first | refine pG 21 ?_ | refine pU 21 ?_) | (refine va_caseG 21 rfl rfl rfl rfl rfl ?_ ?_ <;> (intro hb; (try simp only [hSQ] at hb); try (exfalso; omega)) <;> first | refine tG 21 ?_ | (first | refine pG 21 ?_ | refine pU 21 ?_))))
    refine pU 22 ?_
    ((first | refine tG 23 ?_ | (first | refine pG 23 ?_ | refine pU 23 ?_) | (refine va_caseG 23 rfl rfl rfl rfl rfl ?_ ?_ <;> (intro hb; (try simp only [hSQ] at hb); try (exfalso; omega)) <;> first | refine tG 23 ?_ | (first | refine pG 23 ?_ | refine pU 23 ?_))) <;> (first | refine tG 24 ?_ | (first | refine pG 24 ?_ | refine pU 24 ?_) | (refine va_caseG 24 rfl rfl rfl rfl rfl ?_ ?_ <;> (intro hb; (try simp only [hSQ] at hb); try (exfalso; omega)) <;> first | refine tG 24 ?_ | (first | refine pG 24 ?_ | refine pU 24 ?_))) <;> (refine tA 25 ?_) <;> (refine va_done (by kernel_rfl) ?_))
    repeat' (first | (refine go1 ?_; intros) | (refine goCC ?_ ?_ <;> (intro hb; (try simp only [hSQ] at hb); try (exfalso; omega))) | fail)
    exact ⟨L, sei _ _ _, by rw [hbad hq]; rfl, rfl⟩
  rw [decide_eq_true hx0, Bool.true_and] at hq
  (refine v_draw0 [] (by kernel_rfl) ?_ <;> (refine tA 0 ?_) <;> (refine tA 1 ?_) <;> (refine tA 2 ?_) <;> (refine tA 3 ?_) <;> (refine tA 4 ?_) <;> (first | refine tG 5 ?_ | refine pG 5 ?_ | (refine va_caseG 5 rfl rfl rfl rfl rfl ?_ ?_ <;> (intro hb; (try simp only [hSQ] at hb); try (exfalso; omega)) <;> first | refine tG 5 ?_ | refine pG 5 ?_)))
  first | refine va_oneG 6 (by kernel_rfl) rfl rfl rfl rfl rfl rfl (vo_call rfl rfl ?_) | refine va_oneG 6 (by kernel_rfl) rfl rfl rfl rfl rfl rfl (vo_callV rfl rfl rfl ?_)
  refine vc_mono (hM _ inferInstance) ?_
  rintro v L' ⟨rfl, rfl⟩
  cases hm : ls[i].may
  · rw [hm, Bool.false_and] at hq
    refine ⟨.inr entD, ?_⟩
    ((first | refine tG 7 ?_ | (first | refine pG 7 ?_ | refine pU 7 ?_) | (refine va_caseG 7 rfl rfl rfl rfl rfl ?_ ?_ <;> (intro hb; (try simp only [hSQ] at hb); try (exfalso; omega)) <;> first | refine tG 7 ?_ | (first | refine pG 7 ?_ | refine pU 7 ?_))) <;> (refine tA 8 ?_) <;> (refine tA 9 ?_) <;> (first | refine tG 10 ?_ | (first | refine pG 10 ?_ | refine pU 10 ?_) | (refine va_caseG 10 rfl rfl rfl rfl rfl ?_ ?_ <;> (intro hb; (try simp only [hSQ] at hb); try (exfalso; omega)) <;> first | refine tG 10 ?_ | (first | refine pG 10 ?_ | refine pU 10 ?_))) <;> (first | refine tG 11 ?_ | (first | refine pG 11 ?_ | refine pU 11 ?_) | (refine va_caseG 11 rfl rfl rfl rfl rfl ?_ ?_ <;> (intro hb; (try simp only [hSQ] at hb); try (exfalso; omega)) <;> first | refine tG 11 ?_ | (first | refine pG 11 ?_ | refine pU 11 ?_))) <;> (first | refine tG 12 ?_ | (first | refine pG 12 ?_ | refine pU 12 ?_) | (refine va_caseG 12 rfl rfl rfl rfl rfl ?_ ?_ <;> (intro hb; (try simp only [hSQ] at hb); try (exfalso; omega)) <;> first | refine tG 12 ?_ | (first | refine pG 12 ?_ | refine pU 12 ?_))) <;> (first | refine tG 13 ?_ | (first | refine pG 13 ?_ | refine pU 13 ?_) | (refine va_caseG 13 rfl rfl rfl rfl rfl ?_ ?_ <;> (intro hb; (try simp only [hSQ] at hb); try (exfalso; omega)) <;> first | refine tG 13 ?_ | (first | refine pG 13 ?_ | refine pU 13 ?_))) <;> (first | refine tG 14 ?_ | (first | refine pG 14 ?_ | refine pU 14 ?_) | (refine va_caseG 14 rfl rfl rfl rfl rfl ?_ ?_ <;> (intro hb; (try simp only [hSQ] at hb); try (exfalso; omega)) <;> first | refine tG 14 ?_ | (first | refine pG 14 ?_ | refine pU 14 ?_))) <;> (first | refine tG 15 ?_ | (first | refine pG 15 ?_ | refine pU 15 ?_) | (refine va_caseG 15 rfl rfl rfl rfl rfl ?_ ?_ <;> (intro hb; (try simp only [hSQ] at hb); try (exfalso; omega)) <;> first | refine tG 15 ?_ | (first | refine pG 15 ?_ | refine pU 15 ?_))) <;> (first | refine tG 16 ?_ | (first | refine pG 16 ?_ | refine pU 16 ?_) | (refine va_caseG 16 rfl rfl rfl rfl rfl ?_ ?_ <;> (intro hb; (try simp only [hSQ] at hb); try (exfalso; omega)) <;> first | refine tG 16 ?_ | (first | refine pG 16 ?_ | refine pU 16 ?_))) <;> (first | refine tG 17 ?_ | (first | refine pG 17 ?_ | refine pU 17 ?_) | (refine va_caseG 17 rfl rfl rfl rfl rfl ?_ ?_ <;> (intro hb; (try simp only [hSQ] at hb); try (exfalso; omega)) <;> first | refine tG 17 ?_ | (first | refine pG 17 ?_ | refine pU 17 ?_))) <;> (first | refine tG 18 ?_ | (first | refine pG 18 ?_ | refine pU 18 ?_) | (refine va_caseG 18 rfl rfl rfl rfl rfl ?_ ?_ <;> (intro hb; (try simp only [hSQ] at hb); try (exfalso; omega)) <;> first | refine tG 18 ?_ | (first | refine pG 18 ?_ | refine pU 18 ?_))) <;> (first | refine tG 19 ?_ | (first | refine pG 19 ?_ | refine pU 19 ?_) | (refine va_caseG 19 rfl rfl rfl rfl rfl ?_ ?_ <;> (intro hb; (try simp only [hSQ] at hb); try (exfalso; omega)) <;> first | refine tG 19 ?_ | (first | refine pG 19 ?_ | refine pU 19 ?_))) <;> (first | refine tG 20 ?_ | (first | refine pG 20 ?_ | refine pU 20 ?_) | (refine va_caseG 20 rfl rfl rfl rfl rfl ?_ ?_ <;> (intro hb; (try simp only [hSQ] at hb); try (exfalso; omega)) <;> first | refine tG 20 ?_ | (first | refine pG 20 ?_ | refine pU 20 ?_))) <;> (first | refine tG 21 ?_ | (first | refine pG 21 ?_ | refine pU 21 ?_) | (refine va_caseG 21 rfl rfl rfl rfl rfl ?_ ?_ <;> (intro hb; (try simp only [hSQ] at hb); try (exfalso; omega)) <;> first | refine tG 21 ?_ | (first | refine pG 21 ?_ | refine pU 21 ?_))))
    refine pU 22 ?_
    ((first | refine tG 23 ?_ | (first | refine pG 23 ?_ | refine pU 23 ?_) | (refine va_caseG 23 rfl rfl rfl rfl rfl ?_ ?_ <;> (intro hb; (try simp only [hSQ] at hb); try (exfalso; omega)) <;> first | refine tG 23 ?_ | (first | refine pG 23 ?_ | refine pU 23 ?_))) <;> (first | refine tG 24 ?_ | (first | refine pG 24 ?_ | refine pU 24 ?_) | (refine va_caseG 24 rfl rfl rfl rfl rfl ?_ ?_ <;> (intro hb; (try simp only [hSQ] at hb); try (exfalso; omega)) <;> first | refine tG 24 ?_ | (first | refine pG 24 ?_ | refine pU 24 ?_))) <;> (refine tA 25 ?_) <;> (refine va_done (by kernel_rfl) ?_))
    repeat' (first | (refine go1 ?_; intros) | (refine goCC ?_ ?_ <;> (intro hb; (try simp only [hSQ] at hb); try (exfalso; omega))) | fail)
    exact ⟨L, sei _ _ _, by rw [hbad hq]; rfl, rfl⟩
  rw [hm, Bool.true_and] at hq
  by_cases i0 : i = 0
  · obtain rfl := i0
    refine ⟨.inr entD, ?_⟩
    ((first | refine tG 7 ?_ | (first | refine pG 7 ?_ | refine pU 7 ?_) | (refine va_caseG 7 rfl rfl rfl rfl rfl ?_ ?_ <;> (intro hb; (try simp only [hSQ] at hb); try (exfalso; omega)) <;> first | refine tG 7 ?_ | (first | refine pG 7 ?_ | refine pU 7 ?_))) <;> (refine tA 8 ?_) <;> (refine tA 9 ?_) <;> (first | refine tG 10 ?_ | (first | refine pG 10 ?_ | refine pU 10 ?_) | (refine va_caseG 10 rfl rfl rfl rfl rfl ?_ ?_ <;> (intro hb; (try simp only [hSQ] at hb); try (exfalso; omega)) <;> first | refine tG 10 ?_ | (first | refine pG 10 ?_ | refine pU 10 ?_))) <;> (first | refine tG 11 ?_ | (first | refine pG 11 ?_ | refine pU 11 ?_) | (refine va_caseG 11 rfl rfl rfl rfl rfl ?_ ?_ <;> (intro hb; (try simp only [hSQ] at hb); try (exfalso; omega)) <;> first | refine tG 11 ?_ | (first | refine pG 11 ?_ | refine pU 11 ?_))) <;> (first | refine tG 12 ?_ | (first | refine pG 12 ?_ | refine pU 12 ?_) | (refine va_caseG 12 rfl rfl rfl rfl rfl ?_ ?_ <;> (intro hb; (try simp only [hSQ] at hb); try (exfalso; omega)) <;> first | refine tG 12 ?_ | (first | refine pG 12 ?_ | refine pU 12 ?_))) <;> (first | refine tG 13 ?_ | (first | refine pG 13 ?_ | refine pU 13 ?_) | (refine va_caseG 13 rfl rfl rfl rfl rfl ?_ ?_ <;> (intro hb; (try simp only [hSQ] at hb); try (exfalso; omega)) <;> first | refine tG 13 ?_ | (first | refine pG 13 ?_ | refine pU 13 ?_))) <;> (first | refine tG 14 ?_ | (first | refine pG 14 ?_ | refine pU 14 ?_) | (refine va_caseG 14 rfl rfl rfl rfl rfl ?_ ?_ <;> (intro hb; (try simp only [hSQ] at hb); try (exfalso; omega)) <;> first | refine tG 14 ?_ | (first | refine pG 14 ?_ | refine pU 14 ?_))) <;> (first | refine tG 15 ?_ | (first | refine pG 15 ?_ | refine pU 15 ?_) | (refine va_caseG 15 rfl rfl rfl rfl rfl ?_ ?_ <;> (intro hb; (try simp only [hSQ] at hb); try (exfalso; omega)) <;> first | refine tG 15 ?_ | (first | refine pG 15 ?_ | refine pU 15 ?_))) <;> (first | refine tG 16 ?_ | (first | refine pG 16 ?_ | refine pU 16 ?_) | (refine va_caseG 16 rfl rfl rfl rfl rfl ?_ ?_ <;> (intro hb; (try simp only [hSQ] at hb); try (exfalso; omega)) <;> first | refine tG 16 ?_ | (first | refine pG 16 ?_ | refine pU 16 ?_))) <;> (first | refine tG 17 ?_ | (first | refine pG 17 ?_ | refine pU 17 ?_) | (refine va_caseG 17 rfl rfl rfl rfl rfl ?_ ?_ <;> (intro hb; (try simp only [hSQ] at hb); try (exfalso; omega)) <;> first | refine tG 17 ?_ | (first | refine pG 17 ?_ | refine pU 17 ?_))) <;> (first | refine tG 18 ?_ | (first | refine pG 18 ?_ | refine pU 18 ?_) | (refine va_caseG 18 rfl rfl rfl rfl rfl ?_ ?_ <;> (intro hb; (try simp only [hSQ] at hb); try (exfalso; omega)) <;> first | refine tG 18 ?_ | (first | refine pG 18 ?_ | refine pU 18 ?_))) <;> (first | refine tG 19 ?_ | (first | refine pG 19 ?_ | refine pU 19 ?_) | (refine va_caseG 19 rfl rfl rfl rfl rfl ?_ ?_ <;> (intro hb; (try simp only [hSQ] at hb); try (exfalso; omega)) <;> first | refine tG 19 ?_ | (first | refine pG 19 ?_ | refine pU 19 ?_))) <;> (first | refine tG 20 ?_ | (first | refine pG 20 ?_ | refine pU 20 ?_) | (refine va_caseG 20 rfl rfl rfl rfl rfl ?_ ?_ <;> (intro hb; (try simp only [hSQ] at hb); try (exfalso; omega)) <;> first | refine tG 20 ?_ | (first | refine pG 20 ?_ | refine pU 20 ?_))) <;> (first | refine tG 21 ?_ | (first | refine pG 21 ?_ | refine pU 21 ?_) | (refine va_caseG 21 rfl rfl rfl rfl rfl ?_ ?_ <;> (intro hb; (try simp only [hSQ] at hb); try (exfalso; omega)) <;> first | refine tG 21 ?_ | (first | refine pG 21 ?_ | refine pU 21 ?_))))
    refine pG 22 ?_
    ((first | refine tG 23 ?_ | refine pG 23 ?_ | (refine va_caseG 23 rfl rfl rfl rfl rfl ?_ ?_ <;> (intro hb; (try simp only [hSQ] at hb); try (exfalso; omega)) <;> first | refine tG 23 ?_ | refine pG 23 ?_)) <;> (first | refine tG 24 ?_ | refine pG 24 ?_ | (refine va_caseG 24 rfl rfl rfl rfl rfl ?_ ?_ <;> (intro hb; (try simp only [hSQ] at hb); try (exfalso; omega)) <;> first | refine tG 24 ?_ | refine pG 24 ?_)) <;> (refine tA 25 ?_) <;> (refine va_done (by kernel_rfl) ?_))
    repeat' (first | (refine go1 ?_; intros) | (refine goCC ?_ ?_ <;> (intro hb; (try simp only [hSQ] at hb); try (exfalso; omega))) | fail)
    refine ⟨rfl, 1, ⟨by omega, hgood (by rw [hq]; rfl)⟩, by omega, ?_, sei _ _ _⟩
    (exact sbS)
  rw [decide_eq_false i0, Bool.false_or] at hq
  have hi0 : (0 : Int) < (i : Int) := by omega
  refine ⟨.inr entD, ?_⟩
  ((first | refine tG 7 ?_ | refine pG 7 ?_ | (refine va_caseG 7 rfl rfl rfl rfl rfl ?_ ?_ <;> (intro hb; (try simp only [hSQ] at hb); try (exfalso; omega)) <;> first | refine tG 7 ?_ | refine pG 7 ?_)) <;> (refine tA 8 ?_) <;> (refine tA 9 ?_) <;> (first | refine tG 10 ?_ | refine pG 10 ?_ | (refine va_caseG 10 rfl rfl rfl rfl rfl ?_ ?_ <;> (intro hb; (try simp only [hSQ] at hb); try (exfalso; omega)) <;> first | refine tG 10 ?_ | refine pG 10 ?_)) <;> (first | refine tG 11 ?_ | refine pG 11 ?_ | (refine va_caseG 11 rfl rfl rfl rfl rfl ?_ ?_ <;> (intro hb; (try simp only [hSQ] at hb); try (exfalso; omega)) <;> first | refine tG 11 ?_ | refine pG 11 ?_)) <;> (first | refine tG 12 ?_ | refine pG 12 ?_ | (refine va_caseG 12 rfl rfl rfl rfl rfl ?_ ?_ <;> (intro hb; (try simp only [hSQ] at hb); try (exfalso; omega)) <;> first | refine tG 12 ?_ | refine pG 12 ?_)) <;> (first | refine tG 13 ?_ | refine pG 13 ?_ | (refine va_caseG 13 rfl rfl rfl rfl rfl ?_ ?_ <;> (intro hb; (try simp only [hSQ] at hb); try (exfalso; omega)) <;> first | refine tG 13 ?_ | refine pG 13 ?_)) <;> (first | refine tG 14 ?_ | refine pG 14 ?_ | (refine va_caseG 14 rfl rfl rfl rfl rfl ?_ ?_ <;> (intro hb; (try simp only [hSQ] at hb); try (exfalso; omega)) <;> first | refine tG 14 ?_ | refine pG 14 ?_)) <;> (first | refine tG 15 ?_ | refine pG 15 ?_ | (refine va_caseG 15 rfl rfl rfl rfl rfl ?_ ?_ <;> (intro hb; (try simp only [hSQ] at hb); try (exfalso; omega)) <;> first | refine tG 15 ?_ | refine pG 15 ?_)) <;> (first | refine tG 16 ?_ | refine pG 16 ?_ | (refine va_caseG 16 rfl rfl rfl rfl rfl ?_ ?_ <;> (intro hb; (try simp only [hSQ] at hb); try (exfalso; omega)) <;> first | refine tG 16 ?_ | refine pG 16 ?_)) <;> (first | refine tG 17 ?_ | refine pG 17 ?_ | (refine va_caseG 17 rfl rfl rfl rfl rfl ?_ ?_ <;> (intro hb; (try simp only [hSQ] at hb); try (exfalso; omega)) <;> first | refine tG 17 ?_ | refine pG 17 ?_)) <;> (first | refine tG 18 ?_ | refine pG 18 ?_ | (refine va_caseG 18 rfl rfl rfl rfl rfl ?_ ?_ <;> (intro hb; (try simp only [hSQ] at hb); try (exfalso; omega)) <;> first | refine tG 18 ?_ | refine pG 18 ?_)) <;> (first | refine tG 19 ?_ | refine pG 19 ?_ | (refine va_caseG 19 rfl rfl rfl rfl rfl ?_ ?_ <;> (intro hb; (try simp only [hSQ] at hb); try (exfalso; omega)) <;> first | refine tG 19 ?_ | refine pG 19 ?_)) <;> (first | refine tG 20 ?_ | refine pG 20 ?_ | (refine va_caseG 20 rfl rfl rfl rfl rfl ?_ ?_ <;> (intro hb; (try simp only [hSQ] at hb); try (exfalso; omega)) <;> first | refine tG 20 ?_ | refine pG 20 ?_)) <;> (first | refine tG 21 ?_ | refine pG 21 ?_ | (refine va_caseG 21 rfl rfl rfl rfl rfl ?_ ?_ <;> (intro hb; (try simp only [hSQ] at hb); try (exfalso; omega)) <;> first | refine tG 21 ?_ | refine pG 21 ?_)))
  first | refine va_oneG 22 (by kernel_rfl) rfl rfl rfl rfl rfl rfl (vo_call rfl rfl ?_) | refine va_oneG 22 (by kernel_rfl) rfl rfl rfl rfl rfl rfl (vo_callV rfl rfl rfl ?_)
  refine vc_mono (ahead_vc w0 _ (ls[i - 1]'(by omega)).own ls[i].own hol2 hol) ?_
  rintro v L' ⟨rfl, rfl⟩
  by_cases ha : Ahd (ls[i - 1]'(by omega)).own ls[i].own
  · rw [decide_eq_true ha] at hq ⊢
    refine ⟨.inr entD, ?_⟩
    ((first | refine tG 23 ?_ | refine pG 23 ?_ | (refine va_caseG 23 rfl rfl rfl rfl rfl ?_ ?_ <;> (intro hb; (try simp only [hSQ] at hb); try (exfalso; omega)) <;> first | refine tG 23 ?_ | refine pG 23 ?_)) <;> (first | refine tG 24 ?_ | refine pG 24 ?_ | (refine va_caseG 24 rfl rfl rfl rfl rfl ?_ ?_ <;> (intro hb; (try simp only [hSQ] at hb); try (exfalso; omega)) <;> first | refine tG 24 ?_ | refine pG 24 ?_)) <;> (refine tA 25 ?_) <;> (refine va_done (by kernel_rfl) ?_))
    repeat' (first | (refine go1 ?_; intros) | (refine goCC ?_ ?_ <;> (intro hb; (try simp only [hSQ] at hb); try (exfalso; omega))) | fail)
    refine ⟨rfl, i + 1, ⟨by omega, hgood hq⟩, by omega, ?_, sei _ _ _⟩
    (exact sbS)
  · rw [decide_eq_false ha] at hq ⊢
    refine ⟨.inr entD, ?_⟩
    ((first | refine tG 23 ?_ | refine pG 23 ?_ | (refine va_caseG 23 rfl rfl rfl rfl rfl ?_ ?_ <;> (intro hb; (try simp only [hSQ] at hb); try (exfalso; omega)) <;> first | refine tG 23 ?_ | refine pG 23 ?_)) <;> (first | refine tG 24 ?_ | refine pG 24 ?_ | (refine va_caseG 24 rfl rfl rfl rfl rfl ?_ ?_ <;> (intro hb; (try simp only [hSQ] at hb); try (exfalso; omega)) <;> first | refine tG 24 ?_ | refine pG 24 ?_)) <;> (refine tA 25 ?_) <;> (refine va_done (by kernel_rfl) ?_))
    repeat' (first | (refine go1 ?_; intros) | (refine goCC ?_ ?_ <;> (intro hb; (try simp only [hSQ] at hb); try (exfalso; omega))) | fail)
    exact ⟨L, sei _ _ _, by rw [hbad hq]; rfl, rfl⟩
end Go.Proofs.YtcpndfffdbogbaaGreatDoor
namespace Go.Proofs.YtcpndfffdbogbaaGreatDoor
open Go Go.RowKit
open Classical

/-- The place of the first, or -1. -/
def idxI (ls : List Ln) (φ : Ln → Bool) : Int := if ls.findIdx φ < ls.length then (ls.findIdx φ : Int) else -1
theorem idxI_at {ls : List Ln} {φ : Ln → Bool} {i : Nat} (hi : i < ls.length) (h : φ ls[i] = true) (hb : ∀ j (hj : j < ls.length), j < i → φ ls[j] = false) : idxI ls φ = (i : Int) := by
  have : ls.findIdx φ = i := by
    rw [List.findIdx_eq hi]
    exact ⟨h, fun j hj => hb j (by omega) hj⟩
  unfold idxI
  rw [this, if_pos hi]
theorem idxI_no {ls : List Ln} {φ : Ln → Bool} (hb : ∀ j (hj : j < ls.length), φ ls[j] = false) : idxI ls φ = -1 := by
  unfold idxI
  rw [if_neg]
  intro h
  have h1 := List.findIdx_getElem (w := h)
  rw [hb _ h] at h1
  cases h1
theorem idxF_vc (w0 : World) (L : List Asn) (a : Option Addr) (c : Nat) (ls : List Ln) (f : FuncId) (cap : Array Value) (φ : Ln → Bool) {n : Nat} (hn : n = ls.length) (h : LsOk ls) [hf : FnB Tryz.prog f] [hr : RdC w0 L a (lnc ls)] (hφ : ∀ l ∈ ls, VC Tryz.prog w0 f ([.agg l.cells.toArray] ++ cap.toList) L fun v L' => v = .bool (φ l) ∧ L' = L) :
    VC Tryz.prog w0 117 [.slice a n c, .func (.func f) #[] cap] L fun v L' => v = .int .i64 (idxI ls φ) ∧ L' = L := by
  subst hn
  have hlen := h.len
  refine vc_ent ?_
  refine vc_in rfl rfl ?_
  repeat' (first | (refine go1 ?_; intros) | (refine goCC ?_ ?_ <;> (intro hb; (try simp only [hSQ] at hb); try (exfalso; omega))) | fail)
  refine v_loopS Nat [0, 1, 7] rfl (fun i => [(8, .int .i64 i)]) (fun i => i ≤ ls.length ∧ ∀ j (hj : j < ls.length), j < i → φ ls[j] = false) (fun i => ls.length - i) 0 ⟨Nat.zero_le _, fun j hj h => by omega⟩ (by (exact sbS)) (fun i ⟨hi, hbb⟩ => ?_)
  by_cases hlt : i < ls.length
  · have e := h.e i hlt
    have hpos := h.pos i hlt
    have hcl := Ln.len (h.at i hlt).own
    have hF := hφ _ (List.getElem_mem hlt)
    repeat' (first | (refine go1 ?_; intros) | (refine goCC ?_ ?_ <;> (intro hb; (try simp only [hSQ] at hb); try (exfalso; omega))) | fail)
    refine vl_o rfl (vo_callV rfl rfl rfl ?_)
    refine vc_mono hF ?_
    rintro v L' ⟨rfl, hL⟩
    obtain rfl := hL.symm
    cases hp : φ ls[i]
    · repeat' (first | (refine go1 ?_; intros) | (refine goCC ?_ ?_ <;> (intro hb; (try simp only [hSQ] at hb); try (exfalso; omega))) | fail)
      refine ⟨rfl, i + 1, ⟨by omega, fun j hj hji => ?_⟩, by omega, by (exact sbS), Ent.refl _ _⟩
      by_cases e : j = i
      · subst e; exact hp
      · exact hbb j hj (by omega)
    · repeat' (first | (refine go1 ?_; intros) | (refine goCC ?_ ?_ <;> (intro hb; (try simp only [hSQ] at hb); try (exfalso; omega))) | fail)
      exact ⟨L, sei _ _ _, by rw [idxI_at hlt hp hbb], rfl⟩
  · obtain rfl : i = ls.length := by omega
    repeat' (first | (refine go1 ?_; intros) | (refine goCC ?_ ?_ <;> (intro hb; (try simp only [hSQ] at hb); try (exfalso; omega))) | fail)
    exact ⟨L, sei _ _ _, by rw [idxI_no (fun j hj => hbb j hj hj)], rfl⟩
theorem hasF_vc (w0 : World) (L : List Asn) (a : Option Addr) (c : Nat) (ls : List Ln) (f : FuncId) (cap : Array Value) (φ : Ln → Bool) {n : Nat} (hn : n = ls.length) (h : LsOk ls) [hf : FnB Tryz.prog f] [hr : RdC w0 L a (lnc ls)] (hφ : ∀ l ∈ ls, VC Tryz.prog w0 f ([.agg l.cells.toArray] ++ cap.toList) L fun v L' => v = .bool (φ l) ∧ L' = L) :
    VC Tryz.prog w0 105 [.slice a n c, .func (.func f) #[] cap] L fun v L' => v = .bool (ls.any φ) ∧ L' = L := by
  subst hn
  have e : decide (0 ≤ idxI ls φ) = ls.any φ := by
    unfold idxI
    cases hb : ls.any φ
    · rw [if_neg (fun h => by
        have h1 := List.findIdx_getElem (w := h)
        rw [List.any_eq_false] at hb
        exact hb _ (List.getElem_mem h) h1)]
      rfl
    · rw [if_pos (by rw [List.findIdx_lt_length]; simpa using hb)]
      simp
  refine vc_ent ?_
  refine vc_in rfl rfl ?_
  repeat' (first | (refine go1 ?_; intros) | (refine goCC ?_ ?_ <;> (intro hb; (try simp only [hSQ] at hb); try (exfalso; omega))) | fail)
  refine clV ?_
  refine vc_mono (idxF_vc w0 _ a c ls f cap φ rfl h hφ) ?_
  rintro v L' ⟨rfl, hL⟩
  obtain rfl := hL.symm
  rw [← e]
  generalize idxI ls φ = I
  repeat' (first | (refine go1 ?_; intros) | (refine goCC ?_ ?_ <;> (intro hb; (try simp only [hSQ] at hb); try (exfalso; omega))) | fail)
  exact ⟨L, sei _ _ _, rfl, rfl⟩
end Go.Proofs.YtcpndfffdbogbaaGreatDoor
namespace Go.Proofs.YtcpndfffdbogbaaGreatDoor
open Go Go.RowKit
open Classical

/-- A sender and what it has. -/
abbrev LC := List UInt8 × List Tx
def Srt2 (cs : List LC) : Prop := cs.Pairwise (fun x y => Ahd x.1 y.1)
def K2 (cs : List LC) : Prop := ∀ c ∈ cs, c.1.length = 32
/-- What a sender may have. -/
structure GoodL (o : List UInt8) (xs : List Tx) : Prop where
  len : xs.length ≤ 256
  own : ∀ x ∈ xs, ownT x o = true
  up : UpT xs
structure MayC (cs : List LC) : Prop where
  ne : ∀ c ∈ cs, c.2 ≠ []
  good : ∀ c ∈ cs, GoodL c.1 c.2
  srt : Srt2 cs
def fromT (x : Tx) : List UInt8 := sha (tagB 3 [x.pub])
theorem fromT_len (x : Tx) : (fromT x).length = 32 := sha_length _
theorem ownT_iff {x : Tx} {o : List UInt8} : ownT x o = true ↔ x.sign = sgn x ∧ fromT x = o := by
  unfold ownT fromT
  simp
/-- Those ahead of a sender; those behind; its own; all with its own changed. -/
noncomputable def lowC (cs : List LC) (o : List UInt8) : List LC := cs.filter fun c => decide (Ahd c.1 o)
noncomputable def highC (cs : List LC) (o : List UInt8) : List LC := cs.filter fun c => decide (Ahd o c.1)
def ownC (o : List UInt8) (xs : List Tx) : List LC := if xs = [] then [] else [(o, xs)]
noncomputable def setC (cs : List LC) (o : List UInt8) (xs : List Tx) : List LC := lowC cs o ++ (ownC o xs ++ highC cs o)
noncomputable def lineC (cs : List LC) (o : List UInt8) : List Tx := ((cs.find? fun c => decide (c.1 = o)).map Prod.snd).getD []
noncomputable def fdC (cs : List LC) (o : List UInt8) : Nat := cs.findIdx fun c => !decide (Ahd c.1 o)
def cntC (cs : List LC) : Nat := (cs.map fun c => c.2.length).sum
theorem filter_cut {α : Type} {cs : List α} {k : Nat} {p : α → Bool} (h1 : ∀ j (hj : j < cs.length), j < k → p cs[j] = true) (h2 : ∀ j (hj : j < cs.length), k ≤ j → p cs[j] = false) : cs.filter p = cs.take k := by
  have e : cs.filter p = (cs.take k ++ cs.drop k).filter p := by rw [List.take_append_drop]
  rw [e, List.filter_append, List.filter_eq_self.2, List.filter_eq_nil_iff.2, List.append_nil]
  · intro x hx
    obtain ⟨i, hi, rfl⟩ := List.getElem_of_mem hx
    rw [List.length_drop] at hi
    rw [List.getElem_drop, h2 (k + i) (by omega) (by omega)]
    decide
  · intro x hx
    obtain ⟨i, hi, rfl⟩ := List.getElem_of_mem hx
    rw [List.length_take] at hi
    rw [List.getElem_take]
    exact h1 i (by omega) (by omega)
theorem filter_cut2 {α : Type} {cs : List α} {k : Nat} {p : α → Bool} (h1 : ∀ j (hj : j < cs.length), j < k → p cs[j] = false) (h2 : ∀ j (hj : j < cs.length), k ≤ j → p cs[j] = true) : cs.filter p = cs.drop k := by
  have e : cs.filter p = (cs.take k ++ cs.drop k).filter p := by rw [List.take_append_drop]
  rw [e, List.filter_append, List.filter_eq_nil_iff.2, List.filter_eq_self.2, List.nil_append]
  · intro x hx
    obtain ⟨i, hi, rfl⟩ := List.getElem_of_mem hx
    rw [List.length_drop] at hi
    rw [List.getElem_drop]
    exact h2 (k + i) (by omega) (by omega)
  · intro x hx
    obtain ⟨i, hi, rfl⟩ := List.getElem_of_mem hx
    rw [List.length_take] at hi
    rw [List.getElem_take, h1 i (by omega) (by omega)]
    decide
theorem srt2_at {cs : List LC} (h : Srt2 cs) {i j : Nat} (hij : i < j) (hj : j < cs.length) : Ahd (cs[i]'(by omega)).1 cs[j].1 := List.pairwise_iff_getElem.1 h i j (by omega) hj hij
theorem srt2_inj {cs : List LC} (h : Srt2 cs) {i j : Nat} (hi : i < cs.length) (hj : j < cs.length) (e : cs[i].1 = cs[j].1) : i = j := by
  rcases Nat.lt_trichotomy i j with a | a | a
  · exact absurd e (srt2_at h a hj).ne
  · exact a
  · exact absurd e.symm (srt2_at h a hi).ne
theorem fdC_le (cs : List LC) (o : List UInt8) : fdC cs o ≤ cs.length := List.findIdx_le_length
theorem fdC_lt {cs : List LC} {o : List UInt8} {j : Nat} (hj : j < cs.length) (h : j < fdC cs o) : Ahd cs[j].1 o := by
  have := List.not_of_lt_findIdx h
  simpa using this
theorem fdC_at {cs : List LC} {o : List UInt8} (h : fdC cs o < cs.length) : ¬ Ahd cs[fdC cs o].1 o := by
  have h2 : (fun c : LC => !decide (Ahd c.1 o)) cs[fdC cs o] = true := List.findIdx_getElem (w := h)
  simpa using h2
theorem fdC_ge {cs : List LC} (hs : Srt2 cs) {o : List UInt8} {j : Nat} (hj : j < cs.length) (h : fdC cs o ≤ j) : ¬ Ahd cs[j].1 o := by
  intro e
  rcases Nat.lt_or_ge (fdC cs o) j with a | a
  · exact fdC_at (by omega) ((srt2_at hs a hj).trans e)
  · obtain rfl : j = fdC cs o := by omega
    exact fdC_at hj e
theorem lowC_take {cs : List LC} (hs : Srt2 cs) (o : List UInt8) : lowC cs o = cs.take (fdC cs o) := filter_cut (fun j hj h => decide_eq_true (fdC_lt hj h)) (fun j hj h => decide_eq_false (fdC_ge hs hj h))
theorem find_none {cs : List LC} {o : List UInt8} (h : ∀ j (hj : j < cs.length), cs[j].1 ≠ o) : cs.find? (fun c => decide (c.1 = o)) = none := by
  rw [List.find?_eq_none]
  intro x hx
  obtain ⟨i, hi, rfl⟩ := List.getElem_of_mem hx
  simpa using h i hi
theorem find_some {cs : List LC} (hs : Srt2 cs) {o : List UInt8} {k : Nat} (hk : k < cs.length) (h : cs[k].1 = o) : cs.find? (fun c => decide (c.1 = o)) = some cs[k] := by
  cases hf : cs.find? (fun c => decide (c.1 = o)) with
  | none =>
    rw [List.find?_eq_none] at hf
    exact absurd h (by simpa using hf _ (List.getElem_mem hk))
  | some y =>
    have h1 := List.mem_of_find?_eq_some hf
    have h2 := List.find?_some hf
    obtain ⟨i, hi, rfl⟩ := List.getElem_of_mem h1
    have : i = k := srt2_inj hs hi hk (by rw [h]; simpa using h2)
    subst this
    rfl
theorem lineC_none {cs : List LC} {o : List UInt8} (h : ∀ j (hj : j < cs.length), cs[j].1 ≠ o) : lineC cs o = [] := by
  unfold lineC
  rw [find_none h]
  rfl
theorem lineC_some {cs : List LC} (hs : Srt2 cs) {o : List UInt8} {k : Nat} (hk : k < cs.length) (h : cs[k].1 = o) : lineC cs o = cs[k].2 := by
  unfold lineC
  rw [find_some hs hk h]
  rfl
/-- A sender's place: it stands there, or nowhere. -/
theorem fdC_is {cs : List LC} (hs : Srt2 cs) {o : List UInt8} (hk : fdC cs o < cs.length) (h : cs[fdC cs o].1 = o) : highC cs o = cs.drop (fdC cs o + 1) ∧ lineC cs o = cs[fdC cs o].2 := by
  refine ⟨filter_cut2 (fun j hj hl => decide_eq_false (fun e => ?_)) (fun j hj hl => decide_eq_true ?_), lineC_some hs hk h⟩
  · rcases Nat.lt_or_ge j (fdC cs o) with a | a
    · exact e.asymm (fdC_lt hj a)
    · obtain rfl : j = fdC cs o := by omega
      rw [h] at e
      exact Ahd.irrefl _ e
  · rw [← h]
    exact srt2_at hs (by omega) hj
theorem fdC_no {cs : List LC} (hs : Srt2 cs) (h32 : K2 cs) {o : List UInt8} (ho : o.length = 32) (h : ∀ hk : fdC cs o < cs.length, cs[fdC cs o].1 ≠ o) : highC cs o = cs.drop (fdC cs o) ∧ ∀ j (hj : j < cs.length), cs[j].1 ≠ o := by
  have key : ∀ j (hj : j < cs.length), fdC cs o ≤ j → Ahd o cs[j].1 := fun j hj hl => by
    rcases Ahd.tri (h32 _ (List.getElem_mem hj)) ho with e | e | e
    · exact absurd e (fdC_ge hs hj hl)
    · exfalso
      rcases Nat.lt_or_ge (fdC cs o) j with a | a
      · have hk : fdC cs o < cs.length := by omega
        rcases Ahd.tri (h32 _ (List.getElem_mem hk)) ho with f | f | f
        · exact fdC_at hk f
        · exact h hk f
        · exact (f.trans (srt2_at hs a hj)).ne e.symm
      · obtain rfl : j = fdC cs o := by omega
        exact h hj e
    · exact e
  refine ⟨filter_cut2 (fun j hj hl => decide_eq_false (fun e => e.asymm (fdC_lt hj hl))) (fun j hj hl => decide_eq_true (key j hj hl)), fun j hj e => ?_⟩
  rcases Nat.lt_or_ge j (fdC cs o) with a | a
  · exact (fdC_lt hj a).ne e
  · exact (key j hj a).ne e.symm
/-- The program's way to change one. -/
theorem setC_is0 {cs : List LC} (hs : Srt2 cs) {o : List UInt8} (hk : fdC cs o < cs.length) (h : cs[fdC cs o].1 = o) : cs.take (fdC cs o) ++ cs.drop (fdC cs o + 1) = setC cs o [] := by
  unfold setC
  rw [lowC_take hs, (fdC_is hs hk h).1]
  rfl
theorem setC_is1 {cs : List LC} (hs : Srt2 cs) {o : List UInt8} (hk : fdC cs o < cs.length) (h : cs[fdC cs o].1 = o) {xs : List Tx} (hx : xs ≠ []) : cs.set (fdC cs o) (o, xs) = setC cs o xs := by
  unfold setC ownC
  rw [lowC_take hs, (fdC_is hs hk h).1, if_neg hx, List.set_eq_take_append_cons_drop, if_pos hk]
  rfl
theorem setC_no0 {cs : List LC} (hs : Srt2 cs) (h32 : K2 cs) {o : List UInt8} (ho : o.length = 32) (h : ∀ hk : fdC cs o < cs.length, cs[fdC cs o].1 ≠ o) : cs = setC cs o [] := by
  unfold setC
  rw [lowC_take hs, (fdC_no hs h32 ho h).1]
  show cs = _ ++ ([] ++ _)
  rw [List.nil_append, List.take_append_drop]
theorem setC_no1 {cs : List LC} (hs : Srt2 cs) (h32 : K2 cs) {o : List UInt8} (ho : o.length = 32) (h : ∀ hk : fdC cs o < cs.length, cs[fdC cs o].1 ≠ o) {xs : List Tx} (hx : xs ≠ []) : cs.take (fdC cs o) ++ (o, xs) :: cs.drop (fdC cs o) = setC cs o xs := by
  unfold setC ownC
  rw [lowC_take hs, (fdC_no hs h32 ho h).1, if_neg hx]
  rfl
theorem mem_lowC {cs : List LC} {o : List UInt8} {c : LC} : c ∈ lowC cs o ↔ c ∈ cs ∧ Ahd c.1 o := by simp [lowC]
theorem mem_highC {cs : List LC} {o : List UInt8} {c : LC} : c ∈ highC cs o ↔ c ∈ cs ∧ Ahd o c.1 := by simp [highC]
theorem mem_ownC {o : List UInt8} {xs : List Tx} {c : LC} : c ∈ ownC o xs ↔ xs ≠ [] ∧ c = (o, xs) := by
  unfold ownC
  split
  · rename_i h
    simp [h]
  · rename_i h
    simp [h]
theorem mem_setC {cs : List LC} (h : K2 cs) {o : List UInt8} (ho : o.length = 32) {xs : List Tx} {c : LC} : c ∈ setC cs o xs ↔ (xs ≠ [] ∧ c = (o, xs)) ∨ (c ∈ cs ∧ c.1 ≠ o) := by
  simp only [setC, List.mem_append, mem_lowC, mem_highC, mem_ownC]
  constructor
  · rintro (⟨h1, h2⟩ | h1 | ⟨h1, h2⟩)
    · exact .inr ⟨h1, h2.ne⟩
    · exact .inl h1
    · exact .inr ⟨h1, h2.ne.symm⟩
  · rintro (h1 | ⟨h1, h2⟩)
    · exact .inr (.inl h1)
    · rcases Ahd.tri (h c h1) ho with e | e | e
      · exact .inl ⟨h1, e⟩
      · exact absurd e h2
      · exact .inr (.inr ⟨h1, e⟩)
theorem K2.set {cs : List LC} (h : K2 cs) {o : List UInt8} (ho : o.length = 32) (xs : List Tx) : K2 (setC cs o xs) := fun c hc => by
  rcases (mem_setC h ho).1 hc with ⟨_, rfl⟩ | ⟨h1, _⟩
  · exact ho
  · exact h c h1
theorem srt2_set {cs : List LC} (h : Srt2 cs) (o : List UInt8) (xs : List Tx) : Srt2 (setC cs o xs) := by
  unfold setC Srt2
  rw [List.pairwise_append, List.pairwise_append]
  refine ⟨h.sublist List.filter_sublist, ⟨?_, h.sublist List.filter_sublist, fun a ha b hb => ?_⟩, fun a ha b hb => ?_⟩
  · unfold ownC
    split
    · exact List.Pairwise.nil
    · exact List.pairwise_singleton _ _
  · obtain ⟨_, rfl⟩ := mem_ownC.1 ha
    exact (mem_highC.1 hb).2
  · rcases List.mem_append.1 hb with hb | hb
    · obtain ⟨_, rfl⟩ := mem_ownC.1 hb
      exact (mem_lowC.1 ha).2
    · exact (mem_lowC.1 ha).2.trans (mem_highC.1 hb).2
theorem MayC.set {cs : List LC} (h : MayC cs) (h32 : K2 cs) {o : List UInt8} (ho : o.length = 32) {xs : List Tx} (hg : GoodL o xs) : MayC (setC cs o xs) := by
  refine ⟨fun c hc => ?_, fun c hc => ?_, srt2_set h.srt o xs⟩
  · rcases (mem_setC h32 ho).1 hc with ⟨h1, rfl⟩ | ⟨h1, _⟩
    · exact h1
    · exact h.ne c h1
  · rcases (mem_setC h32 ho).1 hc with ⟨h1, rfl⟩ | ⟨h1, _⟩
    · exact hg
    · exact h.good c h1
theorem lineC_mem {cs : List LC} (hs : Srt2 cs) {o : List UInt8} {xs : List Tx} (h : (o, xs) ∈ cs) : lineC cs o = xs := by
  obtain ⟨i, hi, e⟩ := List.getElem_of_mem h
  rw [lineC_some hs hi (by rw [e]), e]
theorem lineC_in {cs : List LC} {o : List UInt8} (h : lineC cs o ≠ []) : (o, lineC cs o) ∈ cs := by
  unfold lineC at *
  cases hf : cs.find? (fun c => decide (c.1 = o)) with
  | none => rw [hf] at h; exact absurd rfl h
  | some y =>
    have h1 := List.mem_of_find?_eq_some hf
    have h2 := List.find?_some hf
    simp only [decide_eq_true_eq] at h2
    rw [← h2]
    exact h1
theorem lineC_set {cs : List LC} (hs : Srt2 cs) (h : K2 cs) {o : List UInt8} (ho : o.length = 32) (xs : List Tx) : lineC (setC cs o xs) o = xs := by
  by_cases hx : xs = []
  · subst hx
    refine lineC_none (fun j hj e => ?_)
    rcases (mem_setC h ho).1 (List.getElem_mem hj) with ⟨h1, _⟩ | ⟨_, h2⟩
    · exact h1 rfl
    · exact h2 e
  · exact lineC_mem (srt2_set hs o xs) ((mem_setC h ho).2 (.inl ⟨hx, rfl⟩))
theorem lineC_set_ne {cs : List LC} (hs : Srt2 cs) (h : K2 cs) {o : List UInt8} (ho : o.length = 32) (xs : List Tx) {p : List UInt8} (hp : p ≠ o) : lineC (setC cs o xs) p = lineC cs p := by
  by_cases hl : lineC cs p = []
  · rw [hl]
    by_cases hm : ∃ j, ∃ hj : j < (setC cs o xs).length, (setC cs o xs)[j].1 = p
    · obtain ⟨j, hj, e⟩ := hm
      rw [lineC_some (srt2_set hs o xs) hj e]
      rcases (mem_setC h ho).1 (List.getElem_mem hj) with ⟨_, h2⟩ | ⟨h1, _⟩
      · rw [h2] at e
        exact absurd e.symm hp
      · obtain ⟨i, hi, e2⟩ := List.getElem_of_mem h1
        rw [← hl, lineC_some hs hi (by rw [e2, e]), e2]
    · exact lineC_none (fun j hj e => hm ⟨j, hj, e⟩)
  · exact lineC_mem (srt2_set hs o xs) ((mem_setC h ho).2 (.inr ⟨lineC_in hl, hp⟩))
theorem GoodL.nil (o : List UInt8) : GoodL o [] := ⟨by simp, by simp, fun i j hj => absurd hj (by simp)⟩
theorem MayC.line {cs : List LC} (h : MayC cs) (o : List UInt8) : GoodL o (lineC cs o) := by
  by_cases hl : lineC cs o = []
  · rw [hl]
    exact GoodL.nil o
  · exact h.good _ (lineC_in hl)
/-- A map of senders in three. -/
theorem srt2_three {cs : List LC} (hs : Srt2 cs) (h : K2 cs) {o : List UInt8} (ho : o.length = 32) (hne : ∀ c ∈ cs, c.2 ≠ []) : cs = setC cs o (lineC cs o) := by
  by_cases hk : ∃ hk : fdC cs o < cs.length, cs[fdC cs o].1 = o
  · obtain ⟨hk, e⟩ := hk
    have h2 := (fdC_is hs hk e).2
    rw [h2, ← setC_is1 hs hk e (hne _ (List.getElem_mem hk))]
    have e0 : cs.set (fdC cs o) cs[fdC cs o] = cs := List.set_getElem_self hk
    conv => lhs; rw [← e0]
    rw [show cs[fdC cs o] = (o, cs[fdC cs o].2) from Prod.ext e rfl]
  · have hk' : ∀ hk : fdC cs o < cs.length, cs[fdC cs o].1 ≠ o := fun a b => hk ⟨a, b⟩
    rw [lineC_none (fdC_no hs h ho hk').2]
    exact setC_no0 hs h ho hk'
theorem cntL_lls (ls : List Ln) : cntL ls = cntC (lls ls) := by
  unfold cntL cntC lls
  rw [List.map_map]
  rfl
theorem goodL_iff {l : Ln} : l.may = true ↔ GoodL l.own l.xs := by
  rw [Ln.may_iff]
  exact ⟨fun ⟨a, b, c⟩ => ⟨a, b, c⟩, fun ⟨a, b, c⟩ => ⟨a, b, c⟩⟩
theorem LsOk.k2 {ls : List Ln} (h : LsOk ls) : K2 (lls ls) := fun c hc => by
  obtain ⟨l, hl, rfl⟩ := List.mem_map.1 hc
  exact (h.ok l hl).own
theorem mayS_iff {ls : List Ln} : mayS ls = true ↔ MayC (lls ls) := by
  unfold mayS
  rw [decide_eq_true_iff]
  constructor
  · intro h
    have h1 : ∀ i (hi : i < ls.length), ls[i].xs.length ≠ 0 ∧ ls[i].may = true ∧ (i = 0 ∨ Ahd (ls[i - 1]'(by omega)).own ls[i].own) := fun i hi => by
      have := h i hi
      rw [lnAt_eq i hi] at this
      simpa using this
    have h2 : ∀ d i (hi : i + d < ls.length), 0 < d → Ahd (ls[i]'(by omega)).own ls[i + d].own := by
      intro d
      induction d with
      | zero => intro i hi h0; omega
      | succ d ih =>
        intro i hi _
        have e := (h1 (i + (d + 1)) hi).2.2
        rcases e with e | e
        · omega
        · have e' : Ahd ls[i + d].own ls[i + (d + 1)].own := e
          by_cases hd : d = 0
          · subst hd; exact e'
          · exact (ih i (by omega) (by omega)).trans e'
    refine ⟨fun c hc => ?_, fun c hc => ?_, ?_⟩
    · obtain ⟨l, hl, rfl⟩ := List.mem_map.1 hc
      obtain ⟨i, hi, rfl⟩ := List.getElem_of_mem hl
      intro e
      exact (h1 i hi).1 (by rw [show ls[i].xs = [] from e]; rfl)
    · obtain ⟨l, hl, rfl⟩ := List.mem_map.1 hc
      obtain ⟨i, hi, rfl⟩ := List.getElem_of_mem hl
      exact goodL_iff.1 (h1 i hi).2.1
    · refine List.pairwise_iff_getElem.2 (fun i j hi hj hij => ?_)
      have := h2 (j - i) i (by simp at hj; omega) (by omega)
      simp only [List.getElem_map]
      have e : i + (j - i) = j := by omega
      simp only [e] at this
      exact this
  · intro h i hi
    rw [lnAt_eq i hi]
    have hm : ls[i].pl ∈ lls ls := List.mem_map.2 ⟨_, List.getElem_mem hi, rfl⟩
    have h1 := h.ne _ hm
    have h2 := goodL_iff.2 (h.good _ hm)
    have h3 : i = 0 ∨ Ahd (ls[i - 1]'(by omega)).own ls[i].own := by
      by_cases e : i = 0
      · exact .inl e
      · refine .inr ?_
        have := srt2_at h.srt (i := i - 1) (j := i) (by omega) (by simpa using hi)
        simp only [List.getElem_map] at this
        exact this
    have h4 : ls[i].xs.length ≠ 0 := fun e => h1 (List.eq_nil_of_length_eq_zero e)
    simp [h2, h3, h4]
end Go.Proofs.YtcpndfffdbogbaaGreatDoor
namespace Go.Proofs.YtcpndfffdbogbaaGreatDoor
open Go Go.RowKit
open Classical

def lastFee (xs : List Tx) : Nat := (xs.getLast?.map Tx.fee).getD 0
/-- The line whose last transaction goes. -/
noncomputable def worstG (o : List UInt8) : List LC → Nat → Int → Nat → Int
  | [], _, w, _ => w
  | c :: r, i, w, least => if c.1 ≠ o ∧ lastFee c.2 < least then worstG o r (i + 1) i (lastFee c.2) else worstG o r (i + 1) w least
noncomputable def worstC (cs : List LC) (o : List UInt8) (fee : Nat) : Int := worstG o cs 0 (-1) fee
theorem worstG_step {o : List UInt8} {cs : List LC} {i : Nat} (hi : i < cs.length) (w : Int) (least : Nat) : worstG o (cs.drop i) i w least = if cs[i].1 ≠ o ∧ lastFee cs[i].2 < least then worstG o (cs.drop (i + 1)) (i + 1) i (lastFee cs[i].2) else worstG o (cs.drop (i + 1)) (i + 1) w least := by
  rw [List.drop_eq_getElem_cons hi]
  rfl
theorem worstG_is {o : List UInt8} : ∀ (r : List LC) (i : Nat) (w : Int) (least : Nat), worstG o r i w least = w ∨ ∃ j, ∃ hj : j < r.length, worstG o r i w least = ((i + j : Nat) : Int) ∧ r[j].1 ≠ o
  | [], _, _, _ => .inl rfl
  | c :: r, i, w, least => by
    unfold worstG
    split
    · rename_i h
      rcases worstG_is r (i + 1) i (lastFee c.2) with e | ⟨j, hj, e, hn⟩
      · exact .inr ⟨0, by simp, by rw [e]; rfl, h.1⟩
      · exact .inr ⟨j + 1, by simpa using hj, by rw [e]; congr 1; omega, by simpa using hn⟩
    · rcases worstG_is r (i + 1) w least with e | ⟨j, hj, e, hn⟩
      · exact .inl e
      · exact .inr ⟨j + 1, by simpa using hj, by rw [e]; congr 1; omega, by simpa using hn⟩
theorem worstC_is {cs : List LC} {o : List UInt8} {fee : Nat} : worstC cs o fee = -1 ∨ ∃ k, ∃ hk : k < cs.length, worstC cs o fee = (k : Int) ∧ cs[k].1 ≠ o := by
  rcases worstG_is cs 0 (-1) fee with e | ⟨j, hj, e, hn⟩
  · exact .inl e
  · exact .inr ⟨j, hj, by rw [worstC, e, Nat.zero_add], hn⟩
/-- What Submit tells of a shard that may be. -/
noncomputable def submitC (cs : List LC) (cap : Int) (nonce : Nat) (x : Tx) : List LC × List Tx × Int :=
  if x.sign = sgn x then
    if x.nonce < nonce then ([], [], 200)
    else if 16 ≤ x.nonce - nonce ∨ x.nonce = 18446744073709551615 then ([], [], 201)
    else match atT (lineC cs (fromT x)) x.nonce with
      | some y => if x.fee ≤ y.fee then ([], [], 190) else (setC cs (fromT x) (withT (lineC cs (fromT x)) x), [y], 0)
      | none =>
        if 256 ≤ (lineC cs (fromT x)).length then ([], [], 9)
        else if (cntC cs : Int) < cap then (setC cs (fromT x) (withT (lineC cs (fromT x)) x), [], 0)
        else match cs[(worstC cs (fromT x) x.fee).toNat]? with
          | some w => if worstC cs (fromT x) x.fee < 0 then ([], [], 9) else (setC (setC cs w.1 (w.2.take (w.2.length - 1))) (fromT x) (withT (lineC cs (fromT x)) x), w.2.drop (w.2.length - 1), 0)
          | none => ([], [], 9)
  else ([], [], 110)
noncomputable def submitS (cs : List LC) (cap : Int) (nonce : Nat) (x : Tx) : List LC × List Tx × Int := if MayC cs then submitC cs cap nonce x else ([], [], 8)
theorem putT_good {a : Option Addr} {c : Nat} {xs : List Tx} {x : Tx} (h : GoodL (fromT x) xs) (hs : x.sign = sgn x) : putT (Ln.mk (fromT x) a c xs) x = match atT xs x.nonce with
    | some y => if x.fee ≤ y.fee then (z32, [], [], 190) else (fromT x, withT xs x, [y], 0)
    | none => if 256 ≤ xs.length then (z32, [], [], 9) else (fromT x, withT xs x, [], 0) := by
  unfold putT
  rw [if_pos (goodL_iff.2 h), if_pos (ownT_iff.2 ⟨hs, rfl⟩)]
  dsimp only
  cases atT xs x.nonce <;> rfl
theorem with_len0 {xs : List Tx} (hu : UpT xs) {x : Tx} (h : atT xs x.nonce = none) : (withT xs x).length = xs.length + 1 := by
  obtain ⟨m, hp⟩ := part_exists hu x.nonce
  have hn : ∀ i (hi : i < xs.length), (xs[i]).nonce ≠ x.nonce := fun i hi e => by
    rw [atT_some hu hi e] at h
    cases h
  rw [← hp.with0 hn]
  have := hp.le
  simp
  omega
theorem with_len1 {xs : List Tx} (hu : UpT xs) {x y : Tx} (h : atT xs x.nonce = some y) : (withT xs x).length = xs.length := by
  obtain ⟨m, hp⟩ := part_exists hu x.nonce
  by_cases hm : ∃ hm : m < xs.length, (xs[m]).nonce = x.nonce
  · obtain ⟨hm, e⟩ := hm
    rw [← hp.with1 hu hm e, List.length_set]
  · have := atT_none (hp.none hu (fun a b => hm ⟨a, b⟩))
    rw [this] at h
    cases h
theorem GoodL.with {xs : List Tx} {x : Tx} (h : GoodL (fromT x) xs) (hs : x.sign = sgn x) (hl : (withT xs x).length ≤ 256) : GoodL (fromT x) (withT xs x) := ⟨hl, fun y hy => by
  rcases withT_mem hy with rfl | hy
  · exact ownT_iff.2 ⟨hs, rfl⟩
  · exact h.own y hy, h.up.with x⟩
theorem GoodL.take {o : List UInt8} {xs : List Tx} (h : GoodL o xs) (k : Nat) : GoodL o (xs.take k) := ⟨by have := h.len; rw [List.length_take]; omega, fun y hy => h.own y (List.mem_of_mem_take hy), upT_pw.2 ((upT_pw.1 h.up).sublist (List.take_sublist _ _))⟩
theorem GoodL.drop {o : List UInt8} {xs : List Tx} (h : GoodL o xs) (k : Nat) : GoodL o (xs.drop k) := ⟨by have := h.len; rw [List.length_drop]; omega, fun y hy => h.own y (List.mem_of_mem_drop hy), upT_pw.2 ((upT_pw.1 h.up).sublist (List.drop_sublist _ _))⟩
theorem withT_ne (xs : List Tx) (x : Tx) : withT xs x ≠ [] := by
  unfold withT
  simp
/-- What holds of what comes of a Submit. -/
structure Kept (cs : List LC) (cap : Int) (x : Tx) (zs : List LC) (gone : List Tx) : Prop where
  there : atT (lineC zs (fromT x)) x.nonce = some x
  few : gone.length ≤ 1
  may : MayC zs
  k2 : K2 zs
  cnt : cntC zs + gone.length = cntC cs + 1
  stay : ∀ c ∈ cs, ∀ z ∈ c.2, atT (lineC zs c.1) z.nonce = some z ∨ gone = [z]
  room : (cntC zs : Int) ≤ cap ∨ cntC zs ≤ cntC cs
end Go.Proofs.YtcpndfffdbogbaaGreatDoor
namespace Go.Proofs.YtcpndfffdbogbaaGreatDoor
open Go Go.RowKit
open Classical

/-- How many of a run are drawn, with so much room, so many drawn. -/
def cutN (run : Nat) (room : Int) (d : Nat) : Nat := (max 0 (min (run : Int) (room - (d : Int)))).toNat
theorem cutN_le (run : Nat) (room : Int) (d : Nat) : cutN run room d ≤ run := by
  unfold cutN
  omega
theorem cutN_room (run : Nat) (room : Int) (d : Nat) : cutN run room d = 0 ∨ ((d + cutN run room d : Nat) : Int) ≤ room := by
  unfold cutN
  omega
/-- One sender's run, and how many of it are drawn. -/
def cutC (f : List UInt8 → Nat) (room : Int) (d : Nat) (c : LC) : Nat := cutN (readyT c.2 (f c.1)).length room d
def drawS (f : List UInt8 → Nat) (room : Int) (s : List LC × List Tx) (c : LC) : List LC × List Tx :=
  (s.1 ++ ownC c.1 ((hiT c.2 (f c.1)).drop (cutC f room s.2.length c)), s.2 ++ (readyT c.2 (f c.1)).take (cutC f room s.2.length c))
def drawC (f : List UInt8 → Nat) (room : Int) (cs : List LC) : List LC × List Tx := cs.foldl (drawS f room) ([], [])
theorem drawC_take {f : List UInt8 → Nat} {room : Int} {cs : List LC} {i : Nat} (hi : i < cs.length) : drawC f room (cs.take (i + 1)) = drawS f room (drawC f room (cs.take i)) cs[i] := by
  unfold drawC
  rw [List.take_succ_eq_append_getElem hi, List.foldl_append]
  rfl
theorem drawC_len (f : List UInt8 → Nat) (room : Int) : ∀ (cs : List LC) (s : List LC × List Tx), (cs.foldl (drawS f room) s).2.length ≤ s.2.length + cntC cs := by
  intro cs
  induction cs with
  | nil => intro s; simp [cntC]
  | cons c r ih =>
    intro s
    have h1 := ih (drawS f room s c)
    have h2 : (drawS f room s c).2.length ≤ s.2.length + c.2.length := by
      unfold drawS
      rw [List.length_append, List.length_take]
      have := ready_len c.2 (f c.1)
      omega
    have h3 : cntC (c :: r) = c.2.length + cntC r := by simp [cntC]
    simp only [List.foldl_cons]
    omega
theorem runT_take : ∀ (xs : List Tx) (k : Nat), runT xs k = xs.take (runT xs k).length
  | [], _ => by simp [runT]
  | x :: r, k => by
    unfold runT
    split
    · rw [List.length_cons, List.take_succ_cons, ← runT_take r (k + 1)]
    · rfl
theorem ready_take (xs : List Tx) (k m : Nat) (hm : m ≤ (readyT xs k).length) : (readyT xs k).take m = (hiT xs k).take m := by
  have e : readyT xs k = (hiT xs k).take (readyT xs k).length := runT_take _ _
  rw [e, List.take_take, Nat.min_eq_left hm]
theorem hiT_hiT (xs : List Tx) (k : Nat) : hiT (hiT xs k) k = hiT xs k := by
  unfold hiT
  rw [List.filter_filter]
  simp
theorem ready_hi (xs : List Tx) (k : Nat) : readyT (hiT xs k) k = readyT xs k := by
  unfold readyT
  rw [hiT_hiT]
theorem setC_mid {P r : List LC} {c : LC} (h : Srt2 (P ++ c :: r)) (xs : List Tx) : setC (P ++ c :: r) c.1 xs = P ++ (ownC c.1 xs ++ r) := by
  obtain ⟨h1, h2, h3⟩ := List.pairwise_append.1 h
  obtain ⟨h4, h5⟩ := List.pairwise_cons.1 h2
  have e1 : lowC (P ++ c :: r) c.1 = P := by
    unfold lowC
    rw [List.filter_append, List.filter_eq_self.2 (fun x hx => decide_eq_true (h3 x hx c (by simp))), List.filter_eq_nil_iff.2, List.append_nil]
    intro x hx
    rcases List.mem_cons.1 hx with rfl | hx
    · simpa using Ahd.irrefl _
    · simpa using (h4 x hx).asymm
  have e2 : highC (P ++ c :: r) c.1 = r := by
    unfold highC
    rw [List.filter_append, List.filter_eq_nil_iff.2 (fun x hx => by simpa using (h3 x hx c (by simp)).asymm), List.nil_append, List.filter_cons_of_neg (by simpa using Ahd.irrefl _), List.filter_eq_self.2]
    intro x hx
    exact decide_eq_true (h4 x hx)
  unfold setC
  rw [e1, e2]
theorem GoodL.hi {o : List UInt8} {xs : List Tx} (h : GoodL o xs) (k : Nat) : GoodL o (hiT xs k) := ⟨Nat.le_trans (List.length_filter_le _ _) h.len, fun y hy => h.own y (hiT_sub y hy), h.up.hi k⟩
/-- A shard that is drawn zs far zs a place. -/
noncomputable def drawAt (f : List UInt8 → Nat) (room : Int) (cs : List LC) (i : Nat) : List LC := (drawC f room (cs.take i)).1 ++ cs.drop i
theorem drawAt_may {f : List UInt8 → Nat} {room : Int} {cs : List LC} (h : MayC cs) (h2 : K2 cs) : ∀ i, i ≤ cs.length → MayC (drawAt f room cs i) ∧ K2 (drawAt f room cs i) ∧ ∀ hi : i < cs.length, drawAt f room cs (i + 1) = setC (drawAt f room cs i) cs[i].1 ((hiT cs[i].2 (f cs[i].1)).drop (cutC f room (drawC f room (cs.take i)).2.length cs[i])) := by
  have step : ∀ i (hi : i < cs.length), Srt2 (drawAt f room cs i) → drawAt f room cs (i + 1) = setC (drawAt f room cs i) cs[i].1 ((hiT cs[i].2 (f cs[i].1)).drop (cutC f room (drawC f room (cs.take i)).2.length cs[i])) := by
    intro i hi hs
    unfold drawAt at *
    rw [List.drop_eq_getElem_cons hi] at hs ⊢
    rw [setC_mid hs, drawC_take hi, drawS, List.append_assoc]
  intro i
  induction i with
  | zero =>
    intro _
    have e : drawAt f room cs 0 = cs := by simp [drawAt, drawC]
    refine ⟨by rw [e]; exact h, by rw [e]; exact h2, fun hi => step 0 hi (by rw [e]; exact h.srt)⟩
  | succ i ih =>
    intro hi
    obtain ⟨a, b, c⟩ := ih (by omega)
    have hc := c (by omega)
    have hm : MayC (drawAt f room cs (i + 1)) := by
      rw [hc]
      exact a.set b (h2 _ (List.getElem_mem (by omega))) (((h.good _ (List.getElem_mem (by omega))).hi _).drop _)
    refine ⟨hm, ?_, fun hj => step (i + 1) hj hm.srt⟩
    rw [hc]
    exact b.set (h2 _ (List.getElem_mem (by omega))) _
theorem drawAt_end (f : List UInt8 → Nat) (room : Int) (cs : List LC) : drawAt f room cs cs.length = (drawC f room cs).1 := by
  unfold drawAt
  rw [List.take_length, List.drop_length, List.append_nil]
/-- What holds of what is drawn. -/
structure Drn (f : List UInt8 → Nat) (room : Int) (cs : List LC) (zs : List LC) (dr : List Tx) : Prop where
  from' : ∀ i (hi : i < dr.length), (∃ c ∈ cs, fromT dr[i] = c.1 ∧ dr[i] ∈ c.2 ∧ ∀ xs, (c.1, xs) ∈ zs → ∀ z ∈ xs, z.nonce ≠ dr[i].nonce) ∧ dr[i].nonce = (if 0 < i ∧ fromT (dr[i - 1]'(by omega)) = fromT dr[i] then (dr[i - 1]'(by omega)).nonce + 1 else f (fromT dr[i]))
  left : ∀ a ∈ zs, ∃ c ∈ cs, a.1 = c.1 ∧ ∀ z ∈ a.2, z ∈ c.2 ∧ f c.1 ≤ z.nonce
  few : dr.length = 0 ∨ (dr.length : Int) ≤ room
theorem upT_split {xs : List Tx} (h : UpT xs) (m : Nat) : ∀ y ∈ xs.take m, ∀ z ∈ xs.drop m, z.nonce ≠ y.nonce := by
  intro y hy z hz
  obtain ⟨i, hi, him, rfl⟩ := mem_take_lt hy
  obtain ⟨j, hj, hmj, rfl⟩ := mem_drop_le hz
  have := h i j hj (by omega)
  omega
theorem drn_step {f : List UInt8 → Nat} {room : Int} {cs zs : List LC} {dr : List Tx} {c : LC} (h : Drn f room cs zs dr) (hg : GoodL c.1 c.2) (hn : ∀ d ∈ cs, d.1 ≠ c.1) : Drn f room (cs ++ [c]) (drawS f room (zs, dr) c).1 (drawS f room (zs, dr) c).2 := by
  obtain ⟨m, hm⟩ : ∃ m, m = cutC f room dr.length c := ⟨_, rfl⟩
  have hmle : m ≤ (readyT c.2 (f c.1)).length := by rw [hm]; exact cutN_le _ _ _
  have hroom : m = 0 ∨ ((dr.length + m : Nat) : Int) ≤ room := by rw [hm]; exact cutN_room _ _ _
  obtain ⟨r1, r2⟩ := ready_at hg.up (f c.1)
  have hrt := ready_take c.2 (f c.1) m hmle
  have hhi := (hg.hi (f c.1)).up
  have hasn : ∀ a ∈ zs, a.1 ≠ c.1 := fun a ha e => by
    obtain ⟨d, hd, e2, _⟩ := h.left a ha
    exact hn d hd (by rw [← e2, e])
  have hmem : ∀ p (hp : p < m), ((readyT c.2 (f c.1))[p]'(by omega)) ∈ c.2 := fun p hp => by
    have : (readyT c.2 (f c.1))[p]'(by omega) ∈ readyT c.2 (f c.1) := List.getElem_mem _
    exact hiT_sub _ (runT_sub _ this)
  have hown : ∀ p (hp : p < m), fromT ((readyT c.2 (f c.1))[p]'(by omega)) = c.1 := fun p hp => (ownT_iff.1 (hg.own _ (hmem p hp))).2
  have hdl : (dr ++ (readyT c.2 (f c.1)).take m).length = dr.length + m := by
    rw [List.length_append, List.length_take, Nat.min_eq_left hmle]
  unfold drawS
  dsimp only
  rw [← hm]
  refine ⟨fun i hi => ?_, fun a ha => ?_, ?_⟩
  · rw [hdl] at hi
    by_cases hlt : i < dr.length
    · have e1 : (dr ++ (readyT c.2 (f c.1)).take m)[i]'(by rw [hdl]; omega) = dr[i] := List.getElem_append_left hlt
      have e2 : (dr ++ (readyT c.2 (f c.1)).take m)[i - 1]'(by rw [hdl]; omega) = dr[i - 1]'(by omega) := List.getElem_append_left (by omega)
      rw [e1, e2]
      obtain ⟨⟨d, hd, h1, h2, h3⟩, h4⟩ := h.from' i hlt
      refine ⟨⟨d, by simp [hd], h1, h2, fun xs hx => ?_⟩, h4⟩
      rcases List.mem_append.1 hx with hx | hx
      · exact h3 xs hx
      · obtain ⟨_, e⟩ := mem_ownC.1 hx
        exact absurd (congrArg Prod.fst e) (hn d hd)
    · obtain ⟨p, rfl⟩ : ∃ p, i = dr.length + p := ⟨i - dr.length, by omega⟩
      have hp : p < m := by omega
      have e1 : (dr ++ (readyT c.2 (f c.1)).take m)[dr.length + p]'(by rw [hdl]; omega) = (readyT c.2 (f c.1))[p]'(by omega) := by
        rw [List.getElem_append_right (by omega), List.getElem_take]
        congr 1
        omega
      rw [e1]
      have hN := (r1 p (by omega)).1
      refine ⟨⟨c, by simp, hown p hp, hmem p hp, fun xs hx z hz => ?_⟩, ?_⟩
      · rcases List.mem_append.1 hx with hx | hx
        · exact absurd (rfl : ((c.1, xs) : LC).1 = c.1) (hasn (c.1, xs) hx)
        · obtain ⟨_, e⟩ := mem_ownC.1 hx
          have e' : xs = (hiT c.2 (f c.1)).drop m := congrArg Prod.snd e
          rw [e'] at hz
          refine upT_split hhi m _ ?_ z hz
          rw [← hrt]
          have : ((readyT c.2 (f c.1)).take m)[p]'(by rw [List.length_take]; omega) ∈ (readyT c.2 (f c.1)).take m := List.getElem_mem _
          rwa [List.getElem_take] at this
      · by_cases hp0 : p = 0
        · subst hp0
          rw [if_neg, hown 0 hp, hN, Nat.add_zero]
          rintro ⟨h0, he⟩
          have e2 : (dr ++ (readyT c.2 (f c.1)).take m)[dr.length + 0 - 1]'(by rw [hdl]; omega) = dr[dr.length - 1]'(by omega) := List.getElem_append_left (by omega)
          rw [e2, hown 0 hp] at he
          obtain ⟨⟨d, hd, h1, _⟩, _⟩ := h.from' (dr.length - 1) (by omega)
          exact hn d hd (by rw [← h1, he])
        · have e2 : (dr ++ (readyT c.2 (f c.1)).take m)[dr.length + p - 1]'(by rw [hdl]; omega) = (readyT c.2 (f c.1))[p - 1]'(by omega) := by
            rw [List.getElem_append_right (by omega), List.getElem_take]
            congr 1
            omega
          rw [e2, hown p hp, hown (p - 1) (by omega), if_pos ⟨by omega, rfl⟩, hN, (r1 (p - 1) (by omega)).1]
          omega
  · rcases List.mem_append.1 ha with ha | ha
    · obtain ⟨d, hd, h1⟩ := h.left a ha
      exact ⟨d, by simp [hd], h1⟩
    · obtain ⟨_, rfl⟩ := mem_ownC.1 ha
      refine ⟨c, by simp, rfl, fun z hz => ?_⟩
      have hz := List.mem_of_mem_drop hz
      exact ⟨hiT_sub z hz, by simpa using (List.mem_filter.1 hz).2⟩
  · rw [hdl]
    rcases hroom with e | e
    · rw [e, Nat.add_zero]
      exact h.few
    · exact .inr e
theorem drawC_drn {f : List UInt8 → Nat} {room : Int} {cs : List LC} (h : MayC cs) : ∀ i, i ≤ cs.length → Drn f room (cs.take i) (drawC f room (cs.take i)).1 (drawC f room (cs.take i)).2 := by
  intro i
  induction i with
  | zero =>
    intro _
    exact ⟨fun i hi => absurd hi (by simp [drawC]), fun a ha => by simp [drawC] at ha, .inl (by simp [drawC])⟩
  | succ i ih =>
    intro hi
    rw [drawC_take (by omega), List.take_succ_eq_append_getElem (by omega)]
    refine drn_step (ih (by omega)) (h.good _ (List.getElem_mem _)) (fun d hd e => ?_)
    obtain ⟨j, hj, rfl⟩ := List.getElem_of_mem hd
    rw [List.length_take] at hj
    rw [List.getElem_take] at e
    exact (srt2_at h.srt (i := j) (j := i) (by omega) (by omega)).ne e
theorem drawC_law {f : List UInt8 → Nat} {room : Int} {cs : List LC} (h : MayC cs) : Drn f room cs (drawC f room cs).1 (drawC f room cs).2 := by
  have := drawC_drn (f := f) (room := room) h cs.length (Nat.le_refl _)
  rwa [List.take_length] at this
/-! ### Back -/
noncomputable def backS (f : List UInt8 → Nat) (cs : List LC) (x : Tx) : Option (List LC) :=
  if x.nonce < f (fromT x) then some cs
  else match atT (lineC cs (fromT x)) x.nonce with
    | some y => if x.fee ≤ y.fee then some cs else some (setC cs (fromT x) (withT (lineC cs (fromT x)) x))
    | none => if 256 ≤ (lineC cs (fromT x)).length then none else some (setC cs (fromT x) (withT (lineC cs (fromT x)) x))
noncomputable def backC (f : List UInt8 → Nat) (cs : List LC) (l : List Tx) : Option (List LC) := l.foldl (fun s x => s.bind fun cs => backS f cs x) (some cs)
theorem backC_take {f : List UInt8 → Nat} {cs : List LC} {l : List Tx} {i : Nat} (hi : i < l.length) : backC f cs (l.take (i + 1)) = (backC f cs (l.take i)).bind fun cs => backS f cs l[i] := by
  unfold backC
  rw [List.take_succ_eq_append_getElem hi, List.foldl_append]
  rfl
theorem backC_none {f : List UInt8 → Nat} {cs : List LC} {l : List Tx} {i : Nat} (h : backC f cs (l.take i) = none) : backC f cs l = none := by
  have e : ∀ l : List Tx, l.foldl (fun s x => s.bind fun cs => backS f cs x) (none : Option (List LC)) = none := by
    intro l
    induction l with
    | nil => rfl
    | cons x l ih => exact ih
  unfold backC at *
  conv => lhs; rw [← List.take_append_drop i l]
  rw [List.foldl_append, h, e]
/-- As good for every sender and nonce. -/
def Better (cs zs : List LC) : Prop := ∀ o n y, atT (lineC cs o) n = some y → ∃ z, atT (lineC zs o) n = some z ∧ (z = y ∨ y.fee < z.fee)
theorem Better.refl (cs : List LC) : Better cs cs := fun o n y h => ⟨y, h, .inl rfl⟩
theorem Better.trans {a b c : List LC} (h : Better a b) (k : Better b c) : Better a c := fun o n y hy => by
  obtain ⟨z, hz, e⟩ := h o n y hy
  obtain ⟨w, hw, e2⟩ := k o n z hz
  refine ⟨w, hw, ?_⟩
  rcases e with rfl | e
  · exact e2
  · rcases e2 with rfl | e2
    · exact .inr e
    · exact .inr (by omega)
theorem atT_both {xs : List Tx} {k : Nat} {y : Tx} (h : atT xs k = some y) : y ∈ xs ∧ y.nonce = k := by
  unfold atT at h
  exact ⟨List.mem_of_find?_eq_some h, by simpa using List.find?_some h⟩
theorem backS_set {cs : List LC} (h : MayC cs) (h2 : K2 cs) {x : Tx} (hw : ∀ y, atT (lineC cs (fromT x)) x.nonce = some y → ¬ x.fee ≤ y.fee) : Better cs (setC cs (fromT x) (withT (lineC cs (fromT x)) x)) := fun o n y hy => by
  by_cases ho : o = fromT x
  · subst ho
    rw [lineC_set h.srt h2 (fromT_len x)]
    have hL := (h.line (fromT x)).up
    obtain ⟨m1, m2⟩ := atT_both hy
    by_cases hn : n = x.nonce
    · subst hn
      have := hw y hy
      exact ⟨x, with_at hL x, .inr (by omega)⟩
    · have := with_at_ne hL x m1 (by omega)
      rw [m2] at this
      exact ⟨y, this, .inl rfl⟩
  · rw [lineC_set_ne h.srt h2 (fromT_len x) _ ho]
    exact ⟨y, hy, .inl rfl⟩
theorem backS_law {f : List UInt8 → Nat} {cs zs : List LC} {x : Tx} (h : MayC cs) (h2 : K2 cs) (hs : x.sign = sgn x) (he : backS f cs x = some zs) : MayC zs ∧ K2 zs ∧ Better cs zs ∧ (f (fromT x) ≤ x.nonce → ∃ z, atT (lineC zs (fromT x)) x.nonce = some z ∧ x.fee ≤ z.fee) := by
  have hL := h.line (fromT x)
  have fin : ∀ (hl : (withT (lineC cs (fromT x)) x).length ≤ 256) (hw : ∀ y, atT (lineC cs (fromT x)) x.nonce = some y → ¬ x.fee ≤ y.fee), zs = setC cs (fromT x) (withT (lineC cs (fromT x)) x) → MayC zs ∧ K2 zs ∧ Better cs zs ∧ (f (fromT x) ≤ x.nonce → ∃ z, atT (lineC zs (fromT x)) x.nonce = some z ∧ x.fee ≤ z.fee) := by
    intro hl hw e
    rw [e]
    refine ⟨h.set h2 (fromT_len x) (hL.with hs hl), h2.set (fromT_len x) _, backS_set h h2 hw, fun _ => ⟨x, ?_, Nat.le_refl _⟩⟩
    rw [lineC_set h.srt h2 (fromT_len x)]
    exact with_at hL.up x
  unfold backS at he
  split at he
  · rename_i hlt
    obtain rfl := Option.some.inj he
    exact ⟨h, h2, Better.refl _, fun hh => absurd hh (by omega)⟩
  cases hat : atT (lineC cs (fromT x)) x.nonce with
  | some y =>
    rw [hat] at he
    dsimp only at he
    split at he
    · rename_i hf
      obtain rfl := Option.some.inj he
      exact ⟨h, h2, Better.refl _, fun _ => ⟨y, hat, hf⟩⟩
    · rename_i hf
      exact fin (by rw [with_len1 hL.up hat]; exact hL.len) (fun y' hy' => by rw [hat] at hy'; obtain rfl := Option.some.inj hy'; exact hf) (Option.some.inj he).symm
  | none =>
    rw [hat] at he
    dsimp only at he
    split at he
    · cases he
    · rename_i hf
      exact fin (by rw [with_len0 hL.up hat]; omega) (fun y' hy' => by rw [hat] at hy'; cases hy') (Option.some.inj he).symm
theorem backC_law {f : List UInt8 → Nat} {cs : List LC} (h : MayC cs) (h2 : K2 cs) {l : List Tx} (hs : ∀ x ∈ l, x.sign = sgn x) : ∀ i, i ≤ l.length → ∀ zs, backC f cs (l.take i) = some zs → MayC zs ∧ K2 zs ∧ Better cs zs ∧ ∀ j (hj : j < l.length), j < i → f (fromT l[j]) ≤ l[j].nonce → ∃ z, atT (lineC zs (fromT l[j])) l[j].nonce = some z ∧ l[j].fee ≤ z.fee := by
  intro i
  induction i with
  | zero =>
    intro _ zs he
    rw [List.take_zero] at he
    obtain rfl := Option.some.inj he
    exact ⟨h, h2, Better.refl _, fun j hj h0 => by omega⟩
  | succ i ih =>
    intro hi zs he
    rw [backC_take (by omega)] at he
    cases hb : backC f cs (l.take i) with
    | none => rw [hb] at he; cases he
    | some bs =>
      rw [hb] at he
      obtain ⟨a1, a2, a3, a4⟩ := ih (by omega) bs hb
      obtain ⟨b1, b2, b3, b4⟩ := backS_law a1 a2 (hs _ (List.getElem_mem (by omega))) (show backS f bs l[i] = some zs from he)
      refine ⟨b1, b2, a3.trans b3, fun j hj hji hf => ?_⟩
      by_cases e : j = i
      · subst e
        exact b4 hf
      · obtain ⟨z, hz, hfz⟩ := a4 j hj (by omega) hf
        obtain ⟨z', hz', e'⟩ := b3 _ _ _ hz
        refine ⟨z', hz', ?_⟩
        rcases e' with rfl | e'
        · exact hfz
        · omega
end Go.Proofs.YtcpndfffdbogbaaGreatDoor

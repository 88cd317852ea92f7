/-
  A shard under way: where a sender's line is, its line, and one put in its place. The line whose last transaction goes: the program's way, the document's. A shard with a transaction (the program's). Shards: a sender's transaction of a nonce; the chapter's first examples. A shard that is drawn (the program's). A shard with transactions that go back (the program's).
-/
import Derived.Test.YtcpndfffdbogbaaGreatDoorGS
import Derived.Test.YtcpndfffdbogbaaGreatDoorInsL
import Derived.Test.YtcpndfffdbogbaaGreatDoorGZC
import Derived.Test.YtcpndfffdbogbaaGreatDoorGZ
import Derived.Test.YtcpndfffdbogbaaGreatDoorQueV
import Derived.Test.YtcpndfffdbogbaaGreatDoorGP
import Derived.Test.YtcpndfffdbogbaaGreatDoorGY
set_option linter.unusedVariables false
set_option linter.unusedSimpArgs false
set_option linter.unusedSectionVars false
set_option maxRecDepth 100000
set_option maxHeartbeats 8000000
namespace Go.Proofs.YtcpndfffdbogbaaGreatDoor
open Go Go.RowKit
open Classical

theorem idx_fd (ls : List Ln) (o : List UInt8) : ls.findIdx (fun l => !decide (Ahd l.own o)) = fdC (lls ls) o := by
  unfold fdC lls
  rw [List.findIdx_map]
  rfl
noncomputable def isC (cs : List LC) (o : List UInt8) : Bool := decide (∃ hk : fdC cs o < cs.length, cs[fdC cs o].1 = o)
abbrev partB (gp : Nat) (a : Option Addr) (c : Nat) (ms : List Ln) : Asn := blk gp 78 [.slice a ms.length c]
theorem sfind1_vc (w0 : World) (L : List Asn) (g : Nat) (o : List UInt8) (ho : o.length = 32) (l : Ln) (hl : l.own.length = 32) {i : Nat} [hb : HasBlk L g i 47 (bvs o)] :
    VC Tryz.prog w0 118 [.agg l.cells.toArray, .pointer (some ⟨g, 0, none⟩)] L fun v L' => v = .bool (!decide (Ahd l.own o)) ∧ L' = L := by
  have f0 := Ln.f0 hl
  have hcl := Ln.len hl
  refine vc_ent ?_
  refine vc_in rfl rfl ?_
  generalize l.cells = cs at *
  repeat' (first | (refine go1 ?_; intros) | (refine goCC ?_ ?_ <;> (intro hb; (try simp only [hSQ] at hb); try (exfalso; omega))) | fail)
  refine clV ?_
  refine vc_mono (ahead_vc w0 _ l.own o hl ho) ?_
  rintro v L' ⟨rfl, rfl⟩
  repeat' (first | (refine go1 ?_; intros) | (refine goCC ?_ ?_ <;> (intro hb; (try simp only [hSQ] at hb); try (exfalso; omega))) | fail)
  exact ⟨_, sei _ _ L, rfl, rfl⟩
theorem sfind_vc (w0 : World) (L : List Asn) (gp : Nat) (a : Option Addr) (c : Nat) (ms : List Ln) (o : List UInt8) (h : LsOk ms) (ho : o.length = 32) {i : Nat} [hp : HasBlk L gp i 78 [.slice a ms.length c]] [hr : RdC w0 L a (lnc ms)] :
    VC Tryz.prog w0 76 [.pointer (some ⟨gp, 0, none⟩), .agg (bvs o).toArray] L fun v L' => v = .tuple #[.int .i64 (fdC (lls ms) o : Nat), .bool (isC (lls ms) o)] ∧ L' = L := by
  have hle := fdC_le (lls ms) o
  rw [List.length_map] at hle
  refine vc_ent ?_
  refine vc_in rfl rfl ?_
  repeat' (first | (refine go1 ?_; intros) | (refine goCC ?_ ?_ <;> (intro hb; (try simp only [hSQ] at hb); try (exfalso; omega))) | fail)
  refine clV ?_
  refine vc_mono (idxF_vc w0 _ a c ms 118 _ (fun l => !decide (Ahd l.own o)) rfl h (fun l hl => sfind1_vc w0 _ _ o ho l (h.ok l hl).own)) ?_
  rintro v L' ⟨rfl, rfl⟩
  unfold idxI
  rw [idx_fd]
  by_cases hlt : fdC (lls ms) o < ms.length
  · rw [if_pos hlt]
    have he := h.e0 _ hlt
    have hpos := h.pos _ hlt
    have hol := (h.at _ hlt).own
    have hq : (∃ hk : fdC (lls ms) o < (lls ms).length, (lls ms)[fdC (lls ms) o].1 = o) ↔ ms[fdC (lls ms) o].own = o := by
      constructor
      · rintro ⟨hk, e⟩
        rw [List.getElem_map] at e
        exact e
      · intro e
        exact ⟨by rw [List.length_map]; exact hlt, by rw [List.getElem_map]; exact e⟩
    have hisq : isC (lls ms) o = decide (ms[fdC (lls ms) o].own = o) := by unfold isC; exact decide_eq_decide.2 hq
    rw [hisq]
    clear hisq hq
    generalize ms[fdC (lls ms) o].own = q at *
    generalize fdC (lls ms) o = k at *
    repeat' (first | (refine go1 ?_; intros) | (refine goCC ?_ ?_ <;> (intro hb; (try simp only [hSQ] at hb); try (exfalso; omega))) | fail)
    all_goals first | (exfalso; omega) | skip
    (refine v_draw0 [] (by kernel_rfl) ?_ <;> (refine tA 0 ?_) <;> (refine tA 1 ?_) <;> (refine tA 2 ?_) <;> (refine tA 3 ?_) <;> (refine tA 4 ?_) <;> (refine tA 5 ?_) <;> (refine tA 6 ?_) <;> (refine tA 7 ?_) <;> (refine tA 8 ?_) <;> (refine tA 9 ?_) <;> (refine tA 10 ?_) <;> (refine tA 11 ?_) <;> (refine tA 12 ?_) <;> (refine tA 13 ?_) <;> (refine va_done (by kernel_rfl) ?_))
    repeat' (first | (refine go1 ?_; intros) | (refine goCC ?_ ?_ <;> (intro hb; (try simp only [hSQ] at hb); try (exfalso; omega))) | fail)
    exact ⟨_, sei _ _ L, rfl, rfl⟩
  · rw [if_neg hlt]
    have hq : isC (lls ms) o = false := decide_eq_false (fun ⟨hk, _⟩ => hlt (by rwa [List.length_map] at hk))
    rw [hq, show fdC (lls ms) o = ms.length by omega]
    repeat' (first | (refine go1 ?_; intros) | (refine goCC ?_ ?_ <;> (intro hb; (try simp only [hSQ] at hb); try (exfalso; omega))) | fail)
    exact ⟨_, sei _ _ L, rfl, rfl⟩
theorem lineC_lls {ms : List Ln} (hs : Srt2 (lls ms)) {o : List UInt8} (h : isC (lls ms) o = true) : ∃ hk : fdC (lls ms) o < ms.length, ms[fdC (lls ms) o].own = o ∧ ms[fdC (lls ms) o].xs = lineC (lls ms) o := by
  obtain ⟨hk, e⟩ := of_decide_eq_true h
  have hk' : fdC (lls ms) o < ms.length := by rwa [List.length_map] at hk
  refine ⟨hk', ?_, ?_⟩
  · rw [List.getElem_map] at e
    exact e
  · rw [lineC_some hs hk e, List.getElem_map]
    rfl
theorem lineC_nil {ms : List Ln} (h : LsOk ms) (hs : Srt2 (lls ms)) {o : List UInt8} (ho : o.length = 32) (hi : isC (lls ms) o = false) : lineC (lls ms) o = [] ∧ ∀ j (hj : j < ms.length), ms[j].own ≠ o := by
  have hk' : ∀ hk : fdC (lls ms) o < (lls ms).length, (lls ms)[fdC (lls ms) o].1 ≠ o := fun a b => of_decide_eq_false hi ⟨a, b⟩
  have := (fdC_no hs h.k2 ho hk').2
  refine ⟨lineC_none this, fun j hj e => this j (by rwa [List.length_map]) ?_⟩
  rw [List.getElem_map]
  exact e
theorem fill_line {o : List UInt8} (ho : o.length = 32) : fillS [(0, 32), (32, 1)] (bvs (List.replicate 32 0) ++ [.slice none 0 0]) [(0, bvs o)] = (Ln.mk o none 0 []).cells := by
  simp [fillS, splice, ho, Ln.cells, List.drop_append, List.drop_of_length_le, List.take_append]
theorem sline_vc (w0 : World) (L : List Asn) (gp : Nat) (a : Option Addr) (c : Nat) (ms : List Ln) (o : List UInt8) (h : LsOk ms) (hs : Srt2 (lls ms)) (ho : o.length = 32) {i : Nat} [hp : HasBlk L gp i 78 [.slice a ms.length c]] [hr : RdC w0 L a (lnc ms)] :
    VC Tryz.prog w0 45 [.pointer (some ⟨gp, 0, none⟩), .agg (bvs o).toArray] L fun v L' => ∃ l : Ln, v = .agg l.cells.toArray ∧ l.own = o ∧ l.xs = lineC (lls ms) o ∧ (l ∈ ms ∨ l.a = none ∧ l.xs = []) ∧ L' = L := by
  refine vc_ent ?_
  refine vc_in rfl rfl ?_
  repeat' (first | (refine go1 ?_; intros) | (refine goCC ?_ ?_ <;> (intro hb; (try simp only [hSQ] at hb); try (exfalso; omega))) | fail)
  refine clV ?_
  refine vc_mono (sfind_vc w0 _ gp a c ms o h ho) ?_
  rintro v L' ⟨rfl, rfl⟩
  cases hi : isC (lls ms) o
  · repeat' (first | (refine goB ?_; intros) | (refine goCC ?_ ?_ <;> (intro hb; (try simp only [hSQ] at hb); try (exfalso; omega))) | fail)
    have hzl : (Ln.mk o none 0 []).cells.length = 33 := Ln.len ho
    haveI hzo : OC (Ln.mk o none 0 []).cells := oc_ln _
    refine vl_q rfl rfl rfl rfl (vq_buildP (cs := (Ln.mk o none 0 []).cells) rfl (by simp [okS, Value.cells, ho]) (fill_line ho)) ?_
    generalize hzc : (Ln.mk o none 0 []).cells = zc at *
    repeat' (first | (refine go1 ?_; intros) | (refine goCC ?_ ?_ <;> (intro hb; (try simp only [hSQ] at hb); try (exfalso; omega))) | fail)
    exact ⟨_, sei _ _ L, ⟨o, none, 0, []⟩, by rw [hzc], rfl, (lineC_nil h hs ho hi).1.symm, .inr ⟨rfl, rfl⟩, rfl⟩
  · obtain ⟨hk, e1, e2⟩ := lineC_lls hs hi
    have he := h.e _ hk
    have hpos := h.pos _ hk
    have hcl := Ln.len (h.at _ hk).own
    haveI hoc : OC ms[fdC (lls ms) o].cells := oc_ln _
    obtain ⟨l, hl⟩ : ∃ l, l = ms[fdC (lls ms) o] := ⟨_, rfl⟩
    rw [← hl] at he hcl hoc e1 e2
    have hmem : l ∈ ms := by rw [hl]; exact List.getElem_mem hk
    generalize fdC (lls ms) o = k at *
    obtain ⟨cs, hcs⟩ : ∃ cs, cs = l.cells := ⟨_, rfl⟩
    rw [← hcs] at he hcl hoc
    repeat' (first | (refine go1 ?_; intros) | (refine goCC ?_ ?_ <;> (intro hb; (try simp only [hSQ] at hb); try (exfalso; omega))) | fail)
    exact ⟨_, sei _ _ L, l, by rw [hcs], e1, e2, .inl hmem, rfl⟩
/-- All lines but a sender's. -/
def offL (ms : List Ln) (o : List UInt8) : List Ln := ms.filter fun l => decide (l.own ≠ o)
theorem offL_no {ms : List Ln} {o : List UInt8} (h : ∀ j (hj : j < ms.length), ms[j].own ≠ o) : offL ms o = ms := by
  unfold offL
  rw [List.filter_eq_self]
  intro l hl
  obtain ⟨j, hj, rfl⟩ := List.getElem_of_mem hl
  exact decide_eq_true (h j hj)
theorem offL_is {ms : List Ln} (hs : Srt2 (lls ms)) {k : Nat} (hk : k < ms.length) : offL ms ms[k].own = ms.take k ++ ms.drop (k + 1) := by
  have key : ∀ j (hj : j < ms.length), j ≠ k → ms[j].own ≠ ms[k].own := fun j hj hne e => hne (srt2_inj hs (i := j) (j := k) (by rwa [List.length_map]) (by rwa [List.length_map]) (by rw [List.getElem_map, List.getElem_map]; exact e))
  have e : ms = ms.take k ++ (ms[k] :: ms.drop (k + 1)) := by rw [← List.drop_eq_getElem_cons hk, List.take_append_drop]
  obtain ⟨o, ho⟩ : ∃ o, o = ms[k].own := ⟨_, rfl⟩
  rw [← ho]
  unfold offL
  conv => lhs; rw [e]
  rw [List.filter_append, List.filter_cons_of_neg (by rw [ho]; simp), List.filter_eq_self.2, List.filter_eq_self.2]
  · intro l hl
    obtain ⟨j, hj, rfl⟩ := List.getElem_of_mem hl
    rw [List.length_drop] at hj
    rw [List.getElem_drop, ho]
    exact decide_eq_true (key _ (by omega) (by omega))
  · intro l hl
    obtain ⟨j, hj, rfl⟩ := List.getElem_of_mem hl
    rw [List.length_take] at hj
    rw [List.getElem_take, ho]
    exact decide_eq_true (key _ (by omega) (by omega))
theorem lls_take (ms : List Ln) (k : Nat) : lls (ms.take k) = (lls ms).take k := List.map_take
theorem lls_drop (ms : List Ln) (k : Nat) : lls (ms.drop k) = (lls ms).drop k := List.map_drop
theorem lls_app (ms ns : List Ln) : lls (ms ++ ns) = lls ms ++ lls ns := List.map_append
theorem set_perm {ms : List Ln} {k : Nat} (hk : k < ms.length) (l : Ln) : (l :: (ms.take k ++ ms.drop (k + 1))).Perm (ms.set k l) := by
  rw [List.set_eq_take_append_cons_drop, if_pos hk]
  exact List.perm_middle.symm
theorem ins_perm (ms : List Ln) (k : Nat) (l : Ln) : (l :: ms).Perm (ms.take k ++ l :: ms.drop k) := by
  have := (List.perm_middle (a := l) (l₁ := ms.take k) (l₂ := ms.drop k)).symm
  rwa [List.take_append_drop] at this
/-- What holds of a shard under way. -/
abbrev shP (gp : Nat) (a : Option Addr) (c : Nat) (ms : List Ln) (L : List Asn) : List Asn := partB gp a c ms :: ownLs a c ms :: tsA ms :: L
theorem sset_vc (w0 : World) (L : List Asn) (gp : Nat) (a : Option Addr) (c : Nat) (ms : List Ln) (l : Ln) (h : LsOk ms) (hs : Srt2 (lls ms)) (hl : l.ok) (h5 : ms.length ≤ 999999) :
    VC Tryz.prog w0 36 [.pointer (some ⟨gp, 0, none⟩), .agg l.cells.toArray] (partB gp a c ms :: ownLs a c ms :: ownTs l.a l.c l.xs :: tsA (offL ms l.own) :: L) fun v L' => ∃ a' c' ms', lls ms' = setC (lls ms) l.own l.xs ∧ LsOk ms' ∧ L' = shP gp a' c' ms' L := by
  have ho := hl.own
  have hlen := h.len
  have f0 := Ln.f0 ho
  have f1 := Ln.f1 ho
  have hcl := Ln.len ho
  have hcat := lls_app
  have hle := fdC_le (lls ms) l.own
  rw [List.length_map] at hle
  have hwide := h.wide
  have hll : (lls ms).length = ms.length := List.length_map _
  haveI hoc : OC l.cells := oc_ln _
  obtain ⟨cs, hcs⟩ : ∃ cs, cs = l.cells := ⟨_, rfl⟩
  rw [← hcs] at f0 f1 hcl hoc ⊢
  refine vc_ent ?_
  refine vc_in rfl rfl ?_
  repeat' (first | (refine go1 ?_; intros) | (refine goCC ?_ ?_ <;> (intro hb; (try simp only [hSQ] at hb); try (exfalso; omega))) | fail)
  refine vl_o rfl (vo_callM rfl rfl rfl ?_)
  refine vc_mono (sfind_vc w0 _ gp a c ms l.own h ho) ?_
  rintro v L' ⟨rfl, rfl⟩
  rename_i g3
  cases hi : isC (lls ms) l.own
  · obtain ⟨_, hno⟩ := lineC_nil h hs ho hi
    have hno2 : ∀ hk : fdC (lls ms) l.own < (lls ms).length, (lls ms)[fdC (lls ms) l.own].1 ≠ l.own := fun a b => of_decide_eq_false hi ⟨a, b⟩
    rw [offL_no hno]
    by_cases hx : l.xs = []
    · have e := setC_no0 hs h.k2 ho hno2
      have hx0 : l.xs.length = 0 := by rw [hx]; rfl
      repeat' (first | (refine go1 ?_; intros) | (refine goCC ?_ ?_ <;> (intro hb; (try simp only [hSQ] at hb); try (exfalso; omega))) | fail)
      all_goals first | (exfalso; omega) | skip
      exact ⟨shP gp a c ms L, sei _ _ _, a, c, ms, by rw [hx]; exact e, h, rfl⟩
    · have hx0 : 0 < l.xs.length := Nat.pos_of_ne_zero (fun e => hx (List.eq_nil_of_length_eq_zero e))
      have e := setC_no1 hs h.k2 ho hno2 hx
      obtain ⟨k, hk⟩ : ∃ k, k = fdC (lls ms) l.own := ⟨_, rfl⟩
      rw [← hk] at hle e ⊢
      repeat' (first | (refine go1 ?_; intros) | (refine goCC ?_ ?_ <;> (intro hb; (try simp only [hSQ] at hb); try (exfalso; omega))) | fail)
      all_goals first | (exfalso; omega) | skip
      refine v_draw0 [9, 13] (by kernel_rfl) ?_
      refine va_takeP 0 rfl rfl rfl rfl (by kernel_rfl) (fun _ _ _ _ h => h) (.inl entD) (by exact qX2) ?_
      refine tA 1 ?_
      refine tA 2 ?_
      refine tA 3 ?_
      refine tA 4 ?_
      refine tA 5 ?_
      refine tA 6 ?_
      refine tA 7 ?_
      refine va_one 8 (by kernel_rfl) rfl rfl ?_
      (refine goV ?_; intros)
      refine ⟨.inr (sei _ _ _), ?_⟩
      refine va_one 9 (by kernel_rfl) rfl rfl ?_
      first | refine vo_call rfl rfl ?_ | refine vo_callV rfl rfl rfl ?_
      rename_i gb
      refine vc_pre (sei w0 _ (own 69 33 (some ⟨gb, 0, none⟩) 1 1 (cs ++ []) :: ownLq a c ms :: partB gp a c ms :: ownTs l.a l.c l.xs :: tsA ms :: L)) ?_
      rw [List.append_nil, hcs]
      refine vc_mono (lnins_vc w0 _ a c ms k gb l rfl hle hwide (Ln.len ho) hlen) ?_
      rintro v L' ⟨a2, c2, rfl, rfl⟩
      refine ⟨.inl (by kernel_rfl), ?_⟩
      refine tP 10 ?_
      refine tP 11 ?_
      refine tP 12 ?_
      refine va_one 13 (by kernel_rfl) rfl rfl ?_
      (refine goV ?_; intros)
      refine ⟨.inl (by kernel_rfl), ?_⟩
      refine va_done (by kernel_rfl) ?_
      skip
      repeat' (first | (refine go1 ?_; intros) | (refine goCC ?_ ?_ <;> (intro hb; (try simp only [hSQ] at hb); try (exfalso; omega))) | fail)
      rw [← lnins_len l hle]
      refine ⟨_, (sei w0 _ (ownTs l.a l.c l.xs :: tsA ms :: partB gp a2 c2 (ms.take k ++ l :: ms.drop k) :: ownLs a2 c2 (ms.take k ++ l :: ms.drop k) :: L)).trans ((se_tsA_push ms _ _ l (ins_perm ms k l)).ent w0 |>.trans (sei w0 _ (shP gp a2 c2 (ms.take k ++ l :: ms.drop k) L))), a2, c2, ms.take k ++ l :: ms.drop k, ?_, ?_, rfl⟩
      · rw [← e, lls_app, lls_take]
        show _ ++ (l.pl :: lls (ms.drop k)) = _
        rw [lls_drop]
        rfl
      · refine ⟨fun p hp => ?_, by rw [lnins_len l hle]; omega⟩
        rcases List.mem_append.1 hp with hp | hp
        · exact h.ok p (List.mem_of_mem_take hp)
        rcases List.mem_cons.1 hp with rfl | hp
        · exact hl
        · exact h.ok p (List.mem_of_mem_drop hp)
  · obtain ⟨hk, e1, _⟩ := lineC_lls hs hi
    have hkC : fdC (lls ms) l.own < (lls ms).length := by rwa [List.length_map]
    have e1C : (lls ms)[fdC (lls ms) l.own].1 = l.own := by rw [List.getElem_map]; exact e1
    have hoff := offL_is hs hk
    rw [e1] at hoff
    rw [hoff]
    by_cases hx : l.xs = []
    · have e := setC_is0 hs hkC e1C
      have hx0 : l.xs.length = 0 := by rw [hx]; rfl
      obtain ⟨k, hk'⟩ : ∃ k, k = fdC (lls ms) l.own := ⟨_, rfl⟩
      rw [← hk'] at hle e hk ⊢
      repeat' (first | (refine go1 ?_; intros) | (refine goCC ?_ ?_ <;> (intro hb; (try simp only [hSQ] at hb); try (exfalso; omega))) | fail)
      all_goals first | (exfalso; omega) | skip
      refine clV ?_
      refine vc_pre (sei w0 _ (ownLq a c ms :: partB gp a c ms :: tsA (ms.take k ++ ms.drop (k + 1)) :: L)) ?_
      refine vc_mono (lndel_vc w0 _ a c ms k rfl hk hwide hlen) ?_
      rintro v L' ⟨rfl, rfl⟩
      have hml : (ms.take k ++ ms.drop (k + 1)).length = ms.length - 1 := by simp; omega
      repeat' (first | (refine go1 ?_; intros) | (refine goCC ?_ ?_ <;> (intro hb; (try simp only [hSQ] at hb); try (exfalso; omega))) | fail)
      refine ⟨shP gp a c (ms.take k ++ ms.drop (k + 1)) L, ?_, a, c, ms.take k ++ ms.drop (k + 1), ?_, ?_, rfl⟩
      · unfold shP partB
        rw [hml]
        exact sei _ _ _
      · rw [hx, ← e, lls_app, lls_take, lls_drop]
      · refine h.sub (fun p hp => ?_) (by rw [hml]; omega)
        rcases List.mem_append.1 hp with hp | hp
        · exact List.mem_of_mem_take hp
        · exact List.mem_of_mem_drop hp
    · have hx0 : 0 < l.xs.length := Nat.pos_of_ne_zero (fun e => hx (List.eq_nil_of_length_eq_zero e))
      have e := setC_is1 hs hkC e1C hx
      have hpos := h.pos _ hk
      obtain ⟨k, hk'⟩ : ∃ k, k = fdC (lls ms) l.own := ⟨_, rfl⟩
      rw [← hk'] at hle e hk ⊢
      repeat' (first | (refine go1 ?_; intros) | (refine goCC ?_ ?_ <;> (intro hb; (try simp only [hSQ] at hb); try (exfalso; omega))) | fail)
      all_goals first | (exfalso; omega) | skip
      refine v_draw0 [8] (by kernel_rfl) ?_
      refine tA 0 ?_
      refine tA 1 ?_
      refine tA 2 ?_
      refine tA 3 ?_
      refine tA 4 ?_
      refine tA 5 ?_
      refine tA 6 ?_
      refine tA 7 ?_
      refine va_one 8 (by kernel_rfl) rfl rfl ?_
      refine vo_stO (vs := cs) (xs' := lnc (ms.set k l)) rfl rfl rfl hcl (by rw [hcl]; exact hwide.mul k hk) (by rw [hcs]; exact hwide.spl (Ln.len ho) k hk) ?_
      refine ⟨.inl (by kernel_rfl), ?_⟩
      refine va_done (by kernel_rfl) ?_
      skip
      repeat' (first | (refine go1 ?_; intros) | (refine goCC ?_ ?_ <;> (intro hb; (try simp only [hSQ] at hb); try (exfalso; omega))) | fail)
      have hml : (ms.set k l).length = ms.length := List.length_set ..
      refine ⟨shP gp a c (ms.set k l) L, ?_, a, c, ms.set k l, ?_, ?_, rfl⟩
      · unfold shP partB ownLs
        rw [hml]
        exact (sei w0 _ (ownTs l.a l.c l.xs :: tsA (ms.take k ++ ms.drop (k + 1)) :: blk gp 78 [.slice a ms.length c] :: own 69 33 a ms.length c (lnc (ms.set k l)) :: L)).trans ((se_tsA_push _ _ _ l (set_perm hk l)).ent w0 |>.trans (sei w0 _ _))
      · rw [← e, lls, List.map_set]
        rfl
      · refine ⟨fun p hp => ?_, by rw [hml]; exact hlen⟩
        rcases List.mem_or_eq_of_mem_set hp with hp | rfl
        · exact h.ok p hp
        · exact hl
end Go.Proofs.YtcpndfffdbogbaaGreatDoor
namespace Go.Proofs.YtcpndfffdbogbaaGreatDoor
open Go Go.RowKit
open Classical

theorem lastFee_at {xs : List Tx} (h : 0 < xs.length) : lastFee xs = (xs[xs.length - 1]'(by omega)).fee := by
  unfold lastFee
  rw [List.getLast?_eq_getElem?, List.getElem?_eq_getElem (by omega)]
  rfl
theorem worstG_ms {o : List UInt8} {ms : List Ln} {i : Nat} (hi : i < ms.length) (w : Int) (least : Nat) : worstG o ((lls ms).drop i) i w least = if ms[i].own ≠ o ∧ lastFee ms[i].xs < least then worstG o ((lls ms).drop (i + 1)) (i + 1) i (lastFee ms[i].xs) else worstG o ((lls ms).drop (i + 1)) (i + 1) w least := by
  have h := worstG_step (o := o) (cs := lls ms) (i := i) (by rwa [List.length_map]) w least
  rw [List.getElem_map] at h
  exact h
theorem worstG_end {o : List UInt8} (ms : List Ln) (w : Int) (least : Nat) : worstG o ((lls ms).drop ms.length) ms.length w least = w := by
  rw [List.drop_of_length_le (by rw [List.length_map]; exact Nat.le_refl _)]
  rfl
theorem sworst1_vc (w0 : World) (L : List Asn) (g gp : Nat) (a : Option Addr) (c : Nat) (ms : List Ln) (k : Nat) (h : LsOk ms) (hk : k < ms.length) (hne : 0 < ms[k].xs.length) {i j : Nat} [hb : HasBlk L g j 76 [.pointer (some ⟨gp, 0, none⟩)]] [hp : HasBlk L gp i 78 [.slice a ms.length c]] [hr : RdC w0 L a (lnc ms)] [hv : RdLs w0 L ms] :
    VC Tryz.prog w0 135 [.int .i64 k, .pointer (some ⟨g, 0, none⟩)] L fun v L' => v = .int .u64 (lastFee ms[k].xs : Nat) ∧ L' = L := by
  have e1 := h.e1 k hk
  have hpos := h.pos k hk
  have lok := h.at k hk
  have hlen := h.len
  have e4 := lok.ts.e4 (ms[k].xs.length - 1) (by omega)
  have hp4 := lok.ts.pos (ms[k].xs.length - 1) (by omega)
  have hll := lok.ts.len
  haveI := hv.at k hk
  rw [lastFee_at hne]
  refine vc_ent ?_
  refine vc_in rfl rfl ?_
  repeat' (first | (refine go1 ?_; intros) | (refine goCC ?_ ?_ <;> (intro hb; (try simp only [hSQ] at hb); try (exfalso; omega))) | fail)
  (refine v_draw0 [] (by kernel_rfl) ?_ <;> (refine tA 0 ?_) <;> (refine tA 1 ?_) <;> (refine tA 2 ?_) <;> (refine tA 3 ?_) <;> (refine tA 4 ?_) <;> (refine tA 5 ?_) <;> (refine tA 6 ?_) <;> (refine tA 7 ?_) <;> (refine tA 8 ?_) <;> (refine tA 9 ?_) <;> (refine tA 10 ?_) <;> (refine tA 11 ?_) <;> (refine tA 12 ?_) <;> (refine tA 13 ?_) <;> (refine tA 14 ?_) <;> (refine tA 15 ?_) <;> (refine tA 16 ?_) <;> (refine tA 17 ?_) <;> (refine tA 18 ?_) <;> (refine tA 19 ?_) <;> (refine tA 20 ?_) <;> (refine tA 21 ?_) <;> (refine tA 22 ?_) <;> (refine tA 23 ?_) <;> (refine va_done (by kernel_rfl) ?_))
  repeat' (first | (refine go1 ?_; intros) | (refine goCC ?_ ?_ <;> (intro hb; (try simp only [hSQ] at hb); try (exfalso; omega))) | fail)
  exact ⟨_, sei _ _ L, rfl, rfl⟩
/-- The one found so far and its fee. -/
def Wst (ms : List Ln) (fee : Nat) (x : Nat × Int × Nat) : Prop := x.1 ≤ ms.length ∧ ((x.2.1 = -1 ∧ x.2.2 = fee) ∨ ∃ k, ∃ hk : k < ms.length, k < x.1 ∧ x.2.1 = (k : Int) ∧ x.2.2 = lastFee ms[k].xs ∧ x.2.2 < fee)
theorem sworst_vc (w0 : World) (L : List Asn) (gp : Nat) (a : Option Addr) (c : Nat) (ms : List Ln) (x : Tx) (hx : x.ok) (h : LsOk ms) (hne : ∀ l ∈ ms, 0 < l.xs.length) [hK : RdA w0 (some ⟨0, 0, none⟩) (wds K64)] {i : Nat} [hp : HasBlk L gp i 78 [.slice a ms.length c]] [hr : RdC w0 L a (lnc ms)] [hv : RdLs w0 L ms] :
    VC Tryz.prog w0 99 [.pointer (some ⟨gp, 0, none⟩), .agg x.cells.toArray] L fun v L' => v = .int .i64 (worstC (lls ms) (fromT x) x.fee) ∧ L' = L := by
  have hlen := h.len
  have hxl := Tx.len hx
  have hx4 := Tx.f4 hx
  have hxf := hx.fee
  refine vc_ent ?_
  refine vc_in rfl rfl ?_
  repeat' (first | (refine go1 ?_; intros) | (refine goCC ?_ ?_ <;> (intro hb; (try simp only [hSQ] at hb); try (exfalso; omega))) | fail)
  refine clV ?_
  refine vc_mono (txFrom_vc w0 _ x hx) ?_
  rintro v L' ⟨rfl, rfl⟩
  rw [show sha (tagB 3 [x.pub]) = fromT x from rfl]
  have hol := fromT_len x
  generalize hoo : fromT x = o at *
  generalize hxc : x.cells = xc at *
  repeat' (first | (refine go1 ?_; intros) | (refine goCC ?_ ?_ <;> (intro hb; (try simp only [hSQ] at hb); try (exfalso; omega))) | fail)
  rename_i g1 g2 g3
  refine v_loopF (Nat × Int × Nat) [2, 3, 4, 6, 7, 17] rfl (fun s => [(18, .int .i64 s.1), (5, .int .i64 s.2.1)]) (fun M _ => M) (fun s => Wst ms x.fee s ∧ worstG o ((lls ms).drop s.1) s.1 s.2.1 s.2.2 = worstC (lls ms) o x.fee) (fun s => ms.length - s.1) (0, -1, x.fee) ⟨⟨Nat.zero_le _, .inl ⟨rfl, rfl⟩⟩, rfl⟩ (by (exact sbS)) (Ent.refl _ _) ?_
  rintro ⟨i, w, least⟩ ⟨⟨hi, hw⟩, hinv⟩
  dsimp only at hi hw hinv ⊢
  by_cases hlt : i < ms.length
  rotate_left
  · obtain rfl : i = ms.length := by omega
    rw [worstG_end] at hinv
    repeat' (first | (refine go1 ?_; intros) | (refine goCC ?_ ?_ <;> (intro hb; (try simp only [hSQ] at hb); try (exfalso; omega))) | fail)
    exact ⟨_, sei _ _ L, by rw [hinv], rfl⟩
  have hstep := worstG_ms (o := o) hlt w least
  rw [hstep] at hinv
  have e0 := h.e0 i hlt
  have hpos := h.pos i hlt
  have hol2 := (h.at i hlt).own
  have hn := hne _ (List.getElem_mem hlt)
  obtain ⟨q, hq⟩ : ∃ q, q = ms[i].own := ⟨_, rfl⟩
  rw [← hq] at e0 hol2 hinv
  have hup : Wst ms x.fee (i + 1, w, least) := ⟨by show i + 1 ≤ ms.length; omega, by
    rcases hw with e | ⟨k, hk, hki, e⟩
    · exact .inl e
    · exact .inr ⟨k, hk, by show k < i + 1; omega, e⟩⟩
  by_cases hqo : q = o
  · rw [if_neg (fun e => e.1 hqo)] at hinv
    repeat' (first | (refine go1 ?_; intros) | (refine goCC ?_ ?_ <;> (intro hb; (try simp only [hSQ] at hb); try (exfalso; omega))) | fail)
    (refine v_draw0 [] (by kernel_rfl) ?_ <;> (refine tA 0 ?_) <;> (refine tA 1 ?_) <;> (refine tA 2 ?_) <;> (refine tA 3 ?_) <;> (refine tA 4 ?_) <;> (refine tA 5 ?_) <;> (refine tA 6 ?_) <;> (refine tA 7 ?_) <;> (refine tA 8 ?_) <;> (refine tA 9 ?_) <;> (refine va_take 10 rfl rfl rfl rfl (by kernel_rfl) (fun _ _ _ _ h => h) entD (by exact qX0) ?_) <;> (refine tA 11 ?_) <;> (first | refine tG 12 ?_ | refine pG 12 ?_ | (refine va_caseG 12 rfl rfl rfl rfl rfl ?_ ?_ <;> (intro hb; (try simp only [hSQ] at hb); try (exfalso; omega)) <;> first | refine tG 12 ?_ | refine pG 12 ?_)) <;> (first | refine tG 13 ?_ | refine pG 13 ?_ | (refine va_caseG 13 rfl rfl rfl rfl rfl ?_ ?_ <;> (intro hb; (try simp only [hSQ] at hb); try (exfalso; omega)) <;> first | refine tG 13 ?_ | refine pG 13 ?_)) <;> (first | refine tG 15 ?_ | refine pG 15 ?_ | (refine va_caseG 15 rfl rfl rfl rfl rfl ?_ ?_ <;> (intro hb; (try simp only [hSQ] at hb); try (exfalso; omega)) <;> first | refine tG 15 ?_ | refine pG 15 ?_)) <;> (first | refine tG 16 ?_ | refine pG 16 ?_ | (refine va_caseG 16 rfl rfl rfl rfl rfl ?_ ?_ <;> (intro hb; (try simp only [hSQ] at hb); try (exfalso; omega)) <;> first | refine tG 16 ?_ | refine pG 16 ?_)))
    refine pG 14 ?_
    ((first | refine tG 17 ?_ | (first | refine pG 17 ?_ | refine pU 17 ?_) | (refine va_caseG 17 rfl rfl rfl rfl rfl ?_ ?_ <;> (intro hb; (try simp only [hSQ] at hb); try (exfalso; omega)) <;> first | refine tG 17 ?_ | (first | refine pG 17 ?_ | refine pU 17 ?_))) <;> (refine tA 18 ?_) <;> (refine tA 19 ?_) <;> (first | refine tG 20 ?_ | (first | refine pG 20 ?_ | refine pU 20 ?_) | (refine va_caseG 20 rfl rfl rfl rfl rfl ?_ ?_ <;> (intro hb; (try simp only [hSQ] at hb); try (exfalso; omega)) <;> first | refine tG 20 ?_ | (first | refine pG 20 ?_ | refine pU 20 ?_))) <;> (first | refine tG 21 ?_ | (first | refine pG 21 ?_ | refine pU 21 ?_) | (refine va_caseG 21 rfl rfl rfl rfl rfl ?_ ?_ <;> (intro hb; (try simp only [hSQ] at hb); try (exfalso; omega)) <;> first | refine tG 21 ?_ | (first | refine pG 21 ?_ | refine pU 21 ?_))) <;> (first | refine tG 22 ?_ | (first | refine pG 22 ?_ | refine pU 22 ?_) | (refine va_caseG 22 rfl rfl rfl rfl rfl ?_ ?_ <;> (intro hb; (try simp only [hSQ] at hb); try (exfalso; omega)) <;> first | refine tG 22 ?_ | (first | refine pG 22 ?_ | refine pU 22 ?_))) <;> (first | refine tG 23 ?_ | (first | refine pG 23 ?_ | refine pU 23 ?_) | (refine va_caseG 23 rfl rfl rfl rfl rfl ?_ ?_ <;> (intro hb; (try simp only [hSQ] at hb); try (exfalso; omega)) <;> first | refine tG 23 ?_ | (first | refine pG 23 ?_ | refine pU 23 ?_))) <;> (first | refine tG 24 ?_ | (first | refine pG 24 ?_ | refine pU 24 ?_) | (refine va_caseG 24 rfl rfl rfl rfl rfl ?_ ?_ <;> (intro hb; (try simp only [hSQ] at hb); try (exfalso; omega)) <;> first | refine tG 24 ?_ | (first | refine pG 24 ?_ | refine pU 24 ?_))) <;> (first | refine tG 26 ?_ | (first | refine pG 26 ?_ | refine pU 26 ?_) | (refine va_caseG 26 rfl rfl rfl rfl rfl ?_ ?_ <;> (intro hb; (try simp only [hSQ] at hb); try (exfalso; omega)) <;> first | refine tG 26 ?_ | (first | refine pG 26 ?_ | refine pU 26 ?_))) <;> (first | refine tG 27 ?_ | (first | refine pG 27 ?_ | refine pU 27 ?_) | (refine va_caseG 27 rfl rfl rfl rfl rfl ?_ ?_ <;> (intro hb; (try simp only [hSQ] at hb); try (exfalso; omega)) <;> first | refine tG 27 ?_ | (first | refine pG 27 ?_ | refine pU 27 ?_))))
    refine pU 25 ?_
    skip
    refine pU 28 ?_
    ((first | refine tG 29 ?_ | (first | refine pG 29 ?_ | refine pU 29 ?_) | (refine va_caseG 29 rfl rfl rfl rfl rfl ?_ ?_ <;> (intro hb; (try simp only [hSQ] at hb); try (exfalso; omega)) <;> first | refine tG 29 ?_ | (first | refine pG 29 ?_ | refine pU 29 ?_))) <;> (first | refine tG 30 ?_ | (first | refine pG 30 ?_ | refine pU 30 ?_) | (refine va_caseG 30 rfl rfl rfl rfl rfl ?_ ?_ <;> (intro hb; (try simp only [hSQ] at hb); try (exfalso; omega)) <;> first | refine tG 30 ?_ | (first | refine pG 30 ?_ | refine pU 30 ?_))) <;> (refine tA 31 ?_) <;> (refine va_done (by kernel_rfl) ?_))
    repeat' (first | (refine go1 ?_; intros) | (refine goCC ?_ ?_ <;> (intro hb; (try simp only [hSQ] at hb); try (exfalso; omega))) | fail)
    refine ⟨rfl, (i + 1, w, least), ⟨hup, hinv⟩, by dsimp only; omega, by (exact sbS), sei _ _ _⟩
  have hup2 : lastFee ms[i].xs < x.fee → Wst ms x.fee (i + 1, (i : Int), lastFee ms[i].xs) := fun hf => ⟨by show i + 1 ≤ ms.length; omega, .inr ⟨i, hlt, by show i < i + 1; omega, rfl, rfl, hf⟩⟩
  by_cases hlf : lastFee ms[i].xs < x.fee
  rotate_left
  · have hnl : ¬ (q ≠ o ∧ lastFee ms[i].xs < least) := fun e => by
      rcases hw with ⟨_, e2⟩ | ⟨k, hk, _, _, _, e2⟩ <;> omega
    rw [if_neg hnl] at hinv
    repeat' (first | (refine go1 ?_; intros) | (refine goCC ?_ ?_ <;> (intro hb; (try simp only [hSQ] at hb); try (exfalso; omega))) | fail)
    (refine v_draw0 [] (by kernel_rfl) ?_ <;> (refine tA 0 ?_) <;> (refine tA 1 ?_) <;> (refine tA 2 ?_) <;> (refine tA 3 ?_) <;> (refine tA 4 ?_) <;> (refine tA 5 ?_) <;> (refine tA 6 ?_) <;> (refine tA 7 ?_) <;> (refine tA 8 ?_) <;> (refine tA 9 ?_) <;> (refine va_take 10 rfl rfl rfl rfl (by kernel_rfl) (fun _ _ _ _ h => h) entD (by exact qX0) ?_) <;> (refine tA 11 ?_) <;> (first | refine tG 12 ?_ | refine pG 12 ?_ | (refine va_caseG 12 rfl rfl rfl rfl rfl ?_ ?_ <;> (intro hb; (try simp only [hSQ] at hb); try (exfalso; omega)) <;> first | refine tG 12 ?_ | refine pG 12 ?_)) <;> (first | refine tG 13 ?_ | refine pG 13 ?_ | (refine va_caseG 13 rfl rfl rfl rfl rfl ?_ ?_ <;> (intro hb; (try simp only [hSQ] at hb); try (exfalso; omega)) <;> first | refine tG 13 ?_ | refine pG 13 ?_)) <;> (first | refine tG 15 ?_ | refine pG 15 ?_ | (refine va_caseG 15 rfl rfl rfl rfl rfl ?_ ?_ <;> (intro hb; (try simp only [hSQ] at hb); try (exfalso; omega)) <;> first | refine tG 15 ?_ | refine pG 15 ?_)) <;> (first | refine tG 16 ?_ | refine pG 16 ?_ | (refine va_caseG 16 rfl rfl rfl rfl rfl ?_ ?_ <;> (intro hb; (try simp only [hSQ] at hb); try (exfalso; omega)) <;> first | refine tG 16 ?_ | refine pG 16 ?_)))
    first | refine va_oneG 14 (by kernel_rfl) rfl rfl rfl rfl rfl rfl (vo_call rfl rfl ?_) | refine va_oneG 14 (by kernel_rfl) rfl rfl rfl rfl rfl rfl (vo_callV rfl rfl rfl ?_)
    refine vc_mono (sworst1_vc w0 _ _ gp a c ms i h hlt hn) ?_
    rintro v L' ⟨rfl, rfl⟩
    generalize lastFee ms[i].xs = lf at *
    refine ⟨.inr entD, ?_⟩
    ((first | refine tG 17 ?_ | (first | refine pG 17 ?_ | refine pU 17 ?_) | (refine va_caseG 17 rfl rfl rfl rfl rfl ?_ ?_ <;> (intro hb; (try simp only [hSQ] at hb); try (exfalso; omega)) <;> first | refine tG 17 ?_ | (first | refine pG 17 ?_ | refine pU 17 ?_))) <;> (refine tA 18 ?_) <;> (refine tA 19 ?_) <;> (first | refine tG 20 ?_ | (first | refine pG 20 ?_ | refine pU 20 ?_) | (refine va_caseG 20 rfl rfl rfl rfl rfl ?_ ?_ <;> (intro hb; (try simp only [hSQ] at hb); try (exfalso; omega)) <;> first | refine tG 20 ?_ | (first | refine pG 20 ?_ | refine pU 20 ?_))) <;> (first | refine tG 21 ?_ | (first | refine pG 21 ?_ | refine pU 21 ?_) | (refine va_caseG 21 rfl rfl rfl rfl rfl ?_ ?_ <;> (intro hb; (try simp only [hSQ] at hb); try (exfalso; omega)) <;> first | refine tG 21 ?_ | (first | refine pG 21 ?_ | refine pU 21 ?_))) <;> (first | refine tG 22 ?_ | (first | refine pG 22 ?_ | refine pU 22 ?_) | (refine va_caseG 22 rfl rfl rfl rfl rfl ?_ ?_ <;> (intro hb; (try simp only [hSQ] at hb); try (exfalso; omega)) <;> first | refine tG 22 ?_ | (first | refine pG 22 ?_ | refine pU 22 ?_))) <;> (first | refine tG 23 ?_ | (first | refine pG 23 ?_ | refine pU 23 ?_) | (refine va_caseG 23 rfl rfl rfl rfl rfl ?_ ?_ <;> (intro hb; (try simp only [hSQ] at hb); try (exfalso; omega)) <;> first | refine tG 23 ?_ | (first | refine pG 23 ?_ | refine pU 23 ?_))) <;> (first | refine tG 24 ?_ | (first | refine pG 24 ?_ | refine pU 24 ?_) | (refine va_caseG 24 rfl rfl rfl rfl rfl ?_ ?_ <;> (intro hb; (try simp only [hSQ] at hb); try (exfalso; omega)) <;> first | refine tG 24 ?_ | (first | refine pG 24 ?_ | refine pU 24 ?_))) <;> (first | refine tG 26 ?_ | (first | refine pG 26 ?_ | refine pU 26 ?_) | (refine va_caseG 26 rfl rfl rfl rfl rfl ?_ ?_ <;> (intro hb; (try simp only [hSQ] at hb); try (exfalso; omega)) <;> first | refine tG 26 ?_ | (first | refine pG 26 ?_ | refine pU 26 ?_))) <;> (first | refine tG 27 ?_ | (first | refine pG 27 ?_ | refine pU 27 ?_) | (refine va_caseG 27 rfl rfl rfl rfl rfl ?_ ?_ <;> (intro hb; (try simp only [hSQ] at hb); try (exfalso; omega)) <;> first | refine tG 27 ?_ | (first | refine pG 27 ?_ | refine pU 27 ?_))))
    refine pU 25 ?_
    skip
    refine pU 28 ?_
    ((first | refine tG 29 ?_ | (first | refine pG 29 ?_ | refine pU 29 ?_) | (refine va_caseG 29 rfl rfl rfl rfl rfl ?_ ?_ <;> (intro hb; (try simp only [hSQ] at hb); try (exfalso; omega)) <;> first | refine tG 29 ?_ | (first | refine pG 29 ?_ | refine pU 29 ?_))) <;> (first | refine tG 30 ?_ | (first | refine pG 30 ?_ | refine pU 30 ?_) | (refine va_caseG 30 rfl rfl rfl rfl rfl ?_ ?_ <;> (intro hb; (try simp only [hSQ] at hb); try (exfalso; omega)) <;> first | refine tG 30 ?_ | (first | refine pG 30 ?_ | refine pU 30 ?_))) <;> (refine tA 31 ?_) <;> (refine va_done (by kernel_rfl) ?_))
    repeat' (first | (refine go1 ?_; intros) | (refine goCC ?_ ?_ <;> (intro hb; (try simp only [hSQ] at hb); try (exfalso; omega))) | fail)
    refine ⟨rfl, (i + 1, w, least), ⟨hup, hinv⟩, by dsimp only; omega, by (exact sbS), sei _ _ _⟩
  have hup3 := hup2 hlf
  rcases hw with ⟨rfl, rfl⟩ | ⟨k, hk, hki, rfl, rfl, hkf⟩
  · rw [if_pos ⟨hqo, hlf⟩] at hinv
    repeat' (first | (refine go1 ?_; intros) | (refine goCC ?_ ?_ <;> (intro hb; (try simp only [hSQ] at hb); try (exfalso; omega))) | fail)
    (refine v_draw0 [] (by kernel_rfl) ?_ <;> (refine tA 0 ?_) <;> (refine tA 1 ?_) <;> (refine tA 2 ?_) <;> (refine tA 3 ?_) <;> (refine tA 4 ?_) <;> (refine tA 5 ?_) <;> (refine tA 6 ?_) <;> (refine tA 7 ?_) <;> (refine tA 8 ?_) <;> (refine tA 9 ?_) <;> (refine va_take 10 rfl rfl rfl rfl (by kernel_rfl) (fun _ _ _ _ h => h) entD (by exact qX0) ?_) <;> (refine tA 11 ?_) <;> (first | refine tG 12 ?_ | refine pG 12 ?_ | (refine va_caseG 12 rfl rfl rfl rfl rfl ?_ ?_ <;> (intro hb; (try simp only [hSQ] at hb); try (exfalso; omega)) <;> first | refine tG 12 ?_ | refine pG 12 ?_)) <;> (first | refine tG 13 ?_ | refine pG 13 ?_ | (refine va_caseG 13 rfl rfl rfl rfl rfl ?_ ?_ <;> (intro hb; (try simp only [hSQ] at hb); try (exfalso; omega)) <;> first | refine tG 13 ?_ | refine pG 13 ?_)) <;> (first | refine tG 15 ?_ | refine pG 15 ?_ | (refine va_caseG 15 rfl rfl rfl rfl rfl ?_ ?_ <;> (intro hb; (try simp only [hSQ] at hb); try (exfalso; omega)) <;> first | refine tG 15 ?_ | refine pG 15 ?_)) <;> (first | refine tG 16 ?_ | refine pG 16 ?_ | (refine va_caseG 16 rfl rfl rfl rfl rfl ?_ ?_ <;> (intro hb; (try simp only [hSQ] at hb); try (exfalso; omega)) <;> first | refine tG 16 ?_ | refine pG 16 ?_)))
    first | refine va_oneG 14 (by kernel_rfl) rfl rfl rfl rfl rfl rfl (vo_call rfl rfl ?_) | refine va_oneG 14 (by kernel_rfl) rfl rfl rfl rfl rfl rfl (vo_callV rfl rfl rfl ?_)
    refine vc_mono (sworst1_vc w0 _ _ gp a c ms i h hlt hn) ?_
    rintro v L' ⟨rfl, rfl⟩
    generalize lastFee ms[i].xs = lf at *
    refine ⟨.inr entD, ?_⟩
    ((first | refine tG 17 ?_ | refine pG 17 ?_ | (refine va_caseG 17 rfl rfl rfl rfl rfl ?_ ?_ <;> (intro hb; (try simp only [hSQ] at hb); try (exfalso; omega)) <;> first | refine tG 17 ?_ | refine pG 17 ?_)) <;> (refine tA 18 ?_) <;> (refine tA 19 ?_) <;> (first | refine tG 20 ?_ | refine pG 20 ?_ | (refine va_caseG 20 rfl rfl rfl rfl rfl ?_ ?_ <;> (intro hb; (try simp only [hSQ] at hb); try (exfalso; omega)) <;> first | refine tG 20 ?_ | refine pG 20 ?_)) <;> (first | refine tG 21 ?_ | refine pG 21 ?_ | (refine va_caseG 21 rfl rfl rfl rfl rfl ?_ ?_ <;> (intro hb; (try simp only [hSQ] at hb); try (exfalso; omega)) <;> first | refine tG 21 ?_ | refine pG 21 ?_)) <;> (first | refine tG 22 ?_ | refine pG 22 ?_ | (refine va_caseG 22 rfl rfl rfl rfl rfl ?_ ?_ <;> (intro hb; (try simp only [hSQ] at hb); try (exfalso; omega)) <;> first | refine tG 22 ?_ | refine pG 22 ?_)) <;> (first | refine tG 23 ?_ | refine pG 23 ?_ | (refine va_caseG 23 rfl rfl rfl rfl rfl ?_ ?_ <;> (intro hb; (try simp only [hSQ] at hb); try (exfalso; omega)) <;> first | refine tG 23 ?_ | refine pG 23 ?_)) <;> (first | refine tG 24 ?_ | refine pG 24 ?_ | (refine va_caseG 24 rfl rfl rfl rfl rfl ?_ ?_ <;> (intro hb; (try simp only [hSQ] at hb); try (exfalso; omega)) <;> first | refine tG 24 ?_ | refine pG 24 ?_)) <;> (first | refine tG 26 ?_ | refine pG 26 ?_ | (refine va_caseG 26 rfl rfl rfl rfl rfl ?_ ?_ <;> (intro hb; (try simp only [hSQ] at hb); try (exfalso; omega)) <;> first | refine tG 26 ?_ | refine pG 26 ?_)) <;> (first | refine tG 27 ?_ | refine pG 27 ?_ | (refine va_caseG 27 rfl rfl rfl rfl rfl ?_ ?_ <;> (intro hb; (try simp only [hSQ] at hb); try (exfalso; omega)) <;> first | refine tG 27 ?_ | refine pG 27 ?_)))
    refine pG 25 ?_
    skip
    refine pG 28 ?_
    ((first | refine tG 29 ?_ | refine pG 29 ?_ | (refine va_caseG 29 rfl rfl rfl rfl rfl ?_ ?_ <;> (intro hb; (try simp only [hSQ] at hb); try (exfalso; omega)) <;> first | refine tG 29 ?_ | refine pG 29 ?_)) <;> (first | refine tG 30 ?_ | refine pG 30 ?_ | (refine va_caseG 30 rfl rfl rfl rfl rfl ?_ ?_ <;> (intro hb; (try simp only [hSQ] at hb); try (exfalso; omega)) <;> first | refine tG 30 ?_ | refine pG 30 ?_)) <;> (refine tA 31 ?_) <;> (refine va_done (by kernel_rfl) ?_))
    repeat' (first | (refine go1 ?_; intros) | (refine goCC ?_ ?_ <;> (intro hb; (try simp only [hSQ] at hb); try (exfalso; omega))) | fail)
    all_goals first | (exfalso; omega) | skip
    refine ⟨rfl, (i + 1, (i : Int), lf), ⟨hup3, hinv⟩, by dsimp only; omega, by (exact sbS), sei _ _ _⟩
  · have hn2 := hne _ (List.getElem_mem hk)
    have hC := fun L (h1 : HasBlk L g1 2 76 [.pointer (some ⟨gp, 0, none⟩)]) (j : Nat) (h2 : HasBlk L gp j 78 [.slice a ms.length c]) (h3 : RdC w0 L a (lnc ms)) (h4 : RdLs w0 L ms) => sworst1_vc w0 L g1 gp a c ms k h hk hn2
    have hC2 := fun L (h1 : HasBlk L g1 2 76 [.pointer (some ⟨gp, 0, none⟩)]) (j : Nat) (h2 : HasBlk L gp j 78 [.slice a ms.length c]) (h3 : RdC w0 L a (lnc ms)) (h4 : RdLs w0 L ms) => sworst1_vc w0 L g1 gp a c ms i h hlt hn
    repeat' (first | (refine go1 ?_; intros) | (refine goCC ?_ ?_ <;> (intro hb; (try simp only [hSQ] at hb); try (exfalso; omega))) | fail)
    (refine v_draw0 [] (by kernel_rfl) ?_ <;> (refine tA 0 ?_) <;> (refine tA 1 ?_) <;> (refine tA 2 ?_) <;> (refine tA 3 ?_) <;> (refine tA 4 ?_) <;> (refine tA 5 ?_) <;> (refine tA 6 ?_) <;> (refine tA 7 ?_) <;> (refine tA 8 ?_) <;> (refine tA 9 ?_) <;> (refine va_take 10 rfl rfl rfl rfl (by kernel_rfl) (fun _ _ _ _ h => h) entD (by exact qX0) ?_) <;> (refine tA 11 ?_) <;> (first | refine tG 12 ?_ | refine pG 12 ?_ | (refine va_caseG 12 rfl rfl rfl rfl rfl ?_ ?_ <;> (intro hb; (try simp only [hSQ] at hb); try (exfalso; omega)) <;> first | refine tG 12 ?_ | refine pG 12 ?_)) <;> (first | refine tG 13 ?_ | refine pG 13 ?_ | (refine va_caseG 13 rfl rfl rfl rfl rfl ?_ ?_ <;> (intro hb; (try simp only [hSQ] at hb); try (exfalso; omega)) <;> first | refine tG 13 ?_ | refine pG 13 ?_)) <;> (first | refine tG 15 ?_ | refine pG 15 ?_ | (refine va_caseG 15 rfl rfl rfl rfl rfl ?_ ?_ <;> (intro hb; (try simp only [hSQ] at hb); try (exfalso; omega)) <;> first | refine tG 15 ?_ | refine pG 15 ?_)) <;> (first | refine tG 16 ?_ | refine pG 16 ?_ | (refine va_caseG 16 rfl rfl rfl rfl rfl ?_ ?_ <;> (intro hb; (try simp only [hSQ] at hb); try (exfalso; omega)) <;> first | refine tG 16 ?_ | refine pG 16 ?_)))
    first | refine va_oneG 14 (by kernel_rfl) rfl rfl rfl rfl rfl rfl (vo_call rfl rfl ?_) | refine va_oneG 14 (by kernel_rfl) rfl rfl rfl rfl rfl rfl (vo_callV rfl rfl rfl ?_)
    refine vc_mono (hC2 _ inferInstance _ inferInstance inferInstance inferInstance) ?_
    rintro v L' ⟨rfl, rfl⟩
    generalize lastFee ms[i].xs = lf at *
    refine ⟨.inr entD, ?_⟩
    ((first | refine tG 17 ?_ | refine pG 17 ?_ | (refine va_caseG 17 rfl rfl rfl rfl rfl ?_ ?_ <;> (intro hb; (try simp only [hSQ] at hb); try (exfalso; omega)) <;> first | refine tG 17 ?_ | refine pG 17 ?_)) <;> (refine tA 18 ?_) <;> (refine tA 19 ?_) <;> (first | refine tG 20 ?_ | refine pG 20 ?_ | (refine va_caseG 20 rfl rfl rfl rfl rfl ?_ ?_ <;> (intro hb; (try simp only [hSQ] at hb); try (exfalso; omega)) <;> first | refine tG 20 ?_ | refine pG 20 ?_)) <;> (first | refine tG 21 ?_ | refine pG 21 ?_ | (refine va_caseG 21 rfl rfl rfl rfl rfl ?_ ?_ <;> (intro hb; (try simp only [hSQ] at hb); try (exfalso; omega)) <;> first | refine tG 21 ?_ | refine pG 21 ?_)) <;> (first | refine tG 22 ?_ | refine pG 22 ?_ | (refine va_caseG 22 rfl rfl rfl rfl rfl ?_ ?_ <;> (intro hb; (try simp only [hSQ] at hb); try (exfalso; omega)) <;> first | refine tG 22 ?_ | refine pG 22 ?_)) <;> (first | refine tG 23 ?_ | refine pG 23 ?_ | (refine va_caseG 23 rfl rfl rfl rfl rfl ?_ ?_ <;> (intro hb; (try simp only [hSQ] at hb); try (exfalso; omega)) <;> first | refine tG 23 ?_ | refine pG 23 ?_)) <;> (first | refine tG 24 ?_ | refine pG 24 ?_ | (refine va_caseG 24 rfl rfl rfl rfl rfl ?_ ?_ <;> (intro hb; (try simp only [hSQ] at hb); try (exfalso; omega)) <;> first | refine tG 24 ?_ | refine pG 24 ?_)) <;> (first | refine tG 26 ?_ | refine pG 26 ?_ | (refine va_caseG 26 rfl rfl rfl rfl rfl ?_ ?_ <;> (intro hb; (try simp only [hSQ] at hb); try (exfalso; omega)) <;> first | refine tG 26 ?_ | refine pG 26 ?_)) <;> (first | refine tG 27 ?_ | refine pG 27 ?_ | (refine va_caseG 27 rfl rfl rfl rfl rfl ?_ ?_ <;> (intro hb; (try simp only [hSQ] at hb); try (exfalso; omega)) <;> first | refine tG 27 ?_ | refine pG 27 ?_)))
    first | refine va_oneG 25 (by kernel_rfl) rfl rfl rfl rfl rfl rfl (vo_call rfl rfl ?_) | refine va_oneG 25 (by kernel_rfl) rfl rfl rfl rfl rfl rfl (vo_callV rfl rfl rfl ?_)
    refine vc_mono (hC2 _ inferInstance _ inferInstance inferInstance inferInstance) ?_
    rintro v L' ⟨rfl, rfl⟩
    refine ⟨.inr entD, ?_⟩
    skip
    first | refine va_oneG 28 (by kernel_rfl) rfl rfl rfl rfl rfl rfl (vo_call rfl rfl ?_) | refine va_oneG 28 (by kernel_rfl) rfl rfl rfl rfl rfl rfl (vo_callV rfl rfl rfl ?_)
    refine vc_mono (hC _ inferInstance _ inferInstance inferInstance inferInstance) ?_
    rintro v L' ⟨rfl, rfl⟩
    generalize lastFee ms[k].xs = lk at *
    refine ⟨.inr entD, ?_⟩
    ((first | refine tG 29 ?_ | refine pG 29 ?_ | (refine va_caseG 29 rfl rfl rfl rfl rfl ?_ ?_ <;> (intro hb; (try simp only [hSQ] at hb); try (exfalso; omega)) <;> first | refine tG 29 ?_ | refine pG 29 ?_)) <;> (first | refine tG 30 ?_ | refine pG 30 ?_ | (refine va_caseG 30 rfl rfl rfl rfl rfl ?_ ?_ <;> (intro hb; (try simp only [hSQ] at hb); try (exfalso; omega)) <;> first | refine tG 30 ?_ | refine pG 30 ?_)) <;> (refine tA 31 ?_) <;> (refine va_done (by kernel_rfl) ?_))
    by_cases hlt2 : lf < lk
    · rw [if_pos ⟨hqo, hlt2⟩] at hinv
      repeat' (first | (refine go1 ?_; intros) | (refine goCC ?_ ?_ <;> (intro hb; (try simp only [hSQ] at hb); try (exfalso; omega))) | fail)
      all_goals first | (exfalso; omega) | skip
      refine ⟨rfl, (i + 1, (i : Int), lf), ⟨hup3, hinv⟩, by dsimp only; omega, by (exact sbS), sei _ _ _⟩
    · rw [if_neg (fun e => hlt2 e.2)] at hinv
      repeat' (first | (refine go1 ?_; intros) | (refine goCC ?_ ?_ <;> (intro hb; (try simp only [hSQ] at hb); try (exfalso; omega))) | fail)
      all_goals first | (exfalso; omega) | skip
      refine ⟨rfl, (i + 1, (k : Int), lk), ⟨hup, hinv⟩, by dsimp only; omega, by (exact sbS), sei _ _ _⟩
end Go.Proofs.YtcpndfffdbogbaaGreatDoor
namespace Go.Proofs.YtcpndfffdbogbaaGreatDoor
open Go Go.RowKit
open Classical

/-- What is told of a shard and of transactions, with an error: their memory is new. -/
def RSub (q : List LC × List Tx × Int) (L : List Asn) (v : Value) (L' : List Asn) : Prop := ∃ a c ms b d, v = .tuple #[.agg #[.slice a ms.length c], .slice b q.2.1.length d, .int .i64 q.2.2] ∧ lls ms = q.1 ∧ LsOk ms ∧ L' = ownLs a c ms :: tsA ms :: ownTs b d q.2.1 :: L
theorem RSub.bad (w0 : World) (L : List Asn) (e : Int) {M : List Asn} (h : Ent w0 M L) : ∃ L', Ent w0 M L' ∧ RSub ([], [], e) L (.tuple #[.agg #[.slice none 0 0], .slice none 0 0, .int .i64 e]) L' :=
  ⟨_, h.trans (((se_own_nil 50 99 L).trans (se_ls_nil _)).ent w0), none, 0, [], none, 0, rfl, rfl, LsOk.nil, rfl⟩
theorem se_sublist {A B : List Asn} (h : B.Sublist A) (L : List Asn) : SE (A ++ L) (B ++ L) := by
  induction h with
  | slnil => exact SE.refl _
  | cons a _ ih => exact (se_drop _ _).trans ih
  | cons_cons a _ ih => exact SE.cons _ ih
theorem se_tsA_off (ms : List Ln) (o : List UInt8) (L : List Asn) : SE (tsA ms :: L) (tsA (offL ms o) :: L) :=
  (se_unbundle _ L).trans ((se_sublist ((List.filter_sublist (p := fun l : Ln => decide (l.own ≠ o)) (l := ms)).map _) L).trans (se_bundle _ L))
theorem se_tsA_out {ms : List Ln} (hs : Srt2 (lls ms)) {k : Nat} (hk : k < ms.length) (L : List Asn) : SE (tsA ms :: L) (ownTs ms[k].a ms[k].c ms[k].xs :: tsA (offL ms ms[k].own) :: L) := by
  have := se_tsA_pull ms L k hk
  rwa [List.eraseIdx_eq_take_drop_succ, ← offL_is hs hk] at this
theorem Ln.setTs {l : Ln} (h : l.own.length = 32) (a : Option Addr) (c : Nat) {xs : List Tx} {n : Nat} (hn : n = xs.length) : splice l.cells (0 + 32) [.slice a n c] = (Ln.mk l.own a c xs).cells := by
  subst hn
  have := splice_mid (bvs l.own) [.slice l.a l.xs.length l.c] [] [.slice a xs.length c] (0 + 32) (by simp [h]) rfl
  simpa [Ln.cells] using this
theorem setC_len {cs : List LC} (hs : Srt2 cs) (h32 : K2 cs) {o : List UInt8} (ho : o.length = 32) (xs : List Tx) : (setC cs o xs).length ≤ cs.length + 1 := by
  by_cases hk : ∃ hk : fdC cs o < cs.length, cs[fdC cs o].1 = o
  · obtain ⟨hk, e⟩ := hk
    by_cases hx : xs = []
    · subst hx
      rw [← setC_is0 hs hk e]
      simp
      omega
    · rw [← setC_is1 hs hk e hx]
      simp
  · have hk' : ∀ hk : fdC cs o < cs.length, cs[fdC cs o].1 ≠ o := fun a b => hk ⟨a, b⟩
    by_cases hx : xs = []
    · subst hx
      rw [← setC_no0 hs h32 ho hk']
      omega
    · rw [← setC_no1 hs h32 ho hk' hx]
      simp
      omega
theorem ssubmit_vc (w0 : World) (L : List Asn) (a : Option Addr) (c : Nat) (ls : List Ln) (cap : Int) (nonce : Nat) (x : Tx) {n : Nat} (hn : n = ls.length) (h : LsOk ls) (h9 : ls.length ≤ 900000) (hx : x.ok) (hnn : nonce < 18446744073709551616) [hK : RdA w0 (some ⟨0, 0, none⟩) (wds K64)] [hr : RdC w0 L a (lnc ls)] [hv : RdLs w0 L ls] :
    VC Tryz.prog w0 52 [.agg #[.slice a n c], .int .i64 cap, .int .u64 nonce, .agg x.cells.toArray] L (RSub (submitS (lls ls) cap nonce x) L) := by
  subst hn
  have hlen := h.len
  have hxl := Tx.len hx
  have hx2 := Tx.f2 hx
  have hxn := hx.nonce
  have hfl := fromT_len x
  refine vc_ent ?_
  refine vc_in rfl rfl ?_
  generalize hxc : x.cells = xc at *
  repeat' (first | (refine go1 ?_; intros) | (refine goCC ?_ ?_ <;> (intro hb; (try simp only [hSQ] at hb); try (exfalso; omega))) | fail)
  refine clV ?_
  refine vc_mono (scheck_vc w0 _ a c ls rfl h) ?_
  rintro v L' ⟨rfl, rfl⟩
  unfold submitS
  by_cases hm : mayS ls = true
  rotate_left
  · rw [if_neg hm, if_neg (fun e => hm (mayS_iff.2 e))]
    repeat' (first | (refine go1 ?_; intros) | (refine goCC ?_ ?_ <;> (intro hb; (try simp only [hSQ] at hb); try (exfalso; omega))) | fail)
    all_goals first | (exfalso; omega) | exact RSub.bad w0 L 8 (sei _ _ _)
  have hmc := mayS_iff.1 hm
  rw [if_pos hm, if_pos hmc]
  unfold submitC
  repeat' (first | (refine go1 ?_; intros) | (refine goCC ?_ ?_ <;> (intro hb; (try simp only [hSQ] at hb); try (exfalso; omega))) | fail)
  all_goals first | (exfalso; omega) | skip
  refine clV ?_
  rw [← hxc]
  refine vc_mono (txCheck_vc w0 _ x hx) ?_
  rintro v L' ⟨rfl, rfl⟩
  rw [hxc]
  by_cases hsg : x.sign = sgn x
  rotate_left
  · rw [if_neg hsg, if_neg hsg]
    repeat' (first | (refine go1 ?_; intros) | (refine goCC ?_ ?_ <;> (intro hb; (try simp only [hSQ] at hb); try (exfalso; omega))) | fail)
    all_goals first | (exfalso; omega) | exact RSub.bad w0 L 110 (sei _ _ _)
  rw [if_pos hsg, if_pos hsg]
  by_cases hst : x.nonce < nonce
  · rw [if_pos hst]
    repeat' (first | (refine go1 ?_; intros) | (refine goCC ?_ ?_ <;> (intro hb; (try simp only [hSQ] at hb); try (exfalso; omega))) | fail)
    all_goals first | (exfalso; omega) | exact RSub.bad w0 L 200 (sei _ _ _)
  rw [if_neg hst]
  by_cases hfar : 16 ≤ x.nonce - nonce ∨ x.nonce = 18446744073709551615
  · rw [if_pos hfar]
    repeat' (first | (refine go1 ?_; intros) | (refine goCC ?_ ?_ <;> (intro hb; (try simp only [hSQ] at hb); try (exfalso; omega))) | fail)
    all_goals first | (exfalso; omega) | exact RSub.bad w0 L 201 (sei _ _ _)
  rw [if_neg hfar]
  repeat' (first | (refine go1 ?_; intros) | (refine goCC ?_ ?_ <;> (intro hb; (try simp only [hSQ] at hb); try (exfalso; omega))) | fail)
  all_goals first | (exfalso; omega) | skip
  refine clV ?_
  refine vc_mono (stwin_vc w0 _ a c ls rfl h) ?_
  rintro v L' ⟨a1, c1, ms, rfl, hms, rfl⟩
  have hmo := h.of_lls hms
  have hml : ms.length = ls.length := lls_len hms
  have hmc2 : MayC (lls ms) := by rw [hms]; exact hmc
  have hs := hmc2.srt
  rw [← hms]
  have hcnt : cntL ls = cntC (lls ms) := by rw [hms]; exact cntL_lls ls
  repeat' (first | (refine go1 ?_; intros) | (refine goCC ?_ ?_ <;> (intro hb; (try simp only [hSQ] at hb); try (exfalso; omega))) | fail)
  rename_i g4 g7 g8 _ _ gp
  rw [List.append_nil]
  refine v_cut (Nat × Option Addr × Nat × Option Addr × Nat) [1, 2, 4, 7, 8, 9, 11] rfl (fun z => [(12, .pointer (some ⟨z.1, 0, none⟩)), (13, .slice z.2.2.2.1 (putT (Ln.mk (fromT x) none 0 (lineC (lls ms) (fromT x))) x).2.2.1.length z.2.2.2.2), (10, .int .i64 (putT (Ln.mk (fromT x) none 0 (lineC (lls ms) (fromT x))) x).2.2.2)]) (fun z => blk z.1 69 (Ln.mk (putT (Ln.mk (fromT x) none 0 (lineC (lls ms) (fromT x))) x).1 z.2.1 z.2.2.1 (putT (Ln.mk (fromT x) none 0 (lineC (lls ms) (fromT x))) x).2.1).cells :: ownTs z.2.2.2.1 z.2.2.2.2 (putT (Ln.mk (fromT x) none 0 (lineC (lls ms) (fromT x))) x).2.2.1 :: ownTs z.2.1 z.2.2.1 (putT (Ln.mk (fromT x) none 0 (lineC (lls ms) (fromT x))) x).2.1 :: partB gp a1 c1 ms :: ownLs a1 c1 ms :: tsA ms :: blk g8 24 [.slice none 0 0] :: blk g7 50 xc :: blk g4 24 [.slice a ls.length c] :: L) ?_ ?_
  · refine v_id ?_
    refine v_draw0 [] (by kernel_rfl) ?_
    refine tA 0 ?_
    refine tA 1 ?_
    refine tA 4 ?_
    refine va_two 2 10 (by kernel_rfl) rfl rfl rfl rfl ?_ ?_
    · first | refine vo_call rfl rfl ?_ | refine vo_callV rfl rfl rfl ?_
      rw [← hxc]
      refine vc_mono (txFrom_vc w0 _ x hx) ?_
      rintro v L' ⟨rfl, rfl⟩
      rw [hxc, show sha (tagB 3 [x.pub]) = fromT x from rfl]
      refine ⟨.inr (sei _ _ _), ?_⟩
      refine va_two 3 10 (by kernel_rfl) rfl rfl rfl rfl ?_ ?_
      · first | refine vo_call rfl rfl ?_ | refine vo_callV rfl rfl rfl ?_
        refine vc_mono (sline_vc w0 _ gp a1 c1 ms (fromT x) hmo hs hfl) ?_
        rintro v L' ⟨l, rfl, hlo, hlx, hlm, rfl⟩
        have hlok : l.ok := by
          rcases hlm with e | ⟨_, e⟩
          · exact hmo.ok l e
          · exact ⟨by rw [hlo]; exact hfl, by rw [e]; exact TsOk.nil⟩
        have hput : putT l x = putT (Ln.mk (fromT x) none 0 (lineC (lls ms) (fromT x))) x := by
          obtain ⟨o, la, lc, lx⟩ := l
          dsimp only at hlo hlx
          subst hlo hlx
          rfl
        haveI hrl : ∀ M [RdLs w0 M ms], RdC w0 M l.a (txc l.xs) := fun M k => by
          rcases hlm with e | ⟨_, e⟩
          · exact k.out l e
          · rw [e]; exact rdC_nil _ _ _
        refine ⟨.inr (sei _ _ _), ?_⟩
        refine va_two 5 10 (by kernel_rfl) rfl rfl rfl rfl ?_ ?_
        · first | refine vo_call rfl rfl ?_ | refine vo_callV rfl rfl rfl ?_
          rw [← hxc]
          refine vc_mono (qput_vc w0 _ l hlok x hx) ?_
          rw [hput, hxc]
          rintro v L' ⟨a2, c2, b2, d2, rfl, rfl⟩
          have hPo := putT_ok (l := Ln.mk (fromT x) none 0 (lineC (lls ms) (fromT x))) ⟨hfl, hlx ▸ hlok.ts⟩ hx
          have hPl : (Ln.mk (putT (Ln.mk (fromT x) none 0 (lineC (lls ms) (fromT x))) x).1 a2 c2 (putT (Ln.mk (fromT x) none 0 (lineC (lls ms) (fromT x))) x).2.1).cells.length = 33 := Ln.len hPo.own
          refine ⟨.inr (sei _ _ _), ?_⟩
          refine tA 6 ?_
          refine tA 7 ?_
          refine tA 8 ?_
          refine tA 9 ?_
          refine va_one 10 (by kernel_rfl) rfl rfl ?_
          (refine goV ?_; intros)
          refine ⟨.inr (sei _ _ _), ?_⟩
          refine va_one 11 (by kernel_rfl) rfl rfl ?_
          (refine goV ?_; intros)
          refine ⟨.inr (sei _ _ _), ?_⟩
          refine tA 12 ?_
          refine tA 13 ?_
          refine va_done (by kernel_rfl) ?_
          refine ⟨rfl, (_, a2, c2, b2, d2), by (exact sbS), ?_⟩
          dsimp only
          exact sei _ _ _
        · (refine goV ?_; intros)
          refine ⟨.inr (sei _ _ _), ?_⟩
          refine va_one 5 (by kernel_rfl) rfl rfl ?_
          first | refine vo_call rfl rfl ?_ | refine vo_callV rfl rfl rfl ?_
          rw [← hxc]
          refine vc_mono (qput_vc w0 _ l hlok x hx) ?_
          rw [hput, hxc]
          rintro v L' ⟨a2, c2, b2, d2, rfl, rfl⟩
          have hPo := putT_ok (l := Ln.mk (fromT x) none 0 (lineC (lls ms) (fromT x))) ⟨hfl, hlx ▸ hlok.ts⟩ hx
          have hPl : (Ln.mk (putT (Ln.mk (fromT x) none 0 (lineC (lls ms) (fromT x))) x).1 a2 c2 (putT (Ln.mk (fromT x) none 0 (lineC (lls ms) (fromT x))) x).2.1).cells.length = 33 := Ln.len hPo.own
          refine ⟨.inr (sei _ _ _), ?_⟩
          refine tA 6 ?_
          refine tA 7 ?_
          refine tA 8 ?_
          refine tA 9 ?_
          refine va_one 11 (by kernel_rfl) rfl rfl ?_
          (refine goV ?_; intros)
          refine ⟨.inr (sei _ _ _), ?_⟩
          refine tA 12 ?_
          refine tA 13 ?_
          refine va_done (by kernel_rfl) ?_
          refine ⟨rfl, (_, a2, c2, b2, d2), by (exact sbS), ?_⟩
          dsimp only
          exact sei _ _ _
      · (refine goV ?_; intros)
        refine ⟨.inr (sei _ _ _), ?_⟩
        refine va_one 3 (by kernel_rfl) rfl rfl ?_
        first | refine vo_call rfl rfl ?_ | refine vo_callV rfl rfl rfl ?_
        refine vc_mono (sline_vc w0 _ gp a1 c1 ms (fromT x) hmo hs hfl) ?_
        rintro v L' ⟨l, rfl, hlo, hlx, hlm, rfl⟩
        have hlok : l.ok := by
          rcases hlm with e | ⟨_, e⟩
          · exact hmo.ok l e
          · exact ⟨by rw [hlo]; exact hfl, by rw [e]; exact TsOk.nil⟩
        have hput : putT l x = putT (Ln.mk (fromT x) none 0 (lineC (lls ms) (fromT x))) x := by
          obtain ⟨o, la, lc, lx⟩ := l
          dsimp only at hlo hlx
          subst hlo hlx
          rfl
        haveI hrl : ∀ M [RdLs w0 M ms], RdC w0 M l.a (txc l.xs) := fun M k => by
          rcases hlm with e | ⟨_, e⟩
          · exact k.out l e
          · rw [e]; exact rdC_nil _ _ _
        refine ⟨.inr (sei _ _ _), ?_⟩
        refine va_one 5 (by kernel_rfl) rfl rfl ?_
        first | refine vo_call rfl rfl ?_ | refine vo_callV rfl rfl rfl ?_
        rw [← hxc]
        refine vc_mono (qput_vc w0 _ l hlok x hx) ?_
        rw [hput, hxc]
        rintro v L' ⟨a2, c2, b2, d2, rfl, rfl⟩
        have hPo := putT_ok (l := Ln.mk (fromT x) none 0 (lineC (lls ms) (fromT x))) ⟨hfl, hlx ▸ hlok.ts⟩ hx
        have hPl : (Ln.mk (putT (Ln.mk (fromT x) none 0 (lineC (lls ms) (fromT x))) x).1 a2 c2 (putT (Ln.mk (fromT x) none 0 (lineC (lls ms) (fromT x))) x).2.1).cells.length = 33 := Ln.len hPo.own
        refine ⟨.inr (sei _ _ _), ?_⟩
        refine tA 6 ?_
        refine tA 7 ?_
        refine tA 8 ?_
        refine tA 9 ?_
        refine va_one 11 (by kernel_rfl) rfl rfl ?_
        (refine goV ?_; intros)
        refine ⟨.inr (sei _ _ _), ?_⟩
        refine tA 12 ?_
        refine tA 13 ?_
        refine va_done (by kernel_rfl) ?_
        refine ⟨rfl, (_, a2, c2, b2, d2), by (exact sbS), ?_⟩
        dsimp only
        exact sei _ _ _
    · (refine goV ?_; intros)
      refine ⟨.inr (sei _ _ _), ?_⟩
      refine va_one 2 (by kernel_rfl) rfl rfl ?_
      first | refine vo_call rfl rfl ?_ | refine vo_callV rfl rfl rfl ?_
      rw [← hxc]
      refine vc_mono (txFrom_vc w0 _ x hx) ?_
      rintro v L' ⟨rfl, rfl⟩
      rw [hxc, show sha (tagB 3 [x.pub]) = fromT x from rfl]
      refine ⟨.inr (sei _ _ _), ?_⟩
      refine va_one 3 (by kernel_rfl) rfl rfl ?_
      first | refine vo_call rfl rfl ?_ | refine vo_callV rfl rfl rfl ?_
      refine vc_mono (sline_vc w0 _ gp a1 c1 ms (fromT x) hmo hs hfl) ?_
      rintro v L' ⟨l, rfl, hlo, hlx, hlm, rfl⟩
      have hlok : l.ok := by
        rcases hlm with e | ⟨_, e⟩
        · exact hmo.ok l e
        · exact ⟨by rw [hlo]; exact hfl, by rw [e]; exact TsOk.nil⟩
      have hput : putT l x = putT (Ln.mk (fromT x) none 0 (lineC (lls ms) (fromT x))) x := by
        obtain ⟨o, la, lc, lx⟩ := l
        dsimp only at hlo hlx
        subst hlo hlx
        rfl
      haveI hrl : ∀ M [RdLs w0 M ms], RdC w0 M l.a (txc l.xs) := fun M k => by
        rcases hlm with e | ⟨_, e⟩
        · exact k.out l e
        · rw [e]; exact rdC_nil _ _ _
      refine ⟨.inr (sei _ _ _), ?_⟩
      refine va_one 5 (by kernel_rfl) rfl rfl ?_
      first | refine vo_call rfl rfl ?_ | refine vo_callV rfl rfl rfl ?_
      rw [← hxc]
      refine vc_mono (qput_vc w0 _ l hlok x hx) ?_
      rw [hput, hxc]
      rintro v L' ⟨a2, c2, b2, d2, rfl, rfl⟩
      have hPo := putT_ok (l := Ln.mk (fromT x) none 0 (lineC (lls ms) (fromT x))) ⟨hfl, hlx ▸ hlok.ts⟩ hx
      have hPl : (Ln.mk (putT (Ln.mk (fromT x) none 0 (lineC (lls ms) (fromT x))) x).1 a2 c2 (putT (Ln.mk (fromT x) none 0 (lineC (lls ms) (fromT x))) x).2.1).cells.length = 33 := Ln.len hPo.own
      refine ⟨.inr (sei _ _ _), ?_⟩
      refine tA 6 ?_
      refine tA 7 ?_
      refine tA 8 ?_
      refine tA 9 ?_
      refine va_one 11 (by kernel_rfl) rfl rfl ?_
      (refine goV ?_; intros)
      refine ⟨.inr (sei _ _ _), ?_⟩
      refine tA 12 ?_
      refine tA 13 ?_
      refine va_done (by kernel_rfl) ?_
      refine ⟨rfl, (_, a2, c2, b2, d2), by (exact sbS), ?_⟩
      dsimp only
      exact sei _ _ _
  rintro ⟨g12, a2, c2, b2, d2⟩
  dsimp only
  have hLok : TsOk (lineC (lls ms) (fromT x)) := by
    by_cases hl0 : lineC (lls ms) (fromT x) = []
    · rw [hl0]; exact TsOk.nil
    · obtain ⟨l, hl, e⟩ := List.mem_map.1 (lineC_in hl0)
      have := (hmo.ok l hl).ts
      rwa [show l.xs = lineC (lls ms) (fromT x) from congrArg Prod.snd e] at this
  have hgood := hmc2.line (fromT x)
  rw [putT_good hgood hsg]
  have hWok := hLok.with (by have := hgood.len; omega) hx
  have hwne := withT_ne (lineC (lls ms) (fromT x)) x
  have hmlen : ms.length ≤ 999999 := by omega
  cases hat : atT (lineC (lls ms) (fromT x)) x.nonce with
  | some y =>
    dsimp only
    have hyo : y.ok := hLok.ok y (atT_in hat)
    by_cases hf : x.fee ≤ y.fee
    · rw [if_pos hf, if_pos hf]
      dsimp only
      repeat' (first | (refine go1 ?_; intros) | (refine goCC ?_ ?_ <;> (intro hb; (try simp only [hSQ] at hb); try (exfalso; omega))) | fail)
      all_goals first | (exfalso; omega) | exact RSub.bad w0 L 190 (sei _ _ _)
    rw [if_neg hf, if_neg hf]
    dsimp only
    generalize hW : withT (lineC (lls ms) (fromT x)) x = W at *
    have hWl : (Ln.mk (fromT x) a2 c2 W).cells.length = 33 := Ln.len hfl
    haveI hWc : OC (Ln.mk (fromT x) a2 c2 W).cells := oc_ln _
    obtain ⟨wc, hwc⟩ : ∃ wc, wc = (Ln.mk (fromT x) a2 c2 W).cells := ⟨_, rfl⟩
    rw [← hwc] at hWl hWc ⊢
    repeat' (first | (refine go1 ?_; intros) | (refine goCC ?_ ?_ <;> (intro hb; (try simp only [hSQ] at hb); try (exfalso; omega))) | fail)
    all_goals first | (exfalso; omega) | skip
    obtain ⟨O, hO⟩ : ∃ O, O = [y] := ⟨_, rfl⟩
    rw [← hO]
    obtain ⟨aM, cM, mm, hMM, hMo, hMs, hMl⟩ : ∃ aM cM mm, (aM, cM, mm) = (a1, c1, ms) ∧ LsOk mm ∧ Srt2 (lls mm) ∧ mm.length ≤ 999999 := ⟨a1, c1, ms, rfl, hmo, hs, hmlen⟩
    have hMe : setC (lls ms) (fromT x) W = setC (lls mm) (fromT x) W := by rw [(Prod.mk.inj (Prod.mk.inj hMM).2).2]
    rw [hMe]
    obtain ⟨rfl, h2⟩ := Prod.mk.inj hMM
    obtain ⟨rfl, h3⟩ := Prod.mk.inj h2
    subst h3
    refine clV ?_
    refine vc_pre (L2 := partB gp aM cM mm :: ownLs aM cM mm :: ownTs (Ln.mk (fromT x) a2 c2 W).a (Ln.mk (fromT x) a2 c2 W).c (Ln.mk (fromT x) a2 c2 W).xs :: tsA (offL mm (fromT x)) :: ownTs b2 d2 O :: blk g8 24 [.slice none 0 0] :: L) ?_ ?_
    · exact (sei w0 _ (tsA mm :: partB gp aM cM mm :: ownLs aM cM mm :: ownTs a2 c2 W :: ownTs b2 d2 O :: blk g8 24 [.slice none 0 0] :: L)).trans (((se_tsA_off mm (fromT x) _).ent w0).trans (sei w0 _ _))
    rw [hwc]
    refine vc_mono (sset_vc w0 _ gp aM cM mm (Ln.mk (fromT x) a2 c2 W) hMo hMs ⟨fromT_len x, hWok⟩ hMl) ?_
    rintro v L' ⟨a5, c5, m5, hm5, ho5, rfl⟩
    unfold shP
    repeat' (first | (refine go1 ?_; intros) | (refine goCC ?_ ?_ <;> (intro hb; (try simp only [hSQ] at hb); try (exfalso; omega))) | fail)
    refine ⟨_, sei w0 _ (ownLs a5 c5 m5 :: tsA m5 :: ownTs b2 d2 O :: L), a5, c5, m5, b2, d2, rfl, hm5, ho5, rfl⟩
  | none =>
    dsimp only
    by_cases hfu : 256 ≤ (lineC (lls ms) (fromT x)).length
    · rw [if_pos hfu, if_pos hfu]
      dsimp only
      repeat' (first | (refine go1 ?_; intros) | (refine goCC ?_ ?_ <;> (intro hb; (try simp only [hSQ] at hb); try (exfalso; omega))) | fail)
      all_goals first | (exfalso; omega) | exact RSub.bad w0 L 9 (sei _ _ _)
    rw [if_neg hfu, if_neg hfu]
    dsimp only
    generalize hW : withT (lineC (lls ms) (fromT x)) x = W at *
    have hWl : (Ln.mk (fromT x) a2 c2 W).cells.length = 33 := Ln.len hfl
    haveI hWc : OC (Ln.mk (fromT x) a2 c2 W).cells := oc_ln _
    obtain ⟨wc, hwc⟩ : ∃ wc, wc = (Ln.mk (fromT x) a2 c2 W).cells := ⟨_, rfl⟩
    rw [← hwc] at hWl hWc ⊢
    obtain ⟨O, hO⟩ : ∃ O : List Tx, O = [] := ⟨_, rfl⟩
    have hO0 : O.length = 0 := by rw [hO]; rfl
    rw [← hO]
    by_cases hcap : (cntC (lls ms) : Int) < cap
    · rw [if_pos hcap]
      repeat' (first | (refine go1 ?_; intros) | (refine goCC ?_ ?_ <;> (intro hb; (try simp only [hSQ] at hb); try (exfalso; omega))) | fail)
      all_goals first | (exfalso; omega) | skip
      refine clV ?_
      refine vc_mono (scount_vc w0 _ a c ls rfl h) ?_
      rintro v L' ⟨rfl, rfl⟩
      rw [hcnt]
      repeat' (first | (refine go1 ?_; intros) | (refine goCC ?_ ?_ <;> (intro hb; (try simp only [hSQ] at hb); try (exfalso; omega))) | fail)
      all_goals first | (exfalso; omega) | skip
      obtain ⟨aM, cM, mm, hMM, hMo, hMs, hMl⟩ : ∃ aM cM mm, (aM, cM, mm) = (a1, c1, ms) ∧ LsOk mm ∧ Srt2 (lls mm) ∧ mm.length ≤ 999999 := ⟨a1, c1, ms, rfl, hmo, hs, hmlen⟩
      have hMe : setC (lls ms) (fromT x) W = setC (lls mm) (fromT x) W := by rw [(Prod.mk.inj (Prod.mk.inj hMM).2).2]
      rw [hMe]
      obtain ⟨rfl, h2⟩ := Prod.mk.inj hMM
      obtain ⟨rfl, h3⟩ := Prod.mk.inj h2
      subst h3
      refine clV ?_
      refine vc_pre (L2 := partB gp aM cM mm :: ownLs aM cM mm :: ownTs (Ln.mk (fromT x) a2 c2 W).a (Ln.mk (fromT x) a2 c2 W).c (Ln.mk (fromT x) a2 c2 W).xs :: tsA (offL mm (fromT x)) :: ownTs b2 d2 O :: blk g8 24 [.slice none 0 0] :: L) ?_ ?_
      · exact (sei w0 _ (tsA mm :: partB gp aM cM mm :: ownLs aM cM mm :: ownTs a2 c2 W :: ownTs b2 d2 O :: blk g8 24 [.slice none 0 0] :: L)).trans (((se_tsA_off mm (fromT x) _).ent w0).trans (sei w0 _ _))
      rw [hwc]
      refine vc_mono (sset_vc w0 _ gp aM cM mm (Ln.mk (fromT x) a2 c2 W) hMo hMs ⟨fromT_len x, hWok⟩ hMl) ?_
      rintro v L' ⟨a5, c5, m5, hm5, ho5, rfl⟩
      unfold shP
      repeat' (first | (refine go1 ?_; intros) | (refine goCC ?_ ?_ <;> (intro hb; (try simp only [hSQ] at hb); try (exfalso; omega))) | fail)
      refine ⟨_, sei w0 _ (ownLs a5 c5 m5 :: tsA m5 :: ownTs b2 d2 O :: L), a5, c5, m5, b2, d2, rfl, hm5, ho5, rfl⟩
    · rw [if_neg hcap]
      have hneL : ∀ l ∈ ms, 0 < l.xs.length := fun l hl => Nat.pos_of_ne_zero (fun e => hmc2.ne l.pl (List.mem_map.2 ⟨l, hl, rfl⟩) (List.eq_nil_of_length_eq_zero e))
      repeat' (first | (refine go1 ?_; intros) | (refine goCC ?_ ?_ <;> (intro hb; (try simp only [hSQ] at hb); try (exfalso; omega))) | fail)
      all_goals first | (exfalso; omega) | skip
      refine clV ?_
      refine vc_mono (scount_vc w0 _ a c ls rfl h) ?_
      rintro v L' ⟨rfl, rfl⟩
      rw [hcnt]
      repeat' (first | (refine go1 ?_; intros) | (refine goCC ?_ ?_ <;> (intro hb; (try simp only [hSQ] at hb); try (exfalso; omega))) | fail)
      all_goals first | (exfalso; omega) | skip
      refine clV ?_
      rw [← hxc]
      refine vc_mono (sworst_vc w0 _ gp a1 c1 ms x hx hmo hneL) ?_
      rintro v L' ⟨rfl, rfl⟩
      rw [hxc]
      rcases worstC_is (cs := lls ms) (o := fromT x) (fee := x.fee) with e | ⟨k, hk, e, hkn⟩
      · rw [e]
        cases (lls ms)[(-1 : Int).toNat]?
        · dsimp only
          repeat' (first | (refine go1 ?_; intros) | (refine goCC ?_ ?_ <;> (intro hb; (try simp only [hSQ] at hb); try (exfalso; omega))) | fail)
          all_goals first | (exfalso; omega) | (rw [hO]; exact RSub.bad w0 L 9 (sei _ _ _))
        · dsimp only
          rw [if_pos (by decide)]
          repeat' (first | (refine go1 ?_; intros) | (refine goCC ?_ ?_ <;> (intro hb; (try simp only [hSQ] at hb); try (exfalso; omega))) | fail)
          all_goals first | (exfalso; omega) | (rw [hO]; exact RSub.bad w0 L 9 (sei _ _ _))
      have hk' : k < ms.length := by rwa [List.length_map] at hk
      rw [e, Int.toNat_natCast, List.getElem?_eq_getElem hk]
      dsimp only
      rw [if_neg (by omega), List.getElem_map]
      rw [List.getElem_map] at hkn
      have hkn : ms[k].own ≠ fromT x := hkn
      have hn0 := hneL _ (List.getElem_mem hk')
      have he := hmo.e k hk'
      have hpos := hmo.pos k hk'
      have hwo := hmo.at k hk'
      have hout := se_tsA_out hs hk'
      have hpl : ms[k].pl = (ms[k].own, ms[k].xs) := rfl
      rw [hpl]
      generalize ms[k] = w at *
      obtain ⟨N, hN⟩ : ∃ N, N = w.xs.length - 1 := ⟨_, rfl⟩
      have hN1 : w.xs.length = N + 1 := by omega
      have hel := hwo.ts.el N (by omega)
      have hwtl := hwo.ts.len
      have hpe := hwo.ts.pos N (by omega)
      have hyo := hwo.ts.at N (by omega)
      have hdl : w.xs.drop (w.xs.length - 1) = [w.xs[N]'(by omega)] := by
        rw [← hN, List.drop_eq_getElem_cons (by omega), List.drop_of_length_le (by omega)]
      rw [hdl, ← hN]
      generalize w.xs[N] = y at *
      have hyl := Tx.len hyo
      haveI hyc : OC y.cells := oc_tx _
      obtain ⟨yc, hyc'⟩ : ∃ yc, yc = y.cells := ⟨_, rfl⟩
      have hwl := Ln.len hwo.own
      have hw1 := Ln.f1 hwo.own
      have hwset := Ln.setTs (n := N) hwo.own w.a N (xs := w.xs.take N) (by rw [List.length_take]; omega)
      haveI hwcc : OC w.cells := oc_ln _
      obtain ⟨wwc, hwwc⟩ : ∃ wwc, wwc = w.cells := ⟨_, rfl⟩
      have htl : (w.xs.take N).length = N := by rw [List.length_take]; omega
      rw [← hwwc] at hwl hw1 hwset hwcc he
      rw [← hyc'] at hyl hyc hel
      refine vl_ent (L' := ownTs w.a w.c w.xs :: tsA (offL ms w.own) :: blk g12 69 wc :: ownTs b2 d2 O :: ownTs a2 c2 W :: partB gp a1 c1 ms :: ownLs a1 c1 ms :: blk g8 24 [.slice none 0 0] :: L) ((sei w0 _ (tsA ms :: blk g12 69 wc :: ownTs b2 d2 O :: ownTs a2 c2 W :: partB gp a1 c1 ms :: ownLs a1 c1 ms :: blk g8 24 [.slice none 0 0] :: L)).trans ((hout _).ent w0)) ?_
      refine vl_know (φ := w.xs.length ≤ w.c) (fun w hs => (hs.ownLen 0 rfl).2.1) (fun hcapW => ?_)
      repeat' (first | (refine go1 ?_; intros) | (refine goCC ?_ ?_ <;> (intro hb; (try simp only [hSQ] at hb); try (exfalso; omega))) | fail)
      all_goals first | (exfalso; omega) | skip
      rename_i gw
      rw [← hN]
      refine v_draw0 [13] (by kernel_rfl) ?_
      refine tA 0 ?_
      refine tA 1 ?_
      refine tA 2 ?_
      refine tA 3 ?_
      refine tA 4 ?_
      refine tA 6 ?_
      refine tA 7 ?_
      refine tA 8 ?_
      refine tA 9 ?_
      refine tA 10 ?_
      rw [subA_0, Nat.sub_zero]
      refine va_one 5 (by kernel_rfl) rfl rfl ?_
      (refine goV ?_; intros)
      rename_i gb
      refine ⟨.inr (sei _ _ _), ?_⟩
      refine tA 11 ?_
      refine tA 12 ?_
      refine va_one 13 (by kernel_rfl) rfl rfl ?_
      (refine goV ?_; intros)
      refine ⟨.inl (by kernel_rfl), ?_⟩
      refine va_done (by kernel_rfl) ?_
      skip
      rw [hwset]
      have hvo : (Ln.mk w.own w.a N (w.xs.take N)).ok := ⟨hwo.own, ⟨fun z hz => hwo.ts.ok z (List.mem_of_mem_take hz), by have := hwo.ts.len; rw [htl]; omega⟩⟩
      have hvl := Ln.len hvo.own
      haveI hvc : OC (Ln.mk w.own w.a N (w.xs.take N)).cells := oc_ln _
      obtain ⟨vc, hvcs⟩ : ∃ vc, vc = (Ln.mk w.own w.a N (w.xs.take N)).cells := ⟨_, rfl⟩
      rw [← hvcs] at hvl hvc ⊢
      repeat' (first | (refine go1 ?_; intros) | (refine goCC ?_ ?_ <;> (intro hb; (try simp only [hSQ] at hb); try (exfalso; omega))) | fail)
      refine clV ?_
      refine vc_pre (L2 := partB gp a1 c1 ms :: ownLs a1 c1 ms :: ownTs (Ln.mk w.own w.a N (w.xs.take N)).a (Ln.mk w.own w.a N (w.xs.take N)).c (Ln.mk w.own w.a N (w.xs.take N)).xs :: tsA (offL ms w.own) :: ownTs (some ⟨gb, 0, none⟩) 1 [y] :: blk g12 69 wc :: ownTs a2 c2 W :: blk g8 24 [.slice none 0 0] :: L) ?_ ?_
      · rw [ownTs_one, ← hyc']
        refine (sei w0 _ (ownTs w.a w.c w.xs :: partB gp a1 c1 ms :: ownLs a1 c1 ms :: tsA (offL ms w.own) :: own 50 99 (some ⟨gb, 0, none⟩) 1 1 (yc ++ []) :: blk g12 69 wc :: ownTs a2 c2 W :: blk g8 24 [.slice none 0 0] :: L)).trans (((se_head _ (P' := ownTs w.a N (w.xs.take N)) (fun u F hF => ?_)).ent w0).trans (sei w0 _ _))
        have := own_cut N N (by omega) (by omega) (Nat.le_refl _) u F hF
        unfold ownTs
        rw [htl]
        rwa [hwo.ts.wide.take] at this
      rw [hvcs]
      refine vc_mono (sset_vc w0 _ gp a1 c1 ms (Ln.mk w.own w.a N (w.xs.take N)) hmo hs hvo hmlen) ?_
      rintro v L' ⟨aM, cM, mm, hMM, hMo, rfl⟩
      have hMM : lls mm = setC (lls ms) w.own (w.xs.take N) := hMM
      have hMs : Srt2 (lls mm) := by rw [hMM]; exact srt2_set hs _ _
      have hMl : mm.length ≤ 999999 := by
        have e1 := congrArg List.length hMM
        have e2 := setC_len hs hmo.k2 hwo.own (w.xs.take N)
        rw [List.length_map] at e1 e2
        omega
      rw [← hMM]
      unfold shP
      repeat' (first | (refine go1 ?_; intros) | (refine goCC ?_ ?_ <;> (intro hb; (try simp only [hSQ] at hb); try (exfalso; omega))) | fail)
      refine clV ?_
      refine vc_pre (L2 := partB gp aM cM mm :: ownLs aM cM mm :: ownTs (Ln.mk (fromT x) a2 c2 W).a (Ln.mk (fromT x) a2 c2 W).c (Ln.mk (fromT x) a2 c2 W).xs :: tsA (offL mm (fromT x)) :: ownTs (some ⟨gb, 0, none⟩) 1 [y] :: blk g8 24 [.slice none 0 0] :: L) ?_ ?_
      · exact (sei w0 _ (tsA mm :: partB gp aM cM mm :: ownLs aM cM mm :: ownTs a2 c2 W :: ownTs (some ⟨gb, 0, none⟩) 1 [y] :: blk g8 24 [.slice none 0 0] :: L)).trans (((se_tsA_off mm (fromT x) _).ent w0).trans (sei w0 _ _))
      rw [hwc]
      refine vc_mono (sset_vc w0 _ gp aM cM mm (Ln.mk (fromT x) a2 c2 W) hMo hMs ⟨fromT_len x, hWok⟩ hMl) ?_
      rintro v L' ⟨a5, c5, m5, hm5, ho5, rfl⟩
      unfold shP
      repeat' (first | (refine go1 ?_; intros) | (refine goCC ?_ ?_ <;> (intro hb; (try simp only [hSQ] at hb); try (exfalso; omega))) | fail)
      refine ⟨_, sei w0 _ (ownLs a5 c5 m5 :: tsA m5 :: ownTs (some ⟨gb, 0, none⟩) 1 [y] :: L), a5, c5, m5, some ⟨gb, 0, none⟩, 1, rfl, hm5, ho5, rfl⟩
end Go.Proofs.YtcpndfffdbogbaaGreatDoor
namespace Go.Proofs.YtcpndfffdbogbaaGreatDoor
open Go Go.RowKit
open Classical

theorem lineC_ms {ms : List Ln} (hs : Srt2 (lls ms)) {k : Nat} (hk : k < ms.length) : lineC (lls ms) ms[k].own = ms[k].xs := by
  rw [lineC_some hs (k := k) (by rwa [List.length_map]) (by rw [List.getElem_map]; rfl), List.getElem_map]
  rfl
theorem lineC_ok {ms : List Ln} (h : LsOk ms) (o : List UInt8) : TsOk (lineC (lls ms) o) := by
  by_cases hl0 : lineC (lls ms) o = []
  · rw [hl0]; exact TsOk.nil
  · obtain ⟨l, hl, e⟩ := List.mem_map.1 (lineC_in hl0)
    have := (h.ok l hl).ts
    rwa [show l.xs = lineC (lls ms) o from congrArg Prod.snd e] at this
end Go.Proofs.YtcpndfffdbogbaaGreatDoor
namespace Go.Proofs.YtcpndfffdbogbaaGreatDoor
open Go Go.RowKit
open Classical

section
variable {P : Program} {w0 : World} {n : Nat} {ds : List Deferred} {fr : Fr} {L : List Asn} {dst : Option Nat} {ty : TypeId} {pos : String} {after : Array Edge} {gd : Option (Nat × Bool)}
theorem vq_minI {ts : Array TypeId} {x y : Operand} {m k : Int} (hx : evA fr x = some (.int .i64 m)) (hy : evA fr y = some (.int .i64 k)) : VQ P w0 n ⟨dst, .call { callee := .builtin .min, args := #[x, y], argTypes := ts }, ty, pos, after, gd⟩ (.int .i64 (min m k)) ds fr L := vq_val (fun a w hk _ => by
  have e : (if k < m then k else m) = min m k := by split <;> omega
  simp only [← e]
  simp [execOp, resolve, invoke, builtin, hk.ev hx, hk.ev hy, Builtin.min_, Builtin.min2])
theorem vq_maxI {ts : Array TypeId} {x y : Operand} {m k : Int} (hx : evA fr x = some (.int .i64 m)) (hy : evA fr y = some (.int .i64 k)) : VQ P w0 n ⟨dst, .call { callee := .builtin .max, args := #[x, y], argTypes := ts }, ty, pos, after, gd⟩ (.int .i64 (max m k)) ds fr L := vq_val (fun a w hk _ => by
  have e : (if m < k then k else m) = max m k := by split <;> omega
  simp only [← e]
  simp [execOp, resolve, invoke, builtin, hk.ev hx, hk.ev hy, Builtin.max_, Builtin.max2])
end
/-- What is drawn of a shard, by a tree. -/
noncomputable def nonceA (ns : List Nd) (r : Int) (k : List UInt8) : Nat := (accG ns r k).1
theorem nonceA_lt (ns : List Nd) (r : Int) (k : List UInt8) : nonceA ns r k < 18446744073709551616 := by
  unfold nonceA accG
  split
  · exact (inP_lt _ _).1
  · exact (show (0 : Nat) < 18446744073709551616 by decide)
noncomputable def drawQ (cs : List LC) (ns : List Nd) (r : Int) (room : Int) : List LC × List Tx × Int := if MayC cs ∧ StP ns r then ((drawC (nonceA ns r) room cs).1, (drawC (nonceA ns r) room cs).2, 0) else ([], [], 8)
theorem cntC_le20 {cs : List LC} (h : ∀ c ∈ cs, c.2.length ≤ 20) : cntC cs ≤ cs.length * 20 := by
  induction cs with
  | nil => simp [cntC]
  | cons c r ih =>
    have h1 := ih (fun d hd => h d (by simp [hd]))
    have h2 := h c (by simp)
    have h3 : cntC (c :: r) = c.2.length + cntC r := by simp [cntC]
    rw [h3, List.length_cons]
    omega
theorem drawC_len1 (f : List UInt8 → Nat) (room : Int) : ∀ (cs : List LC) (s : List LC × List Tx), (cs.foldl (drawS f room) s).1.length ≤ s.1.length + cs.length
  | [], s => by simp
  | c :: r, s => by
    have h1 := drawC_len1 f room r (drawS f room s c)
    have h2 : (drawS f room s c).1.length ≤ s.1.length + 1 := by
      unfold drawS ownC
      dsimp only
      rw [List.length_append]
      split <;> simp
    rw [List.foldl_cons, List.length_cons]
    omega
theorem drawAt_len (f : List UInt8 → Nat) (room : Int) (cs : List LC) (i : Nat) : (drawAt f room cs i).length ≤ cs.length := by
  have h := drawC_len1 f room (cs.take i) ([], [])
  unfold drawAt
  rw [List.length_append, List.length_drop]
  have h2 : (drawC f room (cs.take i)).1.length ≤ (cs.take i).length := by
    unfold drawC
    simpa using h
  rw [List.length_take] at h2
  omega
theorem sdraw_vc (w0 : World) (L : List Asn) (a : Option Addr) (c : Nat) (ls : List Ln) (ta : Option Addr) (tc : Nat) (ns : List Nd) (r : Int) (room : Int) {n tn : Nat} (hn : n = ls.length) (htn : tn = ns.length) (h : LsOk ls) (h9 : ls.length ≤ 6) (hx20 : ∀ l ∈ ls, l.xs.length ≤ 20) (hcaps : ∀ l ∈ ls, l.xs.length ≤ l.c) (hok : NsOk ns) (hro : -9223372036854775808 ≤ room ∧ room < 9223372036854775808) [hK : RdA w0 (some ⟨0, 0, none⟩) (wds K64)] [hr : RdC w0 L a (lnc ls)] [hv : RdLs w0 L ls] [hr2 : RdC w0 L ta (ndc ns)] [hv2 : RdNs w0 L ns] :
    VC Tryz.prog w0 9 [.agg #[.slice a n c], .agg #[.slice ta tn tc, .int .i64 r], .int .i64 room] L (RSub (drawQ (lls ls) ns r room) L) := by
  subst hn
  subst htn
  have hlen := h.len
  refine vc_ent ?_
  refine vc_in rfl rfl ?_
  unfold drawQ
  repeat' (first | (refine go1 ?_; intros) | (refine goCC ?_ ?_ <;> (intro hb; (try simp only [hSQ] at hb); try (exfalso; omega))) | fail)
  refine clV ?_
  refine vc_mono (scheck_vc w0 _ a c ls rfl h) ?_
  rintro v L' ⟨rfl, rfl⟩
  by_cases hm : mayS ls = true
  rotate_left
  · rw [if_neg hm, if_neg (fun e => hm (mayS_iff.2 e.1))]
    repeat' (first | (refine go1 ?_; intros) | (refine goCC ?_ ?_ <;> (intro hb; (try simp only [hSQ] at hb); try (exfalso; omega))) | fail)
    all_goals first | (exfalso; omega) | exact RSub.bad w0 L 8 (sei _ _ _)
  have hmc := mayS_iff.1 hm
  rw [if_pos hm]
  repeat' (first | (refine go1 ?_; intros) | (refine goCC ?_ ?_ <;> (intro hb; (try simp only [hSQ] at hb); try (exfalso; omega))) | fail)
  all_goals first | (exfalso; omega) | skip
  refine clV ?_
  refine vc_mono (acheck_vc w0 _ ta tc ns r rfl hok) ?_
  rintro v L' ⟨rfl, rfl⟩
  by_cases hst : StP ns r
  rotate_left
  · rw [if_neg hst, if_neg (fun e => hst e.2)]
    repeat' (first | (refine go1 ?_; intros) | (refine goCC ?_ ?_ <;> (intro hb; (try simp only [hSQ] at hb); try (exfalso; omega))) | fail)
    all_goals first | (exfalso; omega) | exact RSub.bad w0 L 8 (sei _ _ _)
  rw [if_pos hst, if_pos ⟨hmc, hst⟩]
  repeat' (first | (refine go1 ?_; intros) | (refine goCC ?_ ?_ <;> (intro hb; (try simp only [hSQ] at hb); try (exfalso; omega))) | fail)
  all_goals first | (exfalso; omega) | skip
  refine clV ?_
  refine vc_mono (stwin_vc w0 _ a c ls rfl h) ?_
  rintro v L' ⟨a1, c1, ms0, rfl, hms0, rfl⟩
  have hmo0 := h.of_lls hms0
  repeat' (first | (refine go1 ?_; intros) | (refine goCC ?_ ?_ <;> (intro hb; (try simp only [hSQ] at hb); try (exfalso; omega))) | fail)
  rename_i g3 g4 g6 gp
  rw [List.append_nil]
  refine v_loopF (Nat × (Option Addr × Nat × List Ln) × Option Addr × Nat) [2, 4, 6, 8, 9, 33, 34] rfl (fun z => [(35, .int .i64 z.1), (7, .slice z.2.2.1 (drawC (nonceA ns r) room ((lls ls).take z.1)).2.length z.2.2.2)]) (fun _ z => partB gp z.2.1.1 z.2.1.2.1 z.2.1.2.2 :: ownLs z.2.1.1 z.2.1.2.1 z.2.1.2.2 :: tsA z.2.1.2.2 :: ownTs z.2.2.1 z.2.2.2 (drawC (nonceA ns r) room ((lls ls).take z.1)).2 :: blk g6 24 [.slice none 0 0] :: blk g4 27 [.slice ta ns.length tc, .int .i64 r] :: L) (fun z => z.1 ≤ ls.length ∧ lls z.2.1.2.2 = drawAt (nonceA ns r) room (lls ls) z.1 ∧ LsOk z.2.1.2.2) (fun z => ls.length - z.1) (0, (a1, c1, ms0), none, 0) ?_ ?_ ?_ ?_
  · refine ⟨Nat.zero_le _, ?_, hmo0⟩
    dsimp only
    rw [hms0]
    simp [drawAt, drawC]
  · dsimp only
    rw [List.take_zero]
    (exact sbS)
  · dsimp only
    rw [List.take_zero]
    exact (sei w0 _ (partB gp a1 c1 ms0 :: ownLs a1 c1 ms0 :: tsA ms0 :: blk g6 24 [.slice none 0 0] :: blk g4 27 [.slice ta ns.length tc, .int .i64 r] :: L)).trans ((SE.cons _ (SE.cons _ (SE.cons _ (se_own_nil 50 99 _)))).ent w0)
  rintro ⟨i, ⟨aM, cM, mm⟩, aD, cD⟩ ⟨hi, hmm, hmo⟩
  dsimp only at hi hmm hmo ⊢
  obtain ⟨D, hD⟩ : ∃ D, D = (drawC (nonceA ns r) room ((lls ls).take i)).2 := ⟨_, rfl⟩
  by_cases hlt : i < ls.length
  rotate_left
  · obtain rfl : i = ls.length := by omega
    have e1 : (lls ls).take ls.length = lls ls := List.take_of_length_le (by rw [List.length_map]; exact Nat.le_refl _)
    have e2 := drawAt_end (nonceA ns r) room (lls ls)
    rw [List.length_map] at e2
    rw [e2] at hmm
    rw [e1]
    repeat' (first | (refine go1 ?_; intros) | (refine goCC ?_ ?_ <;> (intro hb; (try simp only [hSQ] at hb); try (exfalso; omega))) | fail)
    exact ⟨_, sei w0 _ (ownLs aM cM mm :: tsA mm :: ownTs aD cD (drawC (nonceA ns r) room (lls ls)).2 :: L), aM, cM, mm, aD, cD, rfl, hmm, hmo, rfl⟩
  rw [← hD]
  have hi' : i < (lls ls).length := by rwa [List.length_map]
  have hstep := (drawAt_may (f := nonceA ns r) (room := room) hmc h.k2 i (by omega)).2.2 hi'
  have hmmc := (drawAt_may (f := nonceA ns r) (room := room) hmc h.k2 i (by omega)).1
  have hdt := drawC_take (f := nonceA ns r) (room := room) hi'
  have hfew := (drawC_drn (f := nonceA ns r) (room := room) hmc i (by omega)).few
  have hDl := drawC_len (nonceA ns r) room ((lls ls).take i) ([], [])
  have hD20 : cntC ((lls ls).take i) ≤ 120 := by
    have := cntC_le20 (cs := (lls ls).take i) (fun c hc => by
      obtain ⟨l, hl, rfl⟩ := List.mem_map.1 (List.mem_of_mem_take hc)
      exact hx20 l hl)
    rw [List.length_take, List.length_map] at this
    omega
  rw [show ((lls ls).take i).foldl (drawS (nonceA ns r) room) ([], []) = drawC (nonceA ns r) room ((lls ls).take i) from rfl] at hDl
  rw [← hD] at hstep hfew hDl
  rw [← hmm] at hstep hmmc
  have hDl : D.length ≤ 120 := by
    simp only [List.length_nil, Nat.zero_add] at hDl
    omega
  have hgl : GoodL ls[i].own ls[i].xs := hmc.good ls[i].pl (List.mem_map.2 ⟨_, List.getElem_mem hlt, rfl⟩)
  have hlm : ls[i].may = true := goodL_iff.2 hgl
  have e := h.e i hlt
  have hpos := h.pos i hlt
  have lok := h.at i hlt
  have hol := lok.own
  have hcapl := hcaps _ (List.getElem_mem hlt)
  have h20 := hx20 _ (List.getElem_mem hlt)
  haveI := hv.at i hlt
  have hpl : (lls ls)[i]'hi' = ls[i].pl := List.getElem_map ..
  rw [hpl] at hstep hdt
  generalize ls[i] = l at *
  have hll := Ln.len hol
  have hl0 := Ln.f0 hol
  haveI olc : OC l.cells := oc_ln _
  obtain ⟨lc, hlc⟩ : ∃ lc, lc = l.cells := ⟨_, rfl⟩
  rw [← hlc] at hll hl0 olc e
  obtain ⟨K, hK⟩ : ∃ K, K = nonceA ns r l.own := ⟨_, rfl⟩
  have hKlt : K < 18446744073709551616 := by rw [hK]; exact nonceA_lt _ _ _
  repeat' (first | (refine go1 ?_; intros) | (refine goCC ?_ ?_ <;> (intro hb; (try simp only [hSQ] at hb); try (exfalso; omega))) | fail)
  refine clV ?_
  refine vc_mono (aget_vc w0 _ ta tc ns r l.own rfl hok hol) ?_
  rintro v L' ⟨rfl, rfl⟩
  rw [show (accG ns r l.own).1 = K from hK.symm]
  generalize (accG ns r l.own).2 = bal at *
  repeat' (first | (refine go1 ?_; intros) | (refine goCC ?_ ?_ <;> (intro hb; (try simp only [hSQ] at hb); try (exfalso; omega))) | fail)
  refine clV ?_
  rw [hlc]
  refine vc_mono (qpast_vc w0 _ l lok hcapl K hKlt) ?_
  rw [show pastQ l K = (l.own, hiT l.xs K, loT l.xs K, 0) from if_pos hlm, ← hlc]
  rintro v L' ⟨ah, ch, al, cl, rfl, rfl⟩
  dsimp only
  have hgh := hgl.hi K
  have hrest : (Ln.mk l.own ah ch (hiT l.xs K)).ok := ⟨hol, ⟨fun y hy => lok.ts.ok y (hiT_sub y hy), by have := hgh.len; show (hiT l.xs K).length ≤ 1000000; omega⟩⟩
  have hrm : (Ln.mk l.own ah ch (hiT l.xs K)).may = true := goodL_iff.2 hgh
  have hrl := Ln.len hrest.own
  have hr1 := Ln.f1 hrest.own
  haveI hrc : OC (Ln.mk l.own ah ch (hiT l.xs K)).cells := oc_ln _
  have hrset := fun a c n (xs : List Tx) (hn : n = xs.length) => Ln.setTs (l := Ln.mk l.own ah ch (hiT l.xs K)) hol a c (xs := xs) hn
  obtain ⟨rc, hrcs⟩ : ∃ rc, rc = (Ln.mk l.own ah ch (hiT l.xs K)).cells := ⟨_, rfl⟩
  rw [← hrcs] at hrl hr1 hrc hrset ⊢
  dsimp only at hr1 hrset
  refine vl_know (φ := (hiT l.xs K).length ≤ ch) (fun w hs => (hs.ownLen 1 rfl).2.1) (fun hch => ?_)
  repeat' (first | (refine go1 ?_; intros) | (refine goCC ?_ ?_ <;> (intro hb; (try simp only [hSQ] at hb); try (exfalso; omega))) | fail)
  refine clV ?_
  rw [hrcs]
  refine vc_mono (qready_vc w0 _ (Ln.mk l.own ah ch (hiT l.xs K)) hrest hch K hKlt) ?_
  rw [show readyQ (Ln.mk l.own ah ch (hiT l.xs K)) K = (readyT (hiT l.xs K) K, 0) from if_pos hrm, ready_hi, ← hrcs]
  rintro v L' ⟨ar, cr, rfl, rfl⟩
  dsimp only
  have hcut : max 0 (min (((readyT l.xs K).length : Nat) : Int) (room - (D.length : Int))) = ((cutN (readyT l.xs K).length room D.length : Nat) : Int) := by
    unfold cutN
    omega
  have hmle := cutN_le (readyT l.xs K).length room D.length
  have hcutC : cutC (nonceA ns r) room D.length l.pl = cutN (readyT l.xs K).length room D.length := by rw [hK]; rfl
  rw [hcutC] at hstep
  generalize cutN (readyT l.xs K).length room D.length = m at *
  have hrle := ready_len l.xs K
  refine vl_know (φ := (readyT l.xs K).length ≤ cr) (fun w hs => (hs.ownLen 0 rfl).2.1) (fun hcr => ?_)
  repeat' (first | (refine go1 ?_; intros) | (refine goCC ?_ ?_ <;> (intro hb; (try simp only [hSQ] at hb); try (exfalso; omega))) | fail)
  refine vl_q rfl rfl rfl rfl (vq_minI rfl rfl) ?_
  repeat' (first | (refine go1 ?_; intros) | (refine goCC ?_ ?_ <;> (intro hb; (try simp only [hSQ] at hb); try (exfalso; omega))) | fail)
  refine vl_q rfl rfl rfl rfl (vq_maxI rfl rfl) ?_
  rw [hcut]
  repeat' (first | (refine go1 ?_; intros) | (refine goCC ?_ ?_ <;> (intro hb; (try simp only [hSQ] at hb); try (exfalso; omega))) | fail)
  rename_i g11 g12 g14
  have hRo : TsOk (readyT l.xs K) := ⟨fun y hy => lok.ts.ok y (hiT_sub y (runT_sub y hy)), by omega⟩
  have hRtake := ready_take l.xs K m hmle
  have hRm : ((readyT l.xs K).take m).length = m := by rw [List.length_take, Nat.min_eq_left hmle]
  have hmh : m ≤ (hiT l.xs K).length := by
    have := congrArg List.length hRtake
    rw [hRm, List.length_take] at this
    omega
  have hRT : TsOk ((readyT l.xs K).take m) := ⟨fun y hy => hRo.ok y (List.mem_of_mem_take hy), by rw [hRm]; omega⟩
  have hrt : ∀ M [RdC w0 M ar (txc (readyT l.xs K))], RdC w0 M ar (txc ((readyT l.xs K).take m)) := fun M _ => rdF_take hRo.wide m
  have hnl : (txc ((readyT l.xs K).take m)).length = m * 99 := by rw [hRT.wide.len, hRm]
  have hra : ∀ M, RdC w0 (ownTs ar cr (readyT l.xs K) :: M) ar (txc (readyT l.xs K)) := fun M => rdC_own w0 _ ar 0 50 99 (readyT l.xs K).length cr (txc (readyT l.xs K))
  rw [subA_0, Nat.sub_zero, Nat.sub_zero]
  refine vl_o rfl ?_
  refine vo_append (hr := @hrt _ (hra _)) rfl rfl hnl (by omega) (by omega) rfl ?_
  intro aE cE _ hcE
  have hDE : (drawC (nonceA ns r) room ((lls ls).take (i + 1))).2 = D ++ (readyT l.xs K).take m := by
    rw [hdt]
    unfold drawS
    dsimp only
    rw [← hD, hcutC, hK]
    rfl
  have hownE : own 50 99 aE (D.length + m) cE (txc D ++ txc ((readyT l.xs K).take m)) = ownTs aE cE (D ++ (readyT l.xs K).take m) := by
    unfold ownTs
    rw [flat_append, List.length_append, hRm]
  have hdl : ((hiT l.xs K).drop m).length = (hiT l.xs K).length - m := List.length_drop
  have hset2 := hrset (subA ah m ch 99) (ch - m) ((hiT l.xs K).length - m) ((hiT l.xs K).drop m) hdl.symm
  repeat' (first | (refine go1 ?_; intros) | (refine goCC ?_ ?_ <;> (intro hb; (try simp only [hSQ] at hb); try (exfalso; omega))) | fail)
  rw [hset2]
  have hvo : (Ln.mk l.own (subA ah m ch 99) (ch - m) ((hiT l.xs K).drop m)).ok := ⟨hol, ⟨fun y hy => hrest.ts.ok y (List.mem_of_mem_drop hy), by have := hgh.len; show ((hiT l.xs K).drop m).length ≤ 1000000; omega⟩⟩
  have hvl := Ln.len hvo.own
  haveI hvc : OC (Ln.mk l.own (subA ah m ch 99) (ch - m) ((hiT l.xs K).drop m)).cells := oc_ln _
  obtain ⟨vc, hvcs⟩ : ∃ vc, vc = (Ln.mk l.own (subA ah m ch 99) (ch - m) ((hiT l.xs K).drop m)).cells := ⟨_, rfl⟩
  rw [← hvcs] at hvl hvc ⊢
  repeat' (first | (refine go1 ?_; intros) | (refine goCC ?_ ?_ <;> (intro hb; (try simp only [hSQ] at hb); try (exfalso; omega))) | fail)
  refine clV ?_
  refine vc_pre (L2 := partB gp aM cM mm :: ownLs aM cM mm :: ownTs (subA ah m ch 99) (ch - m) ((hiT l.xs K).drop m) :: tsA (offL mm l.own) :: ownTs aE cE (D ++ (readyT l.xs K).take m) :: blk g6 24 [.slice none 0 0] :: blk g4 27 [.slice ta ns.length tc, .int .i64 r] :: L) ?_ ?_
  · rw [hownE]
    refine (sei w0 _ (ownTs ah ch (hiT l.xs K) :: tsA mm :: partB gp aM cM mm :: ownLs aM cM mm :: ownTs aE cE (D ++ (readyT l.xs K).take m) :: blk g6 24 [.slice none 0 0] :: blk g4 27 [.slice ta ns.length tc, .int .i64 r] :: L)).trans (((se_head _ (P' := ownTs (subA ah m ch 99) (ch - m) ((hiT l.xs K).drop m)) (fun u F hF => ?_)).ent w0).trans (((SE.cons _ (se_tsA_off mm l.own _)).ent w0).trans (sei w0 _ _)))
    have := own_drop m hmh u F hF
    unfold ownTs
    rw [hdl]
    rwa [hrest.ts.wide.drop] at this
  rw [hvcs]
  have hmo5 : mm.length ≤ 999999 := by
    have e1 := congrArg List.length hmm
    have e2 := drawAt_len (nonceA ns r) room (lls ls) i
    rw [List.length_map] at e1 e2
    omega
  refine vc_mono (sset_vc w0 _ gp aM cM mm (Ln.mk l.own (subA ah m ch 99) (ch - m) ((hiT l.xs K).drop m)) hmo hmmc.srt hvo hmo5) ?_
  rintro v L' ⟨a5, c5, m5, hm5, ho5, rfl⟩
  have hm5 : lls m5 = setC (lls mm) l.own ((hiT l.xs K).drop m) := hm5
  unfold shP
  repeat' (first | (refine go1 ?_; intros) | (refine goCC ?_ ?_ <;> (intro hb; (try simp only [hSQ] at hb); try (exfalso; omega))) | fail)
  refine ⟨rfl, (i + 1, (a5, c5, m5), aE, cE), ⟨by dsimp only; omega, ?_, ho5⟩, by dsimp only; omega, ?_, ?_⟩
  · dsimp only
    rw [hm5, hstep, hK]
    rfl
  · dsimp only
    rw [hDE, List.length_append, hRm]
    (exact sbS)
  · dsimp only
    rw [hDE]
    exact sei _ _ _
end Go.Proofs.YtcpndfffdbogbaaGreatDoor
namespace Go.Proofs.YtcpndfffdbogbaaGreatDoor
open Go Go.RowKit
open Classical

def idxX (xs : List Tx) (φ : Tx → Bool) : Int := if xs.findIdx φ < xs.length then (xs.findIdx φ : Int) else -1
theorem idxX_at {xs : List Tx} {φ : Tx → Bool} {i : Nat} (hi : i < xs.length) (h : φ xs[i] = true) (hb : ∀ j (hj : j < xs.length), j < i → φ xs[j] = false) : idxX xs φ = (i : Int) := by
  have : xs.findIdx φ = i := by
    rw [List.findIdx_eq hi]
    exact ⟨h, fun j hj => hb j (by omega) hj⟩
  unfold idxX
  rw [this, if_pos hi]
theorem idxX_no {xs : List Tx} {φ : Tx → Bool} (hb : ∀ j (hj : j < xs.length), φ xs[j] = false) : idxX xs φ = -1 := by
  unfold idxX
  rw [if_neg]
  intro h
  have h1 := List.findIdx_getElem (w := h)
  rw [hb _ h] at h1
  cases h1
theorem idxX_vc (w0 : World) (L : List Asn) (a : Option Addr) (c : Nat) (xs : List Tx) (f : FuncId) (cap : Array Value) (φ : Tx → Bool) {n : Nat} (hn : n = xs.length) (h : TsOk xs) [hf : FnB Tryz.prog f] [hr : RdC w0 L a (txc xs)] (hφ : ∀ x ∈ xs, VC Tryz.prog w0 f ([.agg x.cells.toArray] ++ cap.toList) L fun v L' => v = .bool (φ x) ∧ L' = L) :
    VC Tryz.prog w0 88 [.slice a n c, .func (.func f) #[] cap] L fun v L' => v = .int .i64 (idxX xs φ) ∧ L' = L := by
  subst hn
  have hlen := h.len
  refine vc_ent ?_
  refine vc_in rfl rfl ?_
  repeat' (first | (refine go1 ?_; intros) | (refine goCC ?_ ?_ <;> (intro hb; (try simp only [hSQ] at hb); try (exfalso; omega))) | fail)
  refine v_loopS Nat [0, 1, 7] rfl (fun i => [(8, .int .i64 i)]) (fun i => i ≤ xs.length ∧ ∀ j (hj : j < xs.length), j < i → φ xs[j] = false) (fun i => xs.length - i) 0 ⟨Nat.zero_le _, fun j hj h => by omega⟩ (by (exact sbS)) (fun i ⟨hi, hbb⟩ => ?_)
  by_cases hlt : i < xs.length
  · have e := h.el i hlt
    have hpos := h.pos i hlt
    have hcl := Tx.len (h.at i hlt)
    have hF := hφ _ (List.getElem_mem hlt)
    repeat' (first | (refine go1 ?_; intros) | (refine goCC ?_ ?_ <;> (intro hb; (try simp only [hSQ] at hb); try (exfalso; omega))) | fail)
    refine vl_o rfl (vo_callV rfl rfl rfl ?_)
    refine vc_mono hF ?_
    rintro v L' ⟨rfl, hL⟩
    obtain rfl := hL.symm
    cases hp : φ xs[i]
    · repeat' (first | (refine go1 ?_; intros) | (refine goCC ?_ ?_ <;> (intro hb; (try simp only [hSQ] at hb); try (exfalso; omega))) | fail)
      refine ⟨rfl, i + 1, ⟨by omega, fun j hj hji => ?_⟩, by omega, by (exact sbS), Ent.refl _ _⟩
      by_cases e : j = i
      · subst e; exact hp
      · exact hbb j hj (by omega)
    · repeat' (first | (refine go1 ?_; intros) | (refine goCC ?_ ?_ <;> (intro hb; (try simp only [hSQ] at hb); try (exfalso; omega))) | fail)
      exact ⟨L, sei _ _ _, by rw [idxX_at hlt hp hbb], rfl⟩
  · obtain rfl : i = xs.length := by omega
    repeat' (first | (refine go1 ?_; intros) | (refine goCC ?_ ?_ <;> (intro hb; (try simp only [hSQ] at hb); try (exfalso; omega))) | fail)
    exact ⟨L, sei _ _ _, by rw [idxX_no (fun j hj => hbb j hj hj)], rfl⟩
theorem hasX_vc (w0 : World) (L : List Asn) (a : Option Addr) (c : Nat) (xs : List Tx) (f : FuncId) (cap : Array Value) (φ : Tx → Bool) {n : Nat} (hn : n = xs.length) (h : TsOk xs) [hf : FnB Tryz.prog f] [hr : RdC w0 L a (txc xs)] (hφ : ∀ x ∈ xs, VC Tryz.prog w0 f ([.agg x.cells.toArray] ++ cap.toList) L fun v L' => v = .bool (φ x) ∧ L' = L) :
    VC Tryz.prog w0 41 [.slice a n c, .func (.func f) #[] cap] L fun v L' => v = .bool (xs.any φ) ∧ L' = L := by
  subst hn
  have e : decide (0 ≤ idxX xs φ) = xs.any φ := by
    unfold idxX
    cases hb : xs.any φ
    · rw [if_neg (fun h => by
        have h1 := List.findIdx_getElem (w := h)
        rw [List.any_eq_false] at hb
        exact hb _ (List.getElem_mem h) h1)]
      rfl
    · rw [if_pos (by rw [List.findIdx_lt_length]; simpa using hb)]
      simp
  refine vc_ent ?_
  refine vc_in rfl rfl ?_
  repeat' (first | (refine go1 ?_; intros) | (refine goCC ?_ ?_ <;> (intro hb; (try simp only [hSQ] at hb); try (exfalso; omega))) | fail)
  refine clV ?_
  refine vc_mono (idxX_vc w0 _ a c xs f cap φ rfl h hφ) ?_
  rintro v L' ⟨rfl, hL⟩
  obtain rfl := hL.symm
  rw [← e]
  generalize idxX xs φ = I
  repeat' (first | (refine go1 ?_; intros) | (refine goCC ?_ ?_ <;> (intro hb; (try simp only [hSQ] at hb); try (exfalso; omega))) | fail)
  exact ⟨L, sei _ _ _, rfl, rfl⟩
theorem sback1_vc (w0 : World) (L : List Asn) (x : Tx) (hx : x.ok) [hK : RdA w0 (some ⟨0, 0, none⟩) (wds K64)] :
    VC Tryz.prog w0 42 [.agg x.cells.toArray] L fun v L' => v = .bool (!decide (x.sign = sgn x)) ∧ L' = L := by
  have hxl := Tx.len hx
  haveI oxc : OC x.cells := oc_tx _
  refine vc_ent ?_
  refine vc_in rfl rfl ?_
  obtain ⟨xc, hxc⟩ : ∃ xc, xc = x.cells := ⟨_, rfl⟩
  rw [← hxc] at hxl oxc ⊢
  repeat' (first | (refine go1 ?_; intros) | (refine goCC ?_ ?_ <;> (intro hb; (try simp only [hSQ] at hb); try (exfalso; omega))) | fail)
  refine clV ?_
  rw [hxc]
  refine vc_mono (txCheck_vc w0 _ x hx) ?_
  rintro v L' ⟨rfl, rfl⟩
  by_cases hs : x.sign = sgn x
  · rw [if_pos hs, decide_eq_true hs]
    repeat' (first | (refine go1 ?_; intros) | (refine goCC ?_ ?_ <;> (intro hb; (try simp only [hSQ] at hb); try (exfalso; omega))) | fail)
    exact ⟨L, sei _ _ _, rfl, rfl⟩
  · rw [if_neg hs, decide_eq_false hs]
    repeat' (first | (refine go1 ?_; intros) | (refine goCC ?_ ?_ <;> (intro hb; (try simp only [hSQ] at hb); try (exfalso; omega))) | fail)
    exact ⟨L, sei _ _ _, rfl, rfl⟩
def RBack (q : List LC × Int) (L : List Asn) (v : Value) (L' : List Asn) : Prop := ∃ a c ms, v = .tuple #[.agg #[.slice a ms.length c], .int .i64 q.2] ∧ lls ms = q.1 ∧ LsOk ms ∧ L' = ownLs a c ms :: tsA ms :: L
theorem RBack.bad (w0 : World) (L : List Asn) (e : Int) {M : List Asn} (h : Ent w0 M L) : ∃ L', Ent w0 M L' ∧ RBack ([], e) L (.tuple #[.agg #[.slice none 0 0], .int .i64 e]) L' :=
  ⟨_, h.trans ((se_ls_nil _).ent w0), none, 0, [], rfl, rfl, LsOk.nil, rfl⟩
noncomputable def backQ (cs : List LC) (ns : List Nd) (r : Int) (l : List Tx) : List LC × Int :=
  if MayC cs ∧ StP ns r then (if ∀ x ∈ l, x.sign = sgn x then (match backC (nonceA ns r) cs l with
    | some zs => (zs, 0)
    | none => ([], 9)) else ([], 110)) else ([], 8)
theorem any_sign {l : List Tx} : l.any (fun x => !decide (x.sign = sgn x)) = false ↔ ∀ x ∈ l, x.sign = sgn x := by
  rw [List.any_eq_false]
  simp
theorem sback_vc (w0 : World) (L : List Asn) (a : Option Addr) (c : Nat) (ls : List Ln) (ta : Option Addr) (tc : Nat) (ns : List Nd) (r : Int) (ea : Option Addr) (ec : Nat) (xs : List Tx) {n tn en : Nat} (hn : n = ls.length) (htn : tn = ns.length) (hen : en = xs.length) (h : LsOk ls) (h9 : ls.length ≤ 800000) (hok : NsOk ns) (hxs : TsOk xs) (hx9 : xs.length ≤ 100000) [hK : RdA w0 (some ⟨0, 0, none⟩) (wds K64)] [hr : RdC w0 L a (lnc ls)] [hv : RdLs w0 L ls] [hr2 : RdC w0 L ta (ndc ns)] [hv2 : RdNs w0 L ns] [hr3 : RdC w0 L ea (txc xs)] :
    VC Tryz.prog w0 11 [.agg #[.slice a n c], .agg #[.slice ta tn tc, .int .i64 r], .slice ea en ec] L (RBack (backQ (lls ls) ns r xs) L) := by
  subst hn
  subst htn
  subst hen
  have hlen := h.len
  refine vc_ent ?_
  refine vc_in rfl rfl ?_
  unfold backQ
  repeat' (first | (refine go1 ?_; intros) | (refine goCC ?_ ?_ <;> (intro hb; (try simp only [hSQ] at hb); try (exfalso; omega))) | fail)
  refine clV ?_
  refine vc_mono (scheck_vc w0 _ a c ls rfl h) ?_
  rintro v L' ⟨rfl, rfl⟩
  by_cases hm : mayS ls = true
  rotate_left
  · rw [if_neg hm, if_neg (fun e => hm (mayS_iff.2 e.1))]
    repeat' (first | (refine go1 ?_; intros) | (refine goCC ?_ ?_ <;> (intro hb; (try simp only [hSQ] at hb); try (exfalso; omega))) | fail)
    all_goals first | (exfalso; omega) | exact RBack.bad w0 L 8 (sei _ _ _)
  have hmc := mayS_iff.1 hm
  rw [if_pos hm]
  repeat' (first | (refine go1 ?_; intros) | (refine goCC ?_ ?_ <;> (intro hb; (try simp only [hSQ] at hb); try (exfalso; omega))) | fail)
  all_goals first | (exfalso; omega) | skip
  refine clV ?_
  refine vc_mono (acheck_vc w0 _ ta tc ns r rfl hok) ?_
  rintro v L' ⟨rfl, rfl⟩
  by_cases hst : StP ns r
  rotate_left
  · rw [if_neg hst, if_neg (fun e => hst e.2)]
    repeat' (first | (refine go1 ?_; intros) | (refine goCC ?_ ?_ <;> (intro hb; (try simp only [hSQ] at hb); try (exfalso; omega))) | fail)
    all_goals first | (exfalso; omega) | exact RBack.bad w0 L 8 (sei _ _ _)
  rw [if_pos hst, if_pos ⟨hmc, hst⟩]
  repeat' (first | (refine go1 ?_; intros) | (refine goCC ?_ ?_ <;> (intro hb; (try simp only [hSQ] at hb); try (exfalso; omega))) | fail)
  all_goals first | (exfalso; omega) | skip
  refine clV ?_
  refine vc_mono (hasX_vc w0 _ ea ec xs 42 #[] (fun x => !decide (x.sign = sgn x)) rfl hxs (fun x hx => sback1_vc w0 _ x (hxs.ok x hx))) ?_
  rintro v L' ⟨rfl, rfl⟩
  by_cases hsg : ∀ x ∈ xs, x.sign = sgn x
  rotate_left
  · rw [if_neg hsg, show xs.any (fun x => !decide (x.sign = sgn x)) = true from Bool.of_not_eq_false (fun e => hsg (any_sign.1 e))]
    repeat' (first | (refine go1 ?_; intros) | (refine goCC ?_ ?_ <;> (intro hb; (try simp only [hSQ] at hb); try (exfalso; omega))) | fail)
    all_goals first | (exfalso; omega) | exact RBack.bad w0 L 110 (sei _ _ _)
  rw [if_pos hsg, any_sign.2 hsg]
  repeat' (first | (refine go1 ?_; intros) | (refine goCC ?_ ?_ <;> (intro hb; (try simp only [hSQ] at hb); try (exfalso; omega))) | fail)
  refine clV ?_
  refine vc_mono (stwin_vc w0 _ a c ls rfl h) ?_
  rintro v L' ⟨a1, c1, ms0, rfl, hms0, rfl⟩
  have hmo0 := h.of_lls hms0
  repeat' (first | (refine go1 ?_; intros) | (refine goCC ?_ ?_ <;> (intro hb; (try simp only [hSQ] at hb); try (exfalso; omega))) | fail)
  rename_i g3 g4 g6 gp
  rw [List.append_nil]
  refine v_loopF (Nat × Option Addr × Nat × List Ln) [4, 6, 7, 8, 35, 36] rfl (fun z => [(37, .int .i64 z.1)]) (fun _ z => partB gp z.2.1 z.2.2.1 z.2.2.2 :: ownLs z.2.1 z.2.2.1 z.2.2.2 :: tsA z.2.2.2 :: blk g6 24 [.slice none 0 0] :: blk g4 27 [.slice ta ns.length tc, .int .i64 r] :: L) (fun z => z.1 ≤ xs.length ∧ backC (nonceA ns r) (lls ls) (xs.take z.1) = some (lls z.2.2.2) ∧ LsOk z.2.2.2 ∧ z.2.2.2.length ≤ ls.length + z.1) (fun z => xs.length - z.1) (0, a1, c1, ms0) ⟨Nat.zero_le _, by rw [List.take_zero, hms0]; rfl, hmo0, by rw [lls_len hms0]; exact Nat.le_refl _⟩ (by (exact sbS)) (sei _ _ _) ?_
  rintro ⟨i, aM, cM, mm⟩ ⟨hi, hbk, hmo, hml⟩
  dsimp only at hi hbk hmo hml ⊢
  by_cases hlt : i < xs.length
  rotate_left
  · obtain rfl : i = xs.length := by omega
    rw [List.take_length] at hbk
    rw [hbk]
    repeat' (first | (refine go1 ?_; intros) | (refine goCC ?_ ?_ <;> (intro hb; (try simp only [hSQ] at hb); try (exfalso; omega))) | fail)
    exact ⟨_, sei w0 _ (ownLs aM cM mm :: tsA mm :: L), aM, cM, mm, rfl, rfl, hmo, rfl⟩
  obtain ⟨hmmc, hmk, _⟩ := backC_law hmc h.k2 hsg i (by omega) _ hbk
  have hstep := backC_take (f := nonceA ns r) (cs := lls ls) hlt
  rw [hbk] at hstep
  have hstep : backC (nonceA ns r) (lls ls) (xs.take (i + 1)) = backS (nonceA ns r) (lls mm) xs[i] := hstep
  have hnone : backC (nonceA ns r) (lls ls) (xs.take (i + 1)) = none → backC (nonceA ns r) (lls ls) xs = none := fun e => backC_none e
  have e := hxs.el i hlt
  have hpos := hxs.pos i hlt
  have hx := hxs.at i hlt
  have hsx := hsg _ (List.getElem_mem hlt)
  generalize xs[i] = x at *
  have hxl := Tx.len hx
  have hx2 := Tx.f2 hx
  have hxn := hx.nonce
  have hfl := fromT_len x
  haveI oxc : OC x.cells := oc_tx _
  obtain ⟨xc, hxc⟩ : ∃ xc, xc = x.cells := ⟨_, rfl⟩
  rw [← hxc] at e hxl hx2 oxc
  obtain ⟨K, hKe⟩ : ∃ K, K = nonceA ns r (fromT x) := ⟨_, rfl⟩
  unfold backS at hstep
  rw [← hKe] at hstep
  repeat' (first | (refine go1 ?_; intros) | (refine goCC ?_ ?_ <;> (intro hb; (try simp only [hSQ] at hb); try (exfalso; omega))) | fail)
  refine clV ?_
  rw [hxc]
  refine vc_mono (txFrom_vc w0 _ x hx) ?_
  rintro v L' ⟨rfl, rfl⟩
  rw [← hxc, show sha (tagB 3 [x.pub]) = fromT x from rfl]
  repeat' (first | (refine go1 ?_; intros) | (refine goCC ?_ ?_ <;> (intro hb; (try simp only [hSQ] at hb); try (exfalso; omega))) | fail)
  refine clV ?_
  refine vc_mono (aget_vc w0 _ ta tc ns r (fromT x) rfl hok hfl) ?_
  rintro v L' ⟨rfl, rfl⟩
  rw [show (accG ns r (fromT x)).1 = K from hKe.symm]
  generalize (accG ns r (fromT x)).2 = bal at *
  by_cases hlow : x.nonce < K
  · rw [if_pos hlow] at hstep
    repeat' (first | (refine go1 ?_; intros) | (refine goCC ?_ ?_ <;> (intro hb; (try simp only [hSQ] at hb); try (exfalso; omega))) | fail)
    all_goals first | (exfalso; omega) | skip
    exact ⟨rfl, (i + 1, aM, cM, mm), ⟨by dsimp only; omega, hstep, hmo, by dsimp only; omega⟩, by dsimp only; omega, by (exact sbS), sei _ _ _⟩
  rw [if_neg hlow] at hstep
  repeat' (first | (refine go1 ?_; intros) | (refine goCC ?_ ?_ <;> (intro hb; (try simp only [hSQ] at hb); try (exfalso; omega))) | fail)
  all_goals first | (exfalso; omega) | skip
  rename_i g10 g11 g12 _
  have hs := hmmc.srt
  refine v_cut (Nat × Option Addr × Nat × Option Addr × Nat) [4, 6, 7, 8, 35, 36, 37] rfl (fun z => [(14, .pointer (some ⟨z.1, 0, none⟩)), (15, .slice z.2.2.2.1 (putT (Ln.mk (fromT x) none 0 (lineC (lls mm) (fromT x))) x).2.2.1.length z.2.2.2.2), (16, .int .i64 (putT (Ln.mk (fromT x) none 0 (lineC (lls mm) (fromT x))) x).2.2.2)]) (fun z => blk z.1 69 (Ln.mk (putT (Ln.mk (fromT x) none 0 (lineC (lls mm) (fromT x))) x).1 z.2.1 z.2.2.1 (putT (Ln.mk (fromT x) none 0 (lineC (lls mm) (fromT x))) x).2.1).cells :: ownTs z.2.1 z.2.2.1 (putT (Ln.mk (fromT x) none 0 (lineC (lls mm) (fromT x))) x).2.1 :: partB gp aM cM mm :: ownLs aM cM mm :: tsA mm :: blk g6 24 [.slice none 0 0] :: blk g4 27 [.slice ta ns.length tc, .int .i64 r] :: L) ?_ ?_
  · refine v_id ?_
    refine v_draw0 [] (by kernel_rfl) ?_
    refine tA 0 ?_
    refine tA 1 ?_
    refine tA 3 ?_
    refine va_two 2 9 (by kernel_rfl) rfl rfl rfl rfl ?_ ?_
    · first | refine vo_call rfl rfl ?_ | refine vo_callV rfl rfl rfl ?_
      refine vc_mono (sline_vc w0 _ gp aM cM mm (fromT x) hmo hs hfl) ?_
      rintro v L' ⟨l, rfl, hlo, hlx, hlm, rfl⟩
      have hlok : l.ok := by
        rcases hlm with e | ⟨_, e⟩
        · exact hmo.ok l e
        · exact ⟨by rw [hlo]; exact hfl, by rw [e]; exact TsOk.nil⟩
      have hput : putT l x = putT (Ln.mk (fromT x) none 0 (lineC (lls mm) (fromT x))) x := by
        obtain ⟨o, la, lc, lx⟩ := l
        dsimp only at hlo hlx
        subst hlo hlx
        rfl
      haveI hrl : ∀ M [RdLs w0 M mm], RdC w0 M l.a (txc l.xs) := fun M k => by
        rcases hlm with e | ⟨_, e⟩
        · exact k.out l e
        · rw [e]; exact rdC_nil _ _ _
      refine ⟨.inr (sei _ _ _), ?_⟩
      refine va_two 4 9 (by kernel_rfl) rfl rfl rfl rfl ?_ ?_
      · first | refine vo_call rfl rfl ?_ | refine vo_callV rfl rfl rfl ?_
        rw [hxc]
        refine vc_mono (qput_vc w0 _ l hlok x hx) ?_
        rw [hput, ← hxc]
        rintro v L' ⟨a2, c2, b2, d2, rfl, rfl⟩
        have hPo := putT_ok (l := Ln.mk (fromT x) none 0 (lineC (lls mm) (fromT x))) ⟨hfl, hlx ▸ hlok.ts⟩ hx
        have hPl : (Ln.mk (putT (Ln.mk (fromT x) none 0 (lineC (lls mm) (fromT x))) x).1 a2 c2 (putT (Ln.mk (fromT x) none 0 (lineC (lls mm) (fromT x))) x).2.1).cells.length = 33 := Ln.len hPo.own
        refine ⟨.inr (sei _ _ _), ?_⟩
        refine tA 5 ?_
        refine tA 6 ?_
        refine tA 7 ?_
        refine tA 8 ?_
        refine va_one 9 (by kernel_rfl) rfl rfl ?_
        (refine goV ?_; intros)
        refine ⟨.inr (sei _ _ _), ?_⟩
        refine va_one 10 (by kernel_rfl) rfl rfl ?_
        (refine goV ?_; intros)
        refine ⟨.inr (sei _ _ _), ?_⟩
        refine tA 11 ?_
        refine tA 12 ?_
        refine va_done (by kernel_rfl) ?_
        refine ⟨rfl, (_, a2, c2, b2, d2), by (exact sbS), ?_⟩
        dsimp only
        exact sei _ _ _
      · (refine goV ?_; intros)
        refine ⟨.inr (sei _ _ _), ?_⟩
        refine va_one 4 (by kernel_rfl) rfl rfl ?_
        first | refine vo_call rfl rfl ?_ | refine vo_callV rfl rfl rfl ?_
        rw [hxc]
        refine vc_mono (qput_vc w0 _ l hlok x hx) ?_
        rw [hput, ← hxc]
        rintro v L' ⟨a2, c2, b2, d2, rfl, rfl⟩
        have hPo := putT_ok (l := Ln.mk (fromT x) none 0 (lineC (lls mm) (fromT x))) ⟨hfl, hlx ▸ hlok.ts⟩ hx
        have hPl : (Ln.mk (putT (Ln.mk (fromT x) none 0 (lineC (lls mm) (fromT x))) x).1 a2 c2 (putT (Ln.mk (fromT x) none 0 (lineC (lls mm) (fromT x))) x).2.1).cells.length = 33 := Ln.len hPo.own
        refine ⟨.inr (sei _ _ _), ?_⟩
        refine tA 5 ?_
        refine tA 6 ?_
        refine tA 7 ?_
        refine tA 8 ?_
        refine va_one 10 (by kernel_rfl) rfl rfl ?_
        (refine goV ?_; intros)
        refine ⟨.inr (sei _ _ _), ?_⟩
        refine tA 11 ?_
        refine tA 12 ?_
        refine va_done (by kernel_rfl) ?_
        refine ⟨rfl, (_, a2, c2, b2, d2), by (exact sbS), ?_⟩
        dsimp only
        exact sei _ _ _
    · (refine goV ?_; intros)
      refine ⟨.inr (sei _ _ _), ?_⟩
      refine va_one 2 (by kernel_rfl) rfl rfl ?_
      first | refine vo_call rfl rfl ?_ | refine vo_callV rfl rfl rfl ?_
      refine vc_mono (sline_vc w0 _ gp aM cM mm (fromT x) hmo hs hfl) ?_
      rintro v L' ⟨l, rfl, hlo, hlx, hlm, rfl⟩
      have hlok : l.ok := by
        rcases hlm with e | ⟨_, e⟩
        · exact hmo.ok l e
        · exact ⟨by rw [hlo]; exact hfl, by rw [e]; exact TsOk.nil⟩
      have hput : putT l x = putT (Ln.mk (fromT x) none 0 (lineC (lls mm) (fromT x))) x := by
        obtain ⟨o, la, lc, lx⟩ := l
        dsimp only at hlo hlx
        subst hlo hlx
        rfl
      haveI hrl : ∀ M [RdLs w0 M mm], RdC w0 M l.a (txc l.xs) := fun M k => by
        rcases hlm with e | ⟨_, e⟩
        · exact k.out l e
        · rw [e]; exact rdC_nil _ _ _
      refine ⟨.inr (sei _ _ _), ?_⟩
      refine va_one 4 (by kernel_rfl) rfl rfl ?_
      first | refine vo_call rfl rfl ?_ | refine vo_callV rfl rfl rfl ?_
      rw [hxc]
      refine vc_mono (qput_vc w0 _ l hlok x hx) ?_
      rw [hput, ← hxc]
      rintro v L' ⟨a2, c2, b2, d2, rfl, rfl⟩
      have hPo := putT_ok (l := Ln.mk (fromT x) none 0 (lineC (lls mm) (fromT x))) ⟨hfl, hlx ▸ hlok.ts⟩ hx
      have hPl : (Ln.mk (putT (Ln.mk (fromT x) none 0 (lineC (lls mm) (fromT x))) x).1 a2 c2 (putT (Ln.mk (fromT x) none 0 (lineC (lls mm) (fromT x))) x).2.1).cells.length = 33 := Ln.len hPo.own
      refine ⟨.inr (sei _ _ _), ?_⟩
      refine tA 5 ?_
      refine tA 6 ?_
      refine tA 7 ?_
      refine tA 8 ?_
      refine va_one 10 (by kernel_rfl) rfl rfl ?_
      (refine goV ?_; intros)
      refine ⟨.inr (sei _ _ _), ?_⟩
      refine tA 11 ?_
      refine tA 12 ?_
      refine va_done (by kernel_rfl) ?_
      refine ⟨rfl, (_, a2, c2, b2, d2), by (exact sbS), ?_⟩
      dsimp only
      exact sei _ _ _
  rintro ⟨g14, a2, c2, b2, d2⟩
  dsimp only
  have hLok := lineC_ok hmo (fromT x)
  have hgood := hmmc.line (fromT x)
  rw [putT_good hgood hsx]
  have hWok := hLok.with (by have := hgood.len; omega) hx
  have hmlen : mm.length ≤ 999999 := by omega
  cases hat : atT (lineC (lls mm) (fromT x)) x.nonce with
  | some y =>
    rw [hat] at hstep
    dsimp only at hstep ⊢
    by_cases hf : x.fee ≤ y.fee
    · rw [if_pos hf] at hstep ⊢
      dsimp only
      repeat' (first | (refine go1 ?_; intros) | (refine goCC ?_ ?_ <;> (intro hb; (try simp only [hSQ] at hb); try (exfalso; omega))) | fail)
      all_goals first | (exfalso; omega) | skip
      exact ⟨rfl, (i + 1, aM, cM, mm), ⟨by dsimp only; omega, hstep, hmo, by dsimp only; omega⟩, by dsimp only; omega, by (exact sbS), sei _ _ _⟩
    · rw [if_neg hf] at hstep ⊢
      dsimp only
      generalize hW : withT (lineC (lls mm) (fromT x)) x = W at *
      have hWl : (Ln.mk (fromT x) a2 c2 W).cells.length = 33 := Ln.len hfl
      haveI hWc : OC (Ln.mk (fromT x) a2 c2 W).cells := oc_ln _
      obtain ⟨wc, hwc⟩ : ∃ wc, wc = (Ln.mk (fromT x) a2 c2 W).cells := ⟨_, rfl⟩
      rw [← hwc] at hWl hWc ⊢
      repeat' (first | (refine go1 ?_; intros) | (refine goCC ?_ ?_ <;> (intro hb; (try simp only [hSQ] at hb); try (exfalso; omega))) | fail)
      all_goals first | (exfalso; omega) | skip
      refine clV ?_
      refine vc_pre (L2 := partB gp aM cM mm :: ownLs aM cM mm :: ownTs a2 c2 W :: tsA (offL mm (fromT x)) :: blk g6 24 [.slice none 0 0] :: blk g4 27 [.slice ta ns.length tc, .int .i64 r] :: L) ?_ ?_
      · exact (sei w0 _ (tsA mm :: partB gp aM cM mm :: ownLs aM cM mm :: ownTs a2 c2 W :: blk g6 24 [.slice none 0 0] :: blk g4 27 [.slice ta ns.length tc, .int .i64 r] :: L)).trans (((se_tsA_off mm (fromT x) _).ent w0).trans (sei w0 _ _))
      rw [hwc]
      refine vc_mono (sset_vc w0 _ gp aM cM mm (Ln.mk (fromT x) a2 c2 W) hmo hs ⟨hfl, hWok⟩ hmlen) ?_
      rintro v L' ⟨a5, c5, m5, hm5, ho5, rfl⟩
      have hm5 : lls m5 = setC (lls mm) (fromT x) W := hm5
      have hl5 : m5.length ≤ mm.length + 1 := by
        have e1 := congrArg List.length hm5
        have e2 := setC_len hs hmo.k2 hfl W
        rw [List.length_map] at e1 e2
        omega
      unfold shP
      repeat' (first | (refine go1 ?_; intros) | (refine goCC ?_ ?_ <;> (intro hb; (try simp only [hSQ] at hb); try (exfalso; omega))) | fail)
      exact ⟨rfl, (i + 1, a5, c5, m5), ⟨by dsimp only; omega, by dsimp only; rw [hstep, hm5], ho5, by dsimp only; omega⟩, by dsimp only; omega, by (exact sbS), sei _ _ _⟩
  | none =>
    rw [hat] at hstep
    dsimp only at hstep ⊢
    by_cases hfu : 256 ≤ (lineC (lls mm) (fromT x)).length
    · rw [if_pos hfu] at hstep ⊢
      dsimp only
      rw [hnone hstep]
      repeat' (first | (refine go1 ?_; intros) | (refine goCC ?_ ?_ <;> (intro hb; (try simp only [hSQ] at hb); try (exfalso; omega))) | fail)
      all_goals first | (exfalso; omega) | exact RBack.bad w0 L 9 (sei _ _ _)
    · rw [if_neg hfu] at hstep ⊢
      dsimp only
      generalize hW : withT (lineC (lls mm) (fromT x)) x = W at *
      have hWl : (Ln.mk (fromT x) a2 c2 W).cells.length = 33 := Ln.len hfl
      haveI hWc : OC (Ln.mk (fromT x) a2 c2 W).cells := oc_ln _
      obtain ⟨wc, hwc⟩ : ∃ wc, wc = (Ln.mk (fromT x) a2 c2 W).cells := ⟨_, rfl⟩
      rw [← hwc] at hWl hWc ⊢
      repeat' (first | (refine go1 ?_; intros) | (refine goCC ?_ ?_ <;> (intro hb; (try simp only [hSQ] at hb); try (exfalso; omega))) | fail)
      all_goals first | (exfalso; omega) | skip
      refine clV ?_
      refine vc_pre (L2 := partB gp aM cM mm :: ownLs aM cM mm :: ownTs a2 c2 W :: tsA (offL mm (fromT x)) :: blk g6 24 [.slice none 0 0] :: blk g4 27 [.slice ta ns.length tc, .int .i64 r] :: L) ?_ ?_
      · exact (sei w0 _ (tsA mm :: partB gp aM cM mm :: ownLs aM cM mm :: ownTs a2 c2 W :: blk g6 24 [.slice none 0 0] :: blk g4 27 [.slice ta ns.length tc, .int .i64 r] :: L)).trans (((se_tsA_off mm (fromT x) _).ent w0).trans (sei w0 _ _))
      rw [hwc]
      refine vc_mono (sset_vc w0 _ gp aM cM mm (Ln.mk (fromT x) a2 c2 W) hmo hs ⟨hfl, hWok⟩ hmlen) ?_
      rintro v L' ⟨a5, c5, m5, hm5, ho5, rfl⟩
      have hm5 : lls m5 = setC (lls mm) (fromT x) W := hm5
      have hl5 : m5.length ≤ mm.length + 1 := by
        have e1 := congrArg List.length hm5
        have e2 := setC_len hs hmo.k2 hfl W
        rw [List.length_map] at e1 e2
        omega
      unfold shP
      repeat' (first | (refine go1 ?_; intros) | (refine goCC ?_ ?_ <;> (intro hb; (try simp only [hSQ] at hb); try (exfalso; omega))) | fail)
      exact ⟨rfl, (i + 1, a5, c5, m5), ⟨by dsimp only; omega, by dsimp only; rw [hstep, hm5], ho5, by dsimp only; omega⟩, by dsimp only; omega, by (exact sbS), sei _ _ _⟩
end Go.Proofs.YtcpndfffdbogbaaGreatDoor

/-
  A shard with a transaction (the program's).
-/
import Derived.Test.YtccbcdhpnkbkgaaDoorShdG
import Derived.Test.YtccbcdhpnkbkgaaDoorGZ
set_option linter.unusedVariables false
set_option linter.unusedSimpArgs false
namespace Go.Proofs.YtccbcdhpnkbkgaaDoor
open Go Go.RowKit
set_option linter.unusedVariables false
set_option linter.unusedSimpArgs false
set_option linter.unusedSectionVars false
open Classical

/-- What is told of a shard and of transactions, with an error: their memory is new. -/
def RSub (q : List LC × List Tx × Int) (L : List Asn) (v : Value) (L' : List Asn) : Prop := ∃ a c ms b d, v = .tuple #[.agg #[.slice a ms.length c], .slice b q.2.1.length d, .int .i64 q.2.2] ∧ lls ms = q.1 ∧ LsOk ms ∧ L' = ownLs a c ms :: tsA ms :: ownTs b d q.2.1 :: L
theorem RSub.bad (w0 : World) (L : List Asn) (e : Int) {M : List Asn} (h : Ent w0 M L) : ∃ L', Ent w0 M L' ∧ RSub ([], [], e) L (.tuple #[.agg #[.slice none 0 0], .slice none 0 0, .int .i64 e]) L' :=
  ⟨_, h.trans (((se_own_nil 29 99 L).trans (se_ls_nil _)).ent w0), none, 0, [], none, 0, rfl, rfl, LsOk.nil, rfl⟩
theorem se_sublist {A B : List Asn} (h : B.Sublist A) (L : List Asn) : SE (A ++ L) (B ++ L) := by
  induction h with
  | slnil => exact SE.refl _
  | cons a _ ih => exact (se_drop _ _).trans ih
  | cons_cons a _ ih => exact SE.cons _ ih
theorem se_tsA_off (ms : List Ln) (o : List UInt8) (L : List Asn) : SE (tsA ms :: L) (tsA (offL ms o) :: L) :=
  (se_unbundle _ L).trans ((se_sublist ((List.filter_sublist (p := fun l : Ln => decide (l.own ≠ o)) (l := ms)).map _) L).trans (se_bundle _ L))
theorem se_tsA_out {ms : List Ln} (hs : Srt2 (lls ms)) {k : Nat} (hk : k < ms.length) (L : List Asn) : SE (tsA ms :: L) (ownTs ms[k].a ms[k].c ms[k].xs :: tsA (offL ms ms[k].own) :: L) := by
  have := se_tsA_pull ms L k hk
  rwa [List.eraseIdx_eq_take_drop_succ, ← offL_is hs hk] at this
theorem Ln.setTs {l : Ln} (h : l.own.length = 32) (a : Option Addr) (c : Nat) {xs : List Tx} {n : Nat} (hn : n = xs.length) : splice l.cells (0 + 32) [.slice a n c] = (Ln.mk l.own a c xs).cells := by
  subst hn
  have := splice_mid (bvs l.own) [.slice l.a l.xs.length l.c] [] [.slice a xs.length c] (0 + 32) (by simp [h]) rfl
  simpa [Ln.cells] using this
theorem setC_len {cs : List LC} (hs : Srt2 cs) (h32 : K2 cs) {o : List UInt8} (ho : o.length = 32) (xs : List Tx) : (setC cs o xs).length ≤ cs.length + 1 := by
  by_cases hk : ∃ hk : fdC cs o < cs.length, cs[fdC cs o].1 = o
  · obtain ⟨hk, e⟩ := hk
    by_cases hx : xs = []
    · subst hx
      rw [← setC_is0 hs hk e]
      simp
      omega
    · rw [← setC_is1 hs hk e hx]
      simp
  · have hk' : ∀ hk : fdC cs o < cs.length, cs[fdC cs o].1 ≠ o := fun a b => hk ⟨a, b⟩
    by_cases hx : xs = []
    · subst hx
      rw [← setC_no0 hs h32 ho hk']
      omega
    · rw [← setC_no1 hs h32 ho hk' hx]
      simp
      omega
set_option maxRecDepth 100000 in
set_option maxHeartbeats 8000000 in
theorem ssubmit_vc (w0 : World) (L : List Asn) (a : Option Addr) (c : Nat) (ls : List Ln) (cap : Int) (nonce : Nat) (x : Tx) {n : Nat} (hn : n = ls.length) (h : LsOk ls) (h9 : ls.length ≤ 900000) (hx : x.ok) (hnn : nonce < 18446744073709551616) [hK : RdA w0 (some ⟨0, 0, none⟩) (wds K64)] [hr : RdC w0 L a (lnc ls)] [hv : RdLs w0 L ls] :
    VC Tryd.prog w0 12 [.agg #[.slice a n c], .int .i64 cap, .int .u64 nonce, .agg x.cells.toArray] L (RSub (submitS (lls ls) cap nonce x) L) := by
  subst hn
  have hlen := h.len
  have hxl := Tx.len hx
  have hx2 := Tx.f2 hx
  have hxn := hx.nonce
  have hfl := fromT_len x
  refine vc_ent ?_
  refine vc_in rfl rfl ?_
  generalize hxc : x.cells = xc at *
  repeat' (first | (refine go1 ?_; intros) | ((first | refine vl_caseG rfl rfl rfl rfl ?_ ?_ | refine v_cond rfl ?_ ?_) <;> (intro hb; (try simp only [hq1, hq2, hq3, hq4, ne_eq, hq5, hq6, hq7, hq8] at hb); try (exfalso; omega))) | fail)
  refine vl_o rfl (vo_call rfl rfl ?_)
  refine vc_mono (scheck_vc w0 _ a c ls rfl h) ?_
  rintro v L' ⟨rfl, rfl⟩
  unfold submitS
  by_cases hm : mayS ls = true
  rotate_left
  · rw [if_neg hm, if_neg (fun e => hm (mayS_iff.2 e))]
    repeat' (first | (refine go1 ?_; intros) | ((first | refine vl_caseG rfl rfl rfl rfl ?_ ?_ | refine v_cond rfl ?_ ?_) <;> (intro hb; (try simp only [hq1, hq2, hq3, hq4, ne_eq, hq5, hq6, hq7, hq8] at hb); try (exfalso; omega))) | fail)
    all_goals first | (exfalso; omega) | exact RSub.bad w0 L 8 (sei _ _ _)
  have hmc := mayS_iff.1 hm
  rw [if_pos hm, if_pos hmc]
  unfold submitC
  repeat' (first | (refine go1 ?_; intros) | ((first | refine vl_caseG rfl rfl rfl rfl ?_ ?_ | refine v_cond rfl ?_ ?_) <;> (intro hb; (try simp only [hq1, hq2, hq3, hq4, ne_eq, hq5, hq6, hq7, hq8] at hb); try (exfalso; omega))) | fail)
  all_goals first | (exfalso; omega) | skip
  refine vl_o rfl (vo_call rfl rfl ?_)
  rw [← hxc]
  refine vc_mono (txCheck_vc w0 _ x hx) ?_
  rintro v L' ⟨rfl, rfl⟩
  rw [hxc]
  by_cases hsg : x.sign = sgn x
  rotate_left
  · rw [if_neg hsg, if_neg hsg]
    repeat' (first | (refine go1 ?_; intros) | ((first | refine vl_caseG rfl rfl rfl rfl ?_ ?_ | refine v_cond rfl ?_ ?_) <;> (intro hb; (try simp only [hq1, hq2, hq3, hq4, ne_eq, hq5, hq6, hq7, hq8] at hb); try (exfalso; omega))) | fail)
    all_goals first | (exfalso; omega) | exact RSub.bad w0 L 110 (sei _ _ _)
  rw [if_pos hsg, if_pos hsg]
  by_cases hst : x.nonce < nonce
  · rw [if_pos hst]
    repeat' (first | (refine go1 ?_; intros) | ((first | refine vl_caseG rfl rfl rfl rfl ?_ ?_ | refine v_cond rfl ?_ ?_) <;> (intro hb; (try simp only [hq1, hq2, hq3, hq4, ne_eq, hq5, hq6, hq7, hq8] at hb); try (exfalso; omega))) | fail)
    all_goals first | (exfalso; omega) | exact RSub.bad w0 L 200 (sei _ _ _)
  rw [if_neg hst]
  by_cases hfar : 16 ≤ x.nonce - nonce ∨ x.nonce = 18446744073709551615
  · rw [if_pos hfar]
    repeat' (first | (refine go1 ?_; intros) | ((first | refine vl_caseG rfl rfl rfl rfl ?_ ?_ | refine v_cond rfl ?_ ?_) <;> (intro hb; (try simp only [hq1, hq2, hq3, hq4, ne_eq, hq5, hq6, hq7, hq8] at hb); try (exfalso; omega))) | fail)
    all_goals first | (exfalso; omega) | exact RSub.bad w0 L 201 (sei _ _ _)
  rw [if_neg hfar]
  repeat' (first | (refine go1 ?_; intros) | ((first | refine vl_caseG rfl rfl rfl rfl ?_ ?_ | refine v_cond rfl ?_ ?_) <;> (intro hb; (try simp only [hq1, hq2, hq3, hq4, ne_eq, hq5, hq6, hq7, hq8] at hb); try (exfalso; omega))) | fail)
  all_goals first | (exfalso; omega) | skip
  refine vl_o rfl (vo_call rfl rfl ?_)
  refine vc_mono (stwin_vc w0 _ a c ls rfl h) ?_
  rintro v L' ⟨a1, c1, ms, rfl, hms, rfl⟩
  have hmo := h.of_lls hms
  have hml : ms.length = ls.length := lls_len hms
  have hmc2 : MayC (lls ms) := by rw [hms]; exact hmc
  have hs := hmc2.srt
  rw [← hms]
  have hcnt : cntL ls = cntC (lls ms) := by rw [hms]; exact cntL_lls ls
  repeat' (first | (refine go1 ?_; intros) | ((first | refine vl_caseG rfl rfl rfl rfl ?_ ?_ | refine v_cond rfl ?_ ?_) <;> (intro hb; (try simp only [hq1, hq2, hq3, hq4, ne_eq, hq5, hq6, hq7, hq8] at hb); try (exfalso; omega))) | fail)
  rename_i g4 g7 g8 _ _ gp
  rw [List.append_nil]
  refine v_cut (Nat × Option Addr × Nat × Option Addr × Nat) [1, 2, 4, 7, 8, 9, 11] rfl (fun z => [(12, .pointer (some ⟨z.1, 0, none⟩)), (13, .slice z.2.2.2.1 (putT (Ln.mk (fromT x) none 0 (lineC (lls ms) (fromT x))) x).2.2.1.length z.2.2.2.2), (10, .int .i64 (putT (Ln.mk (fromT x) none 0 (lineC (lls ms) (fromT x))) x).2.2.2)]) (fun z => blk z.1 49 (Ln.mk (putT (Ln.mk (fromT x) none 0 (lineC (lls ms) (fromT x))) x).1 z.2.1 z.2.2.1 (putT (Ln.mk (fromT x) none 0 (lineC (lls ms) (fromT x))) x).2.1).cells :: ownTs z.2.2.2.1 z.2.2.2.2 (putT (Ln.mk (fromT x) none 0 (lineC (lls ms) (fromT x))) x).2.2.1 :: ownTs z.2.1 z.2.2.1 (putT (Ln.mk (fromT x) none 0 (lineC (lls ms) (fromT x))) x).2.1 :: partB gp a1 c1 ms :: ownLs a1 c1 ms :: tsA ms :: blk g8 24 [.slice none 0 0] :: blk g7 29 xc :: blk g4 24 [.slice a ls.length c] :: L) ?_ ?_
  · refine v_id ?_
    refine v_draw0 [] (by kernel_rfl) ?_
    refine va_takeA 0 rfl rfl rfl rfl ?_
    refine va_takeA 1 rfl rfl rfl rfl ?_
    refine va_takeA 4 rfl rfl rfl rfl ?_
    refine va_two 2 10 (by kernel_rfl) rfl rfl rfl rfl ?_ ?_
    · first | refine vo_call rfl rfl ?_ | refine vo_callV rfl rfl rfl ?_
      rw [← hxc]
      refine vc_mono (txFrom_vc w0 _ x hx) ?_
      rintro v L' ⟨rfl, rfl⟩
      rw [hxc, show sha (tagB 3 [x.pub]) = fromT x from rfl]
      refine ⟨.inr (sei _ _ _), ?_⟩
      refine va_two 3 10 (by kernel_rfl) rfl rfl rfl rfl ?_ ?_
      · first | refine vo_call rfl rfl ?_ | refine vo_callV rfl rfl rfl ?_
        refine vc_mono (sline_vc w0 _ gp a1 c1 ms (fromT x) hmo hs hfl) ?_
        rintro v L' ⟨l, rfl, hlo, hlx, hlm, rfl⟩
        have hlok : l.ok := by
          rcases hlm with e | ⟨_, e⟩
          · exact hmo.ok l e
          · exact ⟨by rw [hlo]; exact hfl, by rw [e]; exact TsOk.nil⟩
        have hput : putT l x = putT (Ln.mk (fromT x) none 0 (lineC (lls ms) (fromT x))) x := by
          obtain ⟨o, la, lc, lx⟩ := l
          dsimp only at hlo hlx
          subst hlo hlx
          rfl
        haveI hrl : ∀ M [RdLs w0 M ms], RdC w0 M l.a (txc l.xs) := fun M k => by
          rcases hlm with e | ⟨_, e⟩
          · exact k.out l e
          · rw [e]; exact rdC_nil _ _ _
        refine ⟨.inr (sei _ _ _), ?_⟩
        refine va_two 5 10 (by kernel_rfl) rfl rfl rfl rfl ?_ ?_
        · first | refine vo_call rfl rfl ?_ | refine vo_callV rfl rfl rfl ?_
          rw [← hxc]
          refine vc_mono (qput_vc w0 _ l hlok x hx) ?_
          rw [hput, hxc]
          rintro v L' ⟨a2, c2, b2, d2, rfl, rfl⟩
          have hPo := putT_ok (l := Ln.mk (fromT x) none 0 (lineC (lls ms) (fromT x))) ⟨hfl, hlx ▸ hlok.ts⟩ hx
          have hPl : (Ln.mk (putT (Ln.mk (fromT x) none 0 (lineC (lls ms) (fromT x))) x).1 a2 c2 (putT (Ln.mk (fromT x) none 0 (lineC (lls ms) (fromT x))) x).2.1).cells.length = 33 := Ln.len hPo.own
          refine ⟨.inr (sei _ _ _), ?_⟩
          refine va_takeA 6 rfl rfl rfl rfl ?_
          refine va_takeA 7 rfl rfl rfl rfl ?_
          refine va_takeA 8 rfl rfl rfl rfl ?_
          refine va_takeA 9 rfl rfl rfl rfl ?_
          refine va_one 10 (by kernel_rfl) rfl rfl ?_
          (first | (refine vo_box rfl rfl rfl ?_; intro _) | (refine vo_alloc rfl ?_; intro _) | (refine vo_isStore ?_; first | (refine vo_isPt0 rfl ?_; refine vo_stWA rfl rfl ?_) | (refine vo_isPt rfl ?_; refine vo_stBA rfl rfl ?_) | (refine vo_stO rfl rfl (by rfl) (by first | rfl | assumption) (by first | assumption | (simp; done) | (simp; omega) | omega) rfl ?_; skip)) | (refine vo_isCall ?_; first | (refine vo_isApp ?_; first | (refine vo_append0A rfl rfl rfl ?_; intro _ _ _ _) | (refine vo_appendA rfl rfl rfl ?_; intro _ _ _ _)) | (refine vo_isCopy ?_; refine vo_copyB rfl rfl rfl (by assumption) (by assumption) (by assumption) (by assumption) ?_) | refine vo_yield rfl rfl rfl rfl rfl ?_ | refine vo_callV rfl rfl rfl (vc_in rfl rfl ?_)) | refine vo_convRow rfl rfl ?_ | (refine vo_isBs ?_; refine vo_buildSlice rfl rfl rfl (by decide) (by repeat' (first | exact trivial | rfl | assumption | refine ⟨?_, ?_⟩ | (simp; done) | (simp; omega))) (by decide) rfl ?_; intro _) | (refine vo_buildSlice0 rfl ?_; intro _) | fail)
          refine ⟨.inr (sei _ _ _), ?_⟩
          refine va_one 11 (by kernel_rfl) rfl rfl ?_
          (first | (refine vo_box rfl rfl rfl ?_; intro _) | (refine vo_alloc rfl ?_; intro _) | (refine vo_isStore ?_; first | (refine vo_isPt0 rfl ?_; refine vo_stWA rfl rfl ?_) | (refine vo_isPt rfl ?_; refine vo_stBA rfl rfl ?_) | (refine vo_stO rfl rfl (by rfl) (by first | rfl | assumption) (by first | assumption | (simp; done) | (simp; omega) | omega) rfl ?_; skip)) | (refine vo_isCall ?_; first | (refine vo_isApp ?_; first | (refine vo_append0A rfl rfl rfl ?_; intro _ _ _ _) | (refine vo_appendA rfl rfl rfl ?_; intro _ _ _ _)) | (refine vo_isCopy ?_; refine vo_copyB rfl rfl rfl (by assumption) (by assumption) (by assumption) (by assumption) ?_) | refine vo_yield rfl rfl rfl rfl rfl ?_ | refine vo_callV rfl rfl rfl (vc_in rfl rfl ?_)) | refine vo_convRow rfl rfl ?_ | (refine vo_isBs ?_; refine vo_buildSlice rfl rfl rfl (by decide) (by repeat' (first | exact trivial | rfl | assumption | refine ⟨?_, ?_⟩ | (simp; done) | (simp; omega))) (by decide) rfl ?_; intro _) | (refine vo_buildSlice0 rfl ?_; intro _) | fail)
          refine ⟨.inr (sei _ _ _), ?_⟩
          refine va_takeA 12 rfl rfl rfl rfl ?_
          refine va_takeA 13 rfl rfl rfl rfl ?_
          refine va_done (by kernel_rfl) ?_
          refine ⟨rfl, (_, a2, c2, b2, d2), by (repeat' (first | exact Sub.nil _ | refine Sub.cons rfl rfl ?_ | refine Sub.cons rfl ?_ ?_)), ?_⟩
          dsimp only
          exact sei _ _ _
        · (first | (refine vo_box rfl rfl rfl ?_; intro _) | (refine vo_alloc rfl ?_; intro _) | (refine vo_isStore ?_; first | (refine vo_isPt0 rfl ?_; refine vo_stWA rfl rfl ?_) | (refine vo_isPt rfl ?_; refine vo_stBA rfl rfl ?_) | (refine vo_stO rfl rfl (by rfl) (by first | rfl | assumption) (by first | assumption | (simp; done) | (simp; omega) | omega) rfl ?_; skip)) | (refine vo_isCall ?_; first | (refine vo_isApp ?_; first | (refine vo_append0A rfl rfl rfl ?_; intro _ _ _ _) | (refine vo_appendA rfl rfl rfl ?_; intro _ _ _ _)) | (refine vo_isCopy ?_; refine vo_copyB rfl rfl rfl (by assumption) (by assumption) (by assumption) (by assumption) ?_) | refine vo_yield rfl rfl rfl rfl rfl ?_ | refine vo_callV rfl rfl rfl (vc_in rfl rfl ?_)) | refine vo_convRow rfl rfl ?_ | (refine vo_isBs ?_; refine vo_buildSlice rfl rfl rfl (by decide) (by repeat' (first | exact trivial | rfl | assumption | refine ⟨?_, ?_⟩ | (simp; done) | (simp; omega))) (by decide) rfl ?_; intro _) | (refine vo_buildSlice0 rfl ?_; intro _) | fail)
          refine ⟨.inr (sei _ _ _), ?_⟩
          refine va_one 5 (by kernel_rfl) rfl rfl ?_
          first | refine vo_call rfl rfl ?_ | refine vo_callV rfl rfl rfl ?_
          rw [← hxc]
          refine vc_mono (qput_vc w0 _ l hlok x hx) ?_
          rw [hput, hxc]
          rintro v L' ⟨a2, c2, b2, d2, rfl, rfl⟩
          have hPo := putT_ok (l := Ln.mk (fromT x) none 0 (lineC (lls ms) (fromT x))) ⟨hfl, hlx ▸ hlok.ts⟩ hx
          have hPl : (Ln.mk (putT (Ln.mk (fromT x) none 0 (lineC (lls ms) (fromT x))) x).1 a2 c2 (putT (Ln.mk (fromT x) none 0 (lineC (lls ms) (fromT x))) x).2.1).cells.length = 33 := Ln.len hPo.own
          refine ⟨.inr (sei _ _ _), ?_⟩
          refine va_takeA 6 rfl rfl rfl rfl ?_
          refine va_takeA 7 rfl rfl rfl rfl ?_
          refine va_takeA 8 rfl rfl rfl rfl ?_
          refine va_takeA 9 rfl rfl rfl rfl ?_
          refine va_one 11 (by kernel_rfl) rfl rfl ?_
          (first | (refine vo_box rfl rfl rfl ?_; intro _) | (refine vo_alloc rfl ?_; intro _) | (refine vo_isStore ?_; first | (refine vo_isPt0 rfl ?_; refine vo_stWA rfl rfl ?_) | (refine vo_isPt rfl ?_; refine vo_stBA rfl rfl ?_) | (refine vo_stO rfl rfl (by rfl) (by first | rfl | assumption) (by first | assumption | (simp; done) | (simp; omega) | omega) rfl ?_; skip)) | (refine vo_isCall ?_; first | (refine vo_isApp ?_; first | (refine vo_append0A rfl rfl rfl ?_; intro _ _ _ _) | (refine vo_appendA rfl rfl rfl ?_; intro _ _ _ _)) | (refine vo_isCopy ?_; refine vo_copyB rfl rfl rfl (by assumption) (by assumption) (by assumption) (by assumption) ?_) | refine vo_yield rfl rfl rfl rfl rfl ?_ | refine vo_callV rfl rfl rfl (vc_in rfl rfl ?_)) | refine vo_convRow rfl rfl ?_ | (refine vo_isBs ?_; refine vo_buildSlice rfl rfl rfl (by decide) (by repeat' (first | exact trivial | rfl | assumption | refine ⟨?_, ?_⟩ | (simp; done) | (simp; omega))) (by decide) rfl ?_; intro _) | (refine vo_buildSlice0 rfl ?_; intro _) | fail)
          refine ⟨.inr (sei _ _ _), ?_⟩
          refine va_takeA 12 rfl rfl rfl rfl ?_
          refine va_takeA 13 rfl rfl rfl rfl ?_
          refine va_done (by kernel_rfl) ?_
          refine ⟨rfl, (_, a2, c2, b2, d2), by (repeat' (first | exact Sub.nil _ | refine Sub.cons rfl rfl ?_ | refine Sub.cons rfl ?_ ?_)), ?_⟩
          dsimp only
          exact sei _ _ _
      · (first | (refine vo_box rfl rfl rfl ?_; intro _) | (refine vo_alloc rfl ?_; intro _) | (refine vo_isStore ?_; first | (refine vo_isPt0 rfl ?_; refine vo_stWA rfl rfl ?_) | (refine vo_isPt rfl ?_; refine vo_stBA rfl rfl ?_) | (refine vo_stO rfl rfl (by rfl) (by first | rfl | assumption) (by first | assumption | (simp; done) | (simp; omega) | omega) rfl ?_; skip)) | (refine vo_isCall ?_; first | (refine vo_isApp ?_; first | (refine vo_append0A rfl rfl rfl ?_; intro _ _ _ _) | (refine vo_appendA rfl rfl rfl ?_; intro _ _ _ _)) | (refine vo_isCopy ?_; refine vo_copyB rfl rfl rfl (by assumption) (by assumption) (by assumption) (by assumption) ?_) | refine vo_yield rfl rfl rfl rfl rfl ?_ | refine vo_callV rfl rfl rfl (vc_in rfl rfl ?_)) | refine vo_convRow rfl rfl ?_ | (refine vo_isBs ?_; refine vo_buildSlice rfl rfl rfl (by decide) (by repeat' (first | exact trivial | rfl | assumption | refine ⟨?_, ?_⟩ | (simp; done) | (simp; omega))) (by decide) rfl ?_; intro _) | (refine vo_buildSlice0 rfl ?_; intro _) | fail)
        refine ⟨.inr (sei _ _ _), ?_⟩
        refine va_one 3 (by kernel_rfl) rfl rfl ?_
        first | refine vo_call rfl rfl ?_ | refine vo_callV rfl rfl rfl ?_
        refine vc_mono (sline_vc w0 _ gp a1 c1 ms (fromT x) hmo hs hfl) ?_
        rintro v L' ⟨l, rfl, hlo, hlx, hlm, rfl⟩
        have hlok : l.ok := by
          rcases hlm with e | ⟨_, e⟩
          · exact hmo.ok l e
          · exact ⟨by rw [hlo]; exact hfl, by rw [e]; exact TsOk.nil⟩
        have hput : putT l x = putT (Ln.mk (fromT x) none 0 (lineC (lls ms) (fromT x))) x := by
          obtain ⟨o, la, lc, lx⟩ := l
          dsimp only at hlo hlx
          subst hlo hlx
          rfl
        haveI hrl : ∀ M [RdLs w0 M ms], RdC w0 M l.a (txc l.xs) := fun M k => by
          rcases hlm with e | ⟨_, e⟩
          · exact k.out l e
          · rw [e]; exact rdC_nil _ _ _
        refine ⟨.inr (sei _ _ _), ?_⟩
        refine va_one 5 (by kernel_rfl) rfl rfl ?_
        first | refine vo_call rfl rfl ?_ | refine vo_callV rfl rfl rfl ?_
        rw [← hxc]
        refine vc_mono (qput_vc w0 _ l hlok x hx) ?_
        rw [hput, hxc]
        rintro v L' ⟨a2, c2, b2, d2, rfl, rfl⟩
        have hPo := putT_ok (l := Ln.mk (fromT x) none 0 (lineC (lls ms) (fromT x))) ⟨hfl, hlx ▸ hlok.ts⟩ hx
        have hPl : (Ln.mk (putT (Ln.mk (fromT x) none 0 (lineC (lls ms) (fromT x))) x).1 a2 c2 (putT (Ln.mk (fromT x) none 0 (lineC (lls ms) (fromT x))) x).2.1).cells.length = 33 := Ln.len hPo.own
        refine ⟨.inr (sei _ _ _), ?_⟩
        refine va_takeA 6 rfl rfl rfl rfl ?_
        refine va_takeA 7 rfl rfl rfl rfl ?_
        refine va_takeA 8 rfl rfl rfl rfl ?_
        refine va_takeA 9 rfl rfl rfl rfl ?_
        refine va_one 11 (by kernel_rfl) rfl rfl ?_
        (first | (refine vo_box rfl rfl rfl ?_; intro _) | (refine vo_alloc rfl ?_; intro _) | (refine vo_isStore ?_; first | (refine vo_isPt0 rfl ?_; refine vo_stWA rfl rfl ?_) | (refine vo_isPt rfl ?_; refine vo_stBA rfl rfl ?_) | (refine vo_stO rfl rfl (by rfl) (by first | rfl | assumption) (by first | assumption | (simp; done) | (simp; omega) | omega) rfl ?_; skip)) | (refine vo_isCall ?_; first | (refine vo_isApp ?_; first | (refine vo_append0A rfl rfl rfl ?_; intro _ _ _ _) | (refine vo_appendA rfl rfl rfl ?_; intro _ _ _ _)) | (refine vo_isCopy ?_; refine vo_copyB rfl rfl rfl (by assumption) (by assumption) (by assumption) (by assumption) ?_) | refine vo_yield rfl rfl rfl rfl rfl ?_ | refine vo_callV rfl rfl rfl (vc_in rfl rfl ?_)) | refine vo_convRow rfl rfl ?_ | (refine vo_isBs ?_; refine vo_buildSlice rfl rfl rfl (by decide) (by repeat' (first | exact trivial | rfl | assumption | refine ⟨?_, ?_⟩ | (simp; done) | (simp; omega))) (by decide) rfl ?_; intro _) | (refine vo_buildSlice0 rfl ?_; intro _) | fail)
        refine ⟨.inr (sei _ _ _), ?_⟩
        refine va_takeA 12 rfl rfl rfl rfl ?_
        refine va_takeA 13 rfl rfl rfl rfl ?_
        refine va_done (by kernel_rfl) ?_
        refine ⟨rfl, (_, a2, c2, b2, d2), by (repeat' (first | exact Sub.nil _ | refine Sub.cons rfl rfl ?_ | refine Sub.cons rfl ?_ ?_)), ?_⟩
        dsimp only
        exact sei _ _ _
    · (first | (refine vo_box rfl rfl rfl ?_; intro _) | (refine vo_alloc rfl ?_; intro _) | (refine vo_isStore ?_; first | (refine vo_isPt0 rfl ?_; refine vo_stWA rfl rfl ?_) | (refine vo_isPt rfl ?_; refine vo_stBA rfl rfl ?_) | (refine vo_stO rfl rfl (by rfl) (by first | rfl | assumption) (by first | assumption | (simp; done) | (simp; omega) | omega) rfl ?_; skip)) | (refine vo_isCall ?_; first | (refine vo_isApp ?_; first | (refine vo_append0A rfl rfl rfl ?_; intro _ _ _ _) | (refine vo_appendA rfl rfl rfl ?_; intro _ _ _ _)) | (refine vo_isCopy ?_; refine vo_copyB rfl rfl rfl (by assumption) (by assumption) (by assumption) (by assumption) ?_) | refine vo_yield rfl rfl rfl rfl rfl ?_ | refine vo_callV rfl rfl rfl (vc_in rfl rfl ?_)) | refine vo_convRow rfl rfl ?_ | (refine vo_isBs ?_; refine vo_buildSlice rfl rfl rfl (by decide) (by repeat' (first | exact trivial | rfl | assumption | refine ⟨?_, ?_⟩ | (simp; done) | (simp; omega))) (by decide) rfl ?_; intro _) | (refine vo_buildSlice0 rfl ?_; intro _) | fail)
      refine ⟨.inr (sei _ _ _), ?_⟩
      refine va_one 2 (by kernel_rfl) rfl rfl ?_
      first | refine vo_call rfl rfl ?_ | refine vo_callV rfl rfl rfl ?_
      rw [← hxc]
      refine vc_mono (txFrom_vc w0 _ x hx) ?_
      rintro v L' ⟨rfl, rfl⟩
      rw [hxc, show sha (tagB 3 [x.pub]) = fromT x from rfl]
      refine ⟨.inr (sei _ _ _), ?_⟩
      refine va_one 3 (by kernel_rfl) rfl rfl ?_
      first | refine vo_call rfl rfl ?_ | refine vo_callV rfl rfl rfl ?_
      refine vc_mono (sline_vc w0 _ gp a1 c1 ms (fromT x) hmo hs hfl) ?_
      rintro v L' ⟨l, rfl, hlo, hlx, hlm, rfl⟩
      have hlok : l.ok := by
        rcases hlm with e | ⟨_, e⟩
        · exact hmo.ok l e
        · exact ⟨by rw [hlo]; exact hfl, by rw [e]; exact TsOk.nil⟩
      have hput : putT l x = putT (Ln.mk (fromT x) none 0 (lineC (lls ms) (fromT x))) x := by
        obtain ⟨o, la, lc, lx⟩ := l
        dsimp only at hlo hlx
        subst hlo hlx
        rfl
      haveI hrl : ∀ M [RdLs w0 M ms], RdC w0 M l.a (txc l.xs) := fun M k => by
        rcases hlm with e | ⟨_, e⟩
        · exact k.out l e
        · rw [e]; exact rdC_nil _ _ _
      refine ⟨.inr (sei _ _ _), ?_⟩
      refine va_one 5 (by kernel_rfl) rfl rfl ?_
      first | refine vo_call rfl rfl ?_ | refine vo_callV rfl rfl rfl ?_
      rw [← hxc]
      refine vc_mono (qput_vc w0 _ l hlok x hx) ?_
      rw [hput, hxc]
      rintro v L' ⟨a2, c2, b2, d2, rfl, rfl⟩
      have hPo := putT_ok (l := Ln.mk (fromT x) none 0 (lineC (lls ms) (fromT x))) ⟨hfl, hlx ▸ hlok.ts⟩ hx
      have hPl : (Ln.mk (putT (Ln.mk (fromT x) none 0 (lineC (lls ms) (fromT x))) x).1 a2 c2 (putT (Ln.mk (fromT x) none 0 (lineC (lls ms) (fromT x))) x).2.1).cells.length = 33 := Ln.len hPo.own
      refine ⟨.inr (sei _ _ _), ?_⟩
      refine va_takeA 6 rfl rfl rfl rfl ?_
      refine va_takeA 7 rfl rfl rfl rfl ?_
      refine va_takeA 8 rfl rfl rfl rfl ?_
      refine va_takeA 9 rfl rfl rfl rfl ?_
      refine va_one 11 (by kernel_rfl) rfl rfl ?_
      (first | (refine vo_box rfl rfl rfl ?_; intro _) | (refine vo_alloc rfl ?_; intro _) | (refine vo_isStore ?_; first | (refine vo_isPt0 rfl ?_; refine vo_stWA rfl rfl ?_) | (refine vo_isPt rfl ?_; refine vo_stBA rfl rfl ?_) | (refine vo_stO rfl rfl (by rfl) (by first | rfl | assumption) (by first | assumption | (simp; done) | (simp; omega) | omega) rfl ?_; skip)) | (refine vo_isCall ?_; first | (refine vo_isApp ?_; first | (refine vo_append0A rfl rfl rfl ?_; intro _ _ _ _) | (refine vo_appendA rfl rfl rfl ?_; intro _ _ _ _)) | (refine vo_isCopy ?_; refine vo_copyB rfl rfl rfl (by assumption) (by assumption) (by assumption) (by assumption) ?_) | refine vo_yield rfl rfl rfl rfl rfl ?_ | refine vo_callV rfl rfl rfl (vc_in rfl rfl ?_)) | refine vo_convRow rfl rfl ?_ | (refine vo_isBs ?_; refine vo_buildSlice rfl rfl rfl (by decide) (by repeat' (first | exact trivial | rfl | assumption | refine ⟨?_, ?_⟩ | (simp; done) | (simp; omega))) (by decide) rfl ?_; intro _) | (refine vo_buildSlice0 rfl ?_; intro _) | fail)
      refine ⟨.inr (sei _ _ _), ?_⟩
      refine va_takeA 12 rfl rfl rfl rfl ?_
      refine va_takeA 13 rfl rfl rfl rfl ?_
      refine va_done (by kernel_rfl) ?_
      refine ⟨rfl, (_, a2, c2, b2, d2), by (repeat' (first | exact Sub.nil _ | refine Sub.cons rfl rfl ?_ | refine Sub.cons rfl ?_ ?_)), ?_⟩
      dsimp only
      exact sei _ _ _
  rintro ⟨g12, a2, c2, b2, d2⟩
  dsimp only
  have hLok : TsOk (lineC (lls ms) (fromT x)) := by
    by_cases hl0 : lineC (lls ms) (fromT x) = []
    · rw [hl0]; exact TsOk.nil
    · obtain ⟨l, hl, e⟩ := List.mem_map.1 (lineC_in hl0)
      have := (hmo.ok l hl).ts
      rwa [show l.xs = lineC (lls ms) (fromT x) from congrArg Prod.snd e] at this
  have hgood := hmc2.line (fromT x)
  rw [putT_good hgood hsg]
  have hWok := hLok.with (by have := hgood.len; omega) hx
  have hwne := withT_ne (lineC (lls ms) (fromT x)) x
  have hmlen : ms.length ≤ 999999 := by omega
  cases hat : atT (lineC (lls ms) (fromT x)) x.nonce with
  | some y =>
    dsimp only
    have hyo : y.ok := hLok.ok y (atT_in hat)
    by_cases hf : x.fee ≤ y.fee
    · rw [if_pos hf, if_pos hf]
      dsimp only
      repeat' (first | (refine go1 ?_; intros) | ((first | refine vl_caseG rfl rfl rfl rfl ?_ ?_ | refine v_cond rfl ?_ ?_) <;> (intro hb; (try simp only [hq1, hq2, hq3, hq4, ne_eq, hq5, hq6, hq7, hq8] at hb); try (exfalso; omega))) | fail)
      all_goals first | (exfalso; omega) | exact RSub.bad w0 L 190 (sei _ _ _)
    rw [if_neg hf, if_neg hf]
    dsimp only
    generalize hW : withT (lineC (lls ms) (fromT x)) x = W at *
    have hWl : (Ln.mk (fromT x) a2 c2 W).cells.length = 33 := Ln.len hfl
    haveI hWc : OC (Ln.mk (fromT x) a2 c2 W).cells := oc_ln _
    obtain ⟨wc, hwc⟩ : ∃ wc, wc = (Ln.mk (fromT x) a2 c2 W).cells := ⟨_, rfl⟩
    rw [← hwc] at hWl hWc ⊢
    repeat' (first | (refine go1 ?_; intros) | ((first | refine vl_caseG rfl rfl rfl rfl ?_ ?_ | refine v_cond rfl ?_ ?_) <;> (intro hb; (try simp only [hq1, hq2, hq3, hq4, ne_eq, hq5, hq6, hq7, hq8] at hb); try (exfalso; omega))) | fail)
    all_goals first | (exfalso; omega) | skip
    obtain ⟨O, hO⟩ : ∃ O, O = [y] := ⟨_, rfl⟩
    rw [← hO]
    obtain ⟨aM, cM, mm, hMM, hMo, hMs, hMl⟩ : ∃ aM cM mm, (aM, cM, mm) = (a1, c1, ms) ∧ LsOk mm ∧ Srt2 (lls mm) ∧ mm.length ≤ 999999 := ⟨a1, c1, ms, rfl, hmo, hs, hmlen⟩
    have hMe : setC (lls ms) (fromT x) W = setC (lls mm) (fromT x) W := by rw [(Prod.mk.inj (Prod.mk.inj hMM).2).2]
    rw [hMe]
    obtain ⟨rfl, h2⟩ := Prod.mk.inj hMM
    obtain ⟨rfl, h3⟩ := Prod.mk.inj h2
    subst h3
    refine vl_o rfl (vo_call rfl rfl ?_)
    refine vc_pre (L2 := partB gp aM cM mm :: ownLs aM cM mm :: ownTs (Ln.mk (fromT x) a2 c2 W).a (Ln.mk (fromT x) a2 c2 W).c (Ln.mk (fromT x) a2 c2 W).xs :: tsA (offL mm (fromT x)) :: ownTs b2 d2 O :: blk g8 24 [.slice none 0 0] :: L) ?_ ?_
    · exact (sei w0 _ (tsA mm :: partB gp aM cM mm :: ownLs aM cM mm :: ownTs a2 c2 W :: ownTs b2 d2 O :: blk g8 24 [.slice none 0 0] :: L)).trans (((se_tsA_off mm (fromT x) _).ent w0).trans (sei w0 _ _))
    rw [hwc]
    refine vc_mono (sset_vc w0 _ gp aM cM mm (Ln.mk (fromT x) a2 c2 W) hMo hMs ⟨fromT_len x, hWok⟩ hMl) ?_
    rintro v L' ⟨a5, c5, m5, hm5, ho5, rfl⟩
    unfold shP
    repeat' (first | (refine go1 ?_; intros) | ((first | refine vl_caseG rfl rfl rfl rfl ?_ ?_ | refine v_cond rfl ?_ ?_) <;> (intro hb; (try simp only [hq1, hq2, hq3, hq4, ne_eq, hq5, hq6, hq7, hq8] at hb); try (exfalso; omega))) | fail)
    refine ⟨_, sei w0 _ (ownLs a5 c5 m5 :: tsA m5 :: ownTs b2 d2 O :: L), a5, c5, m5, b2, d2, rfl, hm5, ho5, rfl⟩
  | none =>
    dsimp only
    by_cases hfu : 256 ≤ (lineC (lls ms) (fromT x)).length
    · rw [if_pos hfu, if_pos hfu]
      dsimp only
      repeat' (first | (refine go1 ?_; intros) | ((first | refine vl_caseG rfl rfl rfl rfl ?_ ?_ | refine v_cond rfl ?_ ?_) <;> (intro hb; (try simp only [hq1, hq2, hq3, hq4, ne_eq, hq5, hq6, hq7, hq8] at hb); try (exfalso; omega))) | fail)
      all_goals first | (exfalso; omega) | exact RSub.bad w0 L 9 (sei _ _ _)
    rw [if_neg hfu, if_neg hfu]
    dsimp only
    generalize hW : withT (lineC (lls ms) (fromT x)) x = W at *
    have hWl : (Ln.mk (fromT x) a2 c2 W).cells.length = 33 := Ln.len hfl
    haveI hWc : OC (Ln.mk (fromT x) a2 c2 W).cells := oc_ln _
    obtain ⟨wc, hwc⟩ : ∃ wc, wc = (Ln.mk (fromT x) a2 c2 W).cells := ⟨_, rfl⟩
    rw [← hwc] at hWl hWc ⊢
    obtain ⟨O, hO⟩ : ∃ O : List Tx, O = [] := ⟨_, rfl⟩
    have hO0 : O.length = 0 := by rw [hO]; rfl
    rw [← hO]
    by_cases hcap : (cntC (lls ms) : Int) < cap
    · rw [if_pos hcap]
      repeat' (first | (refine go1 ?_; intros) | ((first | refine vl_caseG rfl rfl rfl rfl ?_ ?_ | refine v_cond rfl ?_ ?_) <;> (intro hb; (try simp only [hq1, hq2, hq3, hq4, ne_eq, hq5, hq6, hq7, hq8] at hb); try (exfalso; omega))) | fail)
      all_goals first | (exfalso; omega) | skip
      refine vl_o rfl (vo_call rfl rfl ?_)
      refine vc_mono (scount_vc w0 _ a c ls rfl h) ?_
      rintro v L' ⟨rfl, rfl⟩
      rw [hcnt]
      repeat' (first | (refine go1 ?_; intros) | ((first | refine vl_caseG rfl rfl rfl rfl ?_ ?_ | refine v_cond rfl ?_ ?_) <;> (intro hb; (try simp only [hq1, hq2, hq3, hq4, ne_eq, hq5, hq6, hq7, hq8] at hb); try (exfalso; omega))) | fail)
      all_goals first | (exfalso; omega) | skip
      obtain ⟨aM, cM, mm, hMM, hMo, hMs, hMl⟩ : ∃ aM cM mm, (aM, cM, mm) = (a1, c1, ms) ∧ LsOk mm ∧ Srt2 (lls mm) ∧ mm.length ≤ 999999 := ⟨a1, c1, ms, rfl, hmo, hs, hmlen⟩
      have hMe : setC (lls ms) (fromT x) W = setC (lls mm) (fromT x) W := by rw [(Prod.mk.inj (Prod.mk.inj hMM).2).2]
      rw [hMe]
      obtain ⟨rfl, h2⟩ := Prod.mk.inj hMM
      obtain ⟨rfl, h3⟩ := Prod.mk.inj h2
      subst h3
      refine vl_o rfl (vo_call rfl rfl ?_)
      refine vc_pre (L2 := partB gp aM cM mm :: ownLs aM cM mm :: ownTs (Ln.mk (fromT x) a2 c2 W).a (Ln.mk (fromT x) a2 c2 W).c (Ln.mk (fromT x) a2 c2 W).xs :: tsA (offL mm (fromT x)) :: ownTs b2 d2 O :: blk g8 24 [.slice none 0 0] :: L) ?_ ?_
      · exact (sei w0 _ (tsA mm :: partB gp aM cM mm :: ownLs aM cM mm :: ownTs a2 c2 W :: ownTs b2 d2 O :: blk g8 24 [.slice none 0 0] :: L)).trans (((se_tsA_off mm (fromT x) _).ent w0).trans (sei w0 _ _))
      rw [hwc]
      refine vc_mono (sset_vc w0 _ gp aM cM mm (Ln.mk (fromT x) a2 c2 W) hMo hMs ⟨fromT_len x, hWok⟩ hMl) ?_
      rintro v L' ⟨a5, c5, m5, hm5, ho5, rfl⟩
      unfold shP
      repeat' (first | (refine go1 ?_; intros) | ((first | refine vl_caseG rfl rfl rfl rfl ?_ ?_ | refine v_cond rfl ?_ ?_) <;> (intro hb; (try simp only [hq1, hq2, hq3, hq4, ne_eq, hq5, hq6, hq7, hq8] at hb); try (exfalso; omega))) | fail)
      refine ⟨_, sei w0 _ (ownLs a5 c5 m5 :: tsA m5 :: ownTs b2 d2 O :: L), a5, c5, m5, b2, d2, rfl, hm5, ho5, rfl⟩
    · rw [if_neg hcap]
      have hneL : ∀ l ∈ ms, 0 < l.xs.length := fun l hl => Nat.pos_of_ne_zero (fun e => hmc2.ne l.pl (List.mem_map.2 ⟨l, hl, rfl⟩) (List.eq_nil_of_length_eq_zero e))
      repeat' (first | (refine go1 ?_; intros) | ((first | refine vl_caseG rfl rfl rfl rfl ?_ ?_ | refine v_cond rfl ?_ ?_) <;> (intro hb; (try simp only [hq1, hq2, hq3, hq4, ne_eq, hq5, hq6, hq7, hq8] at hb); try (exfalso; omega))) | fail)
      all_goals first | (exfalso; omega) | skip
      refine vl_o rfl (vo_call rfl rfl ?_)
      refine vc_mono (scount_vc w0 _ a c ls rfl h) ?_
      rintro v L' ⟨rfl, rfl⟩
      rw [hcnt]
      repeat' (first | (refine go1 ?_; intros) | ((first | refine vl_caseG rfl rfl rfl rfl ?_ ?_ | refine v_cond rfl ?_ ?_) <;> (intro hb; (try simp only [hq1, hq2, hq3, hq4, ne_eq, hq5, hq6, hq7, hq8] at hb); try (exfalso; omega))) | fail)
      all_goals first | (exfalso; omega) | skip
      refine vl_o rfl (vo_call rfl rfl ?_)
      rw [← hxc]
      refine vc_mono (sworst_vc w0 _ gp a1 c1 ms x hx hmo hneL) ?_
      rintro v L' ⟨rfl, rfl⟩
      rw [hxc]
      rcases worstC_is (cs := lls ms) (o := fromT x) (fee := x.fee) with e | ⟨k, hk, e, hkn⟩
      · rw [e]
        cases (lls ms)[(-1 : Int).toNat]?
        · dsimp only
          repeat' (first | (refine go1 ?_; intros) | ((first | refine vl_caseG rfl rfl rfl rfl ?_ ?_ | refine v_cond rfl ?_ ?_) <;> (intro hb; (try simp only [hq1, hq2, hq3, hq4, ne_eq, hq5, hq6, hq7, hq8] at hb); try (exfalso; omega))) | fail)
          all_goals first | (exfalso; omega) | (rw [hO]; exact RSub.bad w0 L 9 (sei _ _ _))
        · dsimp only
          rw [if_pos (by decide)]
          repeat' (first | (refine go1 ?_; intros) | ((first | refine vl_caseG rfl rfl rfl rfl ?_ ?_ | refine v_cond rfl ?_ ?_) <;> (intro hb; (try simp only [hq1, hq2, hq3, hq4, ne_eq, hq5, hq6, hq7, hq8] at hb); try (exfalso; omega))) | fail)
          all_goals first | (exfalso; omega) | (rw [hO]; exact RSub.bad w0 L 9 (sei _ _ _))
      have hk' : k < ms.length := by rwa [List.length_map] at hk
      rw [e, Int.toNat_natCast, List.getElem?_eq_getElem hk]
      dsimp only
      rw [if_neg (by omega), List.getElem_map]
      rw [List.getElem_map] at hkn
      have hkn : ms[k].own ≠ fromT x := hkn
      have hn0 := hneL _ (List.getElem_mem hk')
      have he := hmo.e k hk'
      have hpos := hmo.pos k hk'
      have hwo := hmo.at k hk'
      have hout := se_tsA_out hs hk'
      have hpl : ms[k].pl = (ms[k].own, ms[k].xs) := rfl
      rw [hpl]
      generalize ms[k] = w at *
      obtain ⟨N, hN⟩ : ∃ N, N = w.xs.length - 1 := ⟨_, rfl⟩
      have hN1 : w.xs.length = N + 1 := by omega
      have hel := hwo.ts.el N (by omega)
      have hwtl := hwo.ts.len
      have hpe := hwo.ts.pos N (by omega)
      have hyo := hwo.ts.at N (by omega)
      have hdl : w.xs.drop (w.xs.length - 1) = [w.xs[N]'(by omega)] := by
        rw [← hN, List.drop_eq_getElem_cons (by omega), List.drop_of_length_le (by omega)]
      rw [hdl, ← hN]
      generalize w.xs[N] = y at *
      have hyl := Tx.len hyo
      haveI hyc : OC y.cells := oc_tx _
      obtain ⟨yc, hyc'⟩ : ∃ yc, yc = y.cells := ⟨_, rfl⟩
      have hwl := Ln.len hwo.own
      have hw1 := Ln.f1 hwo.own
      have hwset := Ln.setTs (n := N) hwo.own w.a N (xs := w.xs.take N) (by rw [List.length_take]; omega)
      haveI hwcc : OC w.cells := oc_ln _
      obtain ⟨wwc, hwwc⟩ : ∃ wwc, wwc = w.cells := ⟨_, rfl⟩
      have htl : (w.xs.take N).length = N := by rw [List.length_take]; omega
      rw [← hwwc] at hwl hw1 hwset hwcc he
      rw [← hyc'] at hyl hyc hel
      refine vl_ent (L' := ownTs w.a w.c w.xs :: tsA (offL ms w.own) :: blk g12 49 wc :: ownTs b2 d2 O :: ownTs a2 c2 W :: partB gp a1 c1 ms :: ownLs a1 c1 ms :: blk g8 24 [.slice none 0 0] :: L) ((sei w0 _ (tsA ms :: blk g12 49 wc :: ownTs b2 d2 O :: ownTs a2 c2 W :: partB gp a1 c1 ms :: ownLs a1 c1 ms :: blk g8 24 [.slice none 0 0] :: L)).trans ((hout _).ent w0)) ?_
      refine vl_know (φ := w.xs.length ≤ w.c) (fun w hs => (hs.ownLen 0 rfl).2.1) (fun hcapW => ?_)
      repeat' (first | (refine go1 ?_; intros) | ((first | refine vl_caseG rfl rfl rfl rfl ?_ ?_ | refine v_cond rfl ?_ ?_) <;> (intro hb; (try simp only [hq1, hq2, hq3, hq4, ne_eq, hq5, hq6, hq7, hq8] at hb); try (exfalso; omega))) | fail)
      all_goals first | (exfalso; omega) | skip
      rename_i gw
      rw [← hN]
      refine v_draw0 [13] (by kernel_rfl) ?_
      refine va_takeA 0 rfl rfl rfl rfl ?_
      refine va_takeA 1 rfl rfl rfl rfl ?_
      refine va_takeA 2 rfl rfl rfl rfl ?_
      refine va_takeA 3 rfl rfl rfl rfl ?_
      refine va_takeA 4 rfl rfl rfl rfl ?_
      refine va_takeA 6 rfl rfl rfl rfl ?_
      refine va_takeA 7 rfl rfl rfl rfl ?_
      refine va_takeA 8 rfl rfl rfl rfl ?_
      refine va_takeA 9 rfl rfl rfl rfl ?_
      refine va_takeA 10 rfl rfl rfl rfl ?_
      rw [subA_0, Nat.sub_zero]
      refine va_one 5 (by kernel_rfl) rfl rfl ?_
      (first | (refine vo_box rfl rfl rfl ?_; intro _) | (refine vo_alloc rfl ?_; intro _) | (refine vo_isStore ?_; first | (refine vo_isPt0 rfl ?_; refine vo_stWA rfl rfl ?_) | (refine vo_isPt rfl ?_; refine vo_stBA rfl rfl ?_) | (refine vo_stO rfl rfl (by rfl) (by first | rfl | assumption) (by first | assumption | (simp; done) | (simp; omega) | omega) rfl ?_; skip)) | (refine vo_isCall ?_; first | (refine vo_isApp ?_; first | (refine vo_append0A rfl rfl rfl ?_; intro _ _ _ _) | (refine vo_appendA rfl rfl rfl ?_; intro _ _ _ _)) | (refine vo_isCopy ?_; refine vo_copyB rfl rfl rfl (by assumption) (by assumption) (by assumption) (by assumption) ?_) | refine vo_yield rfl rfl rfl rfl rfl ?_ | refine vo_callV rfl rfl rfl (vc_in rfl rfl ?_)) | refine vo_convRow rfl rfl ?_ | (refine vo_isBs ?_; refine vo_buildSlice rfl rfl rfl (by decide) (by repeat' (first | exact trivial | rfl | assumption | refine ⟨?_, ?_⟩ | (simp; done) | (simp; omega))) (by decide) rfl ?_; intro _) | (refine vo_buildSlice0 rfl ?_; intro _) | fail)
      rename_i gb
      refine ⟨.inr (sei _ _ _), ?_⟩
      refine va_takeA 11 rfl rfl rfl rfl ?_
      refine va_takeA 12 rfl rfl rfl rfl ?_
      refine va_one 13 (by kernel_rfl) rfl rfl ?_
      (first | (refine vo_box rfl rfl rfl ?_; intro _) | (refine vo_alloc rfl ?_; intro _) | (refine vo_isStore ?_; first | (refine vo_isPt0 rfl ?_; refine vo_stWA rfl rfl ?_) | (refine vo_isPt rfl ?_; refine vo_stBA rfl rfl ?_) | (refine vo_stO rfl rfl (by rfl) (by first | rfl | assumption) (by first | assumption | (simp; done) | (simp; omega) | omega) rfl ?_; skip)) | (refine vo_isCall ?_; first | (refine vo_isApp ?_; first | (refine vo_append0A rfl rfl rfl ?_; intro _ _ _ _) | (refine vo_appendA rfl rfl rfl ?_; intro _ _ _ _)) | (refine vo_isCopy ?_; refine vo_copyB rfl rfl rfl (by assumption) (by assumption) (by assumption) (by assumption) ?_) | refine vo_yield rfl rfl rfl rfl rfl ?_ | refine vo_callV rfl rfl rfl (vc_in rfl rfl ?_)) | refine vo_convRow rfl rfl ?_ | (refine vo_isBs ?_; refine vo_buildSlice rfl rfl rfl (by decide) (by repeat' (first | exact trivial | rfl | assumption | refine ⟨?_, ?_⟩ | (simp; done) | (simp; omega))) (by decide) rfl ?_; intro _) | (refine vo_buildSlice0 rfl ?_; intro _) | fail)
      refine ⟨.inl (by kernel_rfl), ?_⟩
      refine va_done (by kernel_rfl) ?_
      skip
      rw [hwset]
      have hvo : (Ln.mk w.own w.a N (w.xs.take N)).ok := ⟨hwo.own, ⟨fun z hz => hwo.ts.ok z (List.mem_of_mem_take hz), by have := hwo.ts.len; rw [htl]; omega⟩⟩
      have hvl := Ln.len hvo.own
      haveI hvc : OC (Ln.mk w.own w.a N (w.xs.take N)).cells := oc_ln _
      obtain ⟨vc, hvcs⟩ : ∃ vc, vc = (Ln.mk w.own w.a N (w.xs.take N)).cells := ⟨_, rfl⟩
      rw [← hvcs] at hvl hvc ⊢
      repeat' (first | (refine go1 ?_; intros) | ((first | refine vl_caseG rfl rfl rfl rfl ?_ ?_ | refine v_cond rfl ?_ ?_) <;> (intro hb; (try simp only [hq1, hq2, hq3, hq4, ne_eq, hq5, hq6, hq7, hq8] at hb); try (exfalso; omega))) | fail)
      refine vl_o rfl (vo_call rfl rfl ?_)
      refine vc_pre (L2 := partB gp a1 c1 ms :: ownLs a1 c1 ms :: ownTs (Ln.mk w.own w.a N (w.xs.take N)).a (Ln.mk w.own w.a N (w.xs.take N)).c (Ln.mk w.own w.a N (w.xs.take N)).xs :: tsA (offL ms w.own) :: ownTs (some ⟨gb, 0, none⟩) 1 [y] :: blk g12 49 wc :: ownTs a2 c2 W :: blk g8 24 [.slice none 0 0] :: L) ?_ ?_
      · rw [ownTs_one, ← hyc']
        refine (sei w0 _ (ownTs w.a w.c w.xs :: partB gp a1 c1 ms :: ownLs a1 c1 ms :: tsA (offL ms w.own) :: own 29 99 (some ⟨gb, 0, none⟩) 1 1 (yc ++ []) :: blk g12 49 wc :: ownTs a2 c2 W :: blk g8 24 [.slice none 0 0] :: L)).trans (((se_head _ (P' := ownTs w.a N (w.xs.take N)) (fun u F hF => ?_)).ent w0).trans (sei w0 _ _))
        have := own_cut N N (by omega) (by omega) (Nat.le_refl _) u F hF
        unfold ownTs
        rw [htl]
        rwa [hwo.ts.wide.take] at this
      rw [hvcs]
      refine vc_mono (sset_vc w0 _ gp a1 c1 ms (Ln.mk w.own w.a N (w.xs.take N)) hmo hs hvo hmlen) ?_
      rintro v L' ⟨aM, cM, mm, hMM, hMo, rfl⟩
      have hMM : lls mm = setC (lls ms) w.own (w.xs.take N) := hMM
      have hMs : Srt2 (lls mm) := by rw [hMM]; exact srt2_set hs _ _
      have hMl : mm.length ≤ 999999 := by
        have e1 := congrArg List.length hMM
        have e2 := setC_len hs hmo.k2 hwo.own (w.xs.take N)
        rw [List.length_map] at e1 e2
        omega
      rw [← hMM]
      unfold shP
      repeat' (first | (refine go1 ?_; intros) | ((first | refine vl_caseG rfl rfl rfl rfl ?_ ?_ | refine v_cond rfl ?_ ?_) <;> (intro hb; (try simp only [hq1, hq2, hq3, hq4, ne_eq, hq5, hq6, hq7, hq8] at hb); try (exfalso; omega))) | fail)
      refine vl_o rfl (vo_call rfl rfl ?_)
      refine vc_pre (L2 := partB gp aM cM mm :: ownLs aM cM mm :: ownTs (Ln.mk (fromT x) a2 c2 W).a (Ln.mk (fromT x) a2 c2 W).c (Ln.mk (fromT x) a2 c2 W).xs :: tsA (offL mm (fromT x)) :: ownTs (some ⟨gb, 0, none⟩) 1 [y] :: blk g8 24 [.slice none 0 0] :: L) ?_ ?_
      · exact (sei w0 _ (tsA mm :: partB gp aM cM mm :: ownLs aM cM mm :: ownTs a2 c2 W :: ownTs (some ⟨gb, 0, none⟩) 1 [y] :: blk g8 24 [.slice none 0 0] :: L)).trans (((se_tsA_off mm (fromT x) _).ent w0).trans (sei w0 _ _))
      rw [hwc]
      refine vc_mono (sset_vc w0 _ gp aM cM mm (Ln.mk (fromT x) a2 c2 W) hMo hMs ⟨fromT_len x, hWok⟩ hMl) ?_
      rintro v L' ⟨a5, c5, m5, hm5, ho5, rfl⟩
      unfold shP
      repeat' (first | (refine go1 ?_; intros) | ((first | refine vl_caseG rfl rfl rfl rfl ?_ ?_ | refine v_cond rfl ?_ ?_) <;> (intro hb; (try simp only [hq1, hq2, hq3, hq4, ne_eq, hq5, hq6, hq7, hq8] at hb); try (exfalso; omega))) | fail)
      refine ⟨_, sei w0 _ (ownLs a5 c5 m5 :: tsA m5 :: ownTs (some ⟨gb, 0, none⟩) 1 [y] :: L), a5, c5, m5, some ⟨gb, 0, none⟩, 1, rfl, hm5, ho5, rfl⟩
end Go.Proofs.YtccbcdhpnkbkgaaDoor

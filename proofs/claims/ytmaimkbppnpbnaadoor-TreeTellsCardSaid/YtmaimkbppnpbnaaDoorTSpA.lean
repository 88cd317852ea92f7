/-
  A tree written over.
-/
import Derived.Test.YtmaimkbppnpbnaaDoorTC
import Derived.Test.YtmaimkbppnpbnaaDoorGK
import Derived.Test.YtmaimkbppnpbnaaDoorGF
set_option linter.unusedVariables false
set_option linter.unusedSimpArgs false
namespace Go.Proofs.YtmaimkbppnpbnaaDoor
open Go Go.RowKit
set_option linter.unusedVariables false
set_option linter.unusedSimpArgs false
open Classical

theorem Nd.setLeft (x : Nd) (n : Int) (hk : x.key.length = 32) : splice x.cells (0 + 34) [.int .i64 n] = ({ x with left := n } : Nd).cells := by
  have := splice_mid (.bool x.leaf :: (bvs x.key ++ [.slice x.a x.v.length x.c])) [.int .i64 x.left] [.int .i64 x.right] [.int .i64 n] 34 (by simp [hk]) rfl
  simpa [Nd.cells] using this
set_option maxRecDepth 100000 in
set_option maxHeartbeats 2000000 in
theorem spoil6_vc (w0 : World) (L : List Asn) (a : Option Addr) (c : Nat) (ns : List Nd) (r : Int) {n : Nat} (hn : n = ns.length) (hok : NsOk ns) :
    VC Tryd.prog w0 34 [.agg #[.slice a n c, .int .i64 r]] (ownNs a c ns :: vnA ns :: L) fun v L' => L' = L := by
  subst hn
  have hlen := hok.len
  refine vc_ent ?_
  refine vc_in rfl rfl ?_
  repeat' (first | (refine go1 ?_; intros) | (refine vl_caseG rfl rfl rfl rfl ?_ ?_ <;> (intro hb; (try simp only [decide_eq_true_eq, decide_eq_false_iff_not, Bool.not_eq_true', Bool.not_eq_false', ne_eq, Decidable.not_not, Option.isNone_iff_eq_none, not_true_eq_false, not_false_eq_true] at hb); try (exfalso; omega))) | (refine v_cond rfl ?_ ?_ <;> (intro hb; (try simp only [decide_eq_true_eq, decide_eq_false_iff_not, Bool.not_eq_true', Bool.not_eq_false', ne_eq, Decidable.not_not, Option.isNone_iff_eq_none, not_true_eq_false, not_false_eq_true] at hb); try (exfalso; omega))) | fail)
  rename_i g1
  refine v_loopF (List Nd × Nat) [1] rfl (fun x => [(2, .int .i64 x.2)]) (fun _ x => blk g1 24 [.slice a ns.length c, .int .i64 r] :: own 31 36 a ns.length c (ndc x.1) :: vnA x.1 :: L) (fun x => x.2 ≤ ns.length ∧ x.1.length = ns.length ∧ NsOk x.1) (fun x => ns.length - x.2) (ns, 0) ⟨Nat.zero_le _, rfl, hok⟩ (by (repeat' (first | exact Sub.nil _ | refine Sub.cons rfl rfl ?_ | refine Sub.cons rfl ?_ ?_))) (Ent.refl _ _) ?_
  rintro ⟨ws, i⟩ ⟨hi, hl, okw⟩
  dsimp only at hi hl okw ⊢
  by_cases hlt : i < ns.length
  · have hiw : i < ws.length := by omega
    obtain ⟨p, hp⟩ : ∃ p, p = ws[i] := ⟨_, rfl⟩
    have e2 := okw.e2 i hiw
    have hk32 := okw.k32at i hiw
    have hpos := okw.pos i hiw
    have hvl := okw.vlat i hiw
    have hmul : i * 36 + 36 ≤ (ndc ws).length := okw.wide.mul i hiw
    have hpull := se_psA_pull (ws.map Nd.pb) L i (by simpa)
    have e : ((ws.map Nd.pb)[i]'(by simpa)) = (ws[i]).pb := by simp
    rw [e] at hpull
    have hset : ∀ (vv : List UInt8), vv.length = p.v.length → splice (ndc ws) (i * 36 + 34) [.int .i64 (-7)] = ndc (ws.set i { p with v := vv, left := -7 }) := by
      intro vv hvv
      refine okw.wide.splIn (x := { p with v := vv, left := -7 }) i hiw 34 _ (by simp) ?_
      rw [← hp] at hk32 ⊢
      have := Nd.setLeft p (-7) hk32
      rw [Nat.zero_add] at this
      rw [this]
      unfold Nd.cells
      dsimp only
      rw [hvv]
    rw [← hp] at e2 hk32 hvl hpull
    have hpbE : p.pb = ⟨p.a, p.c, p.v⟩ := rfl
    rw [hpbE] at hpull
    generalize hcs : ndc ws = cs at *
    repeat' (first | (refine go1 ?_; intros) | (refine vl_caseG rfl rfl rfl rfl ?_ ?_ <;> (intro hb; (try simp only [decide_eq_true_eq, decide_eq_false_iff_not, Bool.not_eq_true', Bool.not_eq_false', ne_eq, Decidable.not_not, Option.isNone_iff_eq_none, not_true_eq_false, not_false_eq_true] at hb); try (exfalso; omega))) | (refine v_cond rfl ?_ ?_ <;> (intro hb; (try simp only [decide_eq_true_eq, decide_eq_false_iff_not, Bool.not_eq_true', Bool.not_eq_false', ne_eq, Decidable.not_not, Option.isNone_iff_eq_none, not_true_eq_false, not_false_eq_true] at hb); try (exfalso; omega))) | fail)
    refine v_ent (L' := ownB p.a p.c p.v :: psA ((ws.map Nd.pb).eraseIdx i) :: own 31 36 a ns.length c cs :: blk g1 24 [.slice a ns.length c, .int .i64 r] :: L) ?_ ?_
    · refine (sei w0 _ (vnA ws :: own 31 36 a ns.length c cs :: blk g1 24 [.slice a ns.length c, .int .i64 r] :: L)).trans ?_
      have hp2 := se_psA_pull (ws.map Nd.pb) (own 31 36 a ns.length c cs :: blk g1 24 [.slice a ns.length c, .int .i64 r] :: L) i (by simpa)
      rw [e, ← hp, hpbE] at hp2
      exact hp2.ent w0
    refine v_loopF (Nat × List UInt8) [1, 2] rfl (fun x => [(3, .int .i64 x.1)]) (fun _ x => ownB p.a p.c x.2 :: psA ((ws.map Nd.pb).eraseIdx i) :: own 31 36 a ns.length c cs :: blk g1 24 [.slice a ns.length c, .int .i64 r] :: L) (fun x => x.2.length = p.v.length ∧ x.1 ≤ p.v.length) (fun x => p.v.length - x.1) (0, p.v) ⟨rfl, Nat.zero_le _⟩ (by (repeat' (first | exact Sub.nil _ | refine Sub.cons rfl rfl ?_ | refine Sub.cons rfl ?_ ?_))) (Ent.refl _ _) ?_
    rintro ⟨j, vv⟩ ⟨hvv, hj⟩
    dsimp only at hvv hj ⊢
    by_cases hjl : j < p.v.length
    · have hg := bvs_at vv j (by omega)
      have hvp : 0 < (bvs vv).length := by rw [bvs_length]; omega
      have hu := up8w (vv[j]'(by omega))
      repeat' (first | (refine go1 ?_; intros) | (refine vl_caseG rfl rfl rfl rfl ?_ ?_ <;> (intro hb; (try simp only [decide_eq_true_eq, decide_eq_false_iff_not, Bool.not_eq_true', Bool.not_eq_false', ne_eq, Decidable.not_not, Option.isNone_iff_eq_none, not_true_eq_false, not_false_eq_true] at hb); try (exfalso; omega))) | (refine v_cond rfl ?_ ?_ <;> (intro hb; (try simp only [decide_eq_true_eq, decide_eq_false_iff_not, Bool.not_eq_true', Bool.not_eq_false', ne_eq, Decidable.not_not, Option.isNone_iff_eq_none, not_true_eq_false, not_false_eq_true] at hb); try (exfalso; omega))) | fail)
      (refine v_draw0 [18] (by kernel_rfl) ?_ <;> (refine va_takeA 0 rfl rfl rfl rfl ?_) <;> (refine va_takeA 1 rfl rfl rfl rfl ?_) <;> (refine va_takeA 2 rfl rfl rfl rfl ?_) <;> (refine va_takeA 3 rfl rfl rfl rfl ?_) <;> (refine va_takeA 4 rfl rfl rfl rfl ?_) <;> (refine va_takeA 5 rfl rfl rfl rfl ?_) <;> (refine va_takeA 6 rfl rfl rfl rfl ?_) <;> (refine va_takeA 7 rfl rfl rfl rfl ?_) <;> (refine va_takeA 8 rfl rfl rfl rfl ?_) <;> (refine va_takeA 9 rfl rfl rfl rfl ?_) <;> (refine va_takeA 10 rfl rfl rfl rfl ?_) <;> (refine va_takeA 11 rfl rfl rfl rfl ?_) <;> (refine va_takeA 12 rfl rfl rfl rfl ?_) <;> (refine va_takeA 13 rfl rfl rfl rfl ?_) <;> (refine va_takeA 14 rfl rfl rfl rfl ?_) <;> (refine va_takeA 15 rfl rfl rfl rfl ?_) <;> (refine va_takeA 16 rfl rfl rfl rfl ?_) <;> (refine va_takeA 17 rfl rfl rfl rfl ?_) <;> (refine va_one 18 (by kernel_rfl) rfl rfl ?_; (first | (refine vo_box rfl rfl rfl ?_; intro _) | (refine vo_alloc rfl ?_; intro _) | (refine vo_isStore ?_; first | (refine vo_isPt0 rfl ?_; refine vo_stWA rfl rfl ?_) | (refine vo_isPt rfl ?_; refine vo_stBA rfl rfl ?_) | (refine vo_stO rfl rfl (by rfl) (by first | rfl | assumption) (by first | assumption | (simp; done) | (simp; omega) | omega) rfl ?_; skip)) | (refine vo_isCall ?_; first | (refine vo_isApp ?_; first | (refine vo_append0A rfl rfl rfl ?_; intro _ _ _ _) | (refine vo_appendA rfl rfl rfl ?_; intro _ _ _ _)) | (refine vo_isCopy ?_; refine vo_copyB rfl rfl rfl (by assumption) (by assumption) (by assumption) (by assumption) ?_) | refine vo_yield rfl rfl rfl rfl rfl ?_ | refine vo_callV rfl rfl rfl (vc_in rfl rfl ?_)) | refine vo_convRow rfl rfl ?_ | (refine vo_isBs ?_; refine vo_buildSlice rfl rfl rfl (by decide) (by repeat' (first | exact trivial | rfl | assumption | refine ⟨?_, ?_⟩ | (simp; done) | (simp; omega))) (by decide) rfl ?_; intro _) | (refine vo_buildSlice0 rfl ?_; intro _) | fail); refine ⟨.inl (by kernel_rfl), ?_⟩) <;> (refine va_done (by kernel_rfl) ?_))
      repeat' (first | (refine go1 ?_; intros) | (refine vl_caseG rfl rfl rfl rfl ?_ ?_ <;> (intro hb; (try simp only [decide_eq_true_eq, decide_eq_false_iff_not, Bool.not_eq_true', Bool.not_eq_false', ne_eq, Decidable.not_not, Option.isNone_iff_eq_none, not_true_eq_false, not_false_eq_true] at hb); try (exfalso; omega))) | (refine v_cond rfl ?_ ?_ <;> (intro hb; (try simp only [decide_eq_true_eq, decide_eq_false_iff_not, Bool.not_eq_true', Bool.not_eq_false', ne_eq, Decidable.not_not, Option.isNone_iff_eq_none, not_true_eq_false, not_false_eq_true] at hb); try (exfalso; omega))) | fail)
      refine ⟨rfl, (j + 1, vv.set j (up8 (vv[j]'(by omega)))), ⟨by simpa using hvv, by omega⟩, by omega, ?_, ?_⟩
      · (repeat' (first | exact Sub.nil _ | refine Sub.cons rfl rfl ?_ | refine Sub.cons rfl ?_ ?_))
      · dsimp only
        rw [hu, splice_b vv j (by omega)]
        unfold ownB
        rw [List.length_set]
        exact Ent.refl _ _
    · repeat' (first | (refine go1 ?_; intros) | (refine vl_caseG rfl rfl rfl rfl ?_ ?_ <;> (intro hb; (try simp only [decide_eq_true_eq, decide_eq_false_iff_not, Bool.not_eq_true', Bool.not_eq_false', ne_eq, Decidable.not_not, Option.isNone_iff_eq_none, not_true_eq_false, not_false_eq_true] at hb); try (exfalso; omega))) | (refine v_cond rfl ?_ ?_ <;> (intro hb; (try simp only [decide_eq_true_eq, decide_eq_false_iff_not, Bool.not_eq_true', Bool.not_eq_false', ne_eq, Decidable.not_not, Option.isNone_iff_eq_none, not_true_eq_false, not_false_eq_true] at hb); try (exfalso; omega))) | fail)
      rw [hset _ hvv]
      refine ⟨rfl, (ws.set i { p with v := vv, left := -7 }, i + 1), ⟨by dsimp only; omega, by simpa using hl, ?_⟩, by dsimp only; omega, by (repeat' (first | exact Sub.nil _ | refine Sub.cons rfl rfl ?_ | refine Sub.cons rfl ?_ ?_)), ?_⟩
      · refine ⟨fun q hq => ?_, fun q hq => ?_, by rw [List.length_set, hl]; exact hlen⟩
        · rcases List.mem_or_eq_of_mem_set hq with hq | rfl
          · exact okw.key q hq
          · exact hk32
        · rcases List.mem_or_eq_of_mem_set hq with hq | rfl
          · exact okw.vl q hq
          · dsimp only; omega
      · dsimp only
        have em : (ws.set i { p with v := vv, left := -7 }).map Nd.pb = (ws.map Nd.pb).take i ++ ⟨p.a, p.c, vv⟩ :: (ws.map Nd.pb).drop (i + 1) := by
          rw [List.set_eq_take_append_cons_drop, if_pos (by omega)]
          simp [List.map_take, List.map_drop, Nd.pb]
        refine (sei w0 _ (ownB p.a p.c vv :: psA ((ws.map Nd.pb).eraseIdx i) :: blk g1 24 [.slice a ns.length c, .int .i64 r] :: own 31 36 a ns.length c (ndc (ws.set i { p with v := vv, left := -7 })) :: L)).trans (((se_psA_push _ ((ws.set i { p with v := vv, left := -7 }).map Nd.pb) _ ⟨p.a, p.c, vv⟩ ?_).ent w0).trans (sei _ _ _))
        rw [em, List.eraseIdx_eq_take_drop_succ]
        exact List.perm_middle.symm
  · repeat' (first | (refine go1 ?_; intros) | (refine vl_caseG rfl rfl rfl rfl ?_ ?_ <;> (intro hb; (try simp only [decide_eq_true_eq, decide_eq_false_iff_not, Bool.not_eq_true', Bool.not_eq_false', ne_eq, Decidable.not_not, Option.isNone_iff_eq_none, not_true_eq_false, not_false_eq_true] at hb); try (exfalso; omega))) | (refine v_cond rfl ?_ ?_ <;> (intro hb; (try simp only [decide_eq_true_eq, decide_eq_false_iff_not, Bool.not_eq_true', Bool.not_eq_false', ne_eq, Decidable.not_not, Option.isNone_iff_eq_none, not_true_eq_false, not_false_eq_true] at hb); try (exfalso; omega))) | fail)
    exact ⟨_, sei _ _ _, rfl⟩
end Go.Proofs.YtmaimkbppnpbnaaDoor

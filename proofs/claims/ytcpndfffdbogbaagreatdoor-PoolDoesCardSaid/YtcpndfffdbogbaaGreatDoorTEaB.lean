/-
  A tree's pairs, collected.
-/
import Derived.Test.YtcpndfffdbogbaaGreatDoorTEaA
import Derived.Test.YtcpndfffdbogbaaGreatDoorTC
import Derived.Test.YtcpndfffdbogbaaGreatDoorTD
import Derived.Test.YtcpndfffdbogbaaGreatDoorGJ
set_option linter.unusedVariables false
set_option linter.unusedSimpArgs false
set_option linter.unusedSectionVars false
set_option maxRecDepth 100000
set_option maxHeartbeats 4000000
namespace Go.Proofs.YtcpndfffdbogbaaGreatDoor
open Go Go.RowKit
open Classical

theorem vc_exA {P : Program} {w0 : World} {f : FuncId} {args : List Value} {L : List Asn} {R : Value → List Asn → Prop} {X : Type} {h : X → Asn} {L0 : List Asn} (hR : ∀ v x, R v (h x :: L0)) (k : VC P w0 f args L fun _ L' => L' = exA h :: L0) : VC P w0 f args L R :=
  ⟨fun w hs => (k.out w hs).mono fun e w' ⟨v, L', h1, h2, h3⟩ => by
    subst h3
    obtain ⟨x, hx⟩ := st_exA h2
    exact ⟨v, _, h1, hx, hR v x⟩⟩
theorem aseq_vc (w0 : World) (a : Option Addr) (c : Nat) (ns : List Nd) (r : Int) (hok : NsOk ns) (ho : onesP ns) (n : Nat) (hn : n ≤ ns.length) (hfl : (forP ns n).length ≤ 1000000) (M : List Asn) (gn gt : Nat) [hr : RdC w0 M a (ndc ns)] [hv : RdNs w0 M ns] :
    VC Tryz.prog w0 160 [.slice none 0 0, .func (.func 161) #[] #[.pointer (some ⟨gn, 0, none⟩), .pointer (some ⟨gt, 0, none⟩)]] (blk gn 3 [.int .i64 n] :: blk gt 27 [.slice a ns.length c, .int .i64 r] :: M) (RPs w0 M (forP ns n)) := by
  refine vc_ent ?_
  refine vc_in rfl rfl ?_
  repeat' (first | (refine go1 ?_; intros) | (refine goCC ?_ ?_ <;> (intro hb; (try simp only [hSQ] at hb); try (exfalso; omega))) | fail)
  rename_i g2
  refine v_sub (selE_sub [2, 6] _ rfl) ?_
  refine v_rangeK rfl (fun l' D asg bdy R hasg hbdy hRI => ?_)
  refine vc_ent' ?_ hRI.out
  obtain ⟨C, hC⟩ : ∃ C, C = forP ns n := ⟨_, rfl⟩
  obtain ⟨S', hS'⟩ : ∃ S' : Nat → Asn, S' = fun j => exA (fun z : {z : Option Addr × Nat × List PR // kvs z.2.2 = C.take j} => bundle [lpA l' 13 [(2, .pointer (some ⟨g2, 0, none⟩)), (6, .func (.func 161) #[] #[.pointer (some ⟨gn, 0, none⟩), .pointer (some ⟨gt, 0, none⟩)])] #[7] asg bdy D .ready none, blk g2 91 [.slice z.1.1 z.1.2.2.length z.1.2.1], ownPs z.1.1 z.1.2.1 z.1.2.2, vsA z.1.2.2]) := ⟨_, rfl⟩
  have hYC : YC Tryz.prog w0 l' S' C := by
    intro j k v hj hkl a' c' M3 ro n' d y xs ts ty pos after gd K Q ds fr hy hx hd hK
    have hjC : j < C.length := (List.getElem?_eq_some_iff.1 hj).1
    have hjv : C[j] = (k, v) := (List.getElem?_eq_some_iff.1 hj).2
    have lPR := PR.len (p := ⟨k, a', c', v⟩) hkl
    rw [hS'] at hK ⊢
    dsimp only at hK ⊢
    refine vo_entL (SE.ent (se_swap _ _ _) w0) (vo_exA ?_)
    rintro ⟨⟨a2, c2, ps⟩, hps⟩
    dsimp only at hps ⊢
    have hpl : ps.length ≤ 1000000 := by
      have := congrArg List.length hps
      rw [List.length_take, kvs, List.length_map] at this
      rw [← hC] at hfl
      omega
    refine vo_entL (L' := lpA l' 13 [(2, .pointer (some ⟨g2, 0, none⟩)), (6, .func (.func 161) #[] #[.pointer (some ⟨gn, 0, none⟩), .pointer (some ⟨gt, 0, none⟩)])] #[7] asg bdy D .ready none :: blk g2 91 [.slice a2 ps.length c2] :: ownPs a2 c2 ps :: vsA ps :: ownB a' c' v :: M3) (SE.ent (se_unbundle [lpA l' 13 [(2, .pointer (some ⟨g2, 0, none⟩)), (6, .func (.func 161) #[] #[.pointer (some ⟨gn, 0, none⟩), .pointer (some ⟨gt, 0, none⟩)])] #[7] asg bdy D .ready none, blk g2 91 [.slice a2 ps.length c2], ownPs a2 c2 ps, vsA ps] _) w0) ?_
    refine vo_yieldK hy hx (by decide) rfl hd (fun K' hKI => ?_)
    refine v_code ?_
    repeat' (first | (refine go1 ?_; intros) | (refine goCC ?_ ?_ <;> (intro hb; (try simp only [hSQ] at hb); try (exfalso; omega))) | fail)
    rename_i a3 c3 _ _
    refine hKI.out _ _ _ (hK _ ?_)
    have hps2 : kvs (ps ++ [⟨k, a', c', v⟩]) = C.take (j + 1) := by
      rw [List.take_succ_eq_append_getElem hjC, hjv, ← hps]
      simp [kvs, PR.kv]
    refine Ent.trans ?_ (SE.ent (se_exA ⟨(a3, c3, ps ++ [⟨k, a', c', v⟩]), hps2⟩ _) w0)
    refine Ent.trans ?_ (SE.ent (se_bundle [lpA l' 13 [(2, .pointer (some ⟨g2, 0, none⟩)), (6, .func (.func 161) #[] #[.pointer (some ⟨gn, 0, none⟩), .pointer (some ⟨gt, 0, none⟩)])] #[7] asg bdy D .ready none, blk g2 91 [.slice a3 (ps ++ [(⟨k, a', c', v⟩ : PR)]).length c3], ownPs a3 c3 (ps ++ [⟨k, a', c', v⟩]), vsA (ps ++ [⟨k, a', c', v⟩])] _) w0)
    rw [ownPs_snoc, List.length_append, List.length_singleton]
    refine Ent.trans (sei w0 _ (ownB a' c' v :: vsA ps :: lpA l' 13 [(2, .pointer (some ⟨g2, 0, none⟩)), (6, .func (.func 161) #[] #[.pointer (some ⟨gn, 0, none⟩), .pointer (some ⟨gt, 0, none⟩)])] #[7] asg bdy D .ready none :: blk g2 91 [.slice a3 (ps.length + 1) c3] :: own 170 33 a3 (ps.length + 1) c3 (prc ps ++ (PR.cells ⟨k, a', c', v⟩ ++ [])) :: M3)) ?_
    exact Ent.trans (L2 := vsA (ps ++ [(⟨k, a', c', v⟩ : PR)]) :: lpA l' 13 [(2, .pointer (some ⟨g2, 0, none⟩)), (6, .func (.func 161) #[] #[.pointer (some ⟨gn, 0, none⟩), .pointer (some ⟨gt, 0, none⟩)])] #[7] asg bdy D .ready none :: blk g2 91 [.slice a3 (ps.length + 1) c3] :: own 170 33 a3 (ps.length + 1) c3 (prc ps ++ (PR.cells ⟨k, a', c', v⟩ ++ [])) :: M3) (SE.ent (se_ps_snoc ps (⟨k, a', c', v⟩ : PR) _) w0) (sei w0 _ (lpA l' 13 [(2, .pointer (some ⟨g2, 0, none⟩)), (6, .func (.func 161) #[] #[.pointer (some ⟨gn, 0, none⟩), .pointer (some ⟨gt, 0, none⟩)])] #[7] asg bdy D .ready none :: blk g2 91 [.slice a3 (ps.length + 1) c3] :: own 170 33 a3 (ps.length + 1) c3 (prc ps ++ (PR.cells ⟨k, a', c', v⟩ ++ [])) :: vsA (ps ++ [(⟨k, a', c', v⟩ : PR)]) :: M3))
  refine vc_pre (L2 := S' 0 :: blk gn 3 [.int .i64 (n : Nat)] :: blk gt 27 [.slice a ns.length c, .int .i64 r] :: dfA D :: M) ?_ ?_
  · rw [hS']
    refine Ent.trans ?_ (SE.ent (se_exA ⟨(none, 0, []), rfl⟩ _) w0)
    refine Ent.trans ?_ (SE.ent (se_bundle [lpA l' 13 [(2, .pointer (some ⟨g2, 0, none⟩)), (6, .func (.func 161) #[] #[.pointer (some ⟨gn, 0, none⟩), .pointer (some ⟨gt, 0, none⟩)])] #[7] asg bdy D .ready none, blk g2 91 [.slice none 0 0], ownPs none 0 [], vsA []] _) w0)
    refine Ent.trans (SE.ent (se_ps_nil _) w0) ?_
    exact sei w0 _ (lpA l' 13 [(2, .pointer (some ⟨g2, 0, none⟩)), (6, .func (.func 161) #[] #[.pointer (some ⟨gn, 0, none⟩), .pointer (some ⟨gt, 0, none⟩)])] #[7] asg bdy D .ready none :: blk g2 91 [.slice none 0 0] :: ownPs none 0 [] :: vsA [] :: blk gn 3 [.int .i64 (n : Nat)] :: blk gt 27 [.slice a ns.length c, .int .i64 r] :: dfA D :: M)
  have hE := treach_vc w0 a c ns r hok ho n hn l' S' C hYC 0 (fun j hj => by rw [Nat.zero_add, hC]) (dfA D :: M) gn gt
  rw [← hC, Nat.zero_add, hS'] at hE
  dsimp only at hE
  rw [hS']
  refine vc_exA ?_ hE
  rintro v ⟨⟨a2, c2, ps⟩, hps⟩
  dsimp only at hps ⊢
  rw [List.take_length] at hps
  refine ⟨lpA l' 13 [(2, .pointer (some ⟨g2, 0, none⟩)), (6, .func (.func 161) #[] #[.pointer (some ⟨gn, 0, none⟩), .pointer (some ⟨gt, 0, none⟩)])] #[7] asg bdy D .ready none :: blk g2 91 [.slice a2 ps.length c2] :: ownPs a2 c2 ps :: vsA ps :: dfA D :: M, SE.ent (se_unbundle [lpA l' 13 [(2, .pointer (some ⟨g2, 0, none⟩)), (6, .func (.func 161) #[] #[.pointer (some ⟨gn, 0, none⟩), .pointer (some ⟨gt, 0, none⟩)])] #[7] asg bdy D .ready none, blk g2 91 [.slice a2 ps.length c2], ownPs a2 c2 ps, vsA ps] _) w0, rangeEnd_done (by decide) ?_⟩
  repeat' (first | (refine go1 ?_; intros) | (refine goCC ?_ ?_ <;> (intro hb; (try simp only [hSQ] at hb); try (exfalso; omega))) | fail)
  exact ⟨_, sei _ _ (ownPs a2 c2 ps :: vsA ps :: M), a2, c2, ps, rfl, by rw [hps, hC], rfl⟩
theorem collect_vc (w0 : World) (a : Option Addr) (c : Nat) (ns : List Nd) (r : Int) (hok : NsOk ns) (ho : onesP ns) (n : Nat) (hn : n ≤ ns.length) (hfl : (forP ns n).length ≤ 1000000) (M : List Asn) (gn gt : Nat) [hr : RdC w0 M a (ndc ns)] [hv : RdNs w0 M ns] :
    VC Tryz.prog w0 141 [.func (.func 161) #[] #[.pointer (some ⟨gn, 0, none⟩), .pointer (some ⟨gt, 0, none⟩)]] (blk gn 3 [.int .i64 n] :: blk gt 27 [.slice a ns.length c, .int .i64 r] :: M) (RPs w0 M (forP ns n)) := by
  refine vc_ent ?_
  refine vc_in rfl rfl ?_
  repeat' (first | (refine go1 ?_; intros) | (refine goCC ?_ ?_ <;> (intro hb; (try simp only [hSQ] at hb); try (exfalso; omega))) | fail)
  refine clV ?_
  refine vc_mono (aseq_vc w0 a c ns r hok ho n hn hfl M gn gt) ?_
  rintro v L' ⟨a2, c2, ps, rfl, hps, rfl⟩
  repeat' (first | (refine go1 ?_; intros) | (refine goCC ?_ ?_ <;> (intro hb; (try simp only [hSQ] at hb); try (exfalso; omega))) | fail)
  exact ⟨_, sei _ _ (ownPs a2 c2 ps :: vsA ps :: M), a2, c2, ps, rfl, hps, rfl⟩
theorem tpairs_vc (w0 : World) (L : List Asn) (a : Option Addr) (c : Nat) (ns : List Nd) (r : Int) {n : Nat} (hn : n = ns.length) (hok : NsOk ns) [hr : RdC w0 L a (ndc ns)] [hv : RdNs w0 L ns] :
    VC Tryz.prog w0 109 [.agg #[.slice a n c, .int .i64 r]] L fun v L' => ∃ x, v = .tuple #[x, .int .i64 (if MayP ns r then 0 else 8)] ∧ RPs w0 L (if MayP ns r then forP ns r.toNat else []) x L' := by
  subst hn
  have hlen := hok.len
  refine vc_ent ?_
  refine vc_in rfl rfl ?_
  repeat' (first | (refine go1 ?_; intros) | (refine goCC ?_ ?_ <;> (intro hb; (try simp only [hSQ] at hb); try (exfalso; omega))) | fail)
  refine clV ?_
  refine vc_mono (tcheck_vc w0 _ a c ns r rfl hok) ?_
  rintro v L' ⟨rfl, rfl⟩
  by_cases hm : MayP ns r
  · rw [if_pos hm, if_pos hm]
    obtain ⟨m, hmr⟩ : ∃ m : Nat, r = m := ⟨r.toNat, by have := hm.lo; omega⟩
    have hml : m ≤ ns.length := by have := hm.hi; omega
    have hmt : r.toNat = m := by rw [hmr]; rfl
    rw [hmt]
    subst hmr
    have hh : (forP ns m).length ≤ 1000000 := by
      have h2 : 2 * (forP ns m).length ≤ ns.length + 1 := for_half (d := 0) (β := zb) (fun _ _ => rfl) (by have := hm.right; rwa [hmt] at this)
      omega
    repeat' (first | (refine go1 ?_; intros) | (refine goCC ?_ ?_ <;> (intro hb; (try simp only [hSQ] at hb); try (exfalso; omega))) | fail)
    refine clV ?_
    refine vc_mono (each0_vc w0 _ [.slice a ns.length c, .int .i64 (m : Nat)] _ rfl) ?_
    rintro v L' ⟨gt', gn', rfl, rfl⟩
    repeat' (first | (refine go1 ?_; intros) | (refine goCC ?_ ?_ <;> (intro hb; (try simp only [hSQ] at hb); try (exfalso; omega))) | fail)
    refine clV ?_
    refine vc_mono (collect_vc w0 a c ns m hok hm.ones m hml hh _ gn' gt') ?_
    rintro v L' ⟨a2, c2, ps, rfl, hps, rfl⟩
    repeat' (first | (refine go1 ?_; intros) | (refine goCC ?_ ?_ <;> (intro hb; (try simp only [hSQ] at hb); try (exfalso; omega))) | fail)
    exact ⟨_, sei _ _ (ownPs a2 c2 ps :: vsA ps :: L), _, rfl, a2, c2, ps, rfl, hps, rfl⟩
  · rw [if_neg hm, if_neg hm]
    repeat' (first | (refine go1 ?_; intros) | (refine goCC ?_ ?_ <;> (intro hb; (try simp only [hSQ] at hb); try (exfalso; omega))) | fail)
    exact ⟨_, (SEI.out.trans (se_ps_nil L)).ent w0, _, rfl, none, 0, [], rfl, rfl, rfl⟩
end Go.Proofs.YtcpndfffdbogbaaGreatDoor

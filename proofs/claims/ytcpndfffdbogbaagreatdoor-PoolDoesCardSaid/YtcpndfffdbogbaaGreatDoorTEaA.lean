/-
  A tree's pairs, one after another: an iterator that runs through itself.
-/
import Derived.Test.YtcpndfffdbogbaaGreatDoorTD
import Derived.Test.YtcpndfffdbogbaaGreatDoorGB
import Derived.Test.YtcpndfffdbogbaaGreatDoorGC
import Derived.Test.YtcpndfffdbogbaaGreatDoorGL
set_option linter.unusedVariables false
set_option linter.unusedSimpArgs false
set_option linter.unusedSectionVars false

namespace Go.Proofs.YtcpndfffdbogbaaGreatDoor
open Go Go.RowKit
open Classical

/-- One of many. -/
def exA {X : Type} (f : X → Asn) : Asn where
  holds w F := ∃ x, (f x).holds w F
  loc := by
    rintro w w' F ⟨x, hx⟩ hs
    exact ⟨x, (f x).loc hx hs⟩
  mono := by
    rintro w F G ⟨x, hx⟩ hs
    exact ⟨x, (f x).mono hx hs⟩
theorem se_exA {X : Type} {f : X → Asn} (x : X) (L : List Asn) : SE (f x :: L) (exA f :: L) := se_head L (fun w F h => ⟨x, h⟩)
section
variable {P : Program} {ro : Option Nat} {w0 : World} {n : Nat} {ds : List Deferred} {fr : Fr} {L : List Asn} {Q : Exit → List Deferred → Fr → List Asn → Prop} {K : List Deferred → Fr → List Asn → Prop}
theorem st_exA {X : Type} {f : X → Asn} {w : World} (h : St w0 w (exA f :: L)) : ∃ x, St w0 w (f x :: L) := by
  obtain ⟨h1, F, ⟨x, hx⟩, h2, h3⟩ := h
  exact ⟨x, h1, F, hx, h2, h3⟩
theorem vo_exA {X : Type} {f : X → Asn} {o : Oper} (h : ∀ x, VO P ro w0 n o K Q ds fr (f x :: L)) : VO P ro w0 n o K Q ds fr (exA f :: L) := ⟨fun a w hk hs => by
  obtain ⟨x, hx⟩ := st_exA hs
  exact (h x).out a w hk hx⟩
theorem vo_entL {o : Oper} {L' : List Asn} (he : Ent w0 L L') (h : VO P ro w0 n o K Q ds fr L') : VO P ro w0 n o K Q ds fr L := ⟨fun a w hk hs => h.out a w hk (he w hs)⟩
/-- A loop whose rounds leave something for the function's end. -/
theorem v_loopD {c : Code} (X : Type) (D : X → List Deferred) (f : X → Fr) (Ls : X → List Asn) (ok : X → Prop) (μ : X → Nat) (x0 : X) (h0 : ok x0) (hd0 : D x0 = ds) (hs0 : Sub (f x0) fr) (he0 : Ent w0 L (Ls x0))
    (h : ∀ x, ok x → V P ro w0 n c (thn (fun ds' fr' L' => ∃ y, ds' = D y ∧ ok y ∧ μ y < μ x ∧ Sub (f y) fr' ∧ Ent w0 L' (Ls y)) Q) (D x) (f x) (Ls x)) : V P ro w0 n (.loop c) Q ds fr L := by
  refine ⟨fun a w hk hs => ?_⟩
  intro b k cs hro hb hr
  have key : ∀ j x a w, μ x = j → ok x → Kn n (D x) a (f x) → St w0 w (Ls x) →
      ∃ e a' w', up w0 n Q e a' w' ∧ ArrivesIn (Machine.fenced P (fen ro)) P (lone (b.atR a (.code c :: .inLoop c :: k)) cs w) b k cs e a' w' := by
    intro j
    induction j using Nat.strongRecOn with
    | _ j ih =>
      intro x a w hn hx hk hs
      obtain ⟨e, a₁, w₁, ⟨ds', fr', L', h1, h2, h3⟩, harr⟩ := (h x hx).out a w hk hs b (.inLoop c :: k) cs hro hb hr
      cases e with
      | normal =>
        obtain ⟨y, rfl, hy, hlt, hsub, hent⟩ := h3
        obtain ⟨e₂, a₂, w₂, hq₂, harr₂⟩ := ih (μ y) (hn ▸ hlt) y a₁ w₁ rfl hy (h1.sub hsub) (hent _ h2)
        exact ⟨e₂, a₂, w₂, hq₂, .of_steps (StepsIn.trans harr (.one (fenced_calm hb hr rfl) stepR_inLoop)) harr₂⟩
      | exit id => exact ⟨_, a₁, w₁, ⟨ds', fr', L', h1, h2, h3⟩, .pass (x := .inLoop c) rfl (fun _ _ => .inl (by simp)) harr⟩
      | goto l => exact ⟨_, a₁, w₁, ⟨ds', fr', L', h1, h2, h3⟩, .pass (x := .inLoop c) rfl (fun _ _ => .inl (by simp)) harr⟩
      | ret => exact ⟨_, a₁, w₁, ⟨ds', fr', L', h1, h2, h3⟩, .pass (x := .inLoop c) rfl (fun _ _ => .inl (by simp)) harr⟩
      | panic ch => exact ⟨_, a₁, w₁, ⟨ds', fr', L', h1, h2, h3⟩, .pass (x := .inLoop c) rfl (fun _ _ => .inl (by simp)) harr⟩
      | outgrown => exact ⟨_, a₁, w₁, ⟨ds', fr', L', h1, h2, h3⟩, .pass (x := .inLoop c) rfl (fun _ _ => .inl (by simp)) harr⟩
  subst hd0
  obtain ⟨e, a', w', hq, harr⟩ := key _ x0 a w rfl h0 (hk.sub hs0) (he0 w hs)
  exact ⟨e, a', w', hq, .of_steps (.one (fenced_calm hb hr rfl) stepR_loop) harr⟩
end
/-- Calls of yield: with the j-th of a list what stands at j becomes what stands at j + 1. -/
def YC (P : Program) (w0 : World) (l : Nat) (S : Nat → Asn) (qs : List KV) : Prop :=
  ∀ (j : Nat) (k v : List UInt8) (hj : qs[j]? = some (k, v)) (hk : k.length = 32) (a : Option Addr) (c : Nat) (M : List Asn) (ro : Option Nat) (n d y : Nat) (xs : Array Operand) (ts : Array TypeId) (ty : TypeId) (pos : String) (after : Array Edge) (gd : Option (Nat × Bool)) (K : List Deferred → Fr → List Asn → Prop) (Q : Exit → List Deferred → Fr → List Asn → Prop) (ds : List Deferred) (fr : Fr),
    look fr y = some (.func (.yield l) #[] #[]) → evAs fr xs.toList = some [.agg (PR.cells ⟨k, a, c, v⟩).toArray] → Nat.blt d n = true → (∀ L', Ent w0 L' (S (j + 1) :: M) → K ds ((d, .bool true) :: fr) L') →
    VO P ro w0 n ⟨some d, .call { callee := .value (.tmp y), args := xs, argTypes := ts }, ty, pos, after, gd⟩ K Q ds fr (ownB a c v :: S j :: M)
theorem each0_vc (w0 : World) (L : List Asn) (t : List Value) (m : Int) (ht : t.length = 2) [OC t] :
    VC Tryz.prog w0 142 [.agg t.toArray, .int .i64 m] L fun v L' => ∃ g g', v = .func (.func 161) #[] #[.pointer (some ⟨g', 0, none⟩), .pointer (some ⟨g, 0, none⟩)] ∧ L' = blk g' 3 [.int .i64 m] :: blk g 27 t :: L := by
  refine vc_in rfl rfl ?_
  repeat' (first | (refine go1 ?_; intros) | (refine goCC ?_ ?_ <;> (intro hb; (try simp only [hSQ] at hb); try (exfalso; omega))) | fail)
  exact ⟨_, _, rfl, rfl⟩
set_option maxRecDepth 100000 in
set_option maxHeartbeats 4000000 in
theorem treach_vc (w0 : World) (a : Option Addr) (c : Nat) (ns : List Nd) (r : Int) (hok : NsOk ns) (ho : onesP ns) : ∀ (n : Nat), n ≤ ns.length → ∀ (l : Nat) (S : Nat → Asn) (qs : List KV) (hY : YC Tryz.prog w0 l S qs) (i : Nat) (hseg : ∀ j, j < (forP ns n).length → qs[i + j]? = (forP ns n)[j]?) (M : List Asn) (gn gt : Nat) [hr : RdC w0 M a (ndc ns)] [hv : RdNs w0 M ns],
    VC Tryz.prog w0 161 [.func (.yield l) #[] #[], .pointer (some ⟨gn, 0, none⟩), .pointer (some ⟨gt, 0, none⟩)] (S i :: blk gn 3 [.int .i64 n] :: blk gt 27 [.slice a ns.length c, .int .i64 r] :: M) fun _ L' => L' = S (i + (forP ns n).length) :: M := by
  intro n
  induction n using Nat.strongRecOn with
  | _ n ih =>
  intro hn l S qs hY i hseg M gn gt hr hv
  have hlen := hok.len
  cases n with
  | zero =>
    refine vc_ent ?_
    refine vc_in rfl rfl ?_
    repeat' (first | (refine go1 ?_; intros) | (refine goCC ?_ ?_ <;> (intro hb; (try simp only [hSQ] at hb); try (exfalso; omega))) | fail)
    rw [show forP ns 0 = [] by rw [forP]]
    exact ⟨_, sei _ _ (S i :: M), rfl⟩
  | succ n =>
    have hx : ns[n]? = some ns[n] := List.getElem?_eq_getElem (by omega)
    have he := hok.e n (by omega)
    have hpos := hok.pos n (by omega)
    have hk := hok.k32at n (by omega)
    have hvl := hok.vlat n (by omega)
    haveI hvi := hv.at n (by omega)
    have e1 : forP ns (n + 1) = if ns[n].leaf = true then [(ns[n].key, ns[n].v)] else forP ns (ns[n].l n) ++ forP ns (ns[n].r n) := by rw [forP, hx]
    have f0 := Nd.f0 (x := ns[n])
    have f1 := Nd.f1 hk
    have f2 := Nd.f2 hk
    have f3 := Nd.f3 hk
    have f4 := Nd.f4 hk
    have hc := Nd.len hk
    haveI hoc : OC ns[n].cells := oc_nd _
    have hfk := ho.fork (show n < ns.length by omega)
    have hxl := ho.l (show n < ns.length by omega)
    have hxr := ho.r (show n < ns.length by omega)
    rw [e1] at hseg ⊢
    have hR := fun L => roads_vc w0 L ns[n] hk
    generalize ns[n] = x at *
    generalize x.cells = cs at *
    refine vc_ent ?_
    refine vc_in rfl rfl ?_
    cases hl : x.leaf
    · rw [hl] at f0 hseg
      rw [if_neg (by simp)] at hseg ⊢
      have hf := hfk hl
      have h1 := hxl hl
      have h2 := hxr hl
      repeat' (first | (refine go1 ?_; intros) | (refine goCC ?_ ?_ <;> (intro hb; (try simp only [hSQ] at hb); try (exfalso; omega))) | fail)
      refine clV ?_
      refine vc_mono (hR _) ?_
      rintro v L' ⟨rfl, rfl⟩
      repeat' (first | (refine go1 ?_; intros) | (refine goCC ?_ ?_ <;> (intro hb; (try simp only [hSQ] at hb); try (exfalso; omega))) | fail)
      rename_i g3 g4
      obtain ⟨A, hA⟩ : ∃ A, A = forP ns (x.l n) := ⟨_, rfl⟩
      obtain ⟨B, hB⟩ : ∃ B, B = forP ns (x.r n) := ⟨_, rfl⟩
      have ihl := ih (x.l n) (Nd.l_lt x n) (by have := Nd.l_lt x n; omega)
      have ihr := ih (x.r n) (Nd.r_lt x n) (by have := Nd.r_lt x n; omega)
      have el : x.left = ((x.l n : Nat) : Int) := by omega
      have er : x.right = ((x.r n : Nat) : Int) := by omega
      rw [← hA] at ihl hseg ⊢
      rw [← hB] at ihr hseg ⊢
      rw [el, er]
      generalize x.l n = nl at *
      generalize x.r n = nr at *
      refine v_loopD (Nat × List Nat) (fun z => z.2.map mkD) (fun z => [(28, .int .i64 z.1), (27, .agg #[.int .i64 nl, .int .i64 nr]), (3, .pointer (some ⟨g3, 0, none⟩)), (1, .pointer (some ⟨gn, 0, none⟩)), (2, .pointer (some ⟨gt, 0, none⟩))]) (fun z => z.2.map dfA ++ (S (i + (if z.1 = 0 then 0 else if z.1 = 1 then A.length else (A ++ B).length)) :: blk g3 223 [.func (.yield l) #[] #[]] :: blk gt 27 [.slice a ns.length c, .int .i64 r] :: M)) (fun z => z.1 ≤ 2 ∧ z.2.length = z.1) (fun z => 2 - z.1) (0, []) ⟨by omega, rfl⟩ rfl (by (exact sbS)) (by dsimp only [List.map, List.nil_append]; rw [if_pos rfl, Nat.add_zero]; exact sei _ _ _) ?_
      rintro ⟨k, Ds⟩ ⟨hk2, hDl⟩
      dsimp only at hk2 hDl ⊢
      rcases k with _ | _ | _ | k
      · obtain rfl : Ds = [] := List.length_eq_zero_iff.1 hDl
        rw [if_pos rfl]
        dsimp only [List.map, List.nil_append]
        obtain ⟨C, hC⟩ : ∃ C, C = A := ⟨_, rfl⟩
        obtain ⟨o, hO⟩ : ∃ o, o = 0 := ⟨_, rfl⟩
        have hsc : ∀ j, j < C.length → qs[i + o + j]? = C[j]? := fun j hj => by
          rw [hC] at hj ⊢
          have := hseg j (by rw [List.length_append]; omega)
          rw [hO, Nat.add_zero, this, List.getElem?_append_left hj]
        have ihc := ihl
        rw [← hC] at ihc
        rw [show i + 0 = i + o by rw [hO]]
        repeat' (first | (refine go1 ?_; intros) | (refine goCC ?_ ?_ <;> (intro hb; (try simp only [hSQ] at hb); try (exfalso; omega))) | fail)
        refine vl_q rfl rfl rfl rfl (vq_ixV1 rfl rfl (by decide) (by decide) rfl) ?_
        repeat' (first | (refine go1 ?_; intros) | (refine goCC ?_ ?_ <;> (intro hb; (try simp only [hSQ] at hb); try (exfalso; omega))) | fail)
        refine clV ?_
        refine vc_mono (each0_vc w0 _ [.slice a ns.length c, .int .i64 r] _ rfl) ?_
        rintro v L' ⟨gt', gn', rfl, rfl⟩
        repeat' (first | (refine go1 ?_; intros) | (refine goCC ?_ ?_ <;> (intro hb; (try simp only [hSQ] at hb); try (exfalso; omega))) | fail)
        refine v_sub (selE_sub [28, 27, 3, 1, 2, 33] _ rfl) ?_
        refine v_rangeK rfl (fun l' D asg bdy R hasg hbdy hRI => ?_)
        refine vc_ent' ?_ hRI.out
        obtain ⟨S', hS'⟩ : ∃ S' : Nat → Asn, S' = fun j => bundle [lpA l' 40 [(28, .int .i64 (0 : Nat)), (27, .agg #[.int .i64 (nl : Nat), .int .i64 (nr : Nat)]), (3, .pointer (some ⟨g3, 0, none⟩)), (1, .pointer (some ⟨gn, 0, none⟩)), (2, .pointer (some ⟨gt, 0, none⟩)), (33, .func (.func 161) #[] #[.pointer (some ⟨gn', 0, none⟩), .pointer (some ⟨gt', 0, none⟩)])] #[34] asg bdy D .ready none, blk g3 223 [.func (.yield l) #[] #[]], S (i + o + j)] := ⟨_, rfl⟩
        have hYC : YC Tryz.prog w0 l' S' C := by
          intro j k v hj hkl a' c' M3 ro n' d y xs ts ty pos after gd K Q ds fr hy hx hd hK
          have hjC : j < C.length := (List.getElem?_eq_some_iff.1 hj).1
          have hqj : qs[i + o + j]? = some (k, v) := by rw [hsc j hjC]; exact hj
          have lPR := PR.len (p := ⟨k, a', c', v⟩) hkl
          rw [hS'] at hK ⊢
          dsimp only at hK ⊢
          refine vo_entL (L' := ownB a' c' v :: lpA l' 40 [(28, .int .i64 (0 : Nat)), (27, .agg #[.int .i64 (nl : Nat), .int .i64 (nr : Nat)]), (3, .pointer (some ⟨g3, 0, none⟩)), (1, .pointer (some ⟨gn, 0, none⟩)), (2, .pointer (some ⟨gt, 0, none⟩)), (33, .func (.func 161) #[] #[.pointer (some ⟨gn', 0, none⟩), .pointer (some ⟨gt', 0, none⟩)])] #[34] asg bdy D .ready none :: blk g3 223 [.func (.yield l) #[] #[]] :: S (i + o + j) :: M3) (SE.ent (SE.cons _ (se_unbundle _ M3)) w0) ?_
          refine vo_yieldK hy hx (by decide) rfl hd (fun K' hKI => ?_)
          refine v_code ?_
          repeat' (first | (refine go1 ?_; intros) | (refine goCC ?_ ?_ <;> (intro hb; (try simp only [hSQ] at hb); try (exfalso; omega))) | fail)
          rename_i g7
          refine vl_o rfl (vo_entL (L' := ownB a' c' v :: S (i + o + j) :: lpA l' 40 [(28, .int .i64 (0 : Nat)), (27, .agg #[.int .i64 (nl : Nat), .int .i64 (nr : Nat)]), (3, .pointer (some ⟨g3, 0, none⟩)), (1, .pointer (some ⟨gn, 0, none⟩)), (2, .pointer (some ⟨gt, 0, none⟩)), (33, .func (.func 161) #[] #[.pointer (some ⟨gn', 0, none⟩), .pointer (some ⟨gt', 0, none⟩)])] #[34] asg bdy D .busy none :: blk g3 223 [.func (.yield l) #[] #[]] :: M3) (sei _ _ _) (hY (i + o + j) k v hqj hkl a' c' _ _ _ _ _ _ _ _ _ _ _ _ _ _ _ rfl rfl rfl (fun L' hL' => ?_)))
          refine vl_ent hL' ?_
          repeat' (first | (refine go1 ?_; intros) | (refine goCC ?_ ?_ <;> (intro hb; (try simp only [hSQ] at hb); try (exfalso; omega))) | fail)
          refine hKI.out _ _ _ (hK _ ?_)
          refine Ent.trans ?_ (SE.ent (se_bundle [lpA l' 40 [(28, .int .i64 (0 : Nat)), (27, .agg #[.int .i64 (nl : Nat), .int .i64 (nr : Nat)]), (3, .pointer (some ⟨g3, 0, none⟩)), (1, .pointer (some ⟨gn, 0, none⟩)), (2, .pointer (some ⟨gt, 0, none⟩)), (33, .func (.func 161) #[] #[.pointer (some ⟨gn', 0, none⟩), .pointer (some ⟨gt', 0, none⟩)])] #[34] asg bdy D .ready none, blk g3 223 [.func (.yield l) #[] #[]], S (i + o + (j + 1))] M3) w0)
          exact sei w0 _ (lpA l' 40 [(28, .int .i64 (0 : Nat)), (27, .agg #[.int .i64 (nl : Nat), .int .i64 (nr : Nat)]), (3, .pointer (some ⟨g3, 0, none⟩)), (1, .pointer (some ⟨gn, 0, none⟩)), (2, .pointer (some ⟨gt, 0, none⟩)), (33, .func (.func 161) #[] #[.pointer (some ⟨gn', 0, none⟩), .pointer (some ⟨gt', 0, none⟩)])] #[34] asg bdy D .ready none :: blk g3 223 [.func (.yield l) #[] #[]] :: S (i + o + j + 1) :: M3)
        refine vc_pre (L2 := S' 0 :: blk gn' 3 [.int .i64 (nl : Nat)] :: blk gt' 27 [.slice a ns.length c, .int .i64 r] :: (dfA D :: blk gt 27 [.slice a ns.length c, .int .i64 r] :: M)) ?_ (vc_mono (ihc l' S' C hYC 0 (fun j hj => by rw [Nat.zero_add]) (dfA D :: blk gt 27 [.slice a ns.length c, .int .i64 r] :: M) gn' gt') ?_)
        · rw [hS']
          exact (sei w0 _ (lpA l' 40 [(28, .int .i64 (0 : Nat)), (27, .agg #[.int .i64 (nl : Nat), .int .i64 (nr : Nat)]), (3, .pointer (some ⟨g3, 0, none⟩)), (1, .pointer (some ⟨gn, 0, none⟩)), (2, .pointer (some ⟨gt, 0, none⟩)), (33, .func (.func 161) #[] #[.pointer (some ⟨gn', 0, none⟩), .pointer (some ⟨gt', 0, none⟩)])] #[34] asg bdy D .ready none :: blk g3 223 [.func (.yield l) #[] #[]] :: S (i + o) :: blk gn' 3 [.int .i64 (nl : Nat)] :: blk gt' 27 [.slice a ns.length c, .int .i64 r] :: (dfA D :: blk gt 27 [.slice a ns.length c, .int .i64 r] :: M))).trans (SE.ent (se_bundle [lpA l' 40 [(28, .int .i64 (0 : Nat)), (27, .agg #[.int .i64 (nl : Nat), .int .i64 (nr : Nat)]), (3, .pointer (some ⟨g3, 0, none⟩)), (1, .pointer (some ⟨gn, 0, none⟩)), (2, .pointer (some ⟨gt, 0, none⟩)), (33, .func (.func 161) #[] #[.pointer (some ⟨gn', 0, none⟩), .pointer (some ⟨gt', 0, none⟩)])] #[34] asg bdy D .ready none, blk g3 223 [.func (.yield l) #[] #[]], S (i + o)] _) w0)
        rintro v L' rfl
        refine ⟨lpA l' 40 [(28, .int .i64 (0 : Nat)), (27, .agg #[.int .i64 (nl : Nat), .int .i64 (nr : Nat)]), (3, .pointer (some ⟨g3, 0, none⟩)), (1, .pointer (some ⟨gn, 0, none⟩)), (2, .pointer (some ⟨gt, 0, none⟩)), (33, .func (.func 161) #[] #[.pointer (some ⟨gn', 0, none⟩), .pointer (some ⟨gt', 0, none⟩)])] #[34] asg bdy D .ready none :: blk g3 223 [.func (.yield l) #[] #[]] :: S (i + o + C.length) :: (dfA D :: blk gt 27 [.slice a ns.length c, .int .i64 r] :: M), ?_, rangeEnd_done (by decide) ?_⟩
        · rw [hS', show 0 + C.length = C.length from Nat.zero_add _]
          exact SE.ent (se_unbundle [lpA l' 40 [(28, .int .i64 (0 : Nat)), (27, .agg #[.int .i64 (nl : Nat), .int .i64 (nr : Nat)]), (3, .pointer (some ⟨g3, 0, none⟩)), (1, .pointer (some ⟨gn, 0, none⟩)), (2, .pointer (some ⟨gt, 0, none⟩)), (33, .func (.func 161) #[] #[.pointer (some ⟨gn', 0, none⟩), .pointer (some ⟨gt', 0, none⟩)])] #[34] asg bdy D .ready none, blk g3 223 [.func (.yield l) #[] #[]], S (i + o + C.length)] _) w0
        repeat' (first | (refine go1 ?_; intros) | (refine goCC ?_ ?_ <;> (intro hb; (try simp only [hSQ] at hb); try (exfalso; omega))) | fail)
        refine ⟨(1, [D]), rfl, ⟨by omega, rfl⟩, by omega, by (exact sbS), ?_⟩
        dsimp only [List.map, List.nil_append, List.cons_append]
        rw [if_neg (by decide), if_pos rfl, show i + o + C.length = i + A.length by rw [hO, hC, Nat.add_zero]]
        exact sei _ _ _
      · obtain ⟨D1, rfl⟩ := List.length_eq_one_iff.1 hDl
        rw [if_neg (by omega), if_pos rfl]
        dsimp only [List.map, List.nil_append, List.cons_append]
        obtain ⟨C, hC⟩ : ∃ C, C = B := ⟨_, rfl⟩
        obtain ⟨o, hO⟩ : ∃ o, o = A.length := ⟨_, rfl⟩
        have hsc : ∀ j, j < C.length → qs[i + o + j]? = C[j]? := fun j hj => by
          rw [hC] at hj ⊢
          have := hseg (A.length + j) (by rw [List.length_append]; omega)
          rw [hO, Nat.add_assoc, this, List.getElem?_append_right (by omega)]
          congr 1
          omega
        have ihc := ihr
        rw [← hC] at ihc
        rw [← hO]
        repeat' (first | (refine go1 ?_; intros) | (refine goCC ?_ ?_ <;> (intro hb; (try simp only [hSQ] at hb); try (exfalso; omega))) | fail)
        refine vl_q rfl rfl rfl rfl (vq_ixV1 rfl rfl (by decide) (by decide) rfl) ?_
        repeat' (first | (refine go1 ?_; intros) | (refine goCC ?_ ?_ <;> (intro hb; (try simp only [hSQ] at hb); try (exfalso; omega))) | fail)
        refine clV ?_
        refine vc_mono (each0_vc w0 _ [.slice a ns.length c, .int .i64 r] _ rfl) ?_
        rintro v L' ⟨gt', gn', rfl, rfl⟩
        repeat' (first | (refine go1 ?_; intros) | (refine goCC ?_ ?_ <;> (intro hb; (try simp only [hSQ] at hb); try (exfalso; omega))) | fail)
        refine v_sub (selE_sub [28, 27, 3, 1, 2, 33] _ rfl) ?_
        refine v_rangeK rfl (fun l' D asg bdy R hasg hbdy hRI => ?_)
        refine vc_ent' ?_ hRI.out
        obtain ⟨S', hS'⟩ : ∃ S' : Nat → Asn, S' = fun j => bundle [lpA l' 40 [(28, .int .i64 (0 + 1 : Nat)), (27, .agg #[.int .i64 (nl : Nat), .int .i64 (nr : Nat)]), (3, .pointer (some ⟨g3, 0, none⟩)), (1, .pointer (some ⟨gn, 0, none⟩)), (2, .pointer (some ⟨gt, 0, none⟩)), (33, .func (.func 161) #[] #[.pointer (some ⟨gn', 0, none⟩), .pointer (some ⟨gt', 0, none⟩)])] #[34] asg bdy D .ready none, blk g3 223 [.func (.yield l) #[] #[]], S (i + o + j)] := ⟨_, rfl⟩
        have hYC : YC Tryz.prog w0 l' S' C := by
          intro j k v hj hkl a' c' M3 ro n' d y xs ts ty pos after gd K Q ds fr hy hx hd hK
          have hjC : j < C.length := (List.getElem?_eq_some_iff.1 hj).1
          have hqj : qs[i + o + j]? = some (k, v) := by rw [hsc j hjC]; exact hj
          have lPR := PR.len (p := ⟨k, a', c', v⟩) hkl
          rw [hS'] at hK ⊢
          dsimp only at hK ⊢
          refine vo_entL (L' := ownB a' c' v :: lpA l' 40 [(28, .int .i64 (0 + 1 : Nat)), (27, .agg #[.int .i64 (nl : Nat), .int .i64 (nr : Nat)]), (3, .pointer (some ⟨g3, 0, none⟩)), (1, .pointer (some ⟨gn, 0, none⟩)), (2, .pointer (some ⟨gt, 0, none⟩)), (33, .func (.func 161) #[] #[.pointer (some ⟨gn', 0, none⟩), .pointer (some ⟨gt', 0, none⟩)])] #[34] asg bdy D .ready none :: blk g3 223 [.func (.yield l) #[] #[]] :: S (i + o + j) :: M3) (SE.ent (SE.cons _ (se_unbundle _ M3)) w0) ?_
          refine vo_yieldK hy hx (by decide) rfl hd (fun K' hKI => ?_)
          refine v_code ?_
          repeat' (first | (refine go1 ?_; intros) | (refine goCC ?_ ?_ <;> (intro hb; (try simp only [hSQ] at hb); try (exfalso; omega))) | fail)
          rename_i g7
          refine vl_o rfl (vo_entL (L' := ownB a' c' v :: S (i + o + j) :: lpA l' 40 [(28, .int .i64 (0 + 1 : Nat)), (27, .agg #[.int .i64 (nl : Nat), .int .i64 (nr : Nat)]), (3, .pointer (some ⟨g3, 0, none⟩)), (1, .pointer (some ⟨gn, 0, none⟩)), (2, .pointer (some ⟨gt, 0, none⟩)), (33, .func (.func 161) #[] #[.pointer (some ⟨gn', 0, none⟩), .pointer (some ⟨gt', 0, none⟩)])] #[34] asg bdy D .busy none :: blk g3 223 [.func (.yield l) #[] #[]] :: M3) (sei _ _ _) (hY (i + o + j) k v hqj hkl a' c' _ _ _ _ _ _ _ _ _ _ _ _ _ _ _ rfl rfl rfl (fun L' hL' => ?_)))
          refine vl_ent hL' ?_
          repeat' (first | (refine go1 ?_; intros) | (refine goCC ?_ ?_ <;> (intro hb; (try simp only [hSQ] at hb); try (exfalso; omega))) | fail)
          refine hKI.out _ _ _ (hK _ ?_)
          refine Ent.trans ?_ (SE.ent (se_bundle [lpA l' 40 [(28, .int .i64 (0 + 1 : Nat)), (27, .agg #[.int .i64 (nl : Nat), .int .i64 (nr : Nat)]), (3, .pointer (some ⟨g3, 0, none⟩)), (1, .pointer (some ⟨gn, 0, none⟩)), (2, .pointer (some ⟨gt, 0, none⟩)), (33, .func (.func 161) #[] #[.pointer (some ⟨gn', 0, none⟩), .pointer (some ⟨gt', 0, none⟩)])] #[34] asg bdy D .ready none, blk g3 223 [.func (.yield l) #[] #[]], S (i + o + (j + 1))] M3) w0)
          exact sei w0 _ (lpA l' 40 [(28, .int .i64 (0 + 1 : Nat)), (27, .agg #[.int .i64 (nl : Nat), .int .i64 (nr : Nat)]), (3, .pointer (some ⟨g3, 0, none⟩)), (1, .pointer (some ⟨gn, 0, none⟩)), (2, .pointer (some ⟨gt, 0, none⟩)), (33, .func (.func 161) #[] #[.pointer (some ⟨gn', 0, none⟩), .pointer (some ⟨gt', 0, none⟩)])] #[34] asg bdy D .ready none :: blk g3 223 [.func (.yield l) #[] #[]] :: S (i + o + j + 1) :: M3)
        refine vc_pre (L2 := S' 0 :: blk gn' 3 [.int .i64 (nr : Nat)] :: blk gt' 27 [.slice a ns.length c, .int .i64 r] :: (dfA D :: dfA D1 :: blk gt 27 [.slice a ns.length c, .int .i64 r] :: M)) ?_ (vc_mono (ihc l' S' C hYC 0 (fun j hj => by rw [Nat.zero_add]) (dfA D :: dfA D1 :: blk gt 27 [.slice a ns.length c, .int .i64 r] :: M) gn' gt') ?_)
        · rw [hS']
          exact (sei w0 _ (lpA l' 40 [(28, .int .i64 (0 + 1 : Nat)), (27, .agg #[.int .i64 (nl : Nat), .int .i64 (nr : Nat)]), (3, .pointer (some ⟨g3, 0, none⟩)), (1, .pointer (some ⟨gn, 0, none⟩)), (2, .pointer (some ⟨gt, 0, none⟩)), (33, .func (.func 161) #[] #[.pointer (some ⟨gn', 0, none⟩), .pointer (some ⟨gt', 0, none⟩)])] #[34] asg bdy D .ready none :: blk g3 223 [.func (.yield l) #[] #[]] :: S (i + o) :: blk gn' 3 [.int .i64 (nr : Nat)] :: blk gt' 27 [.slice a ns.length c, .int .i64 r] :: (dfA D :: dfA D1 :: blk gt 27 [.slice a ns.length c, .int .i64 r] :: M))).trans (SE.ent (se_bundle [lpA l' 40 [(28, .int .i64 (0 + 1 : Nat)), (27, .agg #[.int .i64 (nl : Nat), .int .i64 (nr : Nat)]), (3, .pointer (some ⟨g3, 0, none⟩)), (1, .pointer (some ⟨gn, 0, none⟩)), (2, .pointer (some ⟨gt, 0, none⟩)), (33, .func (.func 161) #[] #[.pointer (some ⟨gn', 0, none⟩), .pointer (some ⟨gt', 0, none⟩)])] #[34] asg bdy D .ready none, blk g3 223 [.func (.yield l) #[] #[]], S (i + o)] _) w0)
        rintro v L' rfl
        refine ⟨lpA l' 40 [(28, .int .i64 (0 + 1 : Nat)), (27, .agg #[.int .i64 (nl : Nat), .int .i64 (nr : Nat)]), (3, .pointer (some ⟨g3, 0, none⟩)), (1, .pointer (some ⟨gn, 0, none⟩)), (2, .pointer (some ⟨gt, 0, none⟩)), (33, .func (.func 161) #[] #[.pointer (some ⟨gn', 0, none⟩), .pointer (some ⟨gt', 0, none⟩)])] #[34] asg bdy D .ready none :: blk g3 223 [.func (.yield l) #[] #[]] :: S (i + o + C.length) :: (dfA D :: dfA D1 :: blk gt 27 [.slice a ns.length c, .int .i64 r] :: M), ?_, rangeEnd_done (by decide) ?_⟩
        · rw [hS', show 0 + C.length = C.length from Nat.zero_add _]
          exact SE.ent (se_unbundle [lpA l' 40 [(28, .int .i64 (0 + 1 : Nat)), (27, .agg #[.int .i64 (nl : Nat), .int .i64 (nr : Nat)]), (3, .pointer (some ⟨g3, 0, none⟩)), (1, .pointer (some ⟨gn, 0, none⟩)), (2, .pointer (some ⟨gt, 0, none⟩)), (33, .func (.func 161) #[] #[.pointer (some ⟨gn', 0, none⟩), .pointer (some ⟨gt', 0, none⟩)])] #[34] asg bdy D .ready none, blk g3 223 [.func (.yield l) #[] #[]], S (i + o + C.length)] _) w0
        repeat' (first | (refine go1 ?_; intros) | (refine goCC ?_ ?_ <;> (intro hb; (try simp only [hSQ] at hb); try (exfalso; omega))) | fail)
        refine ⟨(2, [D, D1]), rfl, ⟨by omega, rfl⟩, by omega, by (exact sbS), ?_⟩
        dsimp only [List.map, List.nil_append, List.cons_append]
        rw [if_neg (by decide), if_neg (by decide), show i + o + C.length = i + (A ++ B).length by rw [hO, hC, List.length_append]; omega]
        exact sei _ _ _
      · obtain ⟨D1, D2, rfl⟩ : ∃ x y, Ds = [x, y] := by match Ds, hDl with | [x, y], _ => exact ⟨x, y, rfl⟩
        rw [if_neg (by omega), if_neg (by omega)]
        dsimp only [List.map, List.nil_append, List.cons_append]
        repeat' (first | (refine go1 ?_; intros) | (refine goCC ?_ ?_ <;> (intro hb; (try simp only [hSQ] at hb); try (exfalso; omega))) | fail)
        exact ⟨_, sei _ _ (S (i + (A ++ B).length) :: M), rfl⟩
      · omega
    · rw [hl] at f0 hseg
      rw [if_pos rfl] at hseg ⊢
      have hj : qs[i]? = some (x.key, x.v) := by simpa using hseg 0 (by simp)
      repeat' (first | (refine go1 ?_; intros) | (refine goCC ?_ ?_ <;> (intro hb; (try simp only [hSQ] at hb); try (exfalso; omega))) | fail)
      rename_i g3 g4
      (refine v_draw0 [7] (by kernel_rfl) ?_ <;> (refine tA 0 ?_) <;> (refine tA 1 ?_) <;> (refine tA 2 ?_) <;> (refine tA 3 ?_) <;> (refine tA 4 ?_))
      first | refine va_one 5 (by kernel_rfl) rfl rfl (vo_call rfl rfl ?_) | refine va_one 5 (by kernel_rfl) rfl rfl (vo_callV rfl rfl rfl ?_)
      refine vc_mono (clone_vc w0 _ x.a x.c x.v rfl (by omega)) ?_
      rintro v L' ⟨a1, c1, hc1, rfl, rfl⟩
      refine ⟨.inr entD, ?_⟩
      refine va_take 6 rfl rfl rfl rfl (by kernel_rfl) (fun _ _ _ _ h => h) entD (vq_build (us := PR.cells ⟨x.key, a1, c1, x.v⟩) rfl rfl (by simp [plOf, Value.cells, hk]) (PR.len hk)) ?_
      refine va_one 7 (by kernel_rfl) rfl rfl ?_
      refine vo_entL (L' := ownB a1 c1 x.v :: S i :: M) (sei _ _ _) ?_
      refine hY i x.key x.v hj hk a1 c1 M _ _ _ _ _ _ _ _ _ _ _ _ _ _ rfl rfl rfl (fun L' hL' => ⟨.inl (by kernel_rfl), ?_⟩)
      refine va_done (by kernel_rfl) ?_
      repeat' (first | (refine go1 ?_; intros) | (refine goCC ?_ ?_ <;> (intro hb; (try simp only [hSQ] at hb); try (exfalso; omega))) | fail)
      exact ⟨_, hL', rfl⟩
end Go.Proofs.YtcpndfffdbogbaaGreatDoor

/-
  Lines: the ready run. Lines: the document's ready run; what is past. Lines: what is past. Lines: with one more transaction, the document's.
-/
import Derived.Test.YtcpndfffdbogbaaGreatDoorGX
import Derived.Test.YtcpndfffdbogbaaGreatDoorGF
set_option linter.unusedVariables false
set_option linter.unusedSimpArgs false
set_option linter.unusedSectionVars false
set_option maxRecDepth 100000
set_option maxHeartbeats 4000000
namespace Go.Proofs.YtcpndfffdbogbaaGreatDoor
open Go Go.RowKit
open Classical

theorem ownTs_snoc (a : Option Addr) (c : Nat) (o : List Tx) (x : Tx) : ownTs a c (o ++ [x]) = own 50 99 a (o.length + 1) c (flat Tx.cells o ++ (x.cells ++ [])) := by
  unfold ownTs
  rw [flat_snoc, List.length_append, List.append_nil]
  rfl
noncomputable def readyQ (l : Ln) (k : Nat) : List Tx × Int := if l.may then (readyT l.xs k, 0) else ([], 8)
theorem qrun_vc (w0 : World) (L : List Asn) (l : Ln) (h : l.own.length = 32) (k : Nat) :
    VC Tryz.prog w0 75 [.agg l.cells.toArray, .int .u64 k] L fun v L' => ∃ g g', v = .func (.func 116) #[] #[.pointer (some ⟨g, 0, none⟩), .pointer (some ⟨g', 0, none⟩)] ∧ L' = blk g' 48 [.int .u64 k] :: blk g 69 l.cells :: L := by
  have hlen := Ln.len h
  refine vc_in rfl rfl ?_
  generalize l.cells = cs at *
  repeat' (first | (refine go1 ?_; intros) | (refine goCC ?_ ?_ <;> (intro hb; (try simp only [hSQ] at hb); try (exfalso; omega))) | fail)
  exact ⟨_, _, rfl, rfl⟩
theorem qready_vc (w0 : World) (L : List Asn) (l : Ln) (h : l.ok) (hcap : l.xs.length ≤ l.c) (k : Nat) (hk : k < 18446744073709551616) [hK : RdA w0 (some ⟨0, 0, none⟩) (wds K64)] [hr : RdC w0 L l.a (txc l.xs)] :
    VC Tryz.prog w0 35 [.agg l.cells.toArray, .int .u64 k] L fun v L' => ∃ a c, v = .tuple #[.slice a (readyQ l k).1.length c, .int .i64 (readyQ l k).2] ∧ L' = ownTs a c (readyQ l k).1 :: L := by
  have f1 := Ln.f1 h.own
  have hcl := Ln.len h.own
  have hlen := h.ts.len
  refine vc_ent ?_
  refine vc_in rfl rfl ?_
  generalize hcs : l.cells = cs at *
  repeat' (first | (refine go1 ?_; intros) | (refine goCC ?_ ?_ <;> (intro hb; (try simp only [hSQ] at hb); try (exfalso; omega))) | fail)
  refine clV ?_
  rw [← hcs]
  refine vc_mono (qcheck_vc w0 _ l h) ?_
  rintro v L' ⟨rfl, rfl⟩
  rw [hcs]
  unfold readyQ
  by_cases hm : l.may = true
  rotate_left
  · rw [if_neg hm, if_neg hm]
    repeat' (first | (refine go1 ?_; intros) | (refine goCC ?_ ?_ <;> (intro hb; (try simp only [hSQ] at hb); try (exfalso; omega))) | fail)
    exact ⟨ownTs none 0 [] :: L, ((se_drop _ _).trans ((se_drop _ _).trans (se_own_nil _ 99 _))).ent w0, none, 0, rfl, rfl⟩
  rw [if_pos hm, if_pos hm]
  have hup := Ln.may_up hm
  repeat' (first | (refine go1 ?_; intros) | (refine goCC ?_ ?_ <;> (intro hb; (try simp only [hSQ] at hb); try (exfalso; omega))) | fail)
  refine clV ?_
  rw [← hcs]
  refine vc_mono (qrun_vc w0 _ l h.own k) ?_
  rintro v L' ⟨g1, g2, rfl, rfl⟩
  rw [hcs]
  repeat' (first | (refine go1 ?_; intros) | (refine goCC ?_ ?_ <;> (intro hb; (try simp only [hSQ] at hb); try (exfalso; omega))) | fail)
  rename_i g0 gb
  refine v_sub (selE_sub [2, 4, 5, 15] _ rfl) ?_
  refine v_range rfl (fun lp D => ?_)
  refine vc_in rfl rfl ?_
  repeat' (first | (refine go1 ?_; intros) | (refine goCC ?_ ?_ <;> (intro hb; (try simp only [hSQ] at hb); try (exfalso; omega))) | fail)
  (refine v_draw0 [] (by kernel_rfl) ?_ <;> (refine tA 0 ?_) <;> (refine tA 1 ?_) <;> (refine tA 2 ?_) <;> (refine tA 4 ?_) <;> (refine tA 8 ?_))
  first | refine va_one 3 (by kernel_rfl) rfl rfl (vo_call rfl rfl ?_) | refine va_one 3 (by kernel_rfl) rfl rfl (vo_callV rfl rfl rfl ?_)
  rw [← hcs]
  refine vc_mono (nonces_vc w0 _ l h.own) ?_
  rintro v L' ⟨rfl, rfl⟩
  rw [hcs]
  refine ⟨.inr entD, ?_⟩
  skip
  first | refine va_one 5 (by kernel_rfl) rfl rfl (vo_call rfl rfl ?_) | refine va_one 5 (by kernel_rfl) rfl rfl (vo_callV rfl rfl rfl ?_)
  refine vc_mono (ahead19_vc w0 _ l.a l.c l.xs rfl h.ts hup k) ?_
  rintro v L' ⟨m, rfl, hm1, hm2, hm3, rfl⟩
  have hp : Part l.xs k m := ⟨hm1, hm2, hm3⟩
  have hrd := hp.ready
  refine ⟨.inr entD, ?_⟩
  ((refine tA 6 ?_) <;> (refine tA 7 ?_) <;> (refine va_done (by kernel_rfl) ?_))
  have hyl : (l.xs.drop m).length = l.xs.length - m := by simp
  have hys : TsOk (l.xs.drop m) := h.ts.sub (fun y hy => List.mem_of_mem_drop hy) (by omega)
  haveI rD : RdC w0 L (subA l.a m l.c 99) (txc (l.xs.drop m)) := rdF_drop h.ts.wide m l.c hcap
  have hrl := ready_len l.xs k
  repeat' (first | (refine go1 ?_; intros) | (refine goCC ?_ ?_ <;> (intro hb; (try simp only [hSQ] at hb); try (exfalso; omega))) | fail)
  refine v_loopF (Nat × Int × Option Addr × Nat × List Tx) [0, 2, 12, 13] rfl (fun x => [(14, .int .i64 x.1)])
    (fun L0 x => match L0 with
      | a0 :: a1 :: _ :: a3 :: _ :: a5 :: L1 => a0 :: a1 :: blk g2 48 [.int .u64 x.2.1] :: a3 :: blk gb 28 [.slice x.2.2.1 x.2.2.2.2.length x.2.2.2.1] :: a5 :: ownTs x.2.2.1 x.2.2.2.1 x.2.2.2.2 :: L1
      | L0 => L0)
    (fun x => x.2.2.2.2.length = x.1 ∧ (k + x.1 < 18446744073709551616 → x.2.1 = ((k + x.1 : Nat) : Int)) ∧ Part l.xs (k + x.1) (m + x.1) ∧ readyT l.xs k = x.2.2.2.2 ++ runT (l.xs.drop (m + x.1)) (k + x.1))
    (fun x => l.xs.length - (m + x.1)) (0, k, none, 0, []) ⟨rfl, fun _ => rfl, hp, by rw [hrd]; rfl⟩ (by (exact sbS)) ((SE.cons _ (SE.cons _ (SE.cons _ (SE.cons _ (SE.cons _ (SE.cons _ (se_own_nil _ 99 _))))))).ent w0) ?_
  rintro ⟨i, z, a, c, o⟩ ⟨hi, hz, hp', he⟩
  dsimp only at hi hz hp' he ⊢
  have hol : o.length ≤ 1000000 := by have := congrArg List.length he; rw [List.length_append] at this; omega
  by_cases hlt : i < l.xs.length - m
  rotate_left
  · rw [runT_stop (fun hm => absurd hm (by omega)), List.append_nil] at he
    rw [he]
    repeat' (first | (refine go1 ?_; intros) | (refine goCC ?_ ?_ <;> (intro hb; (try simp only [hSQ] at hb); try (exfalso; omega))) | fail)
    exact ⟨ownTs a c o :: L, sei _ _ _, a, c, rfl, rfl⟩
  have hj : m + i < l.xs.length := by omega
  have hd : (l.xs.drop m)[i]'(by omega) = l.xs[m + i] := by rw [List.getElem_drop]
  have el := hys.el i (by omega)
  rw [hd] at el
  have xok := h.ts.at (m + i) hj
  have hxl := Tx.len xok
  have hx2 := Tx.f2 xok
  have hpos := hys.pos i (by omega)
  have hn0 := hp'.hi (m + i) hj (Nat.le_refl _)
  have hk64 : k + i < 18446744073709551616 := by have := xok.nonce; omega
  obtain rfl := hz hk64
  by_cases hn : (l.xs[m + i]).nonce = k + i
  · have hpn := hp'.next hup hj hn
    rw [runT_cons hj hn] at he
    rw [hn] at hx2
    generalize l.xs[m + i] = x at *
    repeat' (first | (refine goE ?_; intros) | (refine goCC ?_ ?_ <;> (intro hb; (try simp only [hSQ] at hb); try (exfalso; omega))) | fail)
    rename_i q1 q2 q3 a' c' _ _
    refine ⟨rfl, (i + 1, IntKind.u64.wrap (((k + i : Nat) : Int) + 1), a', c', o ++ [x]), ⟨by simp [hi], fun h => ?_, ?_, ?_⟩, by dsimp only; omega, by (exact sbS), ?_⟩
    · dsimp only at h ⊢
      rw [wu_add (by omega)]
      omega
    · exact hpn
    · dsimp only
      rw [he, List.append_assoc]; rfl
    · dsimp only
      rw [ownTs_snoc, List.length_append]
      exact sei _ _ _
  · rw [runT_stop (fun _ => hn), List.append_nil] at he
    have hn' : ((l.xs[m + i]).nonce : Int) ≠ ((k + i : Nat) : Int) := by omega
    generalize hN : (l.xs[m + i]).nonce = N at *
    generalize l.xs[m + i] = x at *
    rw [he]
    repeat' (first | (refine go1 ?_; intros) | (refine goCC ?_ ?_ <;> (intro hb; (try simp only [hSQ] at hb); try (exfalso; omega))) | fail)
    exact ⟨ownTs a c o :: L, sei _ _ _, a, c, rfl, rfl⟩
end Go.Proofs.YtcpndfffdbogbaaGreatDoor
namespace Go.Proofs.YtcpndfffdbogbaaGreatDoor
open Go Go.RowKit
open Classical

theorem rrun19_vc (w0 : World) (L : List Asn) (l : Ln) (h : l.ok) (hup : UpT l.xs) (k : Nat) (hk : k < 18446744073709551616) [hr : RdC w0 L l.a (txc l.xs)] :
    VC Tryz.prog w0 85 [.agg l.cells.toArray, .int .u64 k] L fun v L' => ∃ a c, v = .slice a (readyT l.xs k).length c ∧ L' = ownTs a c (readyT l.xs k) :: L := by
  have f1 := Ln.f1 h.own
  have hcl := Ln.len h.own
  have hlen := h.ts.len
  obtain ⟨m, hp⟩ := part_exists hup k
  have hrd := hp.ready
  have hrl := ready_len l.xs k
  refine vc_ent ?_
  refine vc_in rfl rfl ?_
  generalize hcs : l.cells = cs at *
  repeat' (first | (refine go1 ?_; intros) | (refine goCC ?_ ?_ <;> (intro hb; (try simp only [hSQ] at hb); try (exfalso; omega))) | fail)
  rename_i g
  refine v_loopF (Nat × Option Addr × Nat × List Tx) [2] rfl (fun x => [(1, .int .u64 ((k + x.1 : Nat) : Int)), (5, .slice x.2.1 x.2.2.2.length x.2.2.1)]) (fun L0 x => ownTs x.2.1 x.2.2.1 x.2.2.2 :: L0) (fun x => x.2.2.2.length = x.1 ∧ k + x.1 < 18446744073709551616 ∧ Part l.xs (k + x.1) (m + x.1) ∧ readyT l.xs k = x.2.2.2 ++ runT (l.xs.drop (m + x.1)) (k + x.1)) (fun x => l.xs.length - (m + x.1)) (0, none, 0, []) ⟨rfl, by omega, hp, by rw [hrd]; rfl⟩ (by (exact sbS)) ((se_own_nil _ 99 _).ent w0) ?_
  rintro ⟨i, a, c, o⟩ ⟨hi, hk', hp', he⟩
  dsimp only at hi hk' hp' he ⊢
  have hol : o.length ≤ 1000000 := by have := congrArg List.length he; rw [List.length_append] at this; omega
  repeat' (first | (refine go1 ?_; intros) | (refine goCC ?_ ?_ <;> (intro hb; (try simp only [hSQ] at hb); try (exfalso; omega))) | fail)
  refine clV ?_
  rw [← hcs]
  refine vc_mono (rfind19_vc w0 _ l h (k + i) hk') ?_
  rintro v L' ⟨z, rfl, hz, rfl⟩
  rw [hcs]
  rcases hz.at hup with ⟨rfl, hno, _⟩ | ⟨j, hj, rfl, hn, _⟩
  · rw [runT_stop (fun hm => hno _ hm), List.append_nil] at he
    rw [he]
    repeat' (first | (refine go1 ?_; intros) | (refine goCC ?_ ?_ <;> (intro hb; (try simp only [hSQ] at hb); try (exfalso; omega))) | fail)
    exact ⟨_, ((SE.cons _ (se_drop _ _))).ent w0, a, c, rfl, rfl⟩
  · have hjm : j = m + i := by
      rcases Nat.lt_trichotomy j (m + i) with e | e | e
      · have := hp'.lo j hj e; omega
      · exact e
      · have h1 := hup (m + i) j hj e
        have h2 := hp'.hi (m + i) (by omega) (Nat.le_refl _)
        omega
    subst hjm
    rw [runT_cons hj hn] at he
    have el := h.ts.el (m + i) hj
    have xok := h.ts.at (m + i) hj
    have hxl := Tx.len xok
    have hpos := h.ts.pos (m + i) hj
    have hpn := hp'.next hup hj hn
    have hlast : k + i = 18446744073709551615 → runT (l.xs.drop (m + i + 1)) (k + i + 1) = [] := fun e => runT_stop (fun hm => by have := (h.ts.at _ hm).nonce; omega)
    generalize l.xs[m + i] = x at *
    by_cases hk1 : k + i = 18446744073709551615
    · rw [hlast hk1] at he
      repeat' (first | (refine go1 ?_; intros) | (refine goCC ?_ ?_ <;> (intro hb; (try simp only [hSQ] at hb); try (exfalso; omega))) | fail)
      rename_i q1 a' c' _ _
      refine ⟨ownTs a' c' (readyT l.xs k) :: L, ?_, a', c', by rw [he]; simp, rfl⟩
      rw [he, ownTs_snoc]
      exact sei _ _ _
    · repeat' (first | (refine go1 ?_; intros) | (refine goCC ?_ ?_ <;> (intro hb; (try simp only [hSQ] at hb); try (exfalso; omega))) | fail)
      rename_i q1 a' c' _ _
      refine ⟨rfl, (i + 1, a', c', o ++ [x]), ⟨by simp [hi], by dsimp only; omega, hpn, by dsimp only; rw [he, List.append_assoc]; rfl⟩, by dsimp only; omega, ?_, ?_⟩
      · dsimp only
        rw [List.length_append]
        (exact sbS)
      · dsimp only
        rw [ownTs_snoc]
        exact sei _ _ _
end Go.Proofs.YtcpndfffdbogbaaGreatDoor
namespace Go.Proofs.YtcpndfffdbogbaaGreatDoor
open Go Go.RowKit
open Classical

theorem loT_take {xs : List Tx} {k i : Nat} (hi : i < xs.length) : loT (xs.take (i + 1)) k = if (xs[i]).nonce < k then loT (xs.take i) k ++ [xs[i]] else loT (xs.take i) k := by
  rw [List.take_succ_eq_append_getElem hi]
  unfold loT
  rw [List.filter_append]
  by_cases e : (xs[i]).nonce < k <;> simp [e]
theorem hiT_take {xs : List Tx} {k i : Nat} (hi : i < xs.length) : hiT (xs.take (i + 1)) k = if (xs[i]).nonce < k then hiT (xs.take i) k else hiT (xs.take i) k ++ [xs[i]] := by
  rw [List.take_succ_eq_append_getElem hi]
  unfold hiT
  rw [List.filter_append]
  by_cases e : (xs[i]).nonce < k <;> simp [e]
/-- What is answered: a line, a list, an error. -/
def RLn (L : List Asn) (q : List UInt8 × List Tx × List Tx × Int) (v : Value) (L' : List Asn) : Prop := ∃ a c b d, v = .tuple #[.agg (Ln.mk q.1 a c q.2.1).cells.toArray, .slice b q.2.2.1.length d, .int .i64 q.2.2.2] ∧ L' = ownTs b d q.2.2.1 :: ownTs a c q.2.1 :: L
theorem RLn.bad (w0 : World) (L : List Asn) (e : Int) : ∃ L', Ent w0 L L' ∧ RLn L (z32, [], [], e) (.tuple #[.agg (Ln.mk z32 none 0 []).cells.toArray, .slice none 0 0, .int .i64 e]) L' :=
  ⟨_, ((se_own_nil _ 99 _).trans (se_own_nil _ 99 _)).ent w0, none, 0, none, 0, rfl, rfl⟩
noncomputable def pastQ (l : Ln) (k : Nat) : List UInt8 × List Tx × List Tx × Int := if l.may then (l.own, hiT l.xs k, loT l.xs k, 0) else (z32, [], [], 8)
theorem rparted_vc (w0 : World) (L : List Asn) (l : Ln) (h : l.ok) (k : Nat) (hk : k < 18446744073709551616) [hr : RdC w0 L l.a (txc l.xs)] :
    VC Tryz.prog w0 84 [.agg l.cells.toArray, .int .u64 k] L fun v L' => ∃ a c b d, v = .tuple #[.slice a (loT l.xs k).length c, .slice b (hiT l.xs k).length d] ∧ L' = ownTs a c (loT l.xs k) :: ownTs b d (hiT l.xs k) :: L := by
  have f1 := Ln.f1 h.own
  have hcl := Ln.len h.own
  have hlen := h.ts.len
  refine vc_ent ?_
  refine vc_in rfl rfl ?_
  generalize hcs : l.cells = cs at *
  repeat' (first | (refine go1 ?_; intros) | (refine goCC ?_ ?_ <;> (intro hb; (try simp only [hSQ] at hb); try (exfalso; omega))) | fail)
  rename_i g
  refine v_loopF (Nat × (Option Addr × Nat) × (Option Addr × Nat)) [1, 2] rfl (fun x => [(8, .int .i64 x.1), (6, .slice x.2.1.1 (loT (l.xs.take x.1) k).length x.2.1.2), (7, .slice x.2.2.1 (hiT (l.xs.take x.1) k).length x.2.2.2)]) (fun L0 x => ownTs x.2.1.1 x.2.1.2 (loT (l.xs.take x.1) k) :: ownTs x.2.2.1 x.2.2.2 (hiT (l.xs.take x.1) k) :: L0) (fun x => x.1 ≤ l.xs.length) (fun x => l.xs.length - x.1) (0, (none, 0), (none, 0)) (Nat.zero_le _) (by (exact sbS)) (((se_own_nil _ 99 _).trans (se_own_nil _ 99 _)).ent w0) ?_
  rintro ⟨i, ⟨a, c⟩, ⟨b, d⟩⟩ hi
  dsimp only at hi ⊢
  by_cases hlt : i < l.xs.length
  rotate_left
  · obtain rfl : i = l.xs.length := by omega
    rw [List.take_of_length_le (Nat.le_refl _)]
    repeat' (first | (refine go1 ?_; intros) | (refine goCC ?_ ?_ <;> (intro hb; (try simp only [hSQ] at hb); try (exfalso; omega))) | fail)
    exact ⟨_, (SE.cons _ (SE.cons _ (se_drop _ _))).ent w0, a, c, b, d, rfl, rfl⟩
  have hlo := loT_take (k := k) hlt
  have hhi := hiT_take (k := k) hlt
  have el := h.ts.el i hlt
  have xok := h.ts.at i hlt
  have hxl := Tx.len xok
  have hpos := h.ts.pos i hlt
  have e2 := h.ts.e2 i hlt
  have hl1 : (loT (l.xs.take i) k).length ≤ 1000000 := Nat.le_trans (List.length_filter_le _ _) (by rw [List.length_take]; omega)
  have hl2 : (hiT (l.xs.take i) k).length ≤ 1000000 := Nat.le_trans (List.length_filter_le _ _) (by rw [List.length_take]; omega)
  by_cases hn : (l.xs[i]).nonce < k
  · rw [if_pos hn] at hlo hhi
    have hn' : ((l.xs[i]).nonce : Int) < (k : Int) := by omega
    generalize (l.xs[i]).nonce = N at *
    generalize l.xs[i] = x at *
    generalize loT (l.xs.take i) k = p at *
    generalize hiT (l.xs.take i) k = q at *
    repeat' (first | (refine go1 ?_; intros) | (refine goCC ?_ ?_ <;> (intro hb; (try simp only [hSQ] at hb); try (exfalso; omega))) | fail)
    rename_i q1 a' c' _ _
    refine ⟨rfl, (i + 1, (a', c'), (b, d)), by dsimp only; omega, by dsimp only; omega, ?_, ?_⟩
    · dsimp only
      rw [hlo, hhi, List.length_append]
      (exact sbS)
    · dsimp only
      rw [hlo, hhi, ownTs_snoc]
      exact sei _ _ _
  · rw [if_neg hn] at hlo hhi
    have hn' : ¬ ((l.xs[i]).nonce : Int) < (k : Int) := by omega
    generalize (l.xs[i]).nonce = N at *
    generalize l.xs[i] = x at *
    generalize loT (l.xs.take i) k = p at *
    generalize hiT (l.xs.take i) k = q at *
    repeat' (first | (refine go1 ?_; intros) | (refine goCC ?_ ?_ <;> (intro hb; (try simp only [hSQ] at hb); try (exfalso; omega))) | fail)
    rename_i q1 a' c' _ _
    refine ⟨rfl, (i + 1, (a, c), (a', c')), by dsimp only; omega, by dsimp only; omega, ?_, ?_⟩
    · dsimp only
      rw [hlo, hhi, List.length_append]
      (exact sbS)
    · dsimp only
      rw [hlo, hhi, ownTs_snoc]
      exact sei _ _ _
theorem qpast_vc (w0 : World) (L : List Asn) (l : Ln) (h : l.ok) (hcap : l.xs.length ≤ l.c) (k : Nat) (hk : k < 18446744073709551616) [hK : RdA w0 (some ⟨0, 0, none⟩) (wds K64)] [hr : RdC w0 L l.a (txc l.xs)] :
    VC Tryz.prog w0 34 [.agg l.cells.toArray, .int .u64 k] L (RLn L (pastQ l k)) := by
  have f0 := Ln.f0 h.own
  have f1 := Ln.f1 h.own
  have ho := h.own
  have hcl := Ln.len h.own
  refine vc_ent ?_
  refine vc_in rfl rfl ?_
  generalize hcs : l.cells = cs at *
  repeat' (first | (refine go1 ?_; intros) | (refine goCC ?_ ?_ <;> (intro hb; (try simp only [hSQ] at hb); try (exfalso; omega))) | fail)
  refine clV ?_
  rw [← hcs]
  refine vc_mono (qcheck_vc w0 _ l h) ?_
  rintro v L' ⟨rfl, rfl⟩
  rw [hcs]
  unfold pastQ
  by_cases hm : l.may = true
  rotate_left
  · rw [if_neg hm, if_neg hm]
    repeat' (first | (refine go1 ?_; intros) | (refine goCC ?_ ?_ <;> (intro hb; (try simp only [hSQ] at hb); try (exfalso; omega))) | fail)
    exact ⟨_, ((se_drop _ _).trans ((se_drop _ _).trans ((se_own_nil _ 99 _).trans (se_own_nil _ 99 _)))).ent w0, none, 0, none, 0, rfl, rfl⟩
  rw [if_pos hm, if_pos hm]
  have hup := Ln.may_up hm
  repeat' (first | (refine go1 ?_; intros) | (refine goCC ?_ ?_ <;> (intro hb; (try simp only [hSQ] at hb); try (exfalso; omega))) | fail)
  refine clV ?_
  rw [← hcs]
  refine vc_mono (nonces_vc w0 _ l h.own) ?_
  rintro v L' ⟨rfl, rfl⟩
  rw [hcs]
  repeat' (first | (refine go1 ?_; intros) | (refine goCC ?_ ?_ <;> (intro hb; (try simp only [hSQ] at hb); try (exfalso; omega))) | fail)
  refine clV ?_
  refine vc_mono (ahead19_vc w0 _ l.a l.c l.xs rfl h.ts hup k) ?_
  rintro v L' ⟨m, rfl, hm1, hm2, hm3, rfl⟩
  have hp : Part l.xs k m := ⟨hm1, hm2, hm3⟩
  have hyl : (l.xs.drop m).length = l.xs.length - m := by simp
  have hys : TsOk (l.xs.drop m) := h.ts.sub (fun y hy => List.mem_of_mem_drop hy) (by have := h.ts.len; omega)
  have hzs : TsOk (l.xs.take m) := h.ts.sub (fun y hy => List.mem_of_mem_take hy) (by have := h.ts.len; rw [List.length_take]; omega)
  have hzl : (l.xs.take m).length = m := by rw [List.length_take]; omega
  haveI rD : RdC w0 L (subA l.a m l.c 99) (txc (l.xs.drop m)) := rdF_drop h.ts.wide m l.c hcap
  haveI rT : RdC w0 L l.a (txc (l.xs.take m)) := rdF_take h.ts.wide m
  repeat' (first | (refine go1 ?_; intros) | (refine goCC ?_ ?_ <;> (intro hb; (try simp only [hSQ] at hb); try (exfalso; omega))) | fail)
  refine v_draw0 [13] (by kernel_rfl) ?_
  refine tA 0 ?_
  refine tA 1 ?_
  refine tA 2 ?_
  refine tA 3 ?_
  refine tA 4 ?_
  refine tA 5 ?_
  refine tA 8 ?_
  refine tA 9 ?_
  refine tA 10 ?_
  refine tA 11 ?_
  rw [subA_0, Nat.sub_zero, Nat.sub_zero]
  refine va_one 6 (by kernel_rfl) rfl rfl ?_
  first | refine vo_call rfl rfl ?_ | refine vo_callV rfl rfl rfl ?_
  refine vc_mono (cloneTs_vc w0 _ _ _ (l.xs.drop m) hyl.symm hys) ?_
  rintro v L' ⟨b, d, rfl, rfl⟩
  have hl2 : (bvs l.own ++ [.slice b (l.xs.drop m).length d] : List Value).length = 33 := by simp [ho]
  refine ⟨.inr (sei _ _ _), ?_⟩
  refine va_take 7 rfl rfl rfl rfl (by kernel_rfl) (fun _ _ _ _ h => h) entD (vq_build rfl rfl (by simp [plOf, ho, Value.cells]) (by simp [ho, Value.cells])) ?_
  refine va_one 12 (by kernel_rfl) rfl rfl ?_
  first | refine vo_call rfl rfl ?_ | refine vo_callV rfl rfl rfl ?_
  refine vc_mono (cloneTs_vc w0 _ _ _ (l.xs.take m) hzl.symm hzs) ?_
  rintro v L' ⟨a, c, rfl, rfl⟩
  refine ⟨.inr (sei _ _ _), ?_⟩
  refine va_one 13 (by kernel_rfl) rfl rfl ?_
  refine vo_stW rfl rfl rfl (by first | exact hl2 | (simp [ho]; done)) (by rfl) ?_
  refine ⟨.inl (by kernel_rfl), ?_⟩
  refine tP 14 ?_
  refine tP 15 ?_
  refine va_done (by kernel_rfl) ?_
  skip
  rw [← hp.take, ← hp.drop]
  repeat' (first | (refine go1 ?_; intros) | (refine goCC ?_ ?_ <;> (intro hb; (try simp only [hSQ] at hb); try (exfalso; omega))) | fail)
  exact ⟨ownTs a c (l.xs.take m) :: ownTs b d (l.xs.drop m) :: L, sei _ _ _, b, d, a, c, rfl, rfl⟩
end Go.Proofs.YtcpndfffdbogbaaGreatDoor
namespace Go.Proofs.YtcpndfffdbogbaaGreatDoor
open Go Go.RowKit
open Classical

theorem gtT_take {xs : List Tx} {k i : Nat} (hi : i < xs.length) : gtT (xs.take (i + 1)) k = if k < (xs[i]).nonce then gtT (xs.take i) k ++ [xs[i]] else gtT (xs.take i) k := by
  rw [List.take_succ_eq_append_getElem hi]
  unfold gtT
  rw [List.filter_append]
  by_cases e : k < (xs[i]).nonce <;> simp [e]
/-- What With has made of the first i. -/
structure WInv (xs : List Tx) (x : Tx) (i : Nat) (done : Bool) (o : List Tx) : Prop where
  le : i ≤ xs.length
  no : done = false → o = loT (xs.take i) x.nonce ∧ gtT (xs.take i) x.nonce = []
  yes : done = true → o = withT (xs.take i) x ∧ ∃ j, ∃ hj : j < xs.length, j < i ∧ x.nonce ≤ (xs[j]).nonce
theorem WInv.ln {xs : List Tx} {x : Tx} {i : Nat} {done : Bool} {o : List Tx} (h : WInv xs x i done o) : o.length ≤ xs.length + 1 := by
  cases done with
  | false => rw [(h.no rfl).1]; exact Nat.le_trans (List.length_filter_le _ _) (by rw [List.length_take]; omega)
  | true => rw [(h.yes rfl).1]; exact Nat.le_trans (withT_len _ _) (by rw [List.length_take]; omega)
theorem WInv.below {xs : List Tx} {x : Tx} {i : Nat} {o : List Tx} (h : WInv xs x i false o) (hi : i < xs.length) (hn : (xs[i]).nonce < x.nonce) : WInv xs x (i + 1) false (o ++ [xs[i]]) := by
  obtain ⟨h1, h2⟩ := h.no rfl
  refine ⟨by omega, fun _ => ?_, fun h => (by cases h)⟩
  rw [loT_take hi, gtT_take hi, if_pos hn, if_neg (by omega), h1]
  exact ⟨rfl, h2⟩
theorem WInv.eq {xs : List Tx} {x : Tx} {i : Nat} {o : List Tx} (h : WInv xs x i false o) (hi : i < xs.length) (hn : (xs[i]).nonce = x.nonce) : WInv xs x (i + 1) true (o ++ [x]) := by
  obtain ⟨h1, h2⟩ := h.no rfl
  refine ⟨by omega, fun h => (by cases h), fun _ => ⟨?_, i, hi, by omega, by omega⟩⟩
  unfold withT
  rw [loT_take hi, gtT_take hi, if_neg (by omega), if_neg (by omega), h1, h2]
theorem WInv.ab {xs : List Tx} {x : Tx} {i : Nat} {o : List Tx} (h : WInv xs x i false o) (hi : i < xs.length) (hn : x.nonce < (xs[i]).nonce) : WInv xs x (i + 1) true (o ++ [x] ++ [xs[i]]) := by
  obtain ⟨h1, h2⟩ := h.no rfl
  refine ⟨by omega, fun h => (by cases h), fun _ => ⟨?_, i, hi, by omega, by omega⟩⟩
  unfold withT
  rw [loT_take hi, gtT_take hi, if_neg (by omega), if_pos hn, h1, h2]
  simp
theorem WInv.past {xs : List Tx} {x : Tx} {i : Nat} {o : List Tx} (h : WInv xs x i true o) (hu : UpT xs) (hi : i < xs.length) : x.nonce < (xs[i]).nonce ∧ WInv xs x (i + 1) true (o ++ [xs[i]]) := by
  obtain ⟨h1, j, hj, hji, hn⟩ := h.yes rfl
  have := hu j i hi hji
  refine ⟨by omega, by omega, fun h => (by cases h), fun _ => ⟨?_, j, hj, by omega, hn⟩⟩
  unfold withT at *
  rw [loT_take hi, gtT_take hi, if_neg (by omega), if_pos (by omega), h1]
  simp
theorem WInv.end1 {xs : List Tx} {x : Tx} {o : List Tx} (h : WInv xs x xs.length true o) : o = withT xs x := by
  have := (h.yes rfl).1
  rwa [List.take_of_length_le (Nat.le_refl _)] at this
theorem WInv.end0 {xs : List Tx} {x : Tx} {o : List Tx} (h : WInv xs x xs.length false o) : o ++ [x] = withT xs x := by
  obtain ⟨h1, h2⟩ := h.no rfl
  rw [List.take_of_length_le (Nat.le_refl _)] at h1 h2
  unfold withT
  rw [h1, h2]
theorem rwithL_vc (w0 : World) (L : List Asn) (l : Ln) (h : l.ok) (hup : UpT l.xs) (h5 : l.xs.length ≤ 999999) (x : Tx) (hx : x.ok) [hr : RdC w0 L l.a (txc l.xs)] :
    VC Tryz.prog w0 96 [.agg l.cells.toArray, .agg x.cells.toArray] L fun v L' => ∃ a c, v = .agg (Ln.mk l.own a c (withT l.xs x)).cells.toArray ∧ L' = ownTs a c (withT l.xs x) :: L := by
  have f0 := Ln.f0 h.own
  have f1 := Ln.f1 h.own
  have ho := h.own
  have hcl := Ln.len h.own
  have hlen := h.ts.len
  have hxl := Tx.len hx
  have hx2 := Tx.f2 hx
  refine vc_ent ?_
  refine vc_in rfl rfl ?_
  generalize hcs : l.cells = cs at *
  have hz : (bvs l.own ++ [.slice none 0 0] : List Value).length = 33 := by simp [ho]
  have gen : ∀ (a : Option Addr) (n c : Nat), (bvs l.own ++ [.slice a n c] : List Value).length = 33 ∧ (bvs l.own ++ [.slice a n c] : List Value)[0 + 32]? = some (.slice a n c) ∧ ∀ (a' : Option Addr) (n' c' : Nat), splice (bvs l.own ++ [.slice a n c] : List Value) (0 + 32) [.slice a' n' c'] = bvs l.own ++ [.slice a' n' c'] := fun a n c => ⟨by simp [ho], by simp [ho, List.getElem?_append], fun a' n' c' => by
    have := splice_mid (bvs l.own) [.slice a n c] [] [.slice a' n' c'] 32 (by simp [ho]) rfl
    simpa using this⟩
  repeat' (first | (refine goB ?_; intros) | (refine goCC ?_ ?_ <;> (intro hb; (try simp only [hSQ] at hb); try (exfalso; omega))) | fail)
  refine vl_q rfl rfl rfl rfl (vq_buildP (cs := bvs l.own ++ [.slice none 0 0]) rfl (by simp [okS, Value.cells, ho]) (by simp [fillS, splice, Value.cells, ho, List.drop_append, List.drop_of_length_le])) ?_
  repeat' (first | (refine go1 ?_; intros) | (refine goCC ?_ ?_ <;> (intro hb; (try simp only [hSQ] at hb); try (exfalso; omega))) | fail)
  rename_i g1 g2 g3 g4
  refine v_loopF (Nat × Bool × Option Addr × Nat × List Tx) [2, 3, 4, 5] rfl (fun y => [(7, .int .i64 y.1), (6, .bool y.2.1)]) (fun L0 y => match L0 with | _ :: L1 => ownTs y.2.2.1 y.2.2.2.1 y.2.2.2.2 :: blk g4 69 (bvs l.own ++ [.slice y.2.2.1 y.2.2.2.2.length y.2.2.2.1]) :: L1 | L0 => L0) (fun y => WInv l.xs x y.1 y.2.1 y.2.2.2.2) (fun y => l.xs.length - y.1) (0, false, none, 0, []) ⟨Nat.zero_le _, fun _ => ⟨by simp [loT], by simp [gtT]⟩, fun h => (by cases h)⟩ (by (exact sbS)) ((se_own_nil _ 99 _).ent w0) ?_
  rintro ⟨i, done, a, c, o⟩ hw
  dsimp only at hw ⊢
  have hwl := hw.ln
  obtain ⟨gf1, gf2, gf3⟩ := gen a o.length c
  by_cases hlt : i < l.xs.length
  rotate_left
  · obtain rfl : i = l.xs.length := by have := hw.le; omega
    cases done
    · have he := hw.end0
      repeat' (first | (refine go1 ?_; intros) | (refine goCC ?_ ?_ <;> (intro hb; (try simp only [hSQ] at hb); try (exfalso; omega))) | fail)
      rename_i q1 a' c' _ _
      obtain ⟨gn1, gn2, gn3⟩ := gen a' (o.length + 1) c'
      rw [gf3]
      repeat' (first | (refine go1 ?_; intros) | (refine goCC ?_ ?_ <;> (intro hb; (try simp only [hSQ] at hb); try (exfalso; omega))) | fail)
      refine ⟨ownTs a' c' (withT l.xs x) :: L, ?_, a', c', by rw [← he]; simp [Ln.cells], rfl⟩
      rw [← he, ownTs_snoc]
      exact sei _ _ _
    · have he := hw.end1
      repeat' (first | (refine go1 ?_; intros) | (refine goCC ?_ ?_ <;> (intro hb; (try simp only [hSQ] at hb); try (exfalso; omega))) | fail)
      rw [he]
      exact ⟨ownTs a c (withT l.xs x) :: L, sei _ _ _, a, c, rfl, rfl⟩
  have el := h.ts.el i hlt
  have xok := h.ts.at i hlt
  have hyl := Tx.len xok
  have hpos := h.ts.pos i hlt
  have e2 := h.ts.e2 i hlt
  cases done
  · by_cases hn : (l.xs[i]).nonce < x.nonce
    · have hw2 := hw.below hlt hn
      have hn1 : ¬ (x.nonce : Int) ≤ ((l.xs[i]).nonce : Int) := by omega
      have hn2 : (x.nonce : Int) ≠ ((l.xs[i]).nonce : Int) := by omega
      generalize (l.xs[i]).nonce = N at *
      generalize l.xs[i] = y at *
      repeat' (first | (refine go1 ?_; intros) | (refine goCC ?_ ?_ <;> (intro hb; (try simp only [hSQ] at hb); try (exfalso; omega))) | fail)
      (refine v_draw0 [] (by kernel_rfl) ?_ <;> (refine tA 0 ?_) <;> (refine tA 1 ?_) <;> (refine tA 2 ?_) <;> (first | refine tG 3 ?_ | refine pG 3 ?_ | (refine va_caseG 3 rfl rfl rfl rfl rfl ?_ ?_ <;> (intro hb; (try simp only [hSQ] at hb); try (exfalso; omega)) <;> first | refine tG 3 ?_ | refine pG 3 ?_)) <;> (first | refine tG 4 ?_ | refine pG 4 ?_ | (refine va_caseG 4 rfl rfl rfl rfl rfl ?_ ?_ <;> (intro hb; (try simp only [hSQ] at hb); try (exfalso; omega)) <;> first | refine tG 4 ?_ | refine pG 4 ?_)) <;> (first | refine tG 5 ?_ | refine pG 5 ?_ | (refine va_caseG 5 rfl rfl rfl rfl rfl ?_ ?_ <;> (intro hb; (try simp only [hSQ] at hb); try (exfalso; omega)) <;> first | refine tG 5 ?_ | refine pG 5 ?_)) <;> (first | refine tG 6 ?_ | refine pG 6 ?_ | (refine va_caseG 6 rfl rfl rfl rfl rfl ?_ ?_ <;> (intro hb; (try simp only [hSQ] at hb); try (exfalso; omega)) <;> first | refine tG 6 ?_ | refine pG 6 ?_)) <;> (first | refine tG 7 ?_ | refine pG 7 ?_ | (refine va_caseG 7 rfl rfl rfl rfl rfl ?_ ?_ <;> (intro hb; (try simp only [hSQ] at hb); try (exfalso; omega)) <;> first | refine tG 7 ?_ | refine pG 7 ?_)) <;> (first | refine tG 8 ?_ | refine pG 8 ?_ | (refine va_caseG 8 rfl rfl rfl rfl rfl ?_ ?_ <;> (intro hb; (try simp only [hSQ] at hb); try (exfalso; omega)) <;> first | refine tG 8 ?_ | refine pG 8 ?_)) <;> (first | refine tG 9 ?_ | refine pG 9 ?_ | (refine va_caseG 9 rfl rfl rfl rfl rfl ?_ ?_ <;> (intro hb; (try simp only [hSQ] at hb); try (exfalso; omega)) <;> first | refine tG 9 ?_ | refine pG 9 ?_)) <;> (first | refine tG 10 ?_ | refine pG 10 ?_ | (refine va_caseG 10 rfl rfl rfl rfl rfl ?_ ?_ <;> (intro hb; (try simp only [hSQ] at hb); try (exfalso; omega)) <;> first | refine tG 10 ?_ | refine pG 10 ?_)) <;> (first | refine tG 11 ?_ | refine pG 11 ?_ | (refine va_caseG 11 rfl rfl rfl rfl rfl ?_ ?_ <;> (intro hb; (try simp only [hSQ] at hb); try (exfalso; omega)) <;> first | refine tG 11 ?_ | refine pG 11 ?_)) <;> (refine tA 12 ?_) <;> (refine va_done (by kernel_rfl) ?_))
      repeat' (first | (refine go1 ?_; intros) | (refine goCC ?_ ?_ <;> (intro hb; (try simp only [hSQ] at hb); try (exfalso; omega))) | fail)
      (refine v_draw0 [] (by kernel_rfl) ?_ <;> (refine tA 0 ?_) <;> (refine tA 1 ?_) <;> (refine tA 2 ?_) <;> (refine tA 3 ?_) <;> (refine tA 4 ?_) <;> (refine tA 5 ?_) <;> (refine tA 6 ?_) <;> (refine tA 7 ?_) <;> (refine tA 8 ?_) <;> (refine va_done (by kernel_rfl) ?_))
      repeat' (first | (refine go1 ?_; intros) | (refine goCC ?_ ?_ <;> (intro hb; (try simp only [hSQ] at hb); try (exfalso; omega))) | fail)
      (refine v_draw0 [8, 10] (by kernel_rfl) ?_ <;> (refine tA 0 ?_) <;> (refine tA 1 ?_) <;> (refine tA 2 ?_) <;> (refine tA 3 ?_) <;> (refine tA 4 ?_) <;> (refine tA 5 ?_) <;> (refine tA 6 ?_) <;> (refine va_one 7 (by kernel_rfl) rfl rfl ?_; (refine goV ?_; intros); refine ⟨.inr entD, ?_⟩) <;> (refine va_one 8 (by kernel_rfl) rfl rfl ?_; (refine goV ?_; intros); refine ⟨.inl (by kernel_rfl), ?_⟩) <;> (refine tP 9 ?_) <;> (refine va_one 10 (by kernel_rfl) rfl rfl ?_; (refine goV ?_; intros); refine ⟨.inl (by kernel_rfl), ?_⟩) <;> (refine va_done (by kernel_rfl) ?_))
      repeat' (first | (refine go1 ?_; intros) | (refine goCC ?_ ?_ <;> (intro hb; (try simp only [hSQ] at hb); try (exfalso; omega))) | fail)
      rename_i q2 a2 c2 _ _
      refine ⟨rfl, (i + 1, false, a2, c2, o ++ [y]), hw2, by dsimp only; omega, by (exact sbS), ?_⟩
      dsimp only
      rw [gf3, show (o ++ [y]).length = o.length + 1 by simp]
      rw [ownTs_snoc]
      exact sei _ _ _
    · by_cases hn1 : (l.xs[i]).nonce = x.nonce
      · have hw2 := hw.eq hlt hn1
        rw [hn1] at e2
        generalize x.nonce = N at *
        generalize l.xs[i] = y at *
        repeat' (first | (refine go1 ?_; intros) | (refine goCC ?_ ?_ <;> (intro hb; (try simp only [hSQ] at hb); try (exfalso; omega))) | fail)
        (refine v_draw0 [] (by kernel_rfl) ?_ <;> (refine tA 0 ?_) <;> (refine tA 1 ?_) <;> (refine tA 2 ?_) <;> (first | refine tG 3 ?_ | refine pG 3 ?_ | (refine va_caseG 3 rfl rfl rfl rfl rfl ?_ ?_ <;> (intro hb; (try simp only [hSQ] at hb); try (exfalso; omega)) <;> first | refine tG 3 ?_ | refine pG 3 ?_)) <;> (first | refine tG 4 ?_ | refine pG 4 ?_ | (refine va_caseG 4 rfl rfl rfl rfl rfl ?_ ?_ <;> (intro hb; (try simp only [hSQ] at hb); try (exfalso; omega)) <;> first | refine tG 4 ?_ | refine pG 4 ?_)) <;> (first | refine tG 5 ?_ | refine pG 5 ?_ | (refine va_caseG 5 rfl rfl rfl rfl rfl ?_ ?_ <;> (intro hb; (try simp only [hSQ] at hb); try (exfalso; omega)) <;> first | refine tG 5 ?_ | refine pG 5 ?_)) <;> (first | refine tG 6 ?_ | refine pG 6 ?_ | (refine va_caseG 6 rfl rfl rfl rfl rfl ?_ ?_ <;> (intro hb; (try simp only [hSQ] at hb); try (exfalso; omega)) <;> first | refine tG 6 ?_ | refine pG 6 ?_)) <;> (first | refine tG 7 ?_ | refine pG 7 ?_ | (refine va_caseG 7 rfl rfl rfl rfl rfl ?_ ?_ <;> (intro hb; (try simp only [hSQ] at hb); try (exfalso; omega)) <;> first | refine tG 7 ?_ | refine pG 7 ?_)) <;> (first | refine tG 8 ?_ | refine pG 8 ?_ | (refine va_caseG 8 rfl rfl rfl rfl rfl ?_ ?_ <;> (intro hb; (try simp only [hSQ] at hb); try (exfalso; omega)) <;> first | refine tG 8 ?_ | refine pG 8 ?_)) <;> (first | refine tG 9 ?_ | refine pG 9 ?_ | (refine va_caseG 9 rfl rfl rfl rfl rfl ?_ ?_ <;> (intro hb; (try simp only [hSQ] at hb); try (exfalso; omega)) <;> first | refine tG 9 ?_ | refine pG 9 ?_)) <;> (first | refine tG 10 ?_ | refine pG 10 ?_ | (refine va_caseG 10 rfl rfl rfl rfl rfl ?_ ?_ <;> (intro hb; (try simp only [hSQ] at hb); try (exfalso; omega)) <;> first | refine tG 10 ?_ | refine pG 10 ?_)) <;> (first | refine tG 11 ?_ | refine pG 11 ?_ | (refine va_caseG 11 rfl rfl rfl rfl rfl ?_ ?_ <;> (intro hb; (try simp only [hSQ] at hb); try (exfalso; omega)) <;> first | refine tG 11 ?_ | refine pG 11 ?_)) <;> (refine tA 12 ?_) <;> (refine va_done (by kernel_rfl) ?_))
        repeat' (first | (refine go1 ?_; intros) | (refine goCC ?_ ?_ <;> (intro hb; (try simp only [hSQ] at hb); try (exfalso; omega))) | fail)
        (refine v_draw0 [] (by kernel_rfl) ?_ <;> (refine tA 0 ?_) <;> (refine tA 1 ?_) <;> (refine tA 2 ?_) <;> (refine tA 3 ?_) <;> (refine tA 4 ?_) <;> (refine tA 5 ?_) <;> (refine tA 6 ?_) <;> (refine tA 7 ?_) <;> (refine va_take 8 rfl rfl rfl rfl (by kernel_rfl) (fun _ _ _ _ h => h) entD (by exact qX1) ?_) <;> (refine va_done (by kernel_rfl) ?_))
        repeat' (first | (refine go1 ?_; intros) | (refine goCC ?_ ?_ <;> (intro hb; (try simp only [hSQ] at hb); try (exfalso; omega))) | fail)
        rename_i q2 a2 c2 _ _
        refine ⟨rfl, (i + 1, true, a2, c2, o ++ [x]), hw2, by dsimp only; omega, by (exact sbS), ?_⟩
        dsimp only
        rw [gf3, show (o ++ [x]).length = o.length + 1 by simp]
        rw [ownTs_snoc]
        exact sei _ _ _
      · have hw2 := hw.ab hlt (by omega)
        have hn1 : (x.nonce : Int) ≤ ((l.xs[i]).nonce : Int) := by omega
        have hn2 : (x.nonce : Int) ≠ ((l.xs[i]).nonce : Int) := by omega
        generalize (l.xs[i]).nonce = N at *
        generalize l.xs[i] = y at *
        repeat' (first | (refine go1 ?_; intros) | (refine goCC ?_ ?_ <;> (intro hb; (try simp only [hSQ] at hb); try (exfalso; omega))) | fail)
        (refine v_draw0 [] (by kernel_rfl) ?_ <;> (refine tA 0 ?_) <;> (refine tA 1 ?_) <;> (refine tA 2 ?_) <;> (first | refine tG 3 ?_ | refine pG 3 ?_ | (refine va_caseG 3 rfl rfl rfl rfl rfl ?_ ?_ <;> (intro hb; (try simp only [hSQ] at hb); try (exfalso; omega)) <;> first | refine tG 3 ?_ | refine pG 3 ?_)) <;> (first | refine tG 4 ?_ | refine pG 4 ?_ | (refine va_caseG 4 rfl rfl rfl rfl rfl ?_ ?_ <;> (intro hb; (try simp only [hSQ] at hb); try (exfalso; omega)) <;> first | refine tG 4 ?_ | refine pG 4 ?_)) <;> (first | refine tG 5 ?_ | refine pG 5 ?_ | (refine va_caseG 5 rfl rfl rfl rfl rfl ?_ ?_ <;> (intro hb; (try simp only [hSQ] at hb); try (exfalso; omega)) <;> first | refine tG 5 ?_ | refine pG 5 ?_)) <;> (first | refine tG 6 ?_ | refine pG 6 ?_ | (refine va_caseG 6 rfl rfl rfl rfl rfl ?_ ?_ <;> (intro hb; (try simp only [hSQ] at hb); try (exfalso; omega)) <;> first | refine tG 6 ?_ | refine pG 6 ?_)) <;> (first | refine tG 7 ?_ | refine pG 7 ?_ | (refine va_caseG 7 rfl rfl rfl rfl rfl ?_ ?_ <;> (intro hb; (try simp only [hSQ] at hb); try (exfalso; omega)) <;> first | refine tG 7 ?_ | refine pG 7 ?_)) <;> (first | refine tG 8 ?_ | refine pG 8 ?_ | (refine va_caseG 8 rfl rfl rfl rfl rfl ?_ ?_ <;> (intro hb; (try simp only [hSQ] at hb); try (exfalso; omega)) <;> first | refine tG 8 ?_ | refine pG 8 ?_)) <;> (first | refine tG 9 ?_ | refine pG 9 ?_ | (refine va_caseG 9 rfl rfl rfl rfl rfl ?_ ?_ <;> (intro hb; (try simp only [hSQ] at hb); try (exfalso; omega)) <;> first | refine tG 9 ?_ | refine pG 9 ?_)) <;> (first | refine tG 10 ?_ | refine pG 10 ?_ | (refine va_caseG 10 rfl rfl rfl rfl rfl ?_ ?_ <;> (intro hb; (try simp only [hSQ] at hb); try (exfalso; omega)) <;> first | refine tG 10 ?_ | refine pG 10 ?_)) <;> (first | refine tG 11 ?_ | refine pG 11 ?_ | (refine va_caseG 11 rfl rfl rfl rfl rfl ?_ ?_ <;> (intro hb; (try simp only [hSQ] at hb); try (exfalso; omega)) <;> first | refine tG 11 ?_ | refine pG 11 ?_)) <;> (refine tA 12 ?_) <;> (refine va_done (by kernel_rfl) ?_))
        repeat' (first | (refine go1 ?_; intros) | (refine goCC ?_ ?_ <;> (intro hb; (try simp only [hSQ] at hb); try (exfalso; omega))) | fail)
        rename_i q1 a' c' _ _
        obtain ⟨gn1, gn2, gn3⟩ := gen a' (o.length + 1) c'
        rw [gf3]
        (refine v_draw0 [] (by kernel_rfl) ?_ <;> (refine tA 0 ?_) <;> (refine tA 1 ?_) <;> (refine tA 2 ?_) <;> (refine tA 3 ?_) <;> (refine tA 4 ?_) <;> (refine tA 5 ?_) <;> (refine tA 6 ?_) <;> (refine tA 7 ?_) <;> (refine tA 8 ?_) <;> (refine va_done (by kernel_rfl) ?_))
        repeat' (first | (refine go1 ?_; intros) | (refine goCC ?_ ?_ <;> (intro hb; (try simp only [hSQ] at hb); try (exfalso; omega))) | fail)
        (refine v_draw0 [8, 10] (by kernel_rfl) ?_ <;> (refine tA 0 ?_) <;> (refine tA 1 ?_) <;> (refine tA 2 ?_) <;> (refine tA 3 ?_) <;> (refine tA 4 ?_) <;> (refine tA 5 ?_) <;> (refine tA 6 ?_) <;> (refine va_one 7 (by kernel_rfl) rfl rfl ?_; (refine goV ?_; intros); refine ⟨.inr entD, ?_⟩) <;> (refine va_one 8 (by kernel_rfl) rfl rfl ?_; (refine goV ?_; intros); refine ⟨.inl (by kernel_rfl), ?_⟩) <;> (refine tP 9 ?_) <;> (refine va_one 10 (by kernel_rfl) rfl rfl ?_; (refine goV ?_; intros); refine ⟨.inl (by kernel_rfl), ?_⟩) <;> (refine va_done (by kernel_rfl) ?_))
        repeat' (first | (refine go1 ?_; intros) | (refine goCC ?_ ?_ <;> (intro hb; (try simp only [hSQ] at hb); try (exfalso; omega))) | fail)
        rename_i q2 a2 c2 _ _
        refine ⟨rfl, (i + 1, true, a2, c2, o ++ [x] ++ [y]), hw2, by dsimp only; omega, by (exact sbS), ?_⟩
        dsimp only
        rw [gn3, show (o ++ [x] ++ [y]).length = o.length + 1 + 1 by simp]
        rw [show ownTs a2 c2 (o ++ [x] ++ [y]) = own 50 99 a2 (o.length + 1 + 1) c2 (flat Tx.cells o ++ (x.cells ++ []) ++ (y.cells ++ [])) by rw [ownTs_snoc, flat_snoc, List.length_append, List.append_nil, List.append_nil]; rfl]
        exact sei _ _ _
  · obtain ⟨hn, hw2⟩ := hw.past hup hlt
    have hn2 : (x.nonce : Int) ≠ ((l.xs[i]).nonce : Int) := by omega
    generalize (l.xs[i]).nonce = N at *
    generalize l.xs[i] = y at *
    repeat' (first | (refine go1 ?_; intros) | (refine goCC ?_ ?_ <;> (intro hb; (try simp only [hSQ] at hb); try (exfalso; omega))) | fail)
    (refine v_draw0 [] (by kernel_rfl) ?_ <;> (refine tA 0 ?_) <;> (refine tA 1 ?_) <;> (refine tA 2 ?_) <;> (first | refine tG 3 ?_ | refine pG 3 ?_ | (refine va_caseG 3 rfl rfl rfl rfl rfl ?_ ?_ <;> (intro hb; (try simp only [hSQ] at hb); try (exfalso; omega)) <;> first | refine tG 3 ?_ | refine pG 3 ?_)) <;> (first | refine tG 4 ?_ | refine pG 4 ?_ | (refine va_caseG 4 rfl rfl rfl rfl rfl ?_ ?_ <;> (intro hb; (try simp only [hSQ] at hb); try (exfalso; omega)) <;> first | refine tG 4 ?_ | refine pG 4 ?_)) <;> (first | refine tG 5 ?_ | refine pG 5 ?_ | (refine va_caseG 5 rfl rfl rfl rfl rfl ?_ ?_ <;> (intro hb; (try simp only [hSQ] at hb); try (exfalso; omega)) <;> first | refine tG 5 ?_ | refine pG 5 ?_)) <;> (first | refine tG 6 ?_ | refine pG 6 ?_ | (refine va_caseG 6 rfl rfl rfl rfl rfl ?_ ?_ <;> (intro hb; (try simp only [hSQ] at hb); try (exfalso; omega)) <;> first | refine tG 6 ?_ | refine pG 6 ?_)) <;> (first | refine tG 7 ?_ | refine pG 7 ?_ | (refine va_caseG 7 rfl rfl rfl rfl rfl ?_ ?_ <;> (intro hb; (try simp only [hSQ] at hb); try (exfalso; omega)) <;> first | refine tG 7 ?_ | refine pG 7 ?_)) <;> (first | refine tG 8 ?_ | refine pG 8 ?_ | (refine va_caseG 8 rfl rfl rfl rfl rfl ?_ ?_ <;> (intro hb; (try simp only [hSQ] at hb); try (exfalso; omega)) <;> first | refine tG 8 ?_ | refine pG 8 ?_)) <;> (first | refine tG 9 ?_ | refine pG 9 ?_ | (refine va_caseG 9 rfl rfl rfl rfl rfl ?_ ?_ <;> (intro hb; (try simp only [hSQ] at hb); try (exfalso; omega)) <;> first | refine tG 9 ?_ | refine pG 9 ?_)) <;> (first | refine tG 10 ?_ | refine pG 10 ?_ | (refine va_caseG 10 rfl rfl rfl rfl rfl ?_ ?_ <;> (intro hb; (try simp only [hSQ] at hb); try (exfalso; omega)) <;> first | refine tG 10 ?_ | refine pG 10 ?_)) <;> (first | refine tG 11 ?_ | refine pG 11 ?_ | (refine va_caseG 11 rfl rfl rfl rfl rfl ?_ ?_ <;> (intro hb; (try simp only [hSQ] at hb); try (exfalso; omega)) <;> first | refine tG 11 ?_ | refine pG 11 ?_)) <;> (refine tA 12 ?_) <;> (refine va_done (by kernel_rfl) ?_))
    repeat' (first | (refine go1 ?_; intros) | (refine goCC ?_ ?_ <;> (intro hb; (try simp only [hSQ] at hb); try (exfalso; omega))) | fail)
    (refine v_draw0 [] (by kernel_rfl) ?_ <;> (refine tA 0 ?_) <;> (refine tA 1 ?_) <;> (refine tA 2 ?_) <;> (refine tA 3 ?_) <;> (refine tA 4 ?_) <;> (refine tA 5 ?_) <;> (refine tA 6 ?_) <;> (refine tA 7 ?_) <;> (refine tA 8 ?_) <;> (refine va_done (by kernel_rfl) ?_))
    repeat' (first | (refine go1 ?_; intros) | (refine goCC ?_ ?_ <;> (intro hb; (try simp only [hSQ] at hb); try (exfalso; omega))) | fail)
    (refine v_draw0 [8, 10] (by kernel_rfl) ?_ <;> (refine tA 0 ?_) <;> (refine tA 1 ?_) <;> (refine tA 2 ?_) <;> (refine tA 3 ?_) <;> (refine tA 4 ?_) <;> (refine tA 5 ?_) <;> (refine tA 6 ?_) <;> (refine va_one 7 (by kernel_rfl) rfl rfl ?_; (refine goV ?_; intros); refine ⟨.inr entD, ?_⟩) <;> (refine va_one 8 (by kernel_rfl) rfl rfl ?_; (refine goV ?_; intros); refine ⟨.inl (by kernel_rfl), ?_⟩) <;> (refine tP 9 ?_) <;> (refine va_one 10 (by kernel_rfl) rfl rfl ?_; (refine goV ?_; intros); refine ⟨.inl (by kernel_rfl), ?_⟩) <;> (refine va_done (by kernel_rfl) ?_))
    repeat' (first | (refine go1 ?_; intros) | (refine goCC ?_ ?_ <;> (intro hb; (try simp only [hSQ] at hb); try (exfalso; omega))) | fail)
    rename_i q2 a2 c2 _ _
    refine ⟨rfl, (i + 1, true, a2, c2, o ++ [y]), hw2, by dsimp only; omega, by (exact sbS), ?_⟩
    dsimp only
    rw [gf3, show (o ++ [y]).length = o.length + 1 by simp]
    rw [ownTs_snoc]
    exact sei _ _ _
end Go.Proofs.YtcpndfffdbogbaaGreatDoor

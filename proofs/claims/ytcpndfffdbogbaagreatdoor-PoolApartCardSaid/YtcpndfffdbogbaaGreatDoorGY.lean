/-
  Lines: the ready run. Lines: the document's ready run; what is past. Lines: what is past. Lines: with one more transaction, the document's.
-/
import Derived.Test.YtcpndfffdbogbaaGreatDoorGX
import Derived.Test.YtcpndfffdbogbaaGreatDoorGF
set_option linter.unusedVariables false
set_option linter.unusedSimpArgs false
namespace Go.Proofs.YtcpndfffdbogbaaGreatDoor
open Go Go.RowKit
set_option linter.unusedVariables false
set_option linter.unusedSimpArgs false
open Classical

theorem ownTs_snoc (a : Option Addr) (c : Nat) (o : List Tx) (x : Tx) : ownTs a c (o ++ [x]) = own 50 99 a (o.length + 1) c (flat Tx.cells o ++ (x.cells ++ [])) := by
  unfold ownTs
  rw [flat_snoc, List.length_append, List.append_nil]
  rfl
noncomputable def readyQ (l : Ln) (k : Nat) : List Tx × Int := if l.may then (readyT l.xs k, 0) else ([], 8)
theorem qrun_vc (w0 : World) (L : List Asn) (l : Ln) (h : l.own.length = 32) (k : Nat) :
    VC Tryz.prog w0 75 [.agg l.cells.toArray, .int .u64 k] L fun v L' => ∃ g g', v = .func (.func 116) #[] #[.pointer (some ⟨g, 0, none⟩), .pointer (some ⟨g', 0, none⟩)] ∧ L' = blk g' 48 [.int .u64 k] :: blk g 69 l.cells :: L := by
  have hlen := Ln.len h
  refine vc_in rfl rfl ?_
  generalize l.cells = cs at *
  repeat' (first | (refine go1 ?_; intros) | (refine goCC ?_ ?_ <;> (intro hb; (try simp only [hSQ] at hb); try (exfalso; omega))) | fail)
  exact ⟨_, _, rfl, rfl⟩
set_option maxRecDepth 100000 in
set_option maxHeartbeats 2000000 in
theorem qready_vc (w0 : World) (L : List Asn) (l : Ln) (h : l.ok) (hcap : l.xs.length ≤ l.c) (k : Nat) (hk : k < 18446744073709551616) [hK : RdA w0 (some ⟨0, 0, none⟩) (wds K64)] [hr : RdC w0 L l.a (txc l.xs)] :
    VC Tryz.prog w0 35 [.agg l.cells.toArray, .int .u64 k] L fun v L' => ∃ a c, v = .tuple #[.slice a (readyQ l k).1.length c, .int .i64 (readyQ l k).2] ∧ L' = ownTs a c (readyQ l k).1 :: L := by
  have f1 := Ln.f1 h.own
  have hcl := Ln.len h.own
  have hlen := h.ts.len
  refine vc_ent ?_
  refine vc_in rfl rfl ?_
  generalize hcs : l.cells = cs at *
  repeat' (first | (refine go1 ?_; intros) | (refine goCC ?_ ?_ <;> (intro hb; (try simp only [hSQ] at hb); try (exfalso; omega))) | fail)
  refine vl_o rfl (vo_call rfl rfl ?_)
  rw [← hcs]
  refine vc_mono (qcheck_vc w0 _ l h) ?_
  rintro v L' ⟨rfl, rfl⟩
  rw [hcs]
  unfold readyQ
  by_cases hm : l.may = true
  rotate_left
  · rw [if_neg hm, if_neg hm]
    repeat' (first | (refine go1 ?_; intros) | (refine goCC ?_ ?_ <;> (intro hb; (try simp only [hSQ] at hb); try (exfalso; omega))) | fail)
    exact ⟨ownTs none 0 [] :: L, ((se_drop _ _).trans ((se_drop _ _).trans (se_own_nil _ 99 _))).ent w0, none, 0, rfl, rfl⟩
  rw [if_pos hm, if_pos hm]
  have hup := Ln.may_up hm
  repeat' (first | (refine go1 ?_; intros) | (refine goCC ?_ ?_ <;> (intro hb; (try simp only [hSQ] at hb); try (exfalso; omega))) | fail)
  refine vl_o rfl (vo_call rfl rfl ?_)
  rw [← hcs]
  refine vc_mono (qrun_vc w0 _ l h.own k) ?_
  rintro v L' ⟨g1, g2, rfl, rfl⟩
  rw [hcs]
  repeat' (first | (refine go1 ?_; intros) | (refine goCC ?_ ?_ <;> (intro hb; (try simp only [hSQ] at hb); try (exfalso; omega))) | fail)
  rename_i g0 gb
  refine v_sub (selE_sub [2, 4, 5, 15] _ rfl) ?_
  refine v_range rfl (fun lp D => ?_)
  refine vc_in rfl rfl ?_
  repeat' (first | (refine go1 ?_; intros) | (refine goCC ?_ ?_ <;> (intro hb; (try simp only [hSQ] at hb); try (exfalso; omega))) | fail)
  (refine v_draw0 [] (by kernel_rfl) ?_ <;> (refine tA 0 ?_) <;> (refine tA 1 ?_) <;> (refine tA 2 ?_) <;> (refine tA 4 ?_) <;> (refine tA 8 ?_))
  first | refine va_one 3 (by kernel_rfl) rfl rfl (vo_call rfl rfl ?_) | refine va_one 3 (by kernel_rfl) rfl rfl (vo_callV rfl rfl rfl ?_)
  rw [← hcs]
  refine vc_mono (nonces_vc w0 _ l h.own) ?_
  rintro v L' ⟨rfl, rfl⟩
  rw [hcs]
  refine ⟨.inr entD, ?_⟩
  skip
  first | refine va_one 5 (by kernel_rfl) rfl rfl (vo_call rfl rfl ?_) | refine va_one 5 (by kernel_rfl) rfl rfl (vo_callV rfl rfl rfl ?_)
  refine vc_mono (ahead19_vc w0 _ l.a l.c l.xs rfl h.ts hup k) ?_
  rintro v L' ⟨m, rfl, hm1, hm2, hm3, rfl⟩
  have hp : Part l.xs k m := ⟨hm1, hm2, hm3⟩
  have hrd := hp.ready
  refine ⟨.inr entD, ?_⟩
  ((refine tA 6 ?_) <;> (refine tA 7 ?_) <;> (refine va_done (by kernel_rfl) ?_))
  have hyl : (l.xs.drop m).length = l.xs.length - m := by simp
  have hys : TsOk (l.xs.drop m) := h.ts.sub (fun y hy => List.mem_of_mem_drop hy) (by omega)
  haveI rD : RdC w0 L (subA l.a m l.c 99) (txc (l.xs.drop m)) := rdF_drop h.ts.wide m l.c hcap
  have hrl := ready_len l.xs k
  repeat' (first | (refine go1 ?_; intros) | (refine goCC ?_ ?_ <;> (intro hb; (try simp only [hSQ] at hb); try (exfalso; omega))) | fail)
  refine v_loopF (Nat × Int × Option Addr × Nat × List Tx) [0, 2, 12, 13] rfl (fun x => [(14, .int .i64 x.1)])
    (fun L0 x => match L0 with
      | a0 :: a1 :: _ :: a3 :: _ :: a5 :: L1 => a0 :: a1 :: blk g2 48 [.int .u64 x.2.1] :: a3 :: blk gb 28 [.slice x.2.2.1 x.2.2.2.2.length x.2.2.2.1] :: a5 :: ownTs x.2.2.1 x.2.2.2.1 x.2.2.2.2 :: L1
      | L0 => L0)
    (fun x => x.2.2.2.2.length = x.1 ∧ (k + x.1 < 18446744073709551616 → x.2.1 = ((k + x.1 : Nat) : Int)) ∧ Part l.xs (k + x.1) (m + x.1) ∧ readyT l.xs k = x.2.2.2.2 ++ runT (l.xs.drop (m + x.1)) (k + x.1))
    (fun x => l.xs.length - (m + x.1)) (0, k, none, 0, []) ⟨rfl, fun _ => rfl, hp, by rw [hrd]; rfl⟩ (by (repeat' (first | exact Sub.nil _ | refine Sub.cons rfl rfl ?_ | refine Sub.cons rfl ?_ ?_))) ((SE.cons _ (SE.cons _ (SE.cons _ (SE.cons _ (SE.cons _ (SE.cons _ (se_own_nil _ 99 _))))))).ent w0) ?_
  rintro ⟨i, z, a, c, o⟩ ⟨hi, hz, hp', he⟩
  dsimp only at hi hz hp' he ⊢
  have hol : o.length ≤ 1000000 := by have := congrArg List.length he; rw [List.length_append] at this; omega
  by_cases hlt : i < l.xs.length - m
  rotate_left
  · rw [runT_stop (fun hm => absurd hm (by omega)), List.append_nil] at he
    rw [he]
    repeat' (first | (refine go1 ?_; intros) | (refine goCC ?_ ?_ <;> (intro hb; (try simp only [hSQ] at hb); try (exfalso; omega))) | fail)
    exact ⟨ownTs a c o :: L, sei _ _ _, a, c, rfl, rfl⟩
  have hj : m + i < l.xs.length := by omega
  have hd : (l.xs.drop m)[i]'(by omega) = l.xs[m + i] := by rw [List.getElem_drop]
  have el := hys.el i (by omega)
  rw [hd] at el
  have xok := h.ts.at (m + i) hj
  have hxl := Tx.len xok
  have hx2 := Tx.f2 xok
  have hpos := hys.pos i (by omega)
  have hn0 := hp'.hi (m + i) hj (Nat.le_refl _)
  have hk64 : k + i < 18446744073709551616 := by have := xok.nonce; omega
  obtain rfl := hz hk64
  by_cases hn : (l.xs[m + i]).nonce = k + i
  · have hpn := hp'.next hup hj hn
    rw [runT_cons hj hn] at he
    rw [hn] at hx2
    generalize l.xs[m + i] = x at *
    repeat' (first | (refine goE ?_; intros) | (refine goCC ?_ ?_ <;> (intro hb; (try simp only [hSQ] at hb); try (exfalso; omega))) | fail)
    rename_i q1 q2 q3 a' c' _ _
    refine ⟨rfl, (i + 1, IntKind.u64.wrap (((k + i : Nat) : Int) + 1), a', c', o ++ [x]), ⟨by simp [hi], fun h => ?_, ?_, ?_⟩, by dsimp only; omega, by (repeat' (first | exact Sub.nil _ | refine Sub.cons rfl rfl ?_ | refine Sub.cons rfl ?_ ?_)), ?_⟩
    · dsimp only at h ⊢
      rw [wu_add (by omega)]
      omega
    · exact hpn
    · dsimp only
      rw [he, List.append_assoc]; rfl
    · dsimp only
      rw [ownTs_snoc, List.length_append]
      exact sei _ _ _
  · rw [runT_stop (fun _ => hn), List.append_nil] at he
    have hn' : ((l.xs[m + i]).nonce : Int) ≠ ((k + i : Nat) : Int) := by omega
    generalize hN : (l.xs[m + i]).nonce = N at *
    generalize l.xs[m + i] = x at *
    rw [he]
    repeat' (first | (refine go1 ?_; intros) | (refine goCC ?_ ?_ <;> (intro hb; (try simp only [hSQ] at hb); try (exfalso; omega))) | fail)
    exact ⟨ownTs a c o :: L, sei _ _ _, a, c, rfl, rfl⟩
end Go.Proofs.YtcpndfffdbogbaaGreatDoor
namespace Go.Proofs.YtcpndfffdbogbaaGreatDoor
open Go Go.RowKit
set_option linter.unusedVariables false
set_option linter.unusedSimpArgs false
open Classical

end Go.Proofs.YtcpndfffdbogbaaGreatDoor
namespace Go.Proofs.YtcpndfffdbogbaaGreatDoor
open Go Go.RowKit
set_option linter.unusedVariables false
set_option linter.unusedSimpArgs false
open Classical

theorem loT_take {xs : List Tx} {k i : Nat} (hi : i < xs.length) : loT (xs.take (i + 1)) k = if (xs[i]).nonce < k then loT (xs.take i) k ++ [xs[i]] else loT (xs.take i) k := by
  rw [List.take_succ_eq_append_getElem hi]
  unfold loT
  rw [List.filter_append]
  by_cases e : (xs[i]).nonce < k <;> simp [e]
/-- What is answered: a line, a list, an error. -/
def RLn (L : List Asn) (q : List UInt8 × List Tx × List Tx × Int) (v : Value) (L' : List Asn) : Prop := ∃ a c b d, v = .tuple #[.agg (Ln.mk q.1 a c q.2.1).cells.toArray, .slice b q.2.2.1.length d, .int .i64 q.2.2.2] ∧ L' = ownTs b d q.2.2.1 :: ownTs a c q.2.1 :: L
theorem RLn.bad (w0 : World) (L : List Asn) (e : Int) : ∃ L', Ent w0 L L' ∧ RLn L (z32, [], [], e) (.tuple #[.agg (Ln.mk z32 none 0 []).cells.toArray, .slice none 0 0, .int .i64 e]) L' :=
  ⟨_, ((se_own_nil _ 99 _).trans (se_own_nil _ 99 _)).ent w0, none, 0, none, 0, rfl, rfl⟩
noncomputable def pastQ (l : Ln) (k : Nat) : List UInt8 × List Tx × List Tx × Int := if l.may then (l.own, hiT l.xs k, loT l.xs k, 0) else (z32, [], [], 8)
set_option maxRecDepth 100000 in
set_option maxHeartbeats 1000000 in
theorem qpast_vc (w0 : World) (L : List Asn) (l : Ln) (h : l.ok) (hcap : l.xs.length ≤ l.c) (k : Nat) (hk : k < 18446744073709551616) [hK : RdA w0 (some ⟨0, 0, none⟩) (wds K64)] [hr : RdC w0 L l.a (txc l.xs)] :
    VC Tryz.prog w0 34 [.agg l.cells.toArray, .int .u64 k] L (RLn L (pastQ l k)) := by
  have f0 := Ln.f0 h.own
  have f1 := Ln.f1 h.own
  have ho := h.own
  have hcl := Ln.len h.own
  refine vc_ent ?_
  refine vc_in rfl rfl ?_
  generalize hcs : l.cells = cs at *
  repeat' (first | (refine go1 ?_; intros) | (refine goCC ?_ ?_ <;> (intro hb; (try simp only [hSQ] at hb); try (exfalso; omega))) | fail)
  refine vl_o rfl (vo_call rfl rfl ?_)
  rw [← hcs]
  refine vc_mono (qcheck_vc w0 _ l h) ?_
  rintro v L' ⟨rfl, rfl⟩
  rw [hcs]
  unfold pastQ
  by_cases hm : l.may = true
  rotate_left
  · rw [if_neg hm, if_neg hm]
    repeat' (first | (refine go1 ?_; intros) | (refine goCC ?_ ?_ <;> (intro hb; (try simp only [hSQ] at hb); try (exfalso; omega))) | fail)
    exact ⟨_, ((se_drop _ _).trans ((se_drop _ _).trans ((se_own_nil _ 99 _).trans (se_own_nil _ 99 _)))).ent w0, none, 0, none, 0, rfl, rfl⟩
  rw [if_pos hm, if_pos hm]
  have hup := Ln.may_up hm
  repeat' (first | (refine go1 ?_; intros) | (refine goCC ?_ ?_ <;> (intro hb; (try simp only [hSQ] at hb); try (exfalso; omega))) | fail)
  refine vl_o rfl (vo_call rfl rfl ?_)
  rw [← hcs]
  refine vc_mono (nonces_vc w0 _ l h.own) ?_
  rintro v L' ⟨rfl, rfl⟩
  rw [hcs]
  repeat' (first | (refine go1 ?_; intros) | (refine goCC ?_ ?_ <;> (intro hb; (try simp only [hSQ] at hb); try (exfalso; omega))) | fail)
  refine vl_o rfl (vo_call rfl rfl ?_)
  refine vc_mono (ahead19_vc w0 _ l.a l.c l.xs rfl h.ts hup k) ?_
  rintro v L' ⟨m, rfl, hm1, hm2, hm3, rfl⟩
  have hp : Part l.xs k m := ⟨hm1, hm2, hm3⟩
  have hyl : (l.xs.drop m).length = l.xs.length - m := by simp
  have hys : TsOk (l.xs.drop m) := h.ts.sub (fun y hy => List.mem_of_mem_drop hy) (by have := h.ts.len; omega)
  have hzs : TsOk (l.xs.take m) := h.ts.sub (fun y hy => List.mem_of_mem_take hy) (by have := h.ts.len; rw [List.length_take]; omega)
  have hzl : (l.xs.take m).length = m := by rw [List.length_take]; omega
  haveI rD : RdC w0 L (subA l.a m l.c 99) (txc (l.xs.drop m)) := rdF_drop h.ts.wide m l.c hcap
  haveI rT : RdC w0 L l.a (txc (l.xs.take m)) := rdF_take h.ts.wide m
  repeat' (first | (refine go1 ?_; intros) | (refine goCC ?_ ?_ <;> (intro hb; (try simp only [hSQ] at hb); try (exfalso; omega))) | fail)
  refine v_draw0 [13] (by kernel_rfl) ?_
  refine tA 0 ?_
  refine tA 1 ?_
  refine tA 2 ?_
  refine tA 3 ?_
  refine tA 4 ?_
  refine tA 5 ?_
  refine tA 8 ?_
  refine tA 9 ?_
  refine tA 10 ?_
  refine tA 11 ?_
  rw [subA_0, Nat.sub_zero, Nat.sub_zero]
  refine va_one 6 (by kernel_rfl) rfl rfl ?_
  first | refine vo_call rfl rfl ?_ | refine vo_callV rfl rfl rfl ?_
  refine vc_mono (cloneTs_vc w0 _ _ _ (l.xs.drop m) hyl.symm hys) ?_
  rintro v L' ⟨b, d, rfl, rfl⟩
  have hl2 : (bvs l.own ++ [.slice b (l.xs.drop m).length d] : List Value).length = 33 := by simp [ho]
  refine ⟨.inr (sei _ _ _), ?_⟩
  refine va_take 7 rfl rfl rfl rfl (by kernel_rfl) (fun _ _ _ _ h => h) entD (vq_build rfl rfl (by simp [plOf, ho, Value.cells]) (by simp [ho, Value.cells])) ?_
  refine va_one 12 (by kernel_rfl) rfl rfl ?_
  first | refine vo_call rfl rfl ?_ | refine vo_callV rfl rfl rfl ?_
  refine vc_mono (cloneTs_vc w0 _ _ _ (l.xs.take m) hzl.symm hzs) ?_
  rintro v L' ⟨a, c, rfl, rfl⟩
  refine ⟨.inr (sei _ _ _), ?_⟩
  refine va_one 13 (by kernel_rfl) rfl rfl ?_
  refine vo_stW rfl rfl rfl (by first | exact hl2 | (simp [ho]; done)) (by rfl) ?_
  refine ⟨.inl (by kernel_rfl), ?_⟩
  refine tP 14 ?_
  refine tP 15 ?_
  refine va_done (by kernel_rfl) ?_
  skip
  rw [← hp.take, ← hp.drop]
  repeat' (first | (refine go1 ?_; intros) | (refine goCC ?_ ?_ <;> (intro hb; (try simp only [hSQ] at hb); try (exfalso; omega))) | fail)
  exact ⟨ownTs a c (l.xs.take m) :: ownTs b d (l.xs.drop m) :: L, sei _ _ _, b, d, a, c, rfl, rfl⟩
end Go.Proofs.YtcpndfffdbogbaaGreatDoor
namespace Go.Proofs.YtcpndfffdbogbaaGreatDoor
open Go Go.RowKit
set_option linter.unusedVariables false
set_option linter.unusedSimpArgs false
open Classical

theorem gtT_take {xs : List Tx} {k i : Nat} (hi : i < xs.length) : gtT (xs.take (i + 1)) k = if k < (xs[i]).nonce then gtT (xs.take i) k ++ [xs[i]] else gtT (xs.take i) k := by
  rw [List.take_succ_eq_append_getElem hi]
  unfold gtT
  rw [List.filter_append]
  by_cases e : k < (xs[i]).nonce <;> simp [e]
/-- What With has made of the first i. -/
structure WInv (xs : List Tx) (x : Tx) (i : Nat) (done : Bool) (o : List Tx) : Prop where
  le : i ≤ xs.length
  no : done = false → o = loT (xs.take i) x.nonce ∧ gtT (xs.take i) x.nonce = []
  yes : done = true → o = withT (xs.take i) x ∧ ∃ j, ∃ hj : j < xs.length, j < i ∧ x.nonce ≤ (xs[j]).nonce
theorem WInv.ln {xs : List Tx} {x : Tx} {i : Nat} {done : Bool} {o : List Tx} (h : WInv xs x i done o) : o.length ≤ xs.length + 1 := by
  cases done with
  | false => rw [(h.no rfl).1]; exact Nat.le_trans (List.length_filter_le _ _) (by rw [List.length_take]; omega)
  | true => rw [(h.yes rfl).1]; exact Nat.le_trans (withT_len _ _) (by rw [List.length_take]; omega)
theorem WInv.below {xs : List Tx} {x : Tx} {i : Nat} {o : List Tx} (h : WInv xs x i false o) (hi : i < xs.length) (hn : (xs[i]).nonce < x.nonce) : WInv xs x (i + 1) false (o ++ [xs[i]]) := by
  obtain ⟨h1, h2⟩ := h.no rfl
  refine ⟨by omega, fun _ => ?_, fun h => (by cases h)⟩
  rw [loT_take hi, gtT_take hi, if_pos hn, if_neg (by omega), h1]
  exact ⟨rfl, h2⟩
theorem WInv.eq {xs : List Tx} {x : Tx} {i : Nat} {o : List Tx} (h : WInv xs x i false o) (hi : i < xs.length) (hn : (xs[i]).nonce = x.nonce) : WInv xs x (i + 1) true (o ++ [x]) := by
  obtain ⟨h1, h2⟩ := h.no rfl
  refine ⟨by omega, fun h => (by cases h), fun _ => ⟨?_, i, hi, by omega, by omega⟩⟩
  unfold withT
  rw [loT_take hi, gtT_take hi, if_neg (by omega), if_neg (by omega), h1, h2]
theorem WInv.ab {xs : List Tx} {x : Tx} {i : Nat} {o : List Tx} (h : WInv xs x i false o) (hi : i < xs.length) (hn : x.nonce < (xs[i]).nonce) : WInv xs x (i + 1) true (o ++ [x] ++ [xs[i]]) := by
  obtain ⟨h1, h2⟩ := h.no rfl
  refine ⟨by omega, fun h => (by cases h), fun _ => ⟨?_, i, hi, by omega, by omega⟩⟩
  unfold withT
  rw [loT_take hi, gtT_take hi, if_neg (by omega), if_pos hn, h1, h2]
  simp
end Go.Proofs.YtcpndfffdbogbaaGreatDoor

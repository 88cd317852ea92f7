/-
  How many shards there are changes nothing: the law.
-/
import Derived.Test.YtcpndfffdbogbaaDoorPolK
import Derived.Test.YtcpndfffdbogbaaDoorTC
set_option linter.unusedVariables false
set_option linter.unusedSimpArgs false
namespace Go.Proofs.YtcpndfffdbogbaaDoor
open Go Go.RowKit
set_option linter.unusedVariables false
set_option linter.unusedSimpArgs false
set_option linter.unusedSectionVars false
open Classical

theorem find_mid {A B : List LC} {y : LC} {o : List UInt8} (h : ∀ c ∈ A, c.1 ≠ o) (e : y.1 = o) : lineC (A ++ y :: B) o = y.2 := by
  unfold lineC
  have h1 : A.find? (fun c => decide (c.1 = o)) = none := List.find?_eq_none.2 (fun c hc => by simpa using h c hc)
  rw [List.find?_append, h1, List.find?_cons_of_pos (by simpa using e)]
  rfl
theorem lineC_hit {cs : PC} {o : List UInt8} {i : Nat} (hi : i < cs.length) (h : ∀ j (hj : j < cs.length), j < i → ∀ c ∈ cs[j], c.1 ≠ o) {k : Nat} (hk : k < cs[i].length) (h2 : ∀ j (hj : j < cs[i].length), j < k → cs[i][j].1 ≠ o) (e : cs[i][k].1 = o) : lineC cs.flatten o = cs[i][k].2 := by
  have e1 : cs.flatten = (cs.take i).flatten ++ (cs[i] ++ (cs.drop (i + 1)).flatten) := by
    rw [← List.flatten_cons, ← List.drop_eq_getElem_cons hi, ← List.flatten_append, List.take_append_drop]
  have e2 : cs[i].take k ++ cs[i][k] :: cs[i].drop (k + 1) = cs[i] := by rw [← List.drop_eq_getElem_cons hk, List.take_append_drop]
  have h3 : ∀ c ∈ (cs.take i).flatten ++ cs[i].take k, c.1 ≠ o := fun c hc => by
    rcases List.mem_append.1 hc with hc | hc
    · obtain ⟨l, hl, hcl⟩ := List.mem_flatten.1 hc
      obtain ⟨j, hj, rfl⟩ := List.getElem_of_mem hl
      rw [List.length_take] at hj
      rw [List.getElem_take] at hcl
      exact h j (by omega) (by omega) c hcl
    · obtain ⟨j, hj, rfl⟩ := List.getElem_of_mem hc
      rw [List.length_take] at hj
      rw [List.getElem_take]
      exact h2 j (by omega) (by omega)
  generalize cs[i][k] = y at *
  generalize cs[i].take k = A at *
  generalize cs[i].drop (k + 1) = B at *
  rw [e1, ← e2, List.append_assoc, ← List.append_assoc, List.cons_append]
  exact find_mid h3 e
theorem lineC_miss {cs : PC} {o : List UInt8} (h : ∀ j (hj : j < cs.length), ∀ c ∈ cs[j], c.1 ≠ o) : lineC cs.flatten o = [] := lineC_none (fun j hj => by
  obtain ⟨l, hl, hc⟩ := List.mem_flatten.1 (List.getElem_mem hj)
  obtain ⟨i, hi, rfl⟩ := List.getElem_of_mem hl
  exact h i hi _ hc)
theorem MayC.few {cs : List LC} (h : MayC cs) : cs.length ≤ cntC cs := by
  have : ∀ l : List LC, (∀ c ∈ l, c.2 ≠ []) → l.length ≤ cntC l := by
    intro l
    induction l with
    | nil => intro _; exact Nat.zero_le _
    | cons c l ih =>
      intro hl
      have h1 := ih (fun d hd => hl d (List.mem_cons_of_mem _ hd))
      have h2 : 0 < c.2.length := List.length_pos_iff.2 (hl c (by simp))
      have h3 : cntC (c :: l) = c.2.length + cntC l := by simp [cntC]
      rw [h3, List.length_cons]
      omega
  exact this cs h.ne
/-- What is told of a sender's line: it stands among these shards, or there is none. -/
def RLine (w0 : World) (ss : List Sh) (o : List UInt8) (L : List Asn) (v : Value) (L' : List Asn) : Prop := ∃ a c xs, v = .slice a xs.length c ∧ xs = lineC (shl ss).flatten o ∧ TsOk xs ∧ (∀ M [RdSs w0 M ss], RdC w0 M a (txc xs)) ∧ L' = L
set_option maxRecDepth 100000 in
set_option maxHeartbeats 4000000 in
theorem lline21_vc (w0 : World) (L : List Asn) (a : Option Addr) (c : Nat) (ss : List Sh) (o : List UInt8) (ho : o.length = 32) {n : Nat} (hn : n = ss.length) (h : SsOk ss) [hr : RdC w0 L a (shc ss)] [hv : RdSs w0 L ss] :
    VC Tryd.prog w0 12 [.slice a n c, .agg (bvs o).toArray] L (RLine w0 ss o L) := by
  subst hn
  have hlen := h.len
  refine vc_ent ?_
  refine vc_in rfl rfl ?_
  repeat' (first | (refine go1 ?_; intros) | (refine goCC ?_ ?_ <;> (intro hb; (try simp only [hSQ] at hb); try (exfalso; omega))) | fail)
  rename_i g3
  refine v_loopS Nat [0, 3] rfl (fun i => [(5, .int .i64 i)]) (fun i => i ≤ ss.length ∧ ∀ j (hj : j < ss.length), j < i → ∀ l ∈ ss[j].ls, l.own ≠ o) (fun i => ss.length - i) 0 ⟨Nat.zero_le _, fun j hj h => by omega⟩ (by (repeat' (first | exact Sub.nil _ | refine Sub.cons rfl rfl ?_ | refine Sub.cons rfl ?_ ?_))) (fun i ⟨hi, hno⟩ => ?_)
  by_cases hlt : i < ss.length
  rotate_left
  · obtain rfl : i = ss.length := by omega
    repeat' (first | (refine go1 ?_; intros) | (refine goCC ?_ ?_ <;> (intro hb; (try simp only [hSQ] at hb); try (exfalso; omega))) | fail)
    exact ⟨L, sei _ _ _, none, 0, [], rfl, (lineC_miss (fun j hj c hc => by
      rw [shl_at] at hc
      obtain ⟨l, hl, rfl⟩ := List.mem_map.1 hc
      have hj' : j < ss.length := by rwa [shl_length] at hj
      exact hno j hj' hj' l hl)).symm, TsOk.nil, fun M _ => rdC_nil _ _ _, rfl⟩
  have e' := shs_e1 i hlt
  have ea := shs_at i hlt
  have hpos := h.pos i hlt
  haveI := hv.at i hlt
  haveI := hv.at2 i hlt
  have sok := h.at i hlt
  have sll := sok.len
  repeat' (first | (refine go1 ?_; intros) | (refine goCC ?_ ?_ <;> (intro hb; (try simp only [hSQ] at hb); try (exfalso; omega))) | fail)
  refine v_loopS Nat [0, 3, 5] rfl (fun k => [(6, .int .i64 k)]) (fun k => k ≤ ss[i].ls.length ∧ ∀ j (hj : j < ss[i].ls.length), j < k → ss[i].ls[j].own ≠ o) (fun k => ss[i].ls.length - k) 0 ⟨Nat.zero_le _, fun j hj h => by omega⟩ (by (repeat' (first | exact Sub.nil _ | refine Sub.cons rfl rfl ?_ | refine Sub.cons rfl ?_ ?_))) (fun k ⟨hk, hno2⟩ => ?_)
  by_cases hkt : k < ss[i].ls.length
  rotate_left
  · obtain rfl : k = ss[i].ls.length := by omega
    repeat' (first | (refine go1 ?_; intros) | (refine goCC ?_ ?_ <;> (intro hb; (try simp only [hSQ] at hb); try (exfalso; omega))) | fail)
    refine ⟨rfl, i + 1, ⟨by omega, fun j hj hji => ?_⟩, by omega, by (repeat' (first | exact Sub.nil _ | refine Sub.cons rfl rfl ?_ | refine Sub.cons rfl ?_ ?_)), Ent.refl _ _⟩
    by_cases e : j = i
    · subst e
      intro l hl
      obtain ⟨q, hq, rfl⟩ := List.getElem_of_mem hl
      exact hno2 q hq hq
    · exact hno j hj (by omega)
  have e0 := sok.e0 k hkt
  have e0' : ((lnc ss[i].ls).drop (k * 33)).take 32 = bvs ss[i].ls[k].own := by simpa using e0
  have e1 := sok.e1 k hkt
  have hpos2 := sok.pos k hkt
  have hol := (sok.at k hkt).own
  have hhit := fun (e : ss[i].ls[k].own = o) => lineC_hit (cs := shl ss) (o := o) (i := i) (by rw [shl_length]; exact hlt) (fun j hj hji c hc => by
    rw [shl_at] at hc
    obtain ⟨l, hl, rfl⟩ := List.mem_map.1 hc
    exact hno j (by rwa [shl_length] at hj) hji l hl) (k := k) (by rw [shl_at, List.length_map]; exact hkt) (fun j hj hjk => by
    have hj' : j < ss[i].ls.length := by rw [shl_at, List.length_map] at hj; exact hj
    have := hno2 j hj' hjk
    simpa [shl_at, Ln.pl] using this) (by simpa [shl_at, Ln.pl] using e)
  by_cases hq : ss[i].ls[k].own = o
  · have hx : lineC (shl ss).flatten o = ss[i].ls[k].xs := by
      rw [hhit hq]
      simp [shl_at, Ln.pl]
    repeat' (first | (refine go1 ?_; intros) | (refine goCC ?_ ?_ <;> (intro hb; (try simp only [hSQ] at hb); try (exfalso; omega))) | fail)
    (refine v_draw0 [] (by kernel_rfl) ?_ <;> (refine tA 0 ?_) <;> (refine tA 1 ?_) <;> (refine tA 2 ?_) <;> (refine tA 3 ?_) <;> (refine tA 4 ?_) <;> (refine tA 5 ?_) <;> (refine tA 6 ?_) <;> (refine tA 7 ?_) <;> (refine tA 8 ?_) <;> (refine tA 9 ?_) <;> (refine va_take 10 rfl rfl rfl rfl (by kernel_rfl) (fun _ _ _ _ h => h) entD (by (first | (apply vq_isBin; first | (apply vq_isOp .neq; first | exact vq_neTxD rfl rfl (by assumption) (by assumption) (by assumption) | exact vq_neD rfl rfl (by first | assumption | (simp; done)) (by first | assumption | (simp; done)) (by assumption) | exact vq_neE' rfl rfl (by first | assumption | (simp; done)) (by first | assumption | (simp; done)) (by assumption)) | (apply vq_isOp .eql; first | exact vq_eqTxD rfl rfl (by assumption) (by assumption) (by assumption) | exact vq_eqTxE rfl rfl (by assumption) (by assumption) (by first | assumption | rfl) | exact vq_eqD rfl rfl (by first | assumption | (simp; done)) (by first | assumption | (simp; done)) (by assumption) | exact vq_eqE' rfl rfl (by first | assumption | (simp; done)) (by first | assumption | (simp; done)) (by assumption))) | (apply vq_isBin; first | exact vq_lt rfl rfl | exact vq_eq rfl rfl | exact vq_ne rfl rfl | (apply vq_isOp .add; exact vq_add rfl rfl (by first | exact wr_add (by omega) | exact wu_add (by omega) | exact wr_id (by omega) (by omega) | rfl)) | (apply vq_isOp .sub; exact vq_minus rfl rfl (by first | exact wr_sub (by omega) (by omega) | exact wu_sub (by omega) (by omega) | exact wr_id (by omega) (by omega) | rfl)) | exact vq_gt rfl rfl | exact vq_le rfl rfl | exact vq_ge rfl rfl | (apply vq_isOp .mul; exact vq_mul rfl rfl (by first | exact wr_mul (by omega) | exact wr_id (by omega) (by omega) | rfl)) | (apply vq_isOp .or; exact vq_or rfl rfl (by rfl)) | (apply vq_isOp .and; exact vq_and rfl rfl (by rfl)) | (apply vq_isOp .xor; exact vq_xor rfl rfl (by rfl)) | (apply vq_isOp .shl; exact vq_shl rfl rfl (by omega) (by rfl)) | (apply vq_isOp .shr; exact vq_shr rfl rfl (by omega) (by rfl)) | (apply vq_isOp .quo; exact vq_quo rfl rfl (by decide) (by first | exact q8_i64 (by omega) | exact q2_u8 (by omega) | exact q4_i64 (by omega) | assumption | rfl)) | (apply vq_isOp .rem; exact vq_rem rfl rfl (by decide) (by first | exact r8 | exact r2 | exact r4 | exact r64 | assumption | rfl)) | exact vq_eqNil rfl rfl | exact vq_eqBool rfl rfl | (apply vq_isOp .eql; exact vq_eqB rfl rfl (by first | assumption | (simp; done)) (by first | assumption | (simp; done))) | (apply vq_isOp .neq; first | exact vq_neBool rfl rfl | exact vq_neB rfl rfl (by first | assumption | (simp; done)) (by first | assumption | (simp; done)))))) ?_) <;> (refine va_done (by kernel_rfl) ?_))
    repeat' (first | (refine go1 ?_; intros) | (refine goCC ?_ ?_ <;> (intro hb; (try simp only [hSQ] at hb); try (exfalso; omega))) | fail)
    refine ⟨L, sei _ _ _, ss[i].ls[k].a, ss[i].ls[k].c, ss[i].ls[k].xs, rfl, hx.symm, (sok.at k hkt).ts, fun M _ => ?_, rfl⟩
    exact (RdSs.at2 ‹RdSs w0 M ss› i hlt).out _ (List.getElem_mem hkt)
  · repeat' (first | (refine go1 ?_; intros) | (refine goCC ?_ ?_ <;> (intro hb; (try simp only [hSQ] at hb); try (exfalso; omega))) | fail)
    (refine v_draw0 [] (by kernel_rfl) ?_ <;> (refine tA 0 ?_) <;> (refine tA 1 ?_) <;> (refine tA 2 ?_) <;> (refine tA 3 ?_) <;> (refine tA 4 ?_) <;> (refine tA 5 ?_) <;> (refine tA 6 ?_) <;> (refine tA 7 ?_) <;> (refine tA 8 ?_) <;> (refine tA 9 ?_) <;> (refine va_take 10 rfl rfl rfl rfl (by kernel_rfl) (fun _ _ _ _ h => h) entD (by (first | (apply vq_isBin; first | (apply vq_isOp .neq; first | exact vq_neTxD rfl rfl (by assumption) (by assumption) (by assumption) | exact vq_neD rfl rfl (by first | assumption | (simp; done)) (by first | assumption | (simp; done)) (by assumption) | exact vq_neE' rfl rfl (by first | assumption | (simp; done)) (by first | assumption | (simp; done)) (by assumption)) | (apply vq_isOp .eql; first | exact vq_eqTxD rfl rfl (by assumption) (by assumption) (by assumption) | exact vq_eqTxE rfl rfl (by assumption) (by assumption) (by first | assumption | rfl) | exact vq_eqD rfl rfl (by first | assumption | (simp; done)) (by first | assumption | (simp; done)) (by assumption) | exact vq_eqE' rfl rfl (by first | assumption | (simp; done)) (by first | assumption | (simp; done)) (by assumption))) | (apply vq_isBin; first | exact vq_lt rfl rfl | exact vq_eq rfl rfl | exact vq_ne rfl rfl | (apply vq_isOp .add; exact vq_add rfl rfl (by first | exact wr_add (by omega) | exact wu_add (by omega) | exact wr_id (by omega) (by omega) | rfl)) | (apply vq_isOp .sub; exact vq_minus rfl rfl (by first | exact wr_sub (by omega) (by omega) | exact wu_sub (by omega) (by omega) | exact wr_id (by omega) (by omega) | rfl)) | exact vq_gt rfl rfl | exact vq_le rfl rfl | exact vq_ge rfl rfl | (apply vq_isOp .mul; exact vq_mul rfl rfl (by first | exact wr_mul (by omega) | exact wr_id (by omega) (by omega) | rfl)) | (apply vq_isOp .or; exact vq_or rfl rfl (by rfl)) | (apply vq_isOp .and; exact vq_and rfl rfl (by rfl)) | (apply vq_isOp .xor; exact vq_xor rfl rfl (by rfl)) | (apply vq_isOp .shl; exact vq_shl rfl rfl (by omega) (by rfl)) | (apply vq_isOp .shr; exact vq_shr rfl rfl (by omega) (by rfl)) | (apply vq_isOp .quo; exact vq_quo rfl rfl (by decide) (by first | exact q8_i64 (by omega) | exact q2_u8 (by omega) | exact q4_i64 (by omega) | assumption | rfl)) | (apply vq_isOp .rem; exact vq_rem rfl rfl (by decide) (by first | exact r8 | exact r2 | exact r4 | exact r64 | assumption | rfl)) | exact vq_eqNil rfl rfl | exact vq_eqBool rfl rfl | (apply vq_isOp .eql; exact vq_eqB rfl rfl (by first | assumption | (simp; done)) (by first | assumption | (simp; done))) | (apply vq_isOp .neq; first | exact vq_neBool rfl rfl | exact vq_neB rfl rfl (by first | assumption | (simp; done)) (by first | assumption | (simp; done)))))) ?_) <;> (refine va_done (by kernel_rfl) ?_))
    repeat' (first | (refine go1 ?_; intros) | (refine goCC ?_ ?_ <;> (intro hb; (try simp only [hSQ] at hb); try (exfalso; omega))) | fail)
    refine ⟨rfl, k + 1, ⟨by omega, fun j hj hji => ?_⟩, by omega, by (repeat' (first | exact Sub.nil _ | refine Sub.cons rfl rfl ?_ | refine Sub.cons rfl ?_ ?_)), sei _ _ _⟩
    by_cases e : j = k
    · subst e; exact hq
    · exact hno2 j hj (by omega)
theorem Any.six {ss : List Sh} {bs : List LC} {k : Nat} (h : Any (shl ss) bs k) (hk : k ≤ 8) : ∀ s ∈ ss, s.ls.length ≤ 900000 := fun s hs => by
  obtain ⟨i, hi, rfl⟩ := List.getElem_of_mem hs
  have hi2 : i < (shl ss).length := by rw [shl_length]; exact hi
  have h1 := (h.mayA.at' i hi2).1.few
  have h2 := cnt_le hi2
  have h3 := h.cnt
  have h4 := h.few
  rw [shl_at] at h1 h2
  rw [List.length_map] at h1
  omega
theorem Any.six1 {ts : List Sh} {cs : PC} {bs : List LC} {k : Nat} (h : Any cs bs k) (ht : shl ts = [bs]) (hk : k ≤ 8) : ∀ s ∈ ts, s.ls.length ≤ 900000 := fun s hs => by
  have : lls s.ls ∈ shl ts := List.mem_map.2 ⟨s, hs, rfl⟩
  rw [ht, List.mem_singleton] at this
  have h1 := MayC.few (show MayC bs from (h.mayB.at' 0 (by simp)).1)
  have h4 := h.few
  have h5 := congrArg List.length this
  rw [List.length_map] at h5
  omega
theorem submitO_ts' {ss : List Sh} (h : SsOk ss) (ns : List Nd) (r cap : Int) {x : Tx} (hx : x.ok) : TsOk (submitO (shl ss) ns r cap x).2.1 := by
  unfold submitO
  split
  · unfold turnO
    split
    · rename_i hi
      split
      · have hk : (atP (fromT x) (shl ss).length).toNat < (shl ss).length := by omega
        dsimp only
        rw [atC_eq hk, shl_at]
        exact submitS_ok (ms := []) (h.at _ (by have e := shl_length ss; omega)) hx
      · exact TsOk.nil
    · exact TsOk.nil
  · exact TsOk.nil
set_option maxRecDepth 100000 in
set_option maxHeartbeats 8000000 in
theorem poolAny_vc (w0 : World) (b : Option Addr) (d : Nat) (ns : List Nd) (r : Int) (e : Option Addr) (g : Nat) (xs : List Tx) (many : Int) (hkey : ∀ p ∈ ns, p.key.length = 32) (hnl : ns.length ≤ 9223372036854775807) {en : Nat} (hen : en = xs.length) (hx : ∀ x ∈ xs, x.ok) (hxl : xs.length ≤ 9223372036854775807) [hK : RdA w0 (some ⟨0, 0, none⟩) (wds K64)] [gr : RdA w0 b (ndc ns)] [gv : RdNs w0 [] ns] [er : RdA w0 e (txc xs)] :
    VC Tryd.prog w0 3 [.agg #[.slice b ns.length d, .int .i64 r], .slice e en g, .int .i64 many] [] fun u L' => u = .bool true := by
  subst hen
  refine vc_in rfl rfl ?_
  repeat' (first | (refine go1 ?_; intros) | (refine goCC ?_ ?_ <;> (intro hb; (try simp only [hSQ] at hb); try (exfalso; omega))) | fail)
  refine vl_o rfl (vo_call rfl rfl ?_)
  refine vc_mono (lalive21_vc w0 _) ?_
  rintro u L' ⟨rfl, rfl⟩
  repeat' (first | (refine go1 ?_; intros) | (refine goCC ?_ ?_ <;> (intro hb; (try simp only [hSQ] at hb); try (exfalso; omega))) | fail)
  refine vl_o rfl (vo_call rfl rfl ?_)
  refine vc_mono (pnew_vc w0 _ many) ?_
  rintro u L' ⟨a0, c0, s0, rfl, hs0, rfl⟩
  repeat' (first | (refine go1 ?_; intros) | (refine goCC ?_ ?_ <;> (intro hb; (try simp only [hSQ] at hb); try (exfalso; omega))) | fail)
  refine vl_o rfl (vo_call rfl rfl ?_)
  refine vc_mono (pnew_vc w0 _ 1) ?_
  rintro u L' ⟨a1, c1, t0, rfl, ht0, rfl⟩
  rw [if_pos (by decide), show (1 : Int).toNat = 1 from rfl] at ht0
  rw [show (if (1 : Int) ≤ 1 ∧ (1 : Int) ≤ 8 then (0 : Int) else 2) = 0 from rfl]
  repeat' (first | (refine go1 ?_; intros) | (refine goCC ?_ ?_ <;> (intro hb; (try simp only [hSQ] at hb); try (exfalso; omega))) | fail)
  refine vl_o rfl (vo_call rfl rfl ?_)
  refine vc_mono (great6_vc w0 _ b d ns r 600 rfl (by decide) hkey hnl) ?_
  rintro u L' ⟨b2, rfl, gg, rfl⟩
  cases b2
  rotate_left
  · repeat' (first | (refine go1 ?_; intros) | (refine goCC ?_ ?_ <;> (intro hb; (try simp only [hSQ] at hb); try (exfalso; omega))) | fail)
    exact rfl
  obtain ⟨hg1, hg2⟩ := gg rfl
  have hok : NsOk ns := ⟨hkey, fun p hp => by have := hg2 p hp; omega, by omega⟩
  by_cases h8 : xs.length ≤ 8
  rotate_left
  · repeat' (first | (refine go1 ?_; intros) | (refine goCC ?_ ?_ <;> (intro hb; (try simp only [hSQ] at hb); try (exfalso; omega))) | fail)
    all_goals first | (exfalso; omega) | exact rfl
  have hxs : TsOk xs := ⟨hx, by omega⟩
  repeat' (first | (refine go1 ?_; intros) | (refine goCC ?_ ?_ <;> (intro hb; (try simp only [hSQ] at hb); try (exfalso; omega))) | fail)
  all_goals first | (exfalso; omega) | skip
  refine vl_o rfl (vo_call rfl rfl ?_)
  refine vc_mono (acheck_vc w0 _ b d ns r rfl hok) ?_
  rintro u L' ⟨rfl, rfl⟩
  by_cases hst : StP ns r
  rotate_left
  · rw [if_neg hst]
    repeat' (first | (refine go1 ?_; intros) | (refine goCC ?_ ?_ <;> (intro hb; (try simp only [hSQ] at hb); try (exfalso; omega))) | fail)
    all_goals first | (exfalso; omega) | exact rfl
  rw [if_pos hst]
  by_cases hm : 1 ≤ many ∧ many ≤ 8
  rotate_left
  · rw [if_neg hm]
    repeat' (first | (refine go1 ?_; intros) | (refine goCC ?_ ?_ <;> (intro hb; (try simp only [hSQ] at hb); try (exfalso; omega))) | fail)
    all_goals first | (exfalso; omega) | exact rfl
  rw [if_pos hm] at hs0 ⊢
  obtain ⟨m, rfl⟩ : ∃ m : Nat, many = m := ⟨many.toNat, by omega⟩
  rw [Int.toNat_natCast] at hs0
  have hA0 : Any (shl s0) [] 0 := by rw [hs0, shl_rep]; exact any_zero (by omega) (by omega)
  have hB0 : shl t0 = [[]] := by rw [ht0, shl_rep]; rfl
  have hso0 : SsOk s0 := by rw [hs0]; exact sh_rep_ok m (by omega)
  have hto0 : SsOk t0 := by rw [ht0]; exact sh_rep_ok 1 (by decide)
  clear hs0 ht0
  repeat' (first | (refine go1 ?_; intros) | (refine goCC ?_ ?_ <;> (intro hb; (try simp only [hSQ] at hb); try (exfalso; omega))) | fail)
  all_goals first | (exfalso; omega) | skip
  rename_i g3
  refine v_loopF {z : Nat × (Option Addr × Nat × List Sh) × (Option Addr × Nat × List Sh) × List LC // z.1 ≤ xs.length ∧ Any (shl z.2.1.2.2) z.2.2.2 z.1 ∧ shl z.2.2.1.2.2 = [z.2.2.2] ∧ SsOk z.2.1.2.2 ∧ SsOk z.2.2.1.2.2} [1, 3, 7] rfl (fun z => [(12, .int .i64 z.1.1), (8, .slice z.1.2.1.1 z.1.2.1.2.2.length z.1.2.1.2.1), (10, .slice z.1.2.2.1.1 z.1.2.2.1.2.2.length z.1.2.2.1.2.1)]) (fun _ z => ownSs z.1.2.1.1 z.1.2.1.2.1 z.1.2.1.2.2 :: shA z.1.2.1.2.2 :: ownSs z.1.2.2.1.1 z.1.2.2.1.2.1 z.1.2.2.1.2.2 :: shA z.1.2.2.1.2.2 :: blk g3 24 [.slice b ns.length d, .int .i64 r] :: []) (fun z => True) (fun z => xs.length - z.1.1) ⟨(0, (a0, c0, s0), (a1, c1, t0), []), Nat.zero_le _, hA0, hB0, hso0, hto0⟩ trivial (by (repeat' (first | exact Sub.nil _ | refine Sub.cons rfl rfl ?_ | refine Sub.cons rfl ?_ ?_))) (sei _ _ _) ?_
  rintro ⟨⟨i, ⟨aA, cA, sA⟩, ⟨aB, cB, tB⟩, bs⟩, hi, hany, hB, hsA, htB⟩ -
  dsimp only at hi hany hB hsA htB ⊢
  by_cases hlt : i < xs.length
  · have el := hxs.el i hlt
    have hpos := hxs.pos i hlt
    have xok := hxs.at i hlt
    obtain ⟨q1, q2⟩ := any_step hany hst (cap := 64) (by omega) xs[i]
    have hgo := submitO_ts' hsA ns r 64 xok
    generalize xs[i] = x at *
    have hxcl := Tx.len xok
    haveI oxc : OC x.cells := oc_tx _
    obtain ⟨xc, hxc⟩ : ∃ xc, xc = x.cells := ⟨_, rfl⟩
    rw [← hxc] at el hxcl oxc
    repeat' (first | (refine go1 ?_; intros) | (refine goCC ?_ ?_ <;> (intro hb; (try simp only [hSQ] at hb); try (exfalso; omega))) | fail)
    (refine v_draw0 [] (by kernel_rfl) ?_ <;> (refine tA 0 ?_) <;> (refine tA 1 ?_) <;> (refine tA 2 ?_) <;> (refine tA 3 ?_) <;> (refine tA 4 ?_) <;> (refine tA 5 ?_))
    first | refine va_one 6 (by kernel_rfl) rfl rfl (vo_call rfl rfl ?_) | refine va_one 6 (by kernel_rfl) rfl rfl (vo_callV rfl rfl rfl ?_)
    rw [hxc]
    refine vc_mono (psubmit_vc w0 _ aA cA sA 64 b d ns r x rfl rfl hsA (hany.six (by omega)) hok xok) ?_
    rw [← hxc]
    rintro u L' ⟨a2, c2, m2, b2, d2, rfl, h2, k2, rfl⟩
    refine ⟨.inr entD, ?_⟩
    ((refine tA 7 ?_) <;> (refine tA 8 ?_) <;> (refine tA 9 ?_) <;> (refine tA 10 ?_) <;> (refine tA 11 ?_) <;> (refine tA 12 ?_) <;> (refine tA 13 ?_) <;> (refine va_done (by kernel_rfl) ?_))
    repeat' (first | (refine go1 ?_; intros) | (refine goCC ?_ ?_ <;> (intro hb; (try simp only [hSQ] at hb); try (exfalso; omega))) | fail)
    (refine v_draw0 [] (by kernel_rfl) ?_ <;> (refine tA 0 ?_) <;> (refine tA 1 ?_) <;> (refine tA 2 ?_) <;> (refine tA 3 ?_) <;> (refine tA 4 ?_) <;> (refine tA 5 ?_))
    first | refine va_one 6 (by kernel_rfl) rfl rfl (vo_call rfl rfl ?_) | refine va_one 6 (by kernel_rfl) rfl rfl (vo_callV rfl rfl rfl ?_)
    rw [hxc]
    refine vc_mono (psubmit_vc w0 _ aB cB tB 64 b d ns r x rfl rfl htB (hany.six1 hB (by omega)) hok xok) ?_
    rw [← hxc, hB]
    rintro u L' ⟨a3, c3, m3, b3, d3, rfl, h3, k3, rfl⟩
    rw [← q1]
    refine ⟨.inr entD, ?_⟩
    ((refine tA 7 ?_) <;> (refine tA 8 ?_) <;> (refine tA 9 ?_) <;> (refine tA 10 ?_) <;> (refine tA 11 ?_) <;> (refine tA 12 ?_) <;> (refine tA 13 ?_) <;> (refine va_done (by kernel_rfl) ?_))
    rw [← h2] at q2
    have q2 := q2
    generalize hgone : (submitO (shl sA) ns r 64 x).2 = Q at *
    obtain ⟨go, E⟩ := Q
    dsimp only at q2 hgo ⊢
    repeat' (first | (refine goE ?_; intros) | (refine goCC ?_ ?_ <;> (intro hb; (try simp only [hSQ] at hb); try (exfalso; omega))) | fail)
    refine vl_o rfl (vo_call rfl rfl ?_)
    refine vc_mono (rsameTs_vc w0 _ b2 d2 go b3 d3 go rfl rfl hgo hgo) ?_
    rintro u L' ⟨rfl, rfl⟩
    rw [decide_eq_true rfl]
    by_cases hE : E = 0
    · subst hE
      obtain ⟨bz, w1, w2, w3⟩ := q2 rfl
      rw [w1] at h3
      repeat' (first | (refine go1 ?_; intros) | (refine goCC ?_ ?_ <;> (intro hb; (try simp only [hSQ] at hb); try (exfalso; omega))) | fail)
      all_goals first | (exfalso; omega) | skip
      exact ⟨rfl, ⟨(i + 1, (a2, c2, m2), (a3, c3, m3), bz), by omega, w3, h3, k2, k3⟩, trivial, by dsimp only; omega, by (repeat' (first | exact Sub.nil _ | refine Sub.cons rfl rfl ?_ | refine Sub.cons rfl ?_ ?_)), sei _ _ _⟩
    · repeat' (first | (refine go1 ?_; intros) | (refine goCC ?_ ?_ <;> (intro hb; (try simp only [hSQ] at hb); try (exfalso; omega))) | fail)
      all_goals first | (exfalso; omega) | skip
      exact ⟨rfl, ⟨(i + 1, (aA, cA, sA), (aB, cB, tB), bs), by omega, ⟨hany.mayA, hany.mayB, hany.k2A, hany.k2B, hany.line, hany.cnt, Nat.le_succ_of_le hany.few⟩, hB, hsA, htB⟩, trivial, by dsimp only; omega, by (repeat' (first | exact Sub.nil _ | refine Sub.cons rfl rfl ?_ | refine Sub.cons rfl ?_ ?_)), sei _ _ _⟩
  obtain rfl : i = xs.length := by omega
  repeat' (first | (refine go1 ?_; intros) | (refine goCC ?_ ?_ <;> (intro hb; (try simp only [hSQ] at hb); try (exfalso; omega))) | fail)
  refine v_loopS Nat [1, 3, 7, 8, 10] rfl (fun i => [(19, .int .i64 i)]) (fun i => i ≤ xs.length) (fun i => xs.length - i) 0 (Nat.zero_le _) (by (repeat' (first | exact Sub.nil _ | refine Sub.cons rfl rfl ?_ | refine Sub.cons rfl ?_ ?_))) (fun i hi => ?_)
  by_cases hlt : i < xs.length
  · have el := hxs.el i hlt
    have hpos := hxs.pos i hlt
    have xok := hxs.at i hlt
    generalize xs[i] = x at *
    have hxcl := Tx.len xok
    have hfl := fromT_len x
    haveI oxc : OC x.cells := oc_tx _
    obtain ⟨xc, hxc⟩ : ∃ xc, xc = x.cells := ⟨_, rfl⟩
    rw [← hxc] at el hxcl oxc
    have e1 : lineC (shl sA).flatten (fromT x) = lineC bs (fromT x) := by
      rw [lineC_flat hany.mayA]
      exact hany.line _ hfl
    have e2 : lineC (shl tB).flatten (fromT x) = lineC bs (fromT x) := by
      rw [hB, List.flatten_singleton]
    repeat' (first | (refine go1 ?_; intros) | (refine goCC ?_ ?_ <;> (intro hb; (try simp only [hSQ] at hb); try (exfalso; omega))) | fail)
    refine vl_o rfl (vo_call rfl rfl ?_)
    rw [hxc]
    refine vc_mono (txFrom_vc w0 _ x xok) ?_
    rintro u L' ⟨rfl, rfl⟩
    rw [← hxc, show sha (tagB 3 [x.pub]) = fromT x from rfl]
    repeat' (first | (refine go1 ?_; intros) | (refine goCC ?_ ?_ <;> (intro hb; (try simp only [hSQ] at hb); try (exfalso; omega))) | fail)
    (refine v_draw0 [] (by kernel_rfl) ?_ <;> (refine tA 0 ?_) <;> (refine tA 1 ?_) <;> (refine tA 3 ?_) <;> (refine tA 4 ?_))
    first | refine va_one 2 (by kernel_rfl) rfl rfl (vo_call rfl rfl ?_) | refine va_one 2 (by kernel_rfl) rfl rfl (vo_callV rfl rfl rfl ?_)
    refine vc_mono (lline21_vc w0 _ aA cA sA (fromT x) hfl rfl hsA) ?_
    rintro u L' ⟨a4, c4, l4, rfl, h4, t4, r4, rfl⟩
    refine ⟨.inr entD, ?_⟩
    skip
    first | refine va_one 5 (by kernel_rfl) rfl rfl (vo_call rfl rfl ?_) | refine va_one 5 (by kernel_rfl) rfl rfl (vo_callV rfl rfl rfl ?_)
    refine vc_mono (lline21_vc w0 _ aB cB tB (fromT x) hfl rfl htB) ?_
    rintro u L' ⟨a5, c5, l5, rfl, h5, t5, r5, rfl⟩
    refine ⟨.inr entD, ?_⟩
    skip
    first | refine va_one 6 (by kernel_rfl) rfl rfl (vo_call rfl rfl ?_) | refine va_one 6 (by kernel_rfl) rfl rfl (vo_callV rfl rfl rfl ?_)
    haveI := fun M [k : RdSs w0 M sA] => r4 M
    haveI := fun M [k : RdSs w0 M tB] => r5 M
    refine vc_mono (rsameTs_vc w0 _ a4 c4 l4 a5 c5 l5 rfl rfl t4 t5) ?_
    rintro u L' ⟨rfl, rfl⟩
    rw [decide_eq_true (show l4 = l5 by rw [h4, h5, e1, e2])]
    refine ⟨.inr entD, ?_⟩
    ((refine tA 7 ?_) <;> (refine va_done (by kernel_rfl) ?_))
    repeat' (first | (refine go1 ?_; intros) | (refine goCC ?_ ?_ <;> (intro hb; (try simp only [hSQ] at hb); try (exfalso; omega))) | fail)
    exact ⟨rfl, i + 1, by omega, by omega, by (repeat' (first | exact Sub.nil _ | refine Sub.cons rfl rfl ?_ | refine Sub.cons rfl ?_ ?_)), sei _ _ _⟩
  obtain rfl : i = xs.length := by omega
  have n1 : cntS sA = cntC bs := by rw [← cntO_shl]; exact hany.cnt
  have n2 : cntS tB = cntC bs := by
    rw [← cntO_shl, hB]
    simp [cntO]
  have l1 : sA.length ≤ 8 := by have := hany.mayA.hi; rwa [shl_length] at this
  have l2 : tB.length ≤ 8 := by have := congrArg List.length hB; rw [shl_length] at this; simp at this; omega
  repeat' (first | (refine go1 ?_; intros) | (refine goCC ?_ ?_ <;> (intro hb; (try simp only [hSQ] at hb); try (exfalso; omega))) | fail)
  refine vl_o rfl (vo_call rfl rfl ?_)
  refine vc_mono (pcount_vc w0 _ aA cA sA rfl hsA (by omega)) ?_
  rintro u L' ⟨rfl, rfl⟩
  repeat' (first | (refine go1 ?_; intros) | (refine goCC ?_ ?_ <;> (intro hb; (try simp only [hSQ] at hb); try (exfalso; omega))) | fail)
  refine vl_o rfl (vo_call rfl rfl ?_)
  refine vc_mono (pcount_vc w0 _ aB cB tB rfl htB (by omega)) ?_
  rintro u L' ⟨rfl, rfl⟩
  rw [n1, n2]
  repeat' (first | (refine goE ?_; intros) | (refine goCC ?_ ?_ <;> (intro hb; (try simp only [hSQ] at hb); try (exfalso; omega))) | fail)
  exact rfl
end Go.Proofs.YtcpndfffdbogbaaDoor

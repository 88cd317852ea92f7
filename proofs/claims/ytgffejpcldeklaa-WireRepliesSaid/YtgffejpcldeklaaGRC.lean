/-
  Parts with their length; a proof's bytes (the program's). A proof is put into bytes (the program's). A proof is read (the program's).
-/
import Derived.Test.YtgffejpcldeklaaGRB
set_option linter.unusedVariables false
set_option linter.unusedSimpArgs false
set_option linter.unusedSectionVars false
set_option maxRecDepth 100000
set_option maxHeartbeats 4000000
namespace Go.Proofs.Ytgffejpcldeklaa
open Go Go.RowKit
open Classical

theorem putPart_vc (w0 : World) (L : List Asn) (a : Option Addr) (c : Nat) (v : List UInt8) {n : Nat} (hn : n = v.length) (hl : v.length ≤ 4096) [hr : RdC w0 L a (bvs v)] :
    VC Try.prog w0 48 [.slice a n c] L fun u L' => ∃ a' c', u = .tuple #[.slice a' (2 + v.length) c', .int .i64 0] ∧ L' = ownB a' c' (digs v.length 2 ++ v) :: L := by
  obtain ⟨N, hN⟩ : ∃ N, N = v.length := ⟨_, rfl⟩
  rw [← hN] at hn hl ⊢
  subst hn
  have h2 := digs_length n 2
  refine vc_ent ?_
  refine vc_in rfl rfl ?_
  repeat' (first | (refine go1 ?_; intros) | (refine goCC ?_ ?_ <;> (intro hb; (try simp only [hSQ] at hb); try (exfalso; omega))) | fail)
  all_goals first | (exfalso; omega) | skip
  refine clV ?_
  refine vc_mono (put_vc w0 _ n 2 (by decide) (by decide) (by omega)) ?_
  rintro u L' ⟨a2, c2, rfl, rfl⟩
  rw [show ownB a2 c2 (digs n 2) = own 5 1 a2 2 c2 (bvs (digs n 2)) by unfold ownB; rw [h2]]
  generalize digs n 2 = D at *
  have hv1 : (bvs v).length = n * 1 := by rw [bvs_length, ← hN, Nat.mul_one]
  repeat' (first | (refine go1 ?_; intros) | (refine goCC ?_ ?_ <;> (intro hb; (try simp only [hSQ] at hb); try (exfalso; omega))) | fail)
  rename_i a3 c3 _ _
  refine ⟨ownB a3 c3 (D ++ v) :: L, ?_, a3, c3, rfl, rfl⟩
  unfold ownB
  rw [List.length_append, h2, ← hN, bvs_append]
  exact sei _ _ _
/-- What is told of a part with its length: the part, and what is left, in one new memory. -/
def RTake (w0 : World) (X : List UInt8) (L : List Asn) (u : Value) (L' : List Asn) : Prop := ∃ a c b d Z, u = .tuple #[.slice a (takeP X).1.length (takeP X).1.length, .slice b (takeP X).2.1.length d, .int .i64 (takeP X).2.2] ∧ (takeP X).2.1.length ≤ d ∧ (∀ M, RdC w0 (ownB a c Z :: M) b (bvs (takeP X).2.1)) ∧ Z.take (takeP X).1.length = (takeP X).1 ∧ (takeP X).1.length ≤ Z.length ∧ Z.length ≤ c ∧ L' = ownB a c Z :: L
theorem RTake.bad (w0 : World) {X : List UInt8} {e : Int} (h : takeP X = ([], [], e)) (L : List Asn) {M : List Asn} (k : Ent w0 M L) : ∃ L', Ent w0 M L' ∧ RTake w0 X L (.tuple #[.slice none 0 0, .slice none 0 0, .int .i64 e]) L' := by
  refine ⟨ownB none 0 [] :: L, k.trans ((se_own_nil 5 1 L).ent w0), none, 0, none, 0, [], ?_⟩
  rw [h]
  exact ⟨rfl, Nat.le_refl _, fun M => rdC_nil _ _ _, rfl, Nat.le_refl _, Nat.le_refl _, rfl⟩
theorem takePart_vc (w0 : World) (L : List Asn) (a : Option Addr) (c : Nat) (X : List UInt8) {n : Nat} (hn : n = X.length) (hc : X.length ≤ c) (hl : X.length ≤ 1000000) [hr : RdC w0 L a (bvs X)] :
    VC Try.prog w0 61 [.slice a n c] L (RTake w0 X L) := by
  subst hn
  refine vc_ent ?_
  refine vc_in rfl rfl ?_
  by_cases h2 : X.length < 2
  · have e : takeP X = ([], [], 10) := if_pos h2
    repeat' (first | (refine go1 ?_; intros) | (refine goCC ?_ ?_ <;> (intro hb; (try simp only [hSQ] at hb); try (exfalso; omega))) | fail)
    refine clV ?_
    refine vc_mono (take_short_vc w0 _ a c X 2 rfl (by decide) (by decide) h2) ?_
    rintro u L' ⟨rfl, hL⟩
    obtain rfl := hL.symm
    repeat' (first | (refine go1 ?_; intros) | (refine goCC ?_ ?_ <;> (intro hb; (try simp only [hSQ] at hb); try (exfalso; omega))) | fail)
    exact RTake.bad w0 e L (sei _ _ _)
  repeat' (first | (refine go1 ?_; intros) | (refine goCC ?_ ?_ <;> (intro hb; (try simp only [hSQ] at hb); try (exfalso; omega))) | fail)
  refine clV ?_
  refine vc_mono (take_vc w0 _ a c X 2 rfl (by decide) (by decide) (by omega) hc (by omega)) ?_
  rintro u L' ⟨a2, c2, hc2, rfl, rfl⟩
  have hnl : numOf (X.take 2) < 18446744073709551616 := numOf_lt _
  obtain ⟨N, hN⟩ : ∃ N, N = numOf (X.take 2) := ⟨_, rfl⟩
  have hdl : (X.drop 2).length = X.length - 2 := List.length_drop
  rw [← hN] at hnl ⊢
  by_cases h4 : 4096 < N
  · have e : takeP X = ([], [], 4) := by
      unfold takeP
      rw [if_neg h2, if_pos (by omega)]
    repeat' (first | (refine go1 ?_; intros) | (refine goCC ?_ ?_ <;> (intro hb; (try simp only [hSQ] at hb); try (exfalso; omega))) | fail)
    all_goals first | (exfalso; omega) | exact RTake.bad w0 e L (sei _ _ _)
  by_cases h5 : X.length - 2 < N
  · have e : takeP X = ([], [], 10) := by
      unfold takeP
      rw [if_neg h2, if_neg (by omega), if_pos (by omega)]
    repeat' (first | (refine go1 ?_; intros) | (refine goCC ?_ ?_ <;> (intro hb; (try simp only [hSQ] at hb); try (exfalso; omega))) | fail)
    all_goals first | (exfalso; omega) | exact RTake.bad w0 e L (sei _ _ _)
  have e : takeP X = ((X.drop 2).take N, (X.drop 2).drop N, 0) := by
    unfold takeP
    rw [if_neg h2, if_neg (by omega), if_neg (by omega), hN]
  have l1 : ((X.drop 2).take N).length = N := by rw [List.length_take]; omega
  have l2 : ((X.drop 2).drop N).length = X.length - 2 - N := by rw [List.length_drop]; omega
  generalize X.drop 2 = Z at *
  repeat' (first | (refine go1 ?_; intros) | (refine goCC ?_ ?_ <;> (intro hb; (try simp only [hSQ] at hb); try (exfalso; omega))) | fail)
  all_goals first | (exfalso; omega) | skip
  (refine v_draw0 [] (by kernel_rfl) ?_ <;> (refine tA 0 ?_) <;> (refine tA 1 ?_) <;> (refine tA 2 ?_) <;> (refine tA 3 ?_) <;> (refine tA 4 ?_) <;> (refine tA 5 ?_) <;> (refine tA 6 ?_) <;> (refine tA 7 ?_) <;> (refine tA 8 ?_) <;> (refine tA 9 ?_) <;> (refine va_done (by kernel_rfl) ?_))
  repeat' (first | (refine go1 ?_; intros) | (refine goCC ?_ ?_ <;> (intro hb; (try simp only [hSQ] at hb); try (exfalso; omega))) | fail)
  refine ⟨ownB a2 c2 Z :: L, sei _ _ _, a2, c2, subA a2 N c2 1, c2 - N, Z, ?_⟩
  rw [e]
  dsimp only
  rw [l1, l2]
  refine ⟨?_, by omega, fun M => ?_, rfl, by omega, by omega, rfl⟩
  · rw [subA_zero]; rfl
  · exact rd_drop N c2 (by omega)
/-- A proof's key and kind, at a place. -/
def keyG (g off e : Nat) : List (PK (Prf × Nat)) := [.dig g (off + 0) sK, .num e 0 1 2 sE]
theorem keyG_fold (g off e : Nat) (s : RG (Prf × Nat)) : PK.fold (keyG g off e) s = PK.fold (keyP 0 0) s := rfl
theorem wproofs_vc (w0 : World) (L : List Asn) (g off e : Nat) :
    VC Try.prog w0 47 [.pointer (some ⟨g, off, none⟩), .pointer (some ⟨e, 0, none⟩)] L fun v L' => ∃ ap cp, v = .slice ap (keyG g off e).length cp ∧ L' = ownG ap cp (keyG g off e) :: L := by
  refine vc_ent ?_
  refine vc_in rfl rfl ?_
  repeat' (first | (refine go1 ?_; intros) | (refine goCC ?_ ?_ <;> (intro hb; (try simp only [hSQ] at hb); try (exfalso; omega))) | fail)
  refine vl_q rfl rfl rfl rfl (vq_mkIface rfl) ?_
  repeat' (first | (refine go1 ?_; intros) | (refine goCC ?_ ?_ <;> (intro hb; (try simp only [hSQ] at hb); try (exfalso; omega))) | fail)
  refine vl_q rfl rfl rfl rfl (vq_mkIface rfl) ?_
  repeat' (first | (refine go1 ?_; intros) | (refine goCC ?_ ?_ <;> (intro hb; (try simp only [hSQ] at hb); try (exfalso; omega))) | fail)
  exact ⟨_, Ent.refl _ _, _, _, rfl, rfl⟩
end Go.Proofs.Ytgffejpcldeklaa
namespace Go.Proofs.Ytgffejpcldeklaa
open Go Go.RowKit
open Classical

/-- What stands ahead of a proof's sides. -/
def prfA (p : Prf) : List UInt8 := p.key ++ (UInt8.ofNat p.kind :: ((if p.kind = 2 then p.other else []) ++ (if p.kind ≠ 0 then digs p.vl.length 2 ++ p.vl else [])))
theorem prfB_A (p : Prf) : prfB p = (prfA p ++ digs p.pl.length 2) ++ p.pl.flatten := by simp [prfB, prfA]
theorem prfA_len {p : Prf} (h : p.ok) (hv : p.vl.length ≤ 4096) : (prfA p).length ≤ 5000 := by
  unfold prfA
  have := h.key
  have := h.other
  split <;> split <;> simp [*] <;> omega
theorem wputProof_vc (w0 : World) (L : List Asn) (p : Prf) (h : p.ok) (hvl : p.vl.length ≤ 4096) (hpl : p.pl.length ≤ 65535) [hr : RdC w0 L p.va (bvs p.vl)] [hr2 : RdC w0 L p.pa (bvs p.pl.flatten)] :
    VC Try.prog w0 17 [.agg p.cells.toArray] L fun v L' => ∃ a' c', v = .slice a' (prfB p).length c' ∧ L' = ownB a' c' (prfB p) :: L := by
  have f0 := Prf.f0 h
  have f1 := Prf.f1 h
  have f2 := Prf.f2 h
  have f3 := Prf.f3 h
  have f4 := Prf.f4 h
  have hlk := h.key
  have hlo := h.other
  have hdg := h.dg
  have hkd := h.kind
  have hAl := prfA_len h hvl
  have hA : prfA p = p.key ++ (UInt8.ofNat p.kind :: ((if p.kind = 2 then p.other else []) ++ (if p.kind ≠ 0 then digs p.vl.length 2 ++ p.vl else []))) := rfl
  rw [prfB_A]
  refine vc_ent ?_
  refine vc_in rfl rfl ?_
  generalize hcs : p.cells = cs at *
  have hcl : cs.length = 67 := by rw [← hcs]; exact Prf.len h
  repeat' (first | (refine go1 ?_; intros) | (refine goCC ?_ ?_ <;> (intro hb; (try simp only [hSQ] at hb); try (exfalso; omega))) | fail)
  rename_i gp ge
  refine clV ?_
  refine vc_mono (wproofs_vc w0 _ gp 0 ge) ?_
  rintro v L' ⟨ap, cp, rfl, rfl⟩
  repeat' (first | (refine go1 ?_; intros) | (refine goCC ?_ ?_ <;> (intro hb; (try simp only [hSQ] at hb); try (exfalso; omega))) | fail)
  refine clV ?_
  refine vc_pre (L2 := ownB none 0 [] :: ownG ap cp (keyG gp 0 ge) :: ([blk ge 3 [.int .i64 p.kind], blk gp 33 cs] ++ L)) ?_ ?_
  · exact (se_own_nil 5 1 _).ent w0
  refine vc_mono (kput_vc w0 L [blk ge 3 [.int .i64 p.kind], blk gp 33 cs] none 0 [] ap cp (keyG gp 0 ge) [p.key, digs p.kind 1] rfl ?_ (by decide) (by show 2 ≤ 10; decide) rfl rfl) ?_
  · intro i h1 h2
    have hi : i = 0 ∨ i = 1 := by
      have : i < 2 := h2
      omega
    rcases hi with rfl | rfl
    · exact ⟨1, _, cs, ⟨rfl⟩, f0, hlk⟩
    · exact ⟨0, _, _, p.kind, ⟨rfl⟩, rfl, by omega, .inl ⟨by decide, by decide, by show p.kind < 256 ^ 1; omega, rfl⟩⟩
  rintro v L' ⟨a1, c1, rfl, rfl⟩
  rw [show [] ++ [p.key, digs p.kind 1].flatten = p.key ++ [UInt8.ofNat p.kind] by rw [digs_one]; simp]
  obtain ⟨K, hK⟩ : ∃ K, K = p.key ++ [UInt8.ofNat p.kind] := ⟨_, rfl⟩
  have hKl : K.length = 33 := by rw [hK]; simp [hlk]
  rw [← hK]
  have hA' : prfA p = K ++ ((if p.kind = 2 then p.other else []) ++ (if p.kind ≠ 0 then digs p.vl.length 2 ++ p.vl else [])) := by rw [hA, hK]; simp
  dsimp only [List.cons_append, List.nil_append]
  rw [hA'] at hAl
  by_cases k0 : p.kind = 0
  · rw [if_neg (by omega), if_neg (by omega), List.append_nil, List.append_nil] at hA' hAl
    rw [hA']
    generalize K = T at *
    repeat' (first | (refine go1 ?_; intros) | (refine goCC ?_ ?_ <;> (intro hb; (try simp only [hSQ] at hb); try (exfalso; omega))) | fail)
    all_goals first | (exfalso; omega) | skip
    have hdl := digs_length p.pl.length 2
    repeat' (first | (refine go1 ?_; intros) | (refine goCC ?_ ?_ <;> (intro hb; (try simp only [hSQ] at hb); try (exfalso; omega))) | fail)
    refine clV ?_
    refine vc_mono (put_vc w0 _ p.pl.length 2 (by decide) (by decide) (by omega)) ?_
    rintro v L' ⟨a4, c4, rfl, rfl⟩
    rw [show ownB a4 c4 (digs p.pl.length 2) = own 5 1 a4 2 c4 (bvs (digs p.pl.length 2)) by unfold ownB; rw [hdl]]
    generalize digs p.pl.length 2 = D at *
    repeat' (first | (refine go1 ?_; intros) | (refine goCC ?_ ?_ <;> (intro hb; (try simp only [hSQ] at hb); try (exfalso; omega))) | fail)
    rename_i a5 c5 _ _
    rw [← own_app a5 c5 T D 2 hdl]
    have hTD : (T ++ D).length = T.length + 2 := by rw [List.length_append, hdl]
    refine v_loopF (Nat × Option Addr × Nat) [1, 47, 48] rfl (fun x => [(49, .int .i64 x.1), (4, .slice x.2.1 ((T ++ D) ++ (p.pl.take x.1).flatten).length x.2.2)]) (fun _ x => ownB x.2.1 x.2.2 ((T ++ D) ++ (p.pl.take x.1).flatten) :: L) (fun x => x.1 ≤ p.pl.length) (fun x => p.pl.length - x.1) (0, a5, c5) (Nat.zero_le _) ?_ ?_ ?_
    · simp only [List.take_zero, List.flatten_nil, List.append_nil]
      rw [hTD]
      (exact sbS)
    · simp only [List.take_zero, List.flatten_nil, List.append_nil]
      exact sei _ _ _
    rintro ⟨i, a6, c6⟩ hi
    dsimp only at hi ⊢
    by_cases hlt : i < p.pl.length
    rotate_left
    · obtain rfl : i = p.pl.length := by omega
      rw [List.take_length]
      repeat' (first | (refine go1 ?_; intros) | (refine goCC ?_ ?_ <;> (intro hb; (try simp only [hSQ] at hb); try (exfalso; omega))) | fail)
      exact ⟨_, sei _ _ _, a6, c6, rfl, rfl⟩
    have hst : (T ++ D) ++ (p.pl.take (i + 1)).flatten = ((T ++ D) ++ (p.pl.take i).flatten) ++ p.pl[i] := by rw [flat_take hlt, ← List.append_assoc (T ++ D)]
    have hbn : ((p.pl.take i).flatten).length ≤ i * 32 := by
      rw [Dg.len (fun x hx => hdg x (List.mem_of_mem_take hx)), List.length_take]
      exact Nat.mul_le_mul_right _ (Nat.min_le_left _ _)
    have hGl : ((T ++ D) ++ (p.pl.take i).flatten).length ≤ 3000000 := by
      rw [List.length_append]
      omega
    have hgx := hdg.bat i hlt
    have hx32 := hdg _ (List.getElem_mem hlt)
    have hfx := hdg.len
    have hpx : 0 < p.pl.flatten.length := by omega
    generalize (T ++ D) ++ (p.pl.take i).flatten = G at *
    generalize p.pl[i] = S at *
    repeat' (first | (refine go1 ?_; intros) | (refine goCC ?_ ?_ <;> (intro hb; (try simp only [hSQ] at hb); try (exfalso; omega))) | fail)
    rename_i a7 c7 _ _
    refine ⟨rfl, (i + 1, a7, c7), by dsimp only; omega, by dsimp only; omega, ?_, ?_⟩
    · dsimp only
      rw [hst, List.length_append, hx32]
      (exact sbS)
    · dsimp only
      rw [hst, own_app a7 c7 G _ _ hx32]
      exact sei _ _ _
  have hp2 := digs_length p.vl.length 2
  by_cases k2 : p.kind = 2
  · rw [if_pos k2, if_pos (by omega)] at hA' hAl
    rw [hA']
    haveI r1 : RdC w0 (blk gp 33 cs :: L) (some ⟨gp, 0 + 33, none⟩) (bvs p.other) := rdC_part (0 + 33) 32 f2
    have hol2 : p.other.length = 32 * 1 := hlo
    repeat' (first | (refine go1 ?_; intros) | (refine goCC ?_ ?_ <;> (intro hb; (try simp only [hSQ] at hb); try (exfalso; omega))) | fail)
    all_goals first | (exfalso; omega) | skip
    rename_i a3 c3 _ _
    rw [← own_app a3 c3 K p.other 32 hlo]
    have hKo : (K ++ p.other).length = K.length + 32 := by rw [List.length_append, hlo]
    rw [← List.append_assoc] at hAl ⊢
    rw [← hKo]
    generalize K ++ p.other = K2 at *
    refine clV ?_
    refine vc_mono (putPart_vc w0 _ p.va p.vc p.vl rfl hvl) ?_
    rintro v L' ⟨a4, c4, rfl, rfl⟩
    have hXl : (digs p.vl.length 2 ++ p.vl).length = 2 + p.vl.length := by rw [List.length_append, hp2]
    generalize digs p.vl.length 2 ++ p.vl = X at *
    have hTl : (K2 ++ X).length = K2.length + (2 + p.vl.length) := by rw [List.length_append, hXl]
    repeat' (first | (refine go1 ?_; intros) | (refine goCC ?_ ?_ <;> (intro hb; (try simp only [hSQ] at hb); try (exfalso; omega))) | fail)
    rename_i a5 c5 _ _
    rw [← own_app a5 c5 K2 X (2 + p.vl.length) hXl, ← hTl]
    generalize K2 ++ X = T at *
    have hdl := digs_length p.pl.length 2
    repeat' (first | (refine go1 ?_; intros) | (refine goCC ?_ ?_ <;> (intro hb; (try simp only [hSQ] at hb); try (exfalso; omega))) | fail)
    refine clV ?_
    refine vc_mono (put_vc w0 _ p.pl.length 2 (by decide) (by decide) (by omega)) ?_
    rintro v L' ⟨a4, c4, rfl, rfl⟩
    rw [show ownB a4 c4 (digs p.pl.length 2) = own 5 1 a4 2 c4 (bvs (digs p.pl.length 2)) by unfold ownB; rw [hdl]]
    generalize digs p.pl.length 2 = D at *
    repeat' (first | (refine go1 ?_; intros) | (refine goCC ?_ ?_ <;> (intro hb; (try simp only [hSQ] at hb); try (exfalso; omega))) | fail)
    rename_i a5 c5 _ _
    rw [← own_app a5 c5 T D 2 hdl]
    have hTD : (T ++ D).length = T.length + 2 := by rw [List.length_append, hdl]
    refine v_loopF (Nat × Option Addr × Nat) [1, 47, 48] rfl (fun x => [(49, .int .i64 x.1), (4, .slice x.2.1 ((T ++ D) ++ (p.pl.take x.1).flatten).length x.2.2)]) (fun _ x => ownB x.2.1 x.2.2 ((T ++ D) ++ (p.pl.take x.1).flatten) :: L) (fun x => x.1 ≤ p.pl.length) (fun x => p.pl.length - x.1) (0, a5, c5) (Nat.zero_le _) ?_ ?_ ?_
    · simp only [List.take_zero, List.flatten_nil, List.append_nil]
      rw [hTD]
      (exact sbS)
    · simp only [List.take_zero, List.flatten_nil, List.append_nil]
      exact sei _ _ _
    rintro ⟨i, a6, c6⟩ hi
    dsimp only at hi ⊢
    by_cases hlt : i < p.pl.length
    rotate_left
    · obtain rfl : i = p.pl.length := by omega
      rw [List.take_length]
      repeat' (first | (refine go1 ?_; intros) | (refine goCC ?_ ?_ <;> (intro hb; (try simp only [hSQ] at hb); try (exfalso; omega))) | fail)
      exact ⟨_, sei _ _ _, a6, c6, rfl, rfl⟩
    have hst : (T ++ D) ++ (p.pl.take (i + 1)).flatten = ((T ++ D) ++ (p.pl.take i).flatten) ++ p.pl[i] := by rw [flat_take hlt, ← List.append_assoc (T ++ D)]
    have hbn : ((p.pl.take i).flatten).length ≤ i * 32 := by
      rw [Dg.len (fun x hx => hdg x (List.mem_of_mem_take hx)), List.length_take]
      exact Nat.mul_le_mul_right _ (Nat.min_le_left _ _)
    have hGl : ((T ++ D) ++ (p.pl.take i).flatten).length ≤ 3000000 := by
      rw [List.length_append]
      omega
    have hgx := hdg.bat i hlt
    have hx32 := hdg _ (List.getElem_mem hlt)
    have hfx := hdg.len
    have hpx : 0 < p.pl.flatten.length := by omega
    generalize (T ++ D) ++ (p.pl.take i).flatten = G at *
    generalize p.pl[i] = S at *
    repeat' (first | (refine go1 ?_; intros) | (refine goCC ?_ ?_ <;> (intro hb; (try simp only [hSQ] at hb); try (exfalso; omega))) | fail)
    rename_i a7 c7 _ _
    refine ⟨rfl, (i + 1, a7, c7), by dsimp only; omega, by dsimp only; omega, ?_, ?_⟩
    · dsimp only
      rw [hst, List.length_append, hx32]
      (exact sbS)
    · dsimp only
      rw [hst, own_app a7 c7 G _ _ hx32]
      exact sei _ _ _
  rw [if_neg k2, if_pos (by omega), List.nil_append] at hA' hAl
  rw [hA']
  repeat' (first | (refine go1 ?_; intros) | (refine goCC ?_ ?_ <;> (intro hb; (try simp only [hSQ] at hb); try (exfalso; omega))) | fail)
  all_goals first | (exfalso; omega) | skip
  refine clV ?_
  refine vc_mono (putPart_vc w0 _ p.va p.vc p.vl rfl hvl) ?_
  rintro v L' ⟨a4, c4, rfl, rfl⟩
  have hXl : (digs p.vl.length 2 ++ p.vl).length = 2 + p.vl.length := by rw [List.length_append, hp2]
  generalize digs p.vl.length 2 ++ p.vl = X at *
  have hTl : (K ++ X).length = K.length + (2 + p.vl.length) := by rw [List.length_append, hXl]
  repeat' (first | (refine go1 ?_; intros) | (refine goCC ?_ ?_ <;> (intro hb; (try simp only [hSQ] at hb); try (exfalso; omega))) | fail)
  rename_i a3 c3 _ _
  rw [← own_app a3 c3 K X (2 + p.vl.length) hXl, ← hTl]
  generalize K ++ X = T at *
  have hdl := digs_length p.pl.length 2
  repeat' (first | (refine go1 ?_; intros) | (refine goCC ?_ ?_ <;> (intro hb; (try simp only [hSQ] at hb); try (exfalso; omega))) | fail)
  refine clV ?_
  refine vc_mono (put_vc w0 _ p.pl.length 2 (by decide) (by decide) (by omega)) ?_
  rintro v L' ⟨a4, c4, rfl, rfl⟩
  rw [show ownB a4 c4 (digs p.pl.length 2) = own 5 1 a4 2 c4 (bvs (digs p.pl.length 2)) by unfold ownB; rw [hdl]]
  generalize digs p.pl.length 2 = D at *
  repeat' (first | (refine go1 ?_; intros) | (refine goCC ?_ ?_ <;> (intro hb; (try simp only [hSQ] at hb); try (exfalso; omega))) | fail)
  rename_i a5 c5 _ _
  rw [← own_app a5 c5 T D 2 hdl]
  have hTD : (T ++ D).length = T.length + 2 := by rw [List.length_append, hdl]
  refine v_loopF (Nat × Option Addr × Nat) [1, 47, 48] rfl (fun x => [(49, .int .i64 x.1), (4, .slice x.2.1 ((T ++ D) ++ (p.pl.take x.1).flatten).length x.2.2)]) (fun _ x => ownB x.2.1 x.2.2 ((T ++ D) ++ (p.pl.take x.1).flatten) :: L) (fun x => x.1 ≤ p.pl.length) (fun x => p.pl.length - x.1) (0, a5, c5) (Nat.zero_le _) ?_ ?_ ?_
  · simp only [List.take_zero, List.flatten_nil, List.append_nil]
    rw [hTD]
    (exact sbS)
  · simp only [List.take_zero, List.flatten_nil, List.append_nil]
    exact sei _ _ _
  rintro ⟨i, a6, c6⟩ hi
  dsimp only at hi ⊢
  by_cases hlt : i < p.pl.length
  rotate_left
  · obtain rfl : i = p.pl.length := by omega
    rw [List.take_length]
    repeat' (first | (refine go1 ?_; intros) | (refine goCC ?_ ?_ <;> (intro hb; (try simp only [hSQ] at hb); try (exfalso; omega))) | fail)
    exact ⟨_, sei _ _ _, a6, c6, rfl, rfl⟩
  have hst : (T ++ D) ++ (p.pl.take (i + 1)).flatten = ((T ++ D) ++ (p.pl.take i).flatten) ++ p.pl[i] := by rw [flat_take hlt, ← List.append_assoc (T ++ D)]
  have hbn : ((p.pl.take i).flatten).length ≤ i * 32 := by
    rw [Dg.len (fun x hx => hdg x (List.mem_of_mem_take hx)), List.length_take]
    exact Nat.mul_le_mul_right _ (Nat.min_le_left _ _)
  have hGl : ((T ++ D) ++ (p.pl.take i).flatten).length ≤ 3000000 := by
    rw [List.length_append]
    omega
  have hgx := hdg.bat i hlt
  have hx32 := hdg _ (List.getElem_mem hlt)
  have hfx := hdg.len
  have hpx : 0 < p.pl.flatten.length := by omega
  generalize (T ++ D) ++ (p.pl.take i).flatten = G at *
  generalize p.pl[i] = S at *
  repeat' (first | (refine go1 ?_; intros) | (refine goCC ?_ ?_ <;> (intro hb; (try simp only [hSQ] at hb); try (exfalso; omega))) | fail)
  rename_i a7 c7 _ _
  refine ⟨rfl, (i + 1, a7, c7), by dsimp only; omega, by dsimp only; omega, ?_, ?_⟩
  · dsimp only
    rw [hst, List.length_append, hx32]
    (exact sbS)
  · dsimp only
    rw [hst, own_app a7 c7 G _ _ hx32]
    exact sei _ _ _
end Go.Proofs.Ytgffejpcldeklaa
namespace Go.Proofs.Ytgffejpcldeklaa
open Go Go.RowKit
open Classical

/-! ### A reply's cells about its proof -/
def preP (r : Rp) : List Value := .int .u8 (r.kind.toNat : Nat) :: .int .i64 r.code :: .int .i64 r.height :: (bvs r.dig ++ (.int .u64 r.nonce :: .int .u64 r.bal :: r.rc.cells))
def postP (r : Rp) : List Value := .int .i64 r.sub :: .bool r.gap :: r.ev.cells
theorem preP_len {r : Rp} (h : r.ok) : (preP r).length = 71 := by simp [preP, h.dig, Rec.len h.rc]
theorem sxP_cells (r : Rp) (p : Prf) : (sxP r p).cells = preP r ++ (p.cells ++ postP r) := by simp [Rp.cells, sxP, preP, postP]
theorem splice_in {α : Type} (pre c post ys : List α) (i off : Nat) (hi : pre.length = i) (hl : off + ys.length ≤ c.length) : splice (pre ++ (c ++ post)) (i + off) ys = pre ++ (splice c off ys ++ post) := by
  subst hi
  have e : c = c.take off ++ ((c.drop off).take ys.length ++ c.drop (off + ys.length)) := by
    rw [← List.drop_drop, List.take_append_drop, List.take_append_drop]
  have l1 : (c.take off).length = off := by rw [List.length_take]; omega
  have l2 : ((c.drop off).take ys.length).length = ys.length := by rw [List.length_take, List.length_drop]; omega
  generalize c.take off = A at *
  generalize (c.drop off).take ys.length = B at *
  generalize c.drop (off + ys.length) = C at *
  subst e
  rw [splice_mid A B C ys off l1 l2.symm]
  have := splice_mid (pre ++ A) B (C ++ post) ys (pre.length + off) (by rw [List.length_append, l1]) l2.symm
  simp only [List.append_assoc] at this ⊢
  exact this
theorem sxP_set {r : Rp} (h : r.ok) {p p' : Prf} (o : p.ok) {off : Nat} {ys : List Value} (hs : splice p.cells off ys = p'.cells) (hl : off + ys.length ≤ 67) : splice (sxP r p).cells (0 + 71 + off) ys = (sxP r p').cells := by
  rw [sxP_cells, sxP_cells, ← hs, Nat.zero_add]
  exact splice_in _ _ _ _ _ _ (preP_len h) (by rw [Prf.len o]; exact hl)
theorem sxP_get {r : Rp} (h : r.ok) {p : Prf} (o : p.ok) {off : Nat} {x : Value} (hx : p.cells[0 + off]? = some x) (hl : off < 67) : (sxP r p).cells[0 + 71 + off]? = some x := by
  rw [sxP_cells, Nat.zero_add, List.getElem?_append_right (by rw [preP_len h]; omega), preP_len h, Nat.add_sub_cancel_left, List.getElem?_append_left (by rw [Prf.len o]; exact hl)]
  rwa [Nat.zero_add] at hx
/-- A proof, with the places of its value and its sides. -/
def Prf.pv (p : Prf) (a : Option Addr) (c : Nat) (b : Option Addr) (d : Nat) : Prf := ⟨p.key, p.kind, p.other, a, c, p.vl, b, d, p.pl⟩
section
variable {p : Prf} (o : p.ok)
include o
theorem Prf.sKey {d : List UInt8} (hd : d.length = 32) : splice p.cells 0 (bvs d) = (p.wKey d).cells := setL (pre := []) (xs := bvs p.key) rfl rfl (by simp [hd, o.key]) rfl
theorem Prf.sKind (k : Nat) : splice p.cells 32 [.int .u8 k] = (p.wKind k).cells := setL (pre := bvs p.key) (xs := [_]) rfl (by simp [o.key]) rfl rfl
theorem Prf.sOther {d : List UInt8} (hd : d.length = 32) : splice p.cells 33 (bvs d) = (p.wOther d).cells := setL (pre := bvs p.key ++ [.int .u8 p.kind]) (xs := bvs p.other) (post := [.slice p.va p.vl.length p.vc, .slice p.pa p.pl.length p.pc]) (by simp [Prf.cells]) (by simp [o.key]) (by simp [hd, o.other]) (by simp [Prf.cells, Prf.wOther])
theorem Prf.sVal (a : Option Addr) (v : List UInt8) (c : Nat) : splice p.cells 65 [.slice a v.length c] = ((p.wVl v).pv a c p.pa p.pc).cells := setL (pre := bvs p.key ++ (.int .u8 p.kind :: bvs p.other)) (xs := [.slice p.va p.vl.length p.vc]) (post := [.slice p.pa p.pl.length p.pc]) (by simp [Prf.cells]) (by simp [o.key, o.other]) rfl (by simp [Prf.cells, Prf.wVl, Prf.pv])
theorem Prf.sSides (a : Option Addr) (l : List (List UInt8)) (c : Nat) : splice p.cells 66 [.slice a l.length c] = ((p.wPl l).pv p.va p.vc a c).cells := setL (pre := bvs p.key ++ (.int .u8 p.kind :: (bvs p.other ++ [.slice p.va p.vl.length p.vc]))) (xs := [.slice p.pa p.pl.length p.pc]) (post := []) (by simp [Prf.cells]) (by simp [o.key, o.other]) rfl (by simp [Prf.cells, Prf.wPl, Prf.pv])
theorem Prf.okKey {d : List UInt8} (hd : d.length = 32) : (p.wKey d).ok := ⟨hd, o.kind, o.other, o.dg, o.vl, o.pl⟩
theorem Prf.okKind {k : Nat} (hk : k < 256) : (p.wKind k).ok := ⟨o.key, hk, o.other, o.dg, o.vl, o.pl⟩
theorem Prf.okOther {d : List UInt8} (hd : d.length = 32) : (p.wOther d).ok := ⟨o.key, o.kind, hd, o.dg, o.vl, o.pl⟩
theorem Prf.okVal {a : Option Addr} {v : List UInt8} {c : Nat} {b : Option Addr} {d : Nat} (hv : v.length ≤ 1000000000000) : ((p.wVl v).pv a c b d).ok := ⟨o.key, o.kind, o.other, o.dg, hv, o.pl⟩
theorem Prf.okPl {a : Option Addr} {l : List (List UInt8)} {c : Nat} {b : Option Addr} {d : Nat} (hg : Dg l) (hl : l.length ≤ 1000000000000) : ((p.wPl l).pv a c b d).ok := ⟨o.key, o.kind, o.other, hg, o.vl, hl⟩
end
/-- What is held while a proof's key and kind are read. -/
def kpH (r : Rp) (g e : Nat) (s : Prf × Nat) : List Asn := [blk e 3 [.int .i64 s.2], blk g 41 (sxP r s.1).cells]
def kpOk (s : Prf × Nat) : Prop := s.1.ok ∧ s.2 ≤ 2
theorem kpP_ok (w0 : World) {r : Rp} (h : r.ok) (g e : Nat) : ∀ p ∈ keyG g (0 + 71) e, p.Ok w0 (kpH r g e) kpOk := by
  intro p hp
  simp only [keyG, List.mem_cons, List.not_mem_nil, or_false] at hp
  rcases hp with rfl | rfl
  · exact fun s hs => ⟨1, 41, (sxP r s.1).cells, ⟨rfl⟩, by rw [Rp.len (Rp.okP h hs.1)]; decide, fun d hd => ⟨⟨Prf.okKey hs.1 hd, hs.2⟩, ⟨by
      have := sxP_set h (p := s.1) (p' := s.1.wKey d) hs.1 (off := 0) (Prf.sKey hs.1 hd) (by simp [hd])
      rw [this]
      rfl⟩⟩⟩
  · exact ⟨⟨by decide, by decide, by decide⟩, fun s hs => ⟨0, 3, [.int .i64 s.2], ⟨rfl⟩, Nat.le_refl _, fun v hv => ⟨⟨hs.1, hv⟩, ⟨rfl⟩⟩⟩⟩
theorem kp_ok {X : List UInt8} {bad : Bool} {p : Prf} (o : p.ok) : kpOk (kpR X bad p).a := by
  have := PK.fold_ok (w0 := default) (H := kpH rp0 0 0) (ok := kpOk) (ps := keyG 0 (0 + 71) 0) (kpP_ok _ rp0_ok 0 0) (s := ⟨X, bad, (p, 0)⟩) ⟨o, Nat.zero_le _⟩
  exact this
def othH (r : Rp) (g : Nat) (p : Prf) : List Asn := [blk g 41 (sxP r p).cells]
def othG (g : Nat) : List (PK Prf) := [.dig g (0 + 71 + 33) sO]
theorem othP_ok (w0 : World) {r : Rp} (h : r.ok) (g : Nat) : ∀ p ∈ othG g, p.Ok w0 (othH r g) Prf.ok := by
  intro p hp
  simp only [othG, List.mem_cons, List.not_mem_nil, or_false] at hp
  subst hp
  exact fun s hs => ⟨0, 41, (sxP r s).cells, ⟨rfl⟩, by rw [Rp.len (Rp.okP h hs)]; decide, fun d hd => ⟨Prf.okOther hs hd, ⟨by
      have := sxP_set h (p := s) (p' := s.wOther d) hs (off := 33) (Prf.sOther hs hd) (by simp [hd])
      rw [this]
      rfl⟩⟩⟩
theorem oth_okS {s : RG Prf} (o : s.a.ok) : (othS s).a.ok := by
  unfold othS
  split
  · exact PK.fold_ok (w0 := default) (H := othH rp0 0) (ok := Prf.ok) (ps := othG 0) (othP_ok _ rp0_ok 0) o
  · exact o
theorem oth_le (s : RG Prf) : (othS s).r.length ≤ s.r.length := by
  unfold othS
  split
  · exact PK.fold_le _ _
  · exact Nat.le_refl _
theorem takeP_le (X : List UInt8) : (takeP X).2.1.length ≤ X.length ∧ (takeP X).1.length ≤ 4096 := by
  unfold takeP
  split
  · simp
  split
  · simp
  split
  · simp
  · constructor
    · simp
    · simp
      omega
theorem val_le (s : RG Prf) : (valS s).r.length ≤ s.r.length := by
  unfold valS
  split
  · exact Nat.le_refl _
  · exact (takeP_le s.r).1
theorem val_ok {s : RG Prf} (o : s.a.ok) : (valS s).a.ok := by
  unfold valS
  split
  · exact o
  · exact ⟨o.key, o.kind, o.other, o.dg, by have := (takeP_le s.r).2; show (takeP s.r).1.length ≤ _; omega, o.pl⟩
/-- How many sides, and one side. -/
def manyH (e : Nat) (C : List Asn) (m : Nat) : List Asn := blk e 3 [.int .i64 m] :: C
theorem manyP_ok (w0 : World) (e : Nat) (C : List Asn) : ∀ p ∈ manyP e, p.Ok w0 (manyH e C) (· ≤ 256) := by
  intro p hp
  simp only [manyP, List.mem_cons, List.not_mem_nil, or_false] at hp
  subst hp
  exact ⟨⟨by decide, by decide, by decide⟩, fun s hs => ⟨0, 3, [.int .i64 s], ⟨rfl⟩, Nat.le_refl _, fun v hv => ⟨hv, ⟨rfl⟩⟩⟩⟩
def sideH (e : Nat) (C : List Asn) (d : List UInt8) : List Asn := blk e 24 (bvs d) :: C
def sideP (e : Nat) : List (PK (List UInt8)) := [.dig e 0 (fun _ e => e)]
theorem sideP_ok (w0 : World) (e : Nat) (C : List Asn) : ∀ p ∈ sideP e, p.Ok w0 (sideH e C) (·.length = 32) := by
  intro p hp
  simp only [sideP, List.mem_cons, List.not_mem_nil, or_false] at hp
  subst hp
  exact fun s hs => ⟨0, 24, bvs s, ⟨rfl⟩, by rw [bvs_length, hs]; decide, fun d hd => ⟨hd, ⟨by rw [splice_all _ _ (by rw [bvs_length, bvs_length, hs, hd])]; rfl⟩⟩⟩
/-- A proof that has no value and no sides yet. -/
def Prf.bare0 (p : Prf) : Prop := p.va = none ∧ p.vc = 0 ∧ p.vl = [] ∧ p.pa = none ∧ p.pc = 0 ∧ p.pl = []
theorem kp_bare {X : List UInt8} {bad : Bool} {p : Prf} (b : p.bare0) : (withK (kpR X bad p).a).bare0 := b
theorem oth_bare {s : RG Prf} (b : s.a.bare0) : (othS s).a.bare0 := by
  unfold othS
  split
  · exact b
  · exact b
/-- What is held of a value that is read. -/
structure ValZ (w0 : World) (L : List Asn) (S : RG Prf) (z : Option Addr × Nat × Option Addr × Nat × List UInt8) : Prop where
  le : S.r.length ≤ z.2.1
  rd : RdC w0 (ownB z.2.2.1 z.2.2.2.1 z.2.2.2.2 :: L) z.1 (bvs S.r)
  vl : z.2.2.2.2.take S.a.vl.length = S.a.vl
  len : S.a.vl.length ≤ z.2.2.2.2.length
def ValM (L : List Asn) (gr g : Nat) (r : Rp) (S : RG Prf) (z : Option Addr × Nat × Option Addr × Nat × List UInt8) : List Asn := restB gr z.1 S.r.length z.2.1 S.bad :: blk g 41 (sxP r (S.a.pv z.2.2.1 S.a.vl.length none 0)).cells :: ownB z.2.2.1 z.2.2.2.1 z.2.2.2.2 :: L
/-- What is told of a proof that is read. -/
def RPrf (w0 : World) (L : List Asn) (gr g : Nat) (r : Rp) (S : RG Prf) (L' : List Asn) : Prop := ∃ z ap cp, ValZ w0 L S z ∧ S.a.ok ∧ L' = restB gr z.1 S.r.length z.2.1 S.bad :: blk g 41 (sxP r (S.a.pv z.2.2.1 S.a.vl.length ap cp)).cells :: own 24 32 ap S.a.pl.length cp (bvs S.a.pl.flatten) :: ownB z.2.2.1 z.2.2.2.1 z.2.2.2.2 :: L
theorem wproof_vc (w0 : World) (L : List Asn) (g gr : Nat) (r : Rp) (h : r.ok) (hp0 : r.prf = prf0) (ar : Option Addr) (cr : Nat) (X : List UInt8) (bad : Bool) (hc : X.length ≤ cr) (hl : X.length ≤ 1000000) [hr : RdC w0 L ar (bvs X)] :
    VC Try.prog w0 22 [.pointer (some ⟨gr, 0, none⟩), .pointer (some ⟨g, 0 + 71, none⟩)] (restB gr ar X.length cr bad :: blk g 41 r.cells :: L) fun v L' => RPrf w0 L gr g r (prfS X bad prf0) L' := by
  have hp0k : prf0.ok := hp0 ▸ h.prf
  have hr0 : r.cells = (sxP r prf0).cells := by rw [← hp0]; rfl
  refine vc_ent ?_
  refine vc_in rfl rfl ?_
  refine v_seq ?_
  refine v_region ?_
  repeat' (first | (refine vl_id ?_; first | refine vl_nil ?_ | refine vl_qA rfl rfl rfl rfl ?_ | (refine vl_o rfl ?_; (refine goV ?_; intros)) | refine vl_guard rfl rfl rfl rfl rfl ?_ | refine vl_pass rfl rfl rfl rfl rfl rfl rfl ?_) | refine thn_n ?_ | fail)
  rename_i ge
  refine v_seq ?_
  refine v_region ?_
  repeat' (first | (refine vl_id ?_; first | refine vl_nil ?_ | refine vl_qA rfl rfl rfl rfl ?_ | (refine vl_o rfl ?_; (refine goV ?_; intros)) | refine vl_guard rfl rfl rfl rfl rfl ?_ | refine vl_pass rfl rfl rfl rfl rfl rfl rfl ?_) | refine thn_n ?_ | fail)
  refine clV ?_
  refine vc_mono (wproofs_vc w0 _ g (0 + 71) ge) ?_
  rintro v L' ⟨ap, cp, rfl, rfl⟩
  repeat' (first | (refine vl_id ?_; first | refine vl_nil ?_ | refine vl_qA rfl rfl rfl rfl ?_ | (refine vl_o rfl ?_; (refine goV ?_; intros)) | refine vl_guard rfl rfl rfl rfl rfl ?_ | refine vl_pass rfl rfl rfl rfl rfl rfl rfl ?_) | refine thn_n ?_ | fail)
  refine clV ?_
  rw [hr0]
  refine vc_pre (L2 := restB gr ar X.length cr bad :: ownG ap cp (keyG g (0 + 71) ge) :: (kpH r g ge (prf0, 0) ++ L)) ?_ ?_
  · exact sei w0 _ (restB gr ar X.length cr bad :: ownG ap cp (keyG g (0 + 71) ge) :: blk ge 3 [.int .i64 0] :: blk g 41 (sxP r prf0).cells :: L)
  refine vc_mono (gparts_vc w0 L (kpH r g ge) kpOk gr ar cr ⟨X, bad, (prf0, 0)⟩ ap cp (keyG g (0 + 71) ge) (kpP_ok w0 h g ge) ⟨hp0k, Nat.zero_le _⟩ hc hl (by show 2 ≤ 10; decide) rfl) ?_
  rintro v L' ⟨ar1, cr1, hc1, hr1, rfl⟩
  rw [keyG_fold] at hc1 hr1 ⊢
  have hk1 := kp_ok (X := X) (bad := bad) hp0k
  have hl1 : (kpR X bad prf0).r.length ≤ X.length := PK.fold_le _ _
  have hb1 : (withK (kpR X bad prf0).a).bare0 := kp_bare ⟨rfl, rfl, rfl, rfl, rfl, rfl⟩
  unfold prfS
  change (kpR X bad prf0).r.length ≤ cr1 at hc1
  change RdC w0 L ar1 (bvs (kpR X bad prf0).r) at hr1
  change VL _ _ _ _ _ _ _ _ _ (restB gr ar1 (kpR X bad prf0).r.length cr1 (kpR X bad prf0).bad :: ownG ap cp (keyG g (0 + 71) ge) :: (kpH r g ge (kpR X bad prf0).a ++ L))
  generalize kpR X bad prf0 = S1 at *
  obtain ⟨R1, bad1, p1, k1⟩ := S1
  dsimp only at hc1 hr1 hl1 hb1 ⊢
  repeat' (first | (refine vl_id ?_; first | refine vl_nil ?_ | refine vl_qA rfl rfl rfl rfl ?_ | (refine vl_o rfl ?_; (refine goV ?_; intros)) | refine vl_guard rfl rfl rfl rfl rfl ?_ | refine vl_pass rfl rfl rfl rfl rfl rfl rfl ?_) | refine thn_n ?_ | fail)
  obtain ⟨o1, hk2⟩ := hk1
  dsimp only at o1 hk2
  have hwk : IntKind.u8.wrap (k1 : Int) = (k1 : Int) := by
    show ((k1 : Int) % 256) = k1
    omega
  have hs1 := sxP_set h (p := p1) (p' := p1.wKind k1) o1 (off := 32) (Prf.sKind o1 k1) (by simp)
  have hcl1 := Rp.len (Rp.okP h o1)
  haveI hoc1 : OC (sxP r p1).cells := oc_rp _
  unfold kpH
  dsimp only [List.cons_append, List.nil_append]
  generalize (sxP r p1).cells = cs1 at *
  refine v_seq ?_
  refine v_region ?_
  repeat' (first | (refine vl_id ?_; first | refine vl_nil ?_ | refine vl_qA rfl rfl rfl rfl ?_ | (refine vl_o rfl ?_; (refine goV ?_; intros)) | refine vl_guard rfl rfl rfl rfl rfl ?_ | refine vl_pass rfl rfl rfl rfl rfl rfl rfl ?_) | refine thn_n ?_ | fail)
  rw [hwk, hs1]
  have o2 : (p1.wKind k1).ok := Prf.okKind o1 (by omega)
  rw [show withK (p1, k1) = p1.wKind k1 from rfl] at hb1 ⊢
  generalize p1.wKind k1 = p2 at *
  have hcl2 := Rp.len (Rp.okP h o2)
  have hkd := sxP_get h o2 (off := 32) (Prf.f1 o2) (by decide)
  haveI hoc2 : OC (sxP r p2).cells := oc_rp _
  refine v_seq ?_
  have hS2r : (othS ⟨R1, bad1, p2⟩).r.length ≤ R1.length := oth_le _
  have hS2o := oth_okS (s := ⟨R1, bad1, p2⟩) o2
  have hb2 := oth_bare (s := ⟨R1, bad1, p2⟩) hb1
  refine v_cut {z : Option Addr × Nat // (othS ⟨R1, bad1, p2⟩).r.length ≤ z.2 ∧ RdC w0 L z.1 (bvs (othS ⟨R1, bad1, p2⟩).r)} [0, 1] rfl (fun _ => []) (fun z => restB gr z.1.1 (othS ⟨R1, bad1, p2⟩).r.length z.1.2 (othS ⟨R1, bad1, p2⟩).bad :: blk g 41 (sxP r (othS ⟨R1, bad1, p2⟩).a).cells :: L) ?_ ?_
  · by_cases k2 : p2.kind = 2
    · have eS : othS ⟨R1, bad1, p2⟩ = PK.fold (othG g) ⟨R1, bad1, p2⟩ := if_pos k2
      rw [eS]
      rw [k2] at hkd
      repeat' (first | (refine go1 ?_; intros) | (refine goCC ?_ ?_ <;> (intro hb; (try simp only [hSQ] at hb); try (exfalso; omega))) | fail)
      refine vl_q rfl rfl rfl rfl (vq_mkIface rfl) ?_
      repeat' (first | (refine go1 ?_; intros) | (refine goCC ?_ ?_ <;> (intro hb; (try simp only [hSQ] at hb); try (exfalso; omega))) | fail)
      rename_i gl
      refine clV ?_
      refine vc_pre (L2 := restB gr ar1 R1.length cr1 bad1 :: ownG (some ⟨gl, 0, none⟩) 1 (othG g) :: (othH r g p2 ++ L)) ?_ ?_
      · exact sei w0 _ (restB gr ar1 R1.length cr1 bad1 :: own 84 1 (some ⟨gl, 0, none⟩) 1 1 [.iface 87 (.agg #[.pointer (some ⟨g, 0 + 71 + 33, none⟩)])] :: blk g 41 (sxP r p2).cells :: L)
      refine vc_mono (gparts_vc w0 L (othH r g) Prf.ok gr ar1 cr1 ⟨R1, bad1, p2⟩ (some ⟨gl, 0, none⟩) 1 (othG g) (othP_ok w0 h g) o2 hc1 (by dsimp only; omega) (by show 1 ≤ 10; decide) rfl) ?_
      rintro v L' ⟨ar2, cr2, hc2, hr2, rfl⟩
      unfold othH
      dsimp only [List.cons_append, List.nil_append]
      repeat' (first | (refine go1 ?_; intros) | (refine goCC ?_ ?_ <;> (intro hb; (try simp only [hSQ] at hb); try (exfalso; omega))) | fail)
      exact ⟨rfl, ⟨(ar2, cr2), hc2, hr2⟩, by (exact sbS), sei w0 _ (restB gr ar2 (PK.fold (othG g) ⟨R1, bad1, p2⟩).r.length cr2 (PK.fold (othG g) ⟨R1, bad1, p2⟩).bad :: blk g 41 (sxP r (PK.fold (othG g) ⟨R1, bad1, p2⟩).a).cells :: L)⟩
    · have eS : othS ⟨R1, bad1, p2⟩ = ⟨R1, bad1, p2⟩ := if_neg k2
      rw [eS]
      repeat' (first | (refine go1 ?_; intros) | (refine goCC ?_ ?_ <;> (intro hb; (try simp only [hSQ] at hb); try (exfalso; omega))) | fail)
      all_goals first | (exfalso; omega) | skip
      exact ⟨rfl, ⟨(ar1, cr1), hc1, hr1⟩, by (exact sbS), sei _ _ _⟩
  rintro ⟨⟨ar2, cr2⟩, hc2, hr2⟩
  clear hkd
  generalize othS ⟨R1, bad1, p2⟩ = S2 at *
  obtain ⟨R2, bad2, p3⟩ := S2
  dsimp only at hc2 hr2 hS2r hS2o hb2 ⊢
  refine v_seq ?_
  have hcl3 := Rp.len (Rp.okP h hS2o)
  have hkd3 := sxP_get h hS2o (off := 32) (Prf.f1 hS2o) (by decide)
  haveI hoc3 : OC (sxP r p3).cells := oc_rp _
  have hS3r : (valS ⟨R2, bad2, p3⟩).r.length ≤ R2.length := val_le _
  have hS3o := val_ok (s := ⟨R2, bad2, p3⟩) hS2o
  obtain ⟨b1, b2, b3, b4, b5, b6⟩ := hb2
  have hS3p : (valS ⟨R2, bad2, p3⟩).a.pl = [] := by
    unfold valS
    split
    · exact b6
    · exact b6
  refine v_cut {z : Option Addr × Nat × Option Addr × Nat × List UInt8 // ValZ w0 L (valS ⟨R2, bad2, p3⟩) z} [0, 1] rfl (fun _ => []) (fun z => ValM L gr g r (valS ⟨R2, bad2, p3⟩) z.1) ?_ ?_
  · by_cases k0 : p3.kind = 0
    · have eS : valS ⟨R2, bad2, p3⟩ = ⟨R2, bad2, p3⟩ := if_pos k0
      rw [eS]
      have ep : p3.pv none p3.vl.length none 0 = p3 := by
        obtain ⟨x1, x2, x3, x4, x5, x6, x7, x8, x9⟩ := p3
        dsimp only at b1 b2 b3 b4 b5 b6
        subst b1 b2 b3 b4 b5 b6
        rfl
      repeat' (first | (refine go1 ?_; intros) | (refine goCC ?_ ?_ <;> (intro hb; (try simp only [hSQ] at hb); try (exfalso; omega))) | fail)
      all_goals first | (exfalso; omega) | skip
      refine ⟨rfl, ⟨(ar2, cr2, none, 0, []), hc2, (inferInstance : RdC w0 (ownB none 0 [] :: L) ar2 (bvs R2)), by dsimp only; rw [b3]; rfl, by dsimp only; rw [b3]; exact Nat.le_refl _⟩, by (exact sbS), ?_⟩
      unfold ValM
      dsimp only
      rw [ep]
      exact ((SE.cons _ (SE.cons _ (se_own_nil 5 1 L)))).ent w0
    · have eS : valS ⟨R2, bad2, p3⟩ = ⟨(takeP R2).2.1, bad2 || decide ((takeP R2).2.2 ≠ 0), p3.wVl (takeP R2).1⟩ := if_neg k0
      rw [eS]
      repeat' (first | (refine go1 ?_; intros) | (refine goCC ?_ ?_ <;> (intro hb; (try simp only [hSQ] at hb); try (exfalso; omega))) | fail)
      all_goals first | (exfalso; omega) | skip
      refine clV ?_
      refine vc_mono (takePart_vc w0 _ ar2 cr2 R2 rfl hc2 (by omega)) ?_
      rintro v L' ⟨a3, c3, b3', d3, Z, rfl, q1, q2, q3, q4, q5, rfl⟩
      have hsv := sxP_set h (p := p3) (p' := (p3.wVl (takeP R2).1).pv a3 (takeP R2).1.length p3.pa p3.pc) hS2o (off := 65) (Prf.sVal hS2o a3 (takeP R2).1 (takeP R2).1.length) (by simp)
      rw [b4, b5] at hsv
      have hz : ValZ w0 L ⟨(takeP R2).2.1, bad2 || decide ((takeP R2).2.2 ≠ 0), p3.wVl (takeP R2).1⟩ (b3', d3, a3, c3, Z) := ⟨q1, q2 _, q3, q4⟩
      have hM : ValM L gr g r ⟨(takeP R2).2.1, bad2 || decide ((takeP R2).2.2 ≠ 0), p3.wVl (takeP R2).1⟩ (b3', d3, a3, c3, Z) = restB gr b3' (takeP R2).2.1.length d3 (bad2 || decide ((takeP R2).2.2 ≠ 0)) :: blk g 41 (sxP r ((p3.wVl (takeP R2).1).pv a3 (takeP R2).1.length none 0)).cells :: ownB a3 c3 Z :: L := rfl
      clear q3 q4
      generalize ValM L gr g r ⟨(takeP R2).2.1, bad2 || decide ((takeP R2).2.2 ≠ 0), p3.wVl (takeP R2).1⟩ = MM at *
      generalize ValZ w0 L ⟨(takeP R2).2.1, bad2 || decide ((takeP R2).2.2 ≠ 0), p3.wVl (takeP R2).1⟩ = ZZ at *
      generalize (sxP r ((p3.wVl (takeP R2).1).pv a3 (takeP R2).1.length none 0)).cells = cs4 at *
      generalize (sxP r p3).cells = cs3 at *
      generalize takeP R2 = T at *
      obtain ⟨V, RR, e⟩ := T
      dsimp only at q1 q2 hsv hM ⊢
      have hsp : ∀ x y b s : Value, splice (splice [x, y] (0 + 1) [b]) (0 + 0) [s] = [s, b] := fun _ _ _ _ => rfl
      cases bad2
      · by_cases e0 : e = 0
        · repeat' (first | (refine go1 ?_; intros) | (refine goCC ?_ ?_ <;> (intro hb; (try simp only [hSQ] at hb); try (exfalso; omega))) | fail)
          all_goals first | (exfalso; omega) | skip
          rw [hsv, hsp]
          refine ⟨rfl, ⟨(b3', d3, a3, c3, Z), hz⟩, by (exact sbS), ?_⟩
          dsimp only
          rw [hM, Bool.false_or]
          exact sei _ _ _
        · repeat' (first | (refine go1 ?_; intros) | (refine goCC ?_ ?_ <;> (intro hb; (try simp only [hSQ] at hb); try (exfalso; omega))) | fail)
          all_goals first | (exfalso; omega) | skip
          rw [hsv, hsp]
          refine ⟨rfl, ⟨(b3', d3, a3, c3, Z), hz⟩, by (exact sbS), ?_⟩
          dsimp only
          rw [hM, Bool.false_or]
          exact sei _ _ _
      · repeat' (first | (refine go1 ?_; intros) | (refine goCC ?_ ?_ <;> (intro hb; (try simp only [hSQ] at hb); try (exfalso; omega))) | fail)
        all_goals first | (exfalso; omega) | skip
        rw [hsv, hsp]
        refine ⟨rfl, ⟨(b3', d3, a3, c3, Z), hz⟩, by (exact sbS), ?_⟩
        dsimp only
        rw [hM, Bool.true_or]
        exact sei _ _ _
  rintro ⟨⟨ar3, cr3, av, cv, Z⟩, hz⟩
  clear hkd3
  generalize valS ⟨R2, bad2, p3⟩ = S3 at *
  obtain ⟨R3, bad3, p4⟩ := S3
  unfold ValM
  obtain ⟨z1, z2, z3, z4⟩ := hz
  dsimp only at hS3r hS3o hS3p z1 z2 z3 z4 ⊢
  have o5 : (p4.pv av p4.vl.length none 0).ok := ⟨hS3o.key, hS3o.kind, hS3o.other, hS3o.dg, hS3o.vl, hS3o.pl⟩
  have hcl5 := Rp.len (Rp.okP h o5)
  haveI hoc5 : OC (sxP r (p4.pv av p4.vl.length none 0)).cells := oc_rp _
  have e5 : (p4.wPl []).pv av p4.vl.length none 0 = p4.pv av p4.vl.length none 0 := by rw [← hS3p]; rfl
  unfold endS
  rw [← e5]
  generalize hc5 : (sxP r (p4.pv av p4.vl.length none 0)).cells = cs5 at *
  rw [e5, hc5]
  repeat' (first | (refine go1 ?_; intros) | (refine goCC ?_ ?_ <;> (intro hb; (try simp only [hSQ] at hb); try (exfalso; omega))) | fail)
  refine vl_q rfl rfl rfl rfl (vq_mkIface rfl) ?_
  repeat' (first | (refine go1 ?_; intros) | (refine goCC ?_ ?_ <;> (intro hb; (try simp only [hSQ] at hb); try (exfalso; omega))) | fail)
  rename_i g8 gl
  refine clV ?_
  refine vc_pre (L2 := restB gr ar3 R3.length cr3 bad3 :: ownG (some ⟨gl, 0, none⟩) 1 (manyP g8) :: (manyH g8 [blk g 41 cs5] 0 ++ (ownB av cv Z :: L))) ?_ ?_
  · exact sei w0 _ (restB gr ar3 R3.length cr3 bad3 :: own 84 1 (some ⟨gl, 0, none⟩) 1 1 [.iface 69 (.agg #[.pointer (some ⟨g8, 0, none⟩), .int .i64 2, .int .i64 256])] :: blk g8 3 [.int .i64 0] :: blk g 41 cs5 :: ownB av cv Z :: L)
  refine vc_mono (gparts_vc w0 (ownB av cv Z :: L) (manyH g8 [blk g 41 cs5]) (· ≤ 256) gr ar3 cr3 ⟨R3, bad3, 0⟩ (some ⟨gl, 0, none⟩) 1 (manyP g8) (manyP_ok w0 g8 _) (Nat.zero_le _) z1 (by dsimp only; omega) (by show 1 ≤ 10; decide) rfl) ?_
  rintro v L' ⟨ar6, cr6, hc6, hr6, rfl⟩
  have hm256 : (PK.fold (manyP 0) ⟨R3, bad3, 0⟩).a ≤ 256 := PK.fold_ok (w0 := w0) (manyP_ok w0 0 []) (s := ⟨R3, bad3, 0⟩) (Nat.zero_le _)
  have hle6 : (PK.fold (manyP 0) ⟨R3, bad3, 0⟩).r.length ≤ R3.length := PK.fold_le _ _
  dsimp only
  change (PK.fold (manyP 0) ⟨R3, bad3, 0⟩).r.length ≤ cr6 at hc6
  change RdC w0 (ownB av cv Z :: L) ar6 (bvs (PK.fold (manyP 0) ⟨R3, bad3, 0⟩).r) at hr6
  change VL _ _ _ _ _ _ _ _ _ (restB gr ar6 (PK.fold (manyP 0) ⟨R3, bad3, 0⟩).r.length cr6 (PK.fold (manyP 0) ⟨R3, bad3, 0⟩).bad :: ownG (some ⟨gl, 0, none⟩) 1 (manyP g8) :: (manyH g8 [blk g 41 cs5] (PK.fold (manyP 0) ⟨R3, bad3, 0⟩).a ++ (ownB av cv Z :: L)))
  generalize PK.fold (manyP 0) ⟨R3, bad3, 0⟩ = m at *
  obtain ⟨R6, bad6, m⟩ := m
  dsimp only at hm256 hle6 hc6 hr6 ⊢
  obtain ⟨F, hF⟩ : ∃ F, F = sidesS m ⟨R6, bad6, []⟩ := ⟨_, rfl⟩
  rw [← hF]
  unfold manyH
  dsimp only [List.cons_append, List.nil_append]
  repeat' (first | (refine go1 ?_; intros) | (refine goCC ?_ ?_ <;> (intro hb; (try simp only [hSQ] at hb); try (exfalso; omega))) | fail)
  refine v_loopF {x : Nat × (Option Addr × Nat) × RG (List (List UInt8)) × (Option Addr × Nat) // x.1 ≤ m ∧ sidesS (m - x.1) x.2.2.1 = F ∧ Dg x.2.2.1.a ∧ x.2.2.1.a.length = x.1 ∧ x.2.2.1.r.length ≤ x.2.1.2 ∧ x.2.2.1.r.length ≤ 1000000 ∧ RdC w0 (ownB av cv Z :: L) x.2.1.1 (bvs x.2.2.1.r)} [0, 1, 8] rfl (fun x => [(9, .int .i64 x.1.1)]) (fun _ x => restB gr x.1.2.1.1 x.1.2.2.1.r.length x.1.2.1.2 x.1.2.2.1.bad :: blk g8 3 [.int .i64 m] :: blk g 41 (sxP r ((p4.wPl x.1.2.2.1.a).pv av p4.vl.length x.1.2.2.2.1 x.1.2.2.2.2)).cells :: own 24 32 x.1.2.2.2.1 x.1.2.2.1.a.length x.1.2.2.2.2 (bvs x.1.2.2.1.a.flatten) :: ownB av cv Z :: L) (fun x => True) (fun x => m - x.1.1) ⟨(0, (ar6, cr6), ⟨R6, bad6, []⟩, (none, 0)), Nat.zero_le _, hF.symm, (fun x hx => by cases hx), rfl, hc6, by dsimp only; omega, hr6⟩ trivial (by (exact sbS)) ?_ ?_
  · dsimp only
    rw [e5, hc5]
    exact (sei w0 _ (restB gr ar6 R6.length cr6 bad6 :: blk g8 3 [.int .i64 m] :: blk g 41 cs5 :: ownB av cv Z :: L)).trans ((SE.cons _ (SE.cons _ (SE.cons _ (se_own_nil 24 32 _)))).ent w0)
  rintro ⟨⟨i, ⟨ar7, cr7⟩, ⟨R7, bad7, ds⟩, ⟨ap, cp⟩⟩, hi, hS, hdg, hdl, hc7, hl7, hr7⟩ -
  dsimp only at hi hS hdg hdl hc7 hl7 hr7 ⊢
  haveI := hr7
  have o7 : ((p4.wPl ds).pv av p4.vl.length ap cp).ok := ⟨hS3o.key, hS3o.kind, hS3o.other, hdg, hS3o.vl, by show ds.length ≤ _; omega⟩
  have hcl7 := Rp.len (Rp.okP h o7)
  haveI hoc7 : OC (sxP r ((p4.wPl ds).pv av p4.vl.length ap cp)).cells := oc_rp _
  have f7 : (sxP r ((p4.wPl ds).pv av p4.vl.length ap cp)).cells[0 + 71 + 66]? = some (.slice ap ds.length cp) := sxP_get h o7 (off := 66) (Prf.f4 o7) (by decide)
  have fin : F = ⟨R7, bad7, ds⟩ → ∃ L'', Ent w0 (restB gr ar7 R7.length cr7 bad7 :: blk g8 3 [.int .i64 m] :: blk g 41 (sxP r ((p4.wPl ds).pv av p4.vl.length ap cp)).cells :: own 24 32 ap ds.length cp (bvs ds.flatten) :: ownB av cv Z :: L) L'' ∧ RPrf w0 L gr g r ⟨F.r, F.bad, p4.wPl F.a⟩ L'' := by
    intro e
    rw [e]
    exact ⟨_, sei w0 _ (restB gr ar7 R7.length cr7 bad7 :: blk g 41 (sxP r ((p4.wPl ds).pv av p4.vl.length ap cp)).cells :: own 24 32 ap ds.length cp (bvs ds.flatten) :: ownB av cv Z :: L), (ar7, cr7, av, cv, Z), ap, cp, ⟨hc7, hr7, z3, z4⟩, ⟨hS3o.key, hS3o.kind, hS3o.other, hdg, hS3o.vl, by show ds.length ≤ _; omega⟩, rfl⟩
  by_cases hlt : i < m
  rotate_left
  · obtain rfl : i = m := by omega
    rw [Nat.sub_self] at hS
    have hf := fin hS.symm
    repeat' (first | (refine go1 ?_; intros) | (refine goCC ?_ ?_ <;> (intro hb; (try simp only [hSQ] at hb); try (exfalso; omega))) | fail)
    exact hf
  cases bad7 with
  | true =>
    have hS2 : F = ⟨R7, true, ds⟩ := by
      rw [← hS]
      obtain ⟨k, hk⟩ : ∃ k, m - i = k + 1 := ⟨m - i - 1, by omega⟩
      rw [hk]
      unfold sidesS
      rw [if_pos rfl]
    have hf := fin hS2
    repeat' (first | (refine go1 ?_; intros) | (refine goCC ?_ ?_ <;> (intro hb; (try simp only [hSQ] at hb); try (exfalso; omega))) | fail)
    exact hf
  | false =>
  clear fin
  have hS4 : sidesS (m - (i + 1)) ⟨(PK.fold (sideP 0) ⟨R7, false, zero32⟩).r, (PK.fold (sideP 0) ⟨R7, false, zero32⟩).bad, ds ++ [(PK.fold (sideP 0) ⟨R7, false, zero32⟩).a]⟩ = F := by
    rw [← hS]
    obtain ⟨k, hk⟩ : ∃ k, m - i = k + 1 := ⟨m - i - 1, by omega⟩
    rw [hk, show m - (i + 1) = k by omega]
    rfl
  have hD32 : (PK.fold (sideP 0) ⟨R7, false, zero32⟩).a.length = 32 := PK.fold_ok (w0 := w0) (sideP_ok w0 0 []) (s := ⟨R7, false, zero32⟩) (by simp [zero32])
  have hDle : (PK.fold (sideP 0) ⟨R7, false, zero32⟩).r.length ≤ R7.length := PK.fold_le _ _
  generalize hcs7 : (sxP r ((p4.wPl ds).pv av p4.vl.length ap cp)).cells = cs7 at *
  repeat' (first | (refine go1 ?_; intros) | (refine goCC ?_ ?_ <;> (intro hb; (try simp only [hSQ] at hb); try (exfalso; omega))) | fail)
  refine vl_q rfl rfl rfl rfl (vq_mkIface rfl) ?_
  repeat' (first | (refine go1 ?_; intros) | (refine goCC ?_ ?_ <;> (intro hb; (try simp only [hSQ] at hb); try (exfalso; omega))) | fail)
  rename_i g10 gk
  refine clV ?_
  obtain ⟨C, hC⟩ : ∃ C, C = [blk g8 3 [.int .i64 m], blk g 41 cs7, own 24 32 ap ds.length cp (bvs ds.flatten)] := ⟨_, rfl⟩
  refine vc_pre (L2 := restB gr ar7 R7.length cr7 false :: ownG (some ⟨gk, 0, none⟩) 1 (sideP g10) :: (sideH g10 C zero32 ++ (ownB av cv Z :: L))) ?_ ?_
  · rw [hC]
    exact sei w0 _ (restB gr ar7 R7.length cr7 false :: own 84 1 (some ⟨gk, 0, none⟩) 1 1 [.iface 87 (.agg #[.pointer (some ⟨g10, 0, none⟩)])] :: blk g10 24 (bvs (List.replicate 32 0)) :: blk g8 3 [.int .i64 m] :: blk g 41 cs7 :: own 24 32 ap ds.length cp (bvs ds.flatten) :: ownB av cv Z :: L)
  refine vc_mono (gparts_vc w0 (ownB av cv Z :: L) (sideH g10 C) (·.length = 32) gr ar7 cr7 ⟨R7, false, zero32⟩ (some ⟨gk, 0, none⟩) 1 (sideP g10) (sideP_ok w0 g10 C) (by simp [zero32]) hc7 (by dsimp only; omega) (by show 1 ≤ 10; decide) rfl) ?_
  rintro v L' ⟨ar8, cr8, hc8, hr8, rfl⟩
  change (PK.fold (sideP 0) ⟨R7, false, zero32⟩).r.length ≤ cr8 at hc8
  change RdC w0 (ownB av cv Z :: L) ar8 (bvs (PK.fold (sideP 0) ⟨R7, false, zero32⟩).r) at hr8
  change VL _ _ _ _ _ _ _ _ _ (restB gr ar8 (PK.fold (sideP 0) ⟨R7, false, zero32⟩).r.length cr8 (PK.fold (sideP 0) ⟨R7, false, zero32⟩).bad :: ownG (some ⟨gk, 0, none⟩) 1 (sideP g10) :: (sideH g10 C (PK.fold (sideP 0) ⟨R7, false, zero32⟩).a ++ (ownB av cv Z :: L)))
  generalize PK.fold (sideP 0) ⟨R7, false, zero32⟩ = D at *
  obtain ⟨R8, bad8, d⟩ := D
  dsimp only at hD32 hDle hc8 hr8 hS4 ⊢
  rw [hC]
  unfold sideH
  dsimp only [List.cons_append, List.nil_append]
  have hfl : ds.flatten.length = ds.length * 32 := hdg.len
  repeat' (first | (refine go1 ?_; intros) | (refine goCC ?_ ?_ <;> (intro hb; (try simp only [hSQ] at hb); try (exfalso; omega))) | fail)
  (refine v_drawX [10] 5 (by kernel_rfl) ?_ <;> (refine tA 0 ?_) <;> (refine tA 1 ?_) <;> (refine tA 2 ?_) <;> (refine tA 3 ?_) <;> (refine tA 4 ?_) <;> (refine tA 5 ?_) <;> (refine va_one 6 (by kernel_rfl) rfl rfl ?_; (refine goV ?_; intros); refine ⟨.inr entD, ?_⟩) <;> (refine va_one 7 (by kernel_rfl) rfl rfl ?_; (refine goV ?_; intros); refine ⟨.inr entD, ?_⟩) <;> (refine tA 8 ?_) <;> (refine tA 9 ?_) <;> (refine va_one 10 (by kernel_rfl) rfl rfl ?_; (refine goV ?_; intros); refine ⟨.inl (by kernel_rfl), ?_⟩) <;> (refine va_done (by kernel_rfl) ?_))
  rename_i gs a9 c9 _ _
  have hs9 : splice cs7 (0 + 71 + 66) [.slice a9 (ds.length + 1) c9] = (sxP r ((p4.wPl (ds ++ [d])).pv av p4.vl.length a9 c9)).cells := by
    rw [← hcs7, show ds.length + 1 = (ds ++ [d]).length by simp]
    exact sxP_set h o7 (off := 66) (Prf.sSides o7 a9 (ds ++ [d]) c9) (by simp)
  rw [hs9]
  have hdg2 : Dg (ds ++ [d]) := fun y hy => by
    rcases List.mem_append.1 hy with hy | hy
    · exact hdg y hy
    · rw [List.mem_singleton] at hy; rw [hy]; exact hD32
  have eo : own 24 32 a9 (ds.length + 1) c9 (bvs ds.flatten ++ (bvs d ++ [])) = own 24 32 a9 (ds ++ [d]).length c9 (bvs (ds ++ [d]).flatten) := by
    rw [List.flatten_append, List.length_append]
    simp [bvs]
  rw [eo]
  repeat' (first | (refine go1 ?_; intros) | (refine goCC ?_ ?_ <;> (intro hb; (try simp only [hSQ] at hb); try (exfalso; omega))) | fail)
  refine ⟨rfl, ⟨(i + 1, (ar8, cr8), ⟨R8, bad8, ds ++ [d]⟩, (a9, c9)), by dsimp only; omega, hS4, hdg2, by simp [hdl], hc8, by dsimp only; omega, hr8⟩, trivial, by dsimp only; omega, by (exact sbS), ?_⟩
  dsimp only
  exact sei _ _ _
end Go.Proofs.Ytgffejpcldeklaa

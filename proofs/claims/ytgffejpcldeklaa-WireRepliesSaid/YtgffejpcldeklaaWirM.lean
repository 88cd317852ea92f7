/-
  Parts of any kind, of any thing that is held: they are read.
-/
import Derived.Test.YtgffejpcldeklaaWirF
set_option linter.unusedVariables false
set_option linter.unusedSimpArgs false
set_option linter.unusedSectionVars false

namespace Go.Proofs.Ytgffejpcldeklaa
open Go Go.RowKit
open Classical

theorem hasBlk_app {H L : List Asn} {g i : Nat} {t : TypeId} {cs : List Value} (h : HasBlk H g i t cs) : HasBlk (H ++ L) g i t cs := ⟨by
  have := h.out
  rw [List.getElem?_append_left (List.getElem?_eq_some_iff.1 this).1]
  exact this⟩
theorem setI_app {H H' L : List Asn} {g i : Nat} {t : TypeId} {cs : List Value} {P' : Asn} (h : HasBlk H g i t cs) (k : SetI H i P' H') : SetI (H ++ L) i P' (H' ++ L) := ⟨by
  have := h.out
  rw [k.out, List.set_append_left _ _ (List.getElem?_eq_some_iff.1 this).1]⟩
theorem sei_appR (H L : List Asn) : SEI (H ++ L) L := ⟨se_app H L⟩
theorem se_mid (A H L : List Asn) : SE (A ++ (H ++ L)) (H ++ (A ++ L)) := se_perm (List.perm_append_comm_assoc A H L)
/-- What is left, whether it is bad, and what is read so far. -/
structure RG (S : Type) where
  r : List UInt8
  bad : Bool
  a : S
/-- A part: a number, a digest, a flag, bytes. -/
inductive PK (S : Type)
  | num (g off size most : Nat) (set : S → Nat → S)
  | dig (g off : Nat) (set : S → List UInt8 → S)
  | flg (g off : Nat) (set : S → Bool → S)
  | byt (fto fread : FuncId) (c : Value) (size : Nat) (rd : S → List UInt8 → S × Bool)
namespace PK
variable {S : Type}
def val : PK S → Value
  | .num g off size most _ => .iface 69 (.agg #[.pointer (some ⟨g, off, none⟩), .int .i64 size, .int .i64 most])
  | .dig g off _ => .iface 87 (.agg #[.pointer (some ⟨g, off, none⟩)])
  | .flg g off _ => .iface 90 (.agg #[.pointer (some ⟨g, off, none⟩)])
  | .byt fto fread c size _ => .iface 94 (.agg #[.func (.func fto) #[] #[c], .func (.func fread) #[] #[c], .int .i64 size])
def size : PK S → Nat
  | .num _ _ size _ _ => size
  | .dig _ _ _ => 32
  | .flg _ _ _ => 1
  | .byt _ _ _ size _ => size
/-- What is read of so many bytes, and whether it may be. -/
def get (p : PK S) (s : S) (X : List UInt8) : S × Bool := match p with
  | .num _ _ _ most set => (set s (min (numOf X) most), !decide (most < numOf X))
  | .dig _ _ set => (set s X, true)
  | .flg _ _ set => (set s (decide (X.getD 0 0 = 1)), !decide (1 < (X.getD 0 0).toNat))
  | .byt _ _ _ _ rd => rd s X
/-- Bytes are read only of what is well so far. -/
def step (p : PK S) (s : RG S) : RG S := match p with
  | .byt _ _ _ size rd => if (s.bad || decide (s.r.length < size)) = true then ⟨dropX size s.r, true, s.a⟩ else ⟨dropX size s.r, !(rd s.a (takeX size s.r)).2, (rd s.a (takeX size s.r)).1⟩
  | p => ⟨dropX p.size s.r, s.bad || decide (s.r.length < p.size) || !(p.get s.a (takeX p.size s.r)).2, (p.get s.a (takeX p.size s.r)).1⟩
def Ok (w0 : World) (H : S → List Asn) (ok : S → Prop) : PK S → Prop
  | .num g off size most set => (0 < size ∧ size ≤ 8 ∧ most < 9000000000000000000) ∧ ∀ s, ok s → ∃ i T cs, HasBlk (H s) g i T cs ∧ off + 1 ≤ cs.length ∧ ∀ v : Nat, v ≤ most → ok (set s v) ∧ SetI (H s) i (blk g T (splice cs off [.int .i64 (v : Int)])) (H (set s v))
  | .dig g off set => ∀ s, ok s → ∃ i T cs, HasBlk (H s) g i T cs ∧ off + 32 ≤ cs.length ∧ ∀ d : List UInt8, d.length = 32 → ok (set s d) ∧ SetI (H s) i (blk g T (splice cs off (bvs d))) (H (set s d))
  | .flg g off set => ∀ s, ok s → ∃ i T cs, HasBlk (H s) g i T cs ∧ off + 1 ≤ cs.length ∧ ∀ b : Bool, ok (set s b) ∧ SetI (H s) i (blk g T (splice cs off [.bool b])) (H (set s b))
  | .byt fto fread c size rd => (0 < size ∧ size ≤ 1000 ∧ FnB Try.prog fread) ∧ ∀ s, ok s → ∀ X : List UInt8, X.length = size → ok (rd s X).1 ∧ ∀ (L : List Asn) (a : Option Addr) (cb : Nat), size ≤ cb → RdC w0 (H s ++ L) a (bvs X) → VC Try.prog w0 fread [.slice a size cb, c] (H s ++ L) fun v L' => v = .bool (rd s X).2 ∧ L' = H (rd s X).1 ++ L
def fold (ps : List (PK S)) (s : RG S) : RG S := ps.foldl (fun s p => p.step s) s
theorem fold_take {ps : List (PK S)} {i : Nat} (hi : i < ps.length) (s : RG S) : fold (ps.take (i + 1)) s = (ps[i]).step (fold (ps.take i) s) := by
  unfold fold
  rw [List.take_succ_eq_append_getElem hi, List.foldl_append]
  rfl
theorem step_le (p : PK S) (s : RG S) : (p.step s).r.length ≤ s.r.length := by
  cases p
  · exact dropX_le _ _
  · exact dropX_le _ _
  · exact dropX_le _ _
  · unfold step
    dsimp only
    split
    · exact dropX_le _ _
    · exact dropX_le _ _
theorem fold_le (ps : List (PK S)) (s : RG S) : (fold ps s).r.length ≤ s.r.length := by
  unfold fold
  induction ps generalizing s with
  | nil => exact Nat.le_refl _
  | cons p ps ih => exact Nat.le_trans (ih (p.step s)) (step_le p s)
theorem step_ok {w0 : World} {H : S → List Asn} {ok : S → Prop} {p : PK S} (hp : p.Ok w0 H ok) {s : RG S} (h : ok s.a) : ok (p.step s).a := by
  cases p with
  | num g off size most set =>
    obtain ⟨_, q⟩ := hp
    obtain ⟨i, T, cs, _, _, k⟩ := q s.a h
    exact (k _ (Nat.min_le_right _ _)).1
  | dig g off set =>
    obtain ⟨i, T, cs, _, _, k⟩ := hp s.a h
    exact (k _ (takeX_len _ _)).1
  | flg g off set =>
    obtain ⟨i, T, cs, _, _, k⟩ := hp s.a h
    exact (k _).1
  | byt fto fread c size rd =>
    unfold step
    dsimp only
    split
    · exact h
    · exact (hp.2 s.a h _ (takeX_len _ _)).1
theorem fold_ok {w0 : World} {H : S → List Asn} {ok : S → Prop} {ps : List (PK S)} (hp : ∀ p ∈ ps, p.Ok w0 H ok) {s : RG S} (h : ok s.a) : ok (fold ps s).a := by
  unfold fold
  induction ps generalizing s with
  | nil => exact h
  | cons p ps ih => exact ih (fun q hq => hp q (List.mem_cons_of_mem _ hq)) (step_ok (hp p List.mem_cons_self) h)
end PK
abbrev ownG {S : Type} (ap : Option Addr) (cp : Nat) (ps : List (PK S)) : Asn := own 84 1 ap ps.length cp (ps.map PK.val)
abbrev restB (gr : Nat) (ar : Option Addr) (n cr : Nat) (bad : Bool) : Asn := blk gr 65 [.slice ar n cr, .bool bad]
set_option maxRecDepth 100000 in
set_option maxHeartbeats 4000000 in
theorem gparts_vc {S : Type} (w0 : World) (L : List Asn) (H : S → List Asn) (ok : S → Prop) (gr : Nat) (ar : Option Addr) (cr : Nat) (s : RG S) (ap : Option Addr) (cp : Nat) (ps : List (PK S)) (hps : ∀ p ∈ ps, p.Ok w0 H ok) (h : ok s.a) (hc : s.r.length ≤ cr) (hl : s.r.length ≤ 1000000) (hpl : ps.length ≤ 10) [hr : RdC w0 L ar (bvs s.r)] {m : Nat} (hm : m = ps.length) :
    VC Try.prog w0 21 [.pointer (some ⟨gr, 0, none⟩), .slice ap m cp] (restB gr ar s.r.length cr s.bad :: ownG ap cp ps :: (H s.a ++ L)) fun v L' => ∃ ar' cr', (PK.fold ps s).r.length ≤ cr' ∧ RdC w0 L ar' (bvs (PK.fold ps s).r) ∧ L' = restB gr ar' (PK.fold ps s).r.length cr' (PK.fold ps s).bad :: ownG ap cp ps :: (H (PK.fold ps s).a ++ L) := by
  subst hm
  refine vc_ent ?_
  refine vc_in rfl rfl ?_
  repeat' (first | (refine go1 ?_; intros) | (refine goCC ?_ ?_ <;> (intro hb; (try simp only [hSQ] at hb); try (exfalso; omega))) | fail)
  refine v_loopF {x : Nat × Option Addr × Nat // RdC w0 L x.2.1 (bvs (PK.fold (ps.take x.1) s).r) ∧ x.1 ≤ ps.length ∧ (PK.fold (ps.take x.1) s).r.length ≤ x.2.2} [0, 4, 18, 19] rfl (fun x => [(20, .int .i64 x.1.1)]) (fun _ x => restB gr x.1.2.1 (PK.fold (ps.take x.1.1) s).r.length x.1.2.2 (PK.fold (ps.take x.1.1) s).bad :: ownG ap cp ps :: (H (PK.fold (ps.take x.1.1) s).a ++ L)) (fun x => True) (fun x => ps.length - x.1.1) ⟨(0, ar, cr), hr, Nat.zero_le _, hc⟩ trivial (by (exact sbS)) (Ent.refl _ _) ?_
  rintro ⟨⟨i, ar, cr⟩, hrd, hi, hcr⟩ -
  dsimp only at hrd hi hcr ⊢
  by_cases hlt : i < ps.length
  rotate_left
  · obtain rfl : i = ps.length := by omega
    rw [List.take_length] at hrd hcr ⊢
    repeat' (first | (refine go1 ?_; intros) | (refine goCC ?_ ?_ <;> (intro hb; (try simp only [hSQ] at hb); try (exfalso; omega))) | fail)
    exact ⟨_, Ent.refl _ _, ar, cr, hcr, hrd, rfl⟩
  have hst := PK.fold_take hlt s
  have hok := PK.fold_ok (w0 := w0) (ps := ps.take i) (fun p hp => hps p (List.mem_of_mem_take hp)) h
  have hle := PK.fold_le (ps.take i) s
  have hv : (ps.map PK.val)[i]? = some (PK.val ps[i]) := by simp [hlt]
  have hvp : 0 < (ps.map PK.val).length := by simp; omega
  haveI := hrd
  generalize PK.fold (ps.take i) s = X at *
  have hlenR : X.r.length ≤ 1000000 := by omega
  have hpk := hps ps[i] (List.getElem_mem hlt)
  generalize hp : ps[i] = p at *
  have hsp : ∀ (u v x : Value), splice [u, v] (0 + 1) [x] = [u, x] := fun _ _ _ => rfl
  have fin : ∀ (ar2 : Option Addr) (cr2 : Nat) (Y : RG S), p.step X = Y → RdC w0 L ar2 (bvs Y.r) → Y.r.length ≤ cr2 → ∃ x : {x : Nat × Option Addr × Nat // RdC w0 L x.2.1 (bvs (PK.fold (ps.take x.1) s).r) ∧ x.1 ≤ ps.length ∧ (PK.fold (ps.take x.1) s).r.length ≤ x.2.2}, x.1.1 = i + 1 ∧ ∀ A : Asn, restB gr ar2 Y.r.length cr2 Y.bad :: A :: (H Y.a ++ L) = restB gr x.1.2.1 (PK.fold (ps.take x.1.1) s).r.length x.1.2.2 (PK.fold (ps.take x.1.1) s).bad :: A :: (H (PK.fold (ps.take x.1.1) s).a ++ L) := fun ar2 cr2 Y hY q1 q2 => ⟨⟨(i + 1, ar2, cr2), by rw [hst, hY]; exact q1, by omega, by rw [hst, hY]; exact q2⟩, rfl, fun A => by dsimp only; rw [hst, hY]⟩
  unfold restB ownG
  cases p with
  | num g off size most set =>
    obtain ⟨⟨z1, z2, z3⟩, q⟩ := hpk
    obtain ⟨ib, T, cs, hb1, hb2, hb3⟩ := q X.a hok
    rw [show PK.val (PK.num g off size most set) = .iface 69 (.agg #[.pointer (some ⟨g, off, none⟩), .int .i64 size, .int .i64 most]) from rfl] at hv
    generalize (ps.map PK.val) = vals at *
    have htl := takeX_len size X.r
    haveI hbI : HasBlk (H X.a ++ L) g ib T cs := hasBlk_app hb1
    haveI hseL : SEI (H X.a ++ L) L := sei_appR _ _
    repeat' (first | (refine go1 ?_; intros) | (refine goCC ?_ ?_ <;> (intro hb; (try simp only [hSQ] at hb); try (exfalso; omega))) | fail)
    refine vl_q rfl rfl rfl rfl (vq_asT rfl) ?_
    repeat' (first | (refine go1 ?_; intros) | (refine goCC ?_ ?_ <;> (intro hb; (try simp only [hSQ] at hb); try (exfalso; omega))) | fail)
    (refine v_drawX [] 1 (by kernel_rfl) ?_ <;> (refine tA 0 ?_) <;> (refine tA 1 ?_) <;> (refine tA 2 ?_) <;> (refine tA 4 ?_) <;> (refine tA 5 ?_))
    refine va_one 3 (by kernel_rfl) rfl rfl (vo_callM rfl rfl rfl ?_)
    refine vc_pre ((se_swap _ _ _).ent w0) ?_
    refine vc_mono (wtake_vc w0 _ L inferInstance gr ar cr X.r X.bad size z1 (by omega) hcr hlenR hrd) ?_
    rintro v L' ⟨a2, c2, az, cz, Z, ar2, cr2, rfl, q1, q2, hX, hR2, rfl⟩
    haveI hXI : ∀ M [k : SEI M (ownB az cz Z :: L)], RdC w0 M a2 (bvs (takeX size X.r)) := fun M k => rdC_sei hX k
    refine ⟨.inr entD, ?_⟩
    skip
    first | refine va_one 6 (by kernel_rfl) rfl rfl (vo_call rfl rfl ?_) | refine va_one 6 (by kernel_rfl) rfl rfl (vo_callV rfl rfl rfl ?_)
    refine vc_mono (take_vc w0 _ a2 c2 (takeX size X.r) size (by omega) z1 z2 (by omega) (by omega) (by omega)) ?_
    rintro v L' ⟨a3, c3, q3, rfl, rfl⟩
    refine ⟨.inr entD, ?_⟩
    ((refine tA 7 ?_) <;> (refine tA 8 ?_) <;> (refine tA 9 ?_) <;> (refine tA 10 ?_) <;> (refine tA 11 ?_) <;> (refine tA 12 ?_) <;> (refine tA 13 ?_) <;> (refine va_done (by kernel_rfl) ?_))
    rw [List.take_of_length_le (show (takeX size X.r).length ≤ size by omega)]
    have hnl := numOf_lt (takeX size X.r)
    have eS : (PK.num g off size most set).step X = ⟨dropX size X.r, X.bad || decide (X.r.length < size) || !!decide (most < numOf (takeX size X.r)), set X.a (min (numOf (takeX size X.r)) most)⟩ := rfl
    rw [Bool.not_not] at eS
    have hn8 : 256 ^ (takeX size X.r).length ≤ 256 ^ 8 := Nat.pow_le_pow_right (by decide) (by omega)
    generalize numOf (takeX size X.r) = N at *
    obtain ⟨hok2, hset⟩ := hb3 (min N most) (Nat.min_le_right _ _)
    haveI hsI : SetI (H X.a ++ L) ib (blk g T (splice cs off [.int .i64 ((min N most : Nat) : Int)])) (H (set X.a (min N most)) ++ L) := setI_app hb1 hset
    obtain ⟨x, hx1, hx2⟩ := fin ar2 cr2 _ eS hR2 q2
    cases hbd : (X.bad || decide (X.r.length < size))
    · repeat' (first | (refine go1 ?_; intros) | (refine goCC ?_ ?_ <;> (intro hb; (try simp only [hSQ] at hb); try (exfalso; omega))) | fail)
      refine vl_q rfl rfl rfl rfl (vq_minU (k := most) rfl rfl) ?_
      repeat' (first | (refine go1 ?_; intros) | (refine goCC ?_ ?_ <;> (intro hb; (try simp only [hSQ] at hb); try (exfalso; omega))) | fail)
      refine ⟨rfl, x, trivial, by omega, ?_, ?_⟩
      · rw [hx1]
        (exact sbS)
      · rw [← hx2, hsp, hbd, Bool.false_or, show decide (most < N) = decide ((most : Int) < (N : Int)) from decide_eq_decide.2 (by omega)]
        exact sei _ _ _
    · repeat' (first | (refine go1 ?_; intros) | (refine goCC ?_ ?_ <;> (intro hb; (try simp only [hSQ] at hb); try (exfalso; omega))) | fail)
      refine vl_q rfl rfl rfl rfl (vq_minU (k := most) rfl rfl) ?_
      repeat' (first | (refine go1 ?_; intros) | (refine goCC ?_ ?_ <;> (intro hb; (try simp only [hSQ] at hb); try (exfalso; omega))) | fail)
      refine ⟨rfl, x, trivial, by omega, ?_, ?_⟩
      · rw [hx1]
        (exact sbS)
      · rw [← hx2, hsp, hbd, Bool.true_or]
        exact sei _ _ _
  | dig g off set =>
    obtain ⟨ib, T, cs, hb1, hb2, hb3⟩ := hpk X.a hok
    rw [show PK.val (PK.dig g off set) = .iface 87 (.agg #[.pointer (some ⟨g, off, none⟩)]) from rfl] at hv
    generalize (ps.map PK.val) = vals at *
    have htl := takeX_len 32 X.r
    haveI hbI : HasBlk (H X.a ++ L) g ib T cs := hasBlk_app hb1
    haveI hseL : SEI (H X.a ++ L) L := sei_appR _ _
    obtain ⟨hok2, hset⟩ := hb3 _ htl
    haveI hsI : SetI (H X.a ++ L) ib (blk g T (splice cs off (bvs (takeX 32 X.r)))) (H (set X.a (takeX 32 X.r)) ++ L) := setI_app hb1 hset
    have eS : (PK.dig g off set).step X = ⟨dropX 32 X.r, X.bad || decide (X.r.length < 32), set X.a (takeX 32 X.r)⟩ := by
      show (⟨_, X.bad || decide (X.r.length < 32) || false, _⟩ : RG S) = _
      rw [Bool.or_false]
      rfl
    repeat' (first | (refine go1 ?_; intros) | (refine goCC ?_ ?_ <;> (intro hb; (try simp only [hSQ] at hb); try (exfalso; omega))) | fail)
    refine vl_q rfl rfl rfl rfl (vq_asF rfl (by decide)) ?_
    repeat' (first | (refine go1 ?_; intros) | (refine goCC ?_ ?_ <;> (intro hb; (try simp only [hSQ] at hb); try (exfalso; omega))) | fail)
    refine vl_q rfl rfl rfl rfl (vq_asT rfl) ?_
    repeat' (first | (refine go1 ?_; intros) | (refine goCC ?_ ?_ <;> (intro hb; (try simp only [hSQ] at hb); try (exfalso; omega))) | fail)
    (refine v_drawX [6] 1 (by kernel_rfl) ?_ <;> (refine tA 0 ?_) <;> (refine tA 1 ?_) <;> (refine tA 2 ?_) <;> (refine tA 3 ?_) <;> (refine tA 4 ?_))
    refine va_one 5 (by kernel_rfl) rfl rfl (vo_callM rfl rfl rfl ?_)
    refine vc_pre ((se_swap _ _ _).ent w0) ?_
    refine vc_mono (wtake_vc w0 _ L inferInstance gr ar cr X.r X.bad 32 (by decide) (by decide) hcr hlenR hrd) ?_
    rintro v L' ⟨a2, c2, az, cz, Z, ar2, cr2, rfl, q1, q2, hX, hR2, rfl⟩
    haveI hXI : ∀ M [k : SEI M (ownB az cz Z :: L)], RdC w0 M a2 (bvs (takeX 32 X.r)) := fun M k => rdC_sei hX k
    obtain ⟨x, hx1, hx2⟩ := fin ar2 cr2 _ eS hR2 q2
    refine ⟨.inr entD, ?_⟩
    refine va_one 6 (by kernel_rfl) rfl rfl (vo_copyB (xs := takeX 32 X.r) (ys := takeX 32 X.r) (cs' := splice cs off (bvs (takeX 32 X.r))) rfl rfl rfl (List.take_of_length_le (by simp [htl])) (by simp [htl]) rfl (by simp [htl]; omega) ?_)
    refine ⟨.inl (by kernel_rfl), ?_⟩
    refine va_done (by kernel_rfl) ?_
    repeat' (first | (refine go1 ?_; intros) | (refine goCC ?_ ?_ <;> (intro hb; (try simp only [hSQ] at hb); try (exfalso; omega))) | fail)
    refine ⟨rfl, x, trivial, by omega, ?_, ?_⟩
    · rw [hx1]
      (exact sbS)
    · rw [← hx2]
      exact sei _ _ _
  | flg g off set =>
    obtain ⟨ib, T, cs, hb1, hb2, hb3⟩ := hpk X.a hok
    rw [show PK.val (PK.flg g off set) = .iface 90 (.agg #[.pointer (some ⟨g, off, none⟩)]) from rfl] at hv
    generalize (ps.map PK.val) = vals at *
    have htl := takeX_len 1 X.r
    haveI hbI : HasBlk (H X.a ++ L) g ib T cs := hasBlk_app hb1
    haveI hseL : SEI (H X.a ++ L) L := sei_appR _ _
    have eS : (PK.flg g off set).step X = ⟨dropX 1 X.r, X.bad || decide (X.r.length < 1) || !!decide (1 < ((takeX 1 X.r).getD 0 0).toNat), set X.a (decide ((takeX 1 X.r).getD 0 0 = 1))⟩ := rfl
    rw [Bool.not_not] at eS
    obtain ⟨b, htk⟩ : ∃ b, takeX 1 X.r = [b] := List.length_eq_one_iff.1 htl
    obtain ⟨hok2, hset⟩ := hb3 (decide ((b.toNat : Int) = 1))
    haveI hsI : SetI (H X.a ++ L) ib (blk g T (splice cs off [.bool (decide ((b.toNat : Int) = 1))])) (H (set X.a (decide ((b.toNat : Int) = 1))) ++ L) := setI_app hb1 hset
    rw [htk, show List.getD [b] 0 0 = b from rfl, show decide (b = 1) = decide ((b.toNat : Int) = 1) from decide_eq_decide.2 ⟨fun e => by rw [e]; rfl, fun e => UInt8.toNat_inj.1 (by rw [show (1 : UInt8).toNat = 1 from rfl]; omega)⟩] at eS
    have hbl := b.toNat_lt
    repeat' (first | (refine go1 ?_; intros) | (refine goCC ?_ ?_ <;> (intro hb; (try simp only [hSQ] at hb); try (exfalso; omega))) | fail)
    refine vl_q rfl rfl rfl rfl (vq_asF rfl (by decide)) ?_
    repeat' (first | (refine go1 ?_; intros) | (refine goCC ?_ ?_ <;> (intro hb; (try simp only [hSQ] at hb); try (exfalso; omega))) | fail)
    refine vl_q rfl rfl rfl rfl (vq_asF rfl (by decide)) ?_
    repeat' (first | (refine go1 ?_; intros) | (refine goCC ?_ ?_ <;> (intro hb; (try simp only [hSQ] at hb); try (exfalso; omega))) | fail)
    refine vl_q rfl rfl rfl rfl (vq_asT rfl) ?_
    repeat' (first | (refine go1 ?_; intros) | (refine goCC ?_ ?_ <;> (intro hb; (try simp only [hSQ] at hb); try (exfalso; omega))) | fail)
    refine vl_o rfl (vo_callM rfl rfl rfl ?_)
    refine vc_pre ((se_swap _ _ _).ent w0) ?_
    refine vc_mono (wtake_vc w0 _ L inferInstance gr ar cr X.r X.bad 1 (by decide) (by decide) hcr hlenR hrd) ?_
    rintro v L' ⟨a2, c2, az, cz, Z, ar2, cr2, rfl, q1, q2, hX, hR2, rfl⟩
    rw [htk] at hX
    haveI hXI : ∀ M [k : SEI M (ownB az cz Z :: L)], RdC w0 M a2 (bvs [b]) := fun M k => rdC_sei hX k
    obtain ⟨x, hx1, hx2⟩ := fin ar2 cr2 _ eS hR2 q2
    have hg : (bvs [b])[0]? = some (.int .u8 (b.toNat : Nat)) := rfl
    have hgl : 0 < (bvs [b]).length := by simp
    cases hbd : (X.bad || decide (X.r.length < 1))
    · repeat' (first | (refine go1 ?_; intros) | (refine goCC ?_ ?_ <;> (intro hb; (try simp only [hSQ] at hb); try (exfalso; omega))) | fail)
      refine ⟨rfl, x, trivial, by omega, ?_, ?_⟩
      · rw [hx1]
        (exact sbS)
      · rw [← hx2, hsp, hbd, Bool.false_or, show decide (1 < b.toNat) = decide ((1 : Int) < (b.toNat : Int)) from decide_eq_decide.2 (by omega)]
        exact sei _ _ _
    · repeat' (first | (refine go1 ?_; intros) | (refine goCC ?_ ?_ <;> (intro hb; (try simp only [hSQ] at hb); try (exfalso; omega))) | fail)
      refine ⟨rfl, x, trivial, by omega, ?_, ?_⟩
      · rw [hx1]
        (exact sbS)
      · rw [← hx2, hsp, hbd, Bool.true_or]
        exact sei _ _ _
  | byt fto fread c size rd =>
    obtain ⟨⟨z1, z2, z3⟩, q⟩ := hpk
    haveI := z3
    rw [show PK.val (PK.byt fto fread c size rd) = .iface 94 (.agg #[.func (.func fto) #[] #[c], .func (.func fread) #[] #[c], .int .i64 size]) from rfl] at hv
    generalize (ps.map PK.val) = vals at *
    have htl := takeX_len size X.r
    haveI hseL : SEI (H X.a ++ L) L := sei_appR _ _
    obtain ⟨hok2, hread⟩ := q X.a hok (takeX size X.r) htl
    repeat' (first | (refine go1 ?_; intros) | (refine goCC ?_ ?_ <;> (intro hb; (try simp only [hSQ] at hb); try (exfalso; omega))) | fail)
    refine vl_q rfl rfl rfl rfl (vq_asF rfl (by decide)) ?_
    repeat' (first | (refine go1 ?_; intros) | (refine goCC ?_ ?_ <;> (intro hb; (try simp only [hSQ] at hb); try (exfalso; omega))) | fail)
    refine vl_q rfl rfl rfl rfl (vq_asF rfl (by decide)) ?_
    repeat' (first | (refine go1 ?_; intros) | (refine goCC ?_ ?_ <;> (intro hb; (try simp only [hSQ] at hb); try (exfalso; omega))) | fail)
    refine vl_q rfl rfl rfl rfl (vq_asF rfl (by decide)) ?_
    repeat' (first | (refine go1 ?_; intros) | (refine goCC ?_ ?_ <;> (intro hb; (try simp only [hSQ] at hb); try (exfalso; omega))) | fail)
    refine vl_q rfl rfl rfl rfl (vq_asT rfl) ?_
    repeat' (first | (refine go1 ?_; intros) | (refine goCC ?_ ?_ <;> (intro hb; (try simp only [hSQ] at hb); try (exfalso; omega))) | fail)
    refine vl_o rfl (vo_callM rfl rfl rfl ?_)
    refine vc_pre ((se_swap _ _ _).ent w0) ?_
    refine vc_mono (wtake_vc w0 _ L inferInstance gr ar cr X.r X.bad size z1 z2 hcr hlenR hrd) ?_
    rintro v L' ⟨a2, c2, az, cz, Z, ar2, cr2, rfl, q1, q2, hX, hR2, rfl⟩
    cases hbd : (X.bad || decide (X.r.length < size))
    · have eS : (PK.byt fto fread c size rd).step X = ⟨dropX size X.r, !(rd X.a (takeX size X.r)).2, (rd X.a (takeX size X.r)).1⟩ := by
        unfold PK.step
        dsimp only
        rw [if_neg (by rw [hbd]; decide)]
      obtain ⟨x, hx1, hx2⟩ := fin ar2 cr2 _ eS hR2 q2
      repeat' (first | (refine go1 ?_; intros) | (refine goCC ?_ ?_ <;> (intro hb; (try simp only [hSQ] at hb); try (exfalso; omega))) | fail)
      refine vl_o rfl (vo_callM rfl rfl rfl ?_)
      rename_i g14
      obtain ⟨A, hA⟩ : ∃ A, A = [ownB az cz Z, restB gr ar2 (dropX size X.r).length cr2 false, blk g14 94 [.func (.func fto) #[] #[c], .func (.func fread) #[] #[c], .int .i64 size], own 84 1 ap ps.length cp vals] := ⟨_, rfl⟩
      refine vc_pre (L2 := H X.a ++ (A ++ L)) ?_ ?_
      · rw [hA]
        exact (se_mid [_, _, _, _] (H X.a) L).ent w0
      refine vc_mono (hread _ a2 c2 q1 ?_) ?_
      · exact rdC_sei hX ⟨(se_app (H X.a) (A ++ L)).trans (by rw [hA]; exact (inferInstance : SEI (ownB az cz Z :: restB gr ar2 (dropX size X.r).length cr2 false :: blk g14 94 [.func (.func fto) #[] #[c], .func (.func fread) #[] #[c], .int .i64 size] :: own 84 1 ap ps.length cp vals :: L) (ownB az cz Z :: L)).out)⟩
      rintro v L' ⟨rfl, rfl⟩
      refine vl_ent ((se_mid (H (rd X.a (takeX size X.r)).1) A L).ent w0) ?_
      rw [hA]
      dsimp only [List.cons_append, List.nil_append]
      repeat' (first | (refine go1 ?_; intros) | (refine goCC ?_ ?_ <;> (intro hb; (try simp only [hSQ] at hb); try (exfalso; omega))) | fail)
      refine ⟨rfl, x, trivial, by omega, ?_, ?_⟩
      · rw [hx1]
        (exact sbS)
      · rw [← hx2, hsp]
        exact sei _ _ _
    · have eS : (PK.byt fto fread c size rd).step X = ⟨dropX size X.r, true, X.a⟩ := by
        unfold PK.step
        dsimp only
        rw [if_pos hbd]
      obtain ⟨x, hx1, hx2⟩ := fin ar2 cr2 _ eS hR2 q2
      repeat' (first | (refine go1 ?_; intros) | (refine goCC ?_ ?_ <;> (intro hb; (try simp only [hSQ] at hb); try (exfalso; omega))) | fail)
      refine ⟨rfl, x, trivial, by omega, ?_, ?_⟩
      · rw [hx1]
        (exact sbS)
      · rw [← hx2, hsp]
        exact sei _ _ _
end Go.Proofs.Ytgffejpcldeklaa

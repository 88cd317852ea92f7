/-
  Transactions: their cells; what is signed. slices.Insert and slices.Delete, of transactions. The body of a transaction: both walks. Bytes, signs, ids of transactions: the walks. Signs and ids of transactions: the walks. Senders of transactions; what is told of one: the law.
-/
import Derived.Test.YtcpndfffdbogbaaGreatDoorGF
import Derived.Test.YtcpndfffdbogbaaGreatDoorGC
import Derived.Test.YtcpndfffdbogbaaGreatDoorGH
import Derived.Test.YtcpndfffdbogbaaGreatDoorGK
set_option linter.unusedVariables false
set_option linter.unusedSimpArgs false
set_option linter.unusedSectionVars false
set_option maxRecDepth 100000
set_option maxHeartbeats 4000000
namespace Go.Proofs.YtcpndfffdbogbaaGreatDoor
open Go Go.RowKit

structure Tx where
  pub : List UInt8
  to : List UInt8
  nonce : Nat
  amount : Nat
  fee : Nat
  sign : List UInt8
deriving DecidableEq
def Tx.cells (x : Tx) : List Value := bvs x.pub ++ (bvs x.to ++ (.int .u64 (x.nonce : Int) :: (.int .u64 (x.amount : Int) :: (.int .u64 (x.fee : Int) :: bvs x.sign))))
structure Tx.ok (x : Tx) : Prop where
  pub : x.pub.length = 32
  to : x.to.length = 32
  nonce : x.nonce < 18446744073709551616
  amount : x.amount < 18446744073709551616
  fee : x.fee < 18446744073709551616
  sign : x.sign.length = 32
instance oc_tx (x : Tx) : OC x.cells := (inferInstance : OC (bvs x.pub ++ (bvs x.to ++ (.int .u64 (x.nonce : Int) :: (.int .u64 (x.amount : Int) :: (.int .u64 (x.fee : Int) :: bvs x.sign))))))
theorem Tx.len {x : Tx} (h : x.ok) : x.cells.length = 99 := by simp [Tx.cells, h.pub, h.to, h.sign]
theorem Tx.f0 {x : Tx} (h : x.ok) : (x.cells.drop (0 + 0)).take 32 = bvs x.pub := by
  simp only [Tx.cells, Nat.add_zero, List.drop_zero]
  rw [List.take_left' (by simp [h.pub])]
theorem Tx.f1 {x : Tx} (h : x.ok) : (x.cells.drop (0 + 32)).take 32 = bvs x.to := by
  simp only [Tx.cells, Nat.zero_add]
  rw [List.drop_left' (by simp [h.pub]), List.take_left' (by simp [h.to])]
theorem Tx.f2 {x : Tx} (h : x.ok) : x.cells[0 + 64]? = some (.int .u64 (x.nonce : Int)) := by
  simp [Tx.cells, List.getElem?_append, h.pub, h.to]
theorem Tx.f3 {x : Tx} (h : x.ok) : x.cells[0 + 65]? = some (.int .u64 (x.amount : Int)) := by
  simp [Tx.cells, List.getElem?_append, h.pub, h.to]
theorem Tx.f4 {x : Tx} (h : x.ok) : x.cells[0 + 66]? = some (.int .u64 (x.fee : Int)) := by
  simp [Tx.cells, List.getElem?_append, h.pub, h.to]
theorem Tx.cut {x : Tx} : x.cells = (bvs x.pub ++ (bvs x.to ++ [.int .u64 (x.nonce : Int), .int .u64 (x.amount : Int), .int .u64 (x.fee : Int)])) ++ bvs x.sign := by simp [Tx.cells]
theorem Tx.f5 {x : Tx} (h : x.ok) : (x.cells.drop (0 + 67)).take 32 = bvs x.sign := by
  rw [Tx.cut, List.drop_left' (by simp [h.pub, h.to]), List.take_of_length_le (by simp [h.sign])]
theorem Tx.withSign {x : Tx} (h : x.ok) {s : List UInt8} (hs : s.length = 32) : ({ x with sign := s } : Tx).ok := ⟨h.pub, h.to, h.nonce, h.amount, h.fee, hs⟩
abbrev txShape : Shape := List.replicate 32 (some .u8) ++ (List.replicate 32 (some .u8) ++ (some .u64 :: (some .u64 :: (some .u64 :: List.replicate 32 (some .u8)))))
theorem Tx.fits {x : Tx} (h : x.ok) : Fits txShape x.cells := by
  have a := fits_bvs x.pub
  have b := fits_bvs x.to
  have c := fits_bvs x.sign
  rw [h.pub] at a
  rw [h.to] at b
  rw [h.sign] at c
  exact a.append (b.append ⟨⟨_, rfl⟩, ⟨_, rfl⟩, ⟨_, rfl⟩, c⟩)
theorem Tx.inj {x y : Tx} (h : x.ok) (k : y.ok) : x.cells = y.cells ↔ x = y := by
  refine ⟨fun e => ?_, fun e => by rw [e]⟩
  unfold Tx.cells at e
  obtain ⟨e1, e⟩ := List.append_inj e (by simp [h.pub, k.pub])
  obtain ⟨e2, e⟩ := List.append_inj e (by simp [h.to, k.to])
  simp only [List.cons.injEq, Value.int.injEq, true_and] at e
  obtain ⟨e3, e4, e5, e6⟩ := e
  obtain ⟨p, t, n, a, f, s⟩ := x
  obtain ⟨p', t', n', a', f', s'⟩ := y
  simp only at e1 e2 e3 e4 e5 e6
  have := bvs_inj e1
  have := bvs_inj e2
  have := bvs_inj e6
  simp only [Tx.mk.injEq]
  refine ⟨by assumption, by assumption, by omega, by omega, by omega, by assumption⟩
theorem u64_wf {n : Int} (h : (Lit.int .u64 n).wf = true) : 0 ≤ n ∧ n < 18446744073709551616 := by
  simp [Lit.wf, IntKind.min, IntKind.max, IntKind.bits, IntKind.signed] at h
  omega
theorem tx_of_fits {cs : List Value} (h : FitsW txShape cs) : ∃ x : Tx, x.ok ∧ cs = x.cells := by
  obtain ⟨us, ws, rfl, h1, h2⟩ := h.split
  obtain ⟨p, rfl, hp⟩ := h1.bytes
  obtain ⟨us2, ws2, rfl, h3, h4⟩ := h2.split
  obtain ⟨t, rfl, ht⟩ := h3.bytes
  obtain ⟨n, us3, rfl, hn, h5⟩ := h4.cons
  obtain ⟨a, us4, rfl, ha, h6⟩ := h5.cons
  obtain ⟨f, us5, rfl, hf, h7⟩ := h6.cons
  obtain ⟨s, rfl, hs⟩ := h7.bytes
  have := u64_wf hn
  have := u64_wf ha
  have := u64_wf hf
  refine ⟨⟨p, t, n.toNat, a.toNat, f.toNat, s⟩, ⟨hp, ht, by dsimp only; omega, by dsimp only; omega, by dsimp only; omega, hs⟩, ?_⟩
  unfold Tx.cells
  dsimp only
  rw [Int.toNat_of_nonneg (by omega), Int.toNat_of_nonneg (by omega), Int.toNat_of_nonneg (by omega)]

section
variable {P : Program} {w0 : World} {n : Nat} {ds : List Deferred} {fr : Fr} {L : List Asn} {dst : Option Nat} {ty : TypeId} {pos : String} {after : Array Edge} {gd : Option (Nat × Bool)}
theorem vq_eqTx {t yt : TypeId} {a b : Operand} {x y : Tx} (hx : evA fr a = some (.agg x.cells.toArray)) (hy : evA fr b = some (.agg y.cells.toArray)) [he : EqI P t txShape] (hox : x.ok) (hoy : y.ok) : VQ P w0 n ⟨dst, .binOp .eql t a b yt, ty, pos, after, gd⟩ (.bool (decide (x = y))) ds fr L :=
  vq_val (fun u w hk _ => run_eqAgg t yt a b rfl he x.cells y.cells (hk.ev hx) (hk.ev hy) (Tx.fits hox) (Tx.fits hoy) _ (Tx.inj hox hoy))
end

section
variable {P : Program} {w0 : World} {n : Nat} {ds : List Deferred} {fr : Fr} {L : List Asn} {dst : Option Nat} {ty : TypeId} {pos : String} {after : Array Edge} {gd : Option (Nat × Bool)}
theorem vq_eqTxS {t yt : TypeId} {a b : Operand} {x : Tx} (hx : evA fr a = some (.agg x.cells.toArray)) (hy : evA fr b = some (.agg x.cells.toArray)) [he : EqI P t txShape] (hox : x.ok) : VQ P w0 n ⟨dst, .binOp .eql t a b yt, ty, pos, after, gd⟩ (.bool true) ds fr L := by
  have h := vq_eqTx (P := P) (w0 := w0) (n := n) (ds := ds) (L := L) (dst := dst) (ty := ty) (pos := pos) (after := after) (gd := gd) (t := t) (yt := yt) hx hy hox hox
  rwa [decide_eq_true rfl] at h
theorem vq_eqS {t yt : TypeId} {x y : Operand} {k : IntKind} {m : Int} (hx : evA fr x = some (.int k m)) (hy : evA fr y = some (.int k m)) : VQ P w0 n ⟨dst, .binOp .eql t x y yt, ty, pos, after, gd⟩ (.bool true) ds fr L := by
  have h := vq_eq (P := P) (w0 := w0) (n := n) (ds := ds) (L := L) (dst := dst) (ty := ty) (pos := pos) (after := after) (gd := gd) (t := t) (yt := yt) hx hy
  rwa [decide_eq_true rfl] at h
end

/-- What is signed; the bytes. -/
def txBody (x : Tx) : List UInt8 := x.pub ++ (x.to ++ (digs x.nonce 8 ++ (digs x.amount 8 ++ digs x.fee 8)))
theorem txBody_length {x : Tx} (h : x.ok) : (txBody x).length = 88 := by simp [txBody, h.pub, h.to, digs_length]
end Go.Proofs.YtcpndfffdbogbaaGreatDoor
namespace Go.Proofs.YtcpndfffdbogbaaGreatDoor
open Go Go.RowKit

instance oc_flatT {α : Type} (f : α → List Value) [h : ∀ x, OC (f x)] (xs : List α) : OC (flat f xs) := ⟨fun v hv => by
  obtain ⟨l, hl, hv⟩ := List.mem_flatten.1 hv
  obtain ⟨x, _, rfl⟩ := List.mem_map.1 hl
  exact (h x).out v hv⟩
abbrev ownTs (a : Option Addr) (cap : Nat) (xs : List Tx) : Asn := own 50 99 a xs.length cap (flat Tx.cells xs)
theorem txins_flat {ws : List Tx} (x : Tx) (at' : Nat) : flat Tx.cells (ws.take at' ++ x :: ws.drop at') = flat Tx.cells (ws.take at') ++ (Tx.cells x ++ flat Tx.cells (ws.drop at')) := by
  rw [flat_append, flat_cons]
theorem txins_len {ws : List Tx} (x : Tx) {at' : Nat} (h : at' ≤ ws.length) : (ws.take at' ++ x :: ws.drop at').length = ws.length + 1 := by
  simp; omega

theorem txins_vc (w0 : World) (L : List Asn) (a : Option Addr) (c : Nat) (ws : List Tx) (at' : Nat) (g : Nat) (x : Tx) {n : Nat} (hn : n = ws.length) (hat : at' ≤ ws.length) (hw : Wide Tx.cells 99 ws) (hx : (Tx.cells x).length = 99) (hlen : ws.length ≤ 1000000) :
    VC Tryz.prog w0 91 [.slice a n c, .int .i64 at', .slice (some ⟨g, 0, none⟩) 1 1] (own 50 99 (some ⟨g, 0, none⟩) 1 1 (Tx.cells x) :: ownTs a c ws :: L) fun v L' => ∃ a' c', v = .slice a' (ws.length + 1) c' ∧ L' = ownTs a' c' (ws.take at' ++ x :: ws.drop at') :: L := by
  subst hn
  refine vc_know (φ := ws.length ≤ c) (fun w hs => (hs.ownLen 1 rfl).2.1) (fun hc => ?_)
  have hfin : ∀ (a' : Option Addr) (c' : Nat) (L0 : List Asn), ownTs a' c' (ws.take at' ++ x :: ws.drop at') :: L0 = own 50 99 a' (ws.length + 1) c' (flat Tx.cells (ws.take at') ++ (Tx.cells x ++ flat Tx.cells (ws.drop at'))) :: L0 := by
    intro a' c' L0
    unfold ownTs
    rw [txins_flat, txins_len x hat]
  have hT : (flat Tx.cells (ws.take at')).length = at' * 99 := by
    rw [(hw.sub (fun y hy => List.mem_of_mem_take hy)).len, List.length_take, Nat.min_eq_left hat]
  have hD : (flat Tx.cells (ws.drop at')).length = (ws.length - at') * 99 := by
    rw [(hw.sub (fun y hy => List.mem_of_mem_drop hy)).len, List.length_drop]
  have hTD : flat Tx.cells ws = flat Tx.cells (ws.take at') ++ flat Tx.cells (ws.drop at') := by rw [← flat_append, List.take_append_drop]
  by_cases hA : at' = ws.length
  · refine vc_ent ?_
    refine vc_in rfl rfl ?_
    repeat' (first | (refine go1 ?_; intros) | (refine goCC ?_ ?_ <;> (intro hb; (try simp only [hSQ] at hb); try (exfalso; omega))) | fail)
    rename_i a' c' _ _
    refine ⟨ownTs a' c' (ws.take at' ++ x :: ws.drop at') :: L, ?_, a', c', rfl, rfl⟩
    rw [hfin, hA, List.take_length, List.drop_length, flat_nil, List.append_nil]
    exact sei _ _ _
  by_cases hB : c < ws.length + 1
  · refine vc_ent ?_
    refine vc_in rfl rfl ?_
    repeat' (first | (refine go1 ?_; intros) | (refine goCC ?_ ?_ <;> (intro hb; (try simp only [hSQ] at hb); try (exfalso; omega))) | fail)
    refine vl_q rfl rfl rfl rfl (vq_capSl rfl) ?_
    repeat' (first | (refine go1 ?_; intros) | (refine goCC ?_ ?_ <;> (intro hb; (try simp only [hSQ] at hb); try (exfalso; omega))) | fail)
    rw [subA_0, Nat.sub_zero, Nat.sub_zero]
    haveI rT : RdC w0 (own 50 99 (some ⟨g, 0, none⟩) 1 1 (Tx.cells x) :: ownTs a c ws :: L) a (flat Tx.cells (ws.take at')) := rdF_take hw at'
    refine vl_o rfl (vo_appendZ (hr := rT) (k := ws.length + 1 - at') rfl rfl rfl rfl hT (by omega) (by omega) (by unfold maxLen; omega) (by omega) ?_)
    intro g2 c2 zs hz hc2
    rw [show at' + (ws.length + 1 - at') = ws.length + 1 by omega] at hc2 ⊢
    haveI rD : RdC w0 (own 50 99 (some ⟨g2, 0, none⟩) (ws.length + 1) c2 (flat Tx.cells (ws.take at') ++ (Tx.cells x ++ zs.drop 99)) :: own 50 99 (some ⟨g, 0, none⟩) 1 1 (Tx.cells x) :: ownTs a c ws :: L) (subA a at' c 99) (flat Tx.cells (ws.drop at')) := rdF_drop hw at' c hc
    repeat' (first | (refine go1 ?_; intros) | (refine goCC ?_ ?_ <;> (intro hb; (try simp only [hSQ] at hb); try (exfalso; omega))) | fail)
    have hmin : min 1 (ws.length + 1 - at') = 1 := by omega
    have hsp : splice (flat Tx.cells (ws.take at') ++ zs) (at' * 99) (Tx.cells x) = flat Tx.cells (ws.take at') ++ (Tx.cells x ++ zs.drop 99) := by
      have e : zs = zs.take 99 ++ zs.drop 99 := by rw [List.take_append_drop]
      conv => lhs; rw [e]
      exact splice_mid _ _ _ _ _ hT (by rw [hx, List.length_take, hz]; omega)
    refine vl_o rfl (vo_copyO (lo := at') (q := c2) rfl rfl rfl (by omega) (by simp; omega) (us := Tx.cells x) (by rw [hmin, Nat.one_mul, ← hx, List.take_length]) (by rw [hmin, hx]) (by simp only [List.length_append, hT, hx, hz]; omega) hsp ?_)
    rw [hmin]
    repeat' (first | (refine go1 ?_; intros) | (refine goCC ?_ ?_ <;> (intro hb; (try simp only [hSQ] at hb); try (exfalso; omega))) | fail)
    have hmin2 : min (ws.length - at') (ws.length + 1 - (at' + 1)) = ws.length - at' := by omega
    have hsp2 : splice (flat Tx.cells (ws.take at') ++ (Tx.cells x ++ zs.drop 99)) ((at' + 1) * 99) (flat Tx.cells (ws.drop at')) = flat Tx.cells (ws.take at') ++ (Tx.cells x ++ flat Tx.cells (ws.drop at')) := by
      have := splice_mid (flat Tx.cells (ws.take at') ++ Tx.cells x) (zs.drop 99) [] (flat Tx.cells (ws.drop at')) ((at' + 1) * 99) (by rw [List.length_append, hT, hx]; omega) (by rw [hD, List.length_drop, hz]; omega)
      simpa using this
    refine v_draw0 [8] (by kernel_rfl) ?_
    refine tA 0 ?_
    refine tA 1 ?_
    refine tA 2 ?_
    refine tA 3 ?_
    refine tA 4 ?_
    refine tA 5 ?_
    refine tA 6 ?_
    refine tA 7 ?_
    refine va_one 8 (by kernel_rfl) rfl rfl ?_
    refine vo_copyO (hr := rD) (lo := at' + 1) (q := c2) rfl rfl rfl (by omega) (by simp only [List.length_append, hT, hx, List.length_drop, hz]; omega) (us := flat Tx.cells (ws.drop at')) (by rw [hmin2, ← hD, List.take_length]) (by rw [hmin2, hD]) (by simp only [List.length_append, hT, hx, hD, List.length_drop, hz]; omega) hsp2 ?_
    refine ⟨.inl (by kernel_rfl), ?_⟩
    refine va_done (by kernel_rfl) ?_
    skip
    repeat' (first | (refine go1 ?_; intros) | (refine goCC ?_ ?_ <;> (intro hb; (try simp only [hSQ] at hb); try (exfalso; omega))) | fail)
    refine ⟨ownTs (some ⟨g2, 0, none⟩) c2 (ws.take at' ++ x :: ws.drop at') :: L, ?_, some ⟨g2, 0, none⟩, c2, rfl, rfl⟩
    rw [hfin]
    exact sei _ _ _
  · refine vc_ex (fun w hs => st_room _ hs) ?_
    rintro ⟨ys, hy⟩
    dsimp only
    have hYl : (flat Tx.cells ws ++ ys).length = c * 99 := by rw [List.length_append, hw.len, hy, ← Nat.add_mul]; congr 1; omega
    have hYd : (flat Tx.cells ws ++ ys).drop (at' * 99) = flat Tx.cells (ws.drop at') ++ ys := by rw [hTD, List.append_assoc, ← hT, List.drop_left]
    haveI rD : RdC w0 (own 50 99 (some ⟨g, 0, none⟩) 1 1 (Tx.cells x) :: own 50 99 a c c (flat Tx.cells ws ++ ys) :: L) (subA a at' c 99) (flat Tx.cells (ws.drop at') ++ ys) := ⟨fun w hs => (hs.rcOwn 1 rfl).sub at' c 99 _ (fun j u hu => by rw [← List.getElem?_drop, hYd]; exact hu) (fun e => by omega)⟩
    refine vc_ent ?_
    refine vc_in rfl rfl ?_
    repeat' (first | (refine go1 ?_; intros) | (refine goCC ?_ ?_ <;> (intro hb; (try simp only [hSQ] at hb); try (exfalso; omega))) | fail)
    refine vl_q rfl rfl rfl rfl (vq_capSl rfl) ?_
    repeat' (first | (refine go1 ?_; intros) | (refine goCC ?_ ?_ <;> (intro hb; (try simp only [hSQ] at hb); try (exfalso; omega))) | fail)
    rw [subA_0, Nat.sub_zero, Nat.sub_zero]
    refine vl_o rfl (vo_overlaps (tS := 28) (tR := 4) rfl rfl rfl (by rw [hYl]; omega) rfl Tryz.func130 (by kernel_rfl) (by kernel_rfl) (by kernel_rfl) (by kernel_rfl) ?_)
    repeat' (first | (refine go1 ?_; intros) | (refine goCC ?_ ?_ <;> (intro hb; (try simp only [hSQ] at hb); try (exfalso; omega))) | fail)
    have hmin : min (ws.length + 1 - at') (ws.length + 1 - (at' + 1)) = ws.length - at' := by omega
    have hD0 : (flat Tx.cells (ws.drop at') ++ ys).take ((ws.length - at') * 99) = flat Tx.cells (ws.drop at') := by rw [← hD, List.take_left]
    obtain ⟨y1, y3, hY, hy1⟩ : ∃ y1 y3, flat Tx.cells (ws.drop at') ++ ys = y1 ++ (((flat Tx.cells (ws.drop at') ++ ys).drop 99).take ((ws.length - at') * 99) ++ y3) ∧ y1.length = 99 := by
      refine ⟨(flat Tx.cells (ws.drop at') ++ ys).take 99, ((flat Tx.cells (ws.drop at') ++ ys).drop 99).drop ((ws.length - at') * 99), by rw [List.take_append_drop, List.take_append_drop], ?_⟩
      simp only [List.length_take, List.length_append, hD, hy]
      omega
    have hy2 : (((flat Tx.cells (ws.drop at') ++ ys).drop 99).take ((ws.length - at') * 99)).length = (ws.length - at') * 99 := by
      simp only [List.length_take, List.length_drop, List.length_append, hD, hy]
      omega
    have hsp : splice (flat Tx.cells ws ++ ys) ((at' + 1) * 99) (flat Tx.cells (ws.drop at')) = (flat Tx.cells (ws.take at') ++ (y1 ++ (flat Tx.cells (ws.drop at') ++ y3))) := by
      rw [hTD, List.append_assoc, hY]
      have := splice_mid (flat Tx.cells (ws.take at') ++ y1) (((flat Tx.cells (ws.drop at') ++ ys).drop 99).take ((ws.length - at') * 99)) y3 (flat Tx.cells (ws.drop at')) ((at' + 1) * 99) (by rw [List.length_append, hT, hy1]; omega) (by rw [hD, hy2])
      simpa using this
    have hsp2 : splice (flat Tx.cells (ws.take at') ++ (y1 ++ (flat Tx.cells (ws.drop at') ++ y3))) (at' * 99) (Tx.cells x) = flat Tx.cells (ws.take at') ++ (Tx.cells x ++ (flat Tx.cells (ws.drop at') ++ y3)) :=
      splice_mid _ _ _ _ _ hT (by rw [hx, hy1])
    have hl3 : (flat Tx.cells (ws.take at') ++ (y1 ++ (flat Tx.cells (ws.drop at') ++ y3))).length = c * 99 := by
      rw [← hsp, length_splice _ _ _ (by rw [hYl, hD]; omega), hYl]
    refine v_draw0 [8] (by kernel_rfl) ?_
    refine tA 0 ?_
    refine tA 1 ?_
    refine tA 2 ?_
    refine tA 3 ?_
    refine tA 4 ?_
    refine tA 5 ?_
    refine tA 6 ?_
    refine tA 7 ?_
    refine va_one 8 (by kernel_rfl) rfl rfl ?_
    refine vo_copyO (hr := rD) (lo := at' + 1) (q := c) rfl rfl rfl (by omega) (by rw [hYl]; omega) (us := flat Tx.cells (ws.drop at')) (by rw [hmin, hD0]) (by rw [hmin, hD]) (by rw [hYl, hD]; omega) hsp ?_
    skip
    refine ⟨.inl (by kernel_rfl), ?_⟩
    refine va_done (by kernel_rfl) ?_
    skip
    repeat' (first | (refine go1 ?_; intros) | (refine goCC ?_ ?_ <;> (intro hb; (try simp only [hSQ] at hb); try (exfalso; omega))) | fail)
    have hmin3 : min 1 (ws.length + 1 - at') = 1 := by omega
    refine vl_o rfl (vo_copyO (lo := at') (q := c) rfl rfl rfl (by omega) (by rw [hl3]; omega) (us := Tx.cells x) (by rw [hmin3, Nat.one_mul, ← hx, List.take_length]) (by rw [hmin3, hx]) (by rw [hl3, hx]; omega) hsp2 ?_)
    repeat' (first | (refine go1 ?_; intros) | (refine goCC ?_ ?_ <;> (intro hb; (try simp only [hSQ] at hb); try (exfalso; omega))) | fail)
    refine ⟨_, ?_, a, c, rfl, rfl⟩
    rw [hfin]
    refine ((se_drop _ _).trans (se_head _ (fun w F h => ?_))).ent w0
    have := own_cut (ws.length + 1) c (by omega) (Nat.le_refl _) (by omega) w F h
    have e : (flat Tx.cells (ws.take at') ++ (Tx.cells x ++ (flat Tx.cells (ws.drop at') ++ y3))).take ((ws.length + 1) * 99) = flat Tx.cells (ws.take at') ++ (Tx.cells x ++ flat Tx.cells (ws.drop at')) := by
      have e2 : flat Tx.cells (ws.take at') ++ (Tx.cells x ++ (flat Tx.cells (ws.drop at') ++ y3)) = (flat Tx.cells (ws.take at') ++ (Tx.cells x ++ flat Tx.cells (ws.drop at'))) ++ y3 := by simp
      rw [e2, List.take_left']
      simp only [List.length_append, hT, hx, hD]
      omega
    rwa [e] at this

end Go.Proofs.YtcpndfffdbogbaaGreatDoor
namespace Go.Proofs.YtcpndfffdbogbaaGreatDoor
open Go Go.RowKit

theorem putD_vc (w0 : World) (L : List Asn) (a : Option Addr) (cap : Nat) (d1 d2 : List UInt8) (h1 : d1.length = 32) (h2 : d2.length = 32) [hr : RdC w0 L a (bvs (d1 ++ d2))] :
    VC Tryz.prog w0 151 [.slice none 0 0, .slice a 2 cap, .func (.func 152) #[] #[]] L fun v L' => ∃ a' c', v = .slice a' (d1 ++ d2).length c' ∧ L' = ownB a' c' (d1 ++ d2) :: L := by
  have hD : (d1 ++ d2).length = 64 := by simp [h1, h2]
  have e1 : ((bvs (d1 ++ d2)).drop 0).take 32 = bvs d1 := by rw [bvs_drop, bvs_take, List.drop_zero, List.take_left' h1]
  have e2 : ((bvs (d1 ++ d2)).drop 32).take 32 = bvs d2 := by rw [bvs_drop, bvs_take, List.drop_left' h1, List.take_of_length_le (by omega)]
  refine vc_in rfl rfl ?_
  repeat' (first | (refine goW ?_; intros) | (refine goCC ?_ ?_ <;> (intro hb; (try simp only [hSQ] at hb); try (exfalso; omega))) | fail)
  refine v_loopF (Nat × Option Addr × Nat) [2, 9, 10] rfl (fun x => [(11, .int .i64 x.1), (0, .slice x.2.1 ((d1 ++ d2).take (32 * x.1)).length x.2.2)]) (fun _ x => ownB x.2.1 x.2.2 ((d1 ++ d2).take (32 * x.1)) :: L) (fun x => x.1 ≤ 2) (fun x => 2 - x.1) (0, none, 0) (by decide) (by (exact sbS)) ((se_own_nil _ 1 _).ent w0) ?_
  rintro ⟨i, oa, oc⟩ hi
  dsimp only at hi ⊢
  by_cases hlt : i < 2
  · have hk : ∃ d, d.length = 32 ∧ ((bvs (d1 ++ d2)).drop (i * 32)).take 32 = bvs d ∧ (d1 ++ d2).take (32 * (i + 1)) = (d1 ++ d2).take (32 * i) ++ d := by
      rcases (by omega : i = 0 ∨ i = 1) with rfl | rfl
      · exact ⟨d1, h1, e1, by simp [List.take_left' h1]⟩
      · exact ⟨d2, h2, e2, by rw [List.take_of_length_le (by omega), List.take_left' (by omega)]⟩
    obtain ⟨d, hd, hcut, hsn⟩ := hk
    have hol : ((d1 ++ d2).take (32 * i)).length ≤ 64 := by simp; omega
    have hp0 : 0 < (bvs (d1 ++ d2)).length := by simp; omega
    have hd1 : d.length = 32 * 1 := by omega
    have hsl : ((d1 ++ d2).take (32 * (i + 1))).length = ((d1 ++ d2).take (32 * i)).length + 32 := by rw [hsn, List.length_append, hd]
    generalize (d1 ++ d2).take (32 * i) = T at *
    repeat' (first | (refine goW ?_; intros) | (refine goCC ?_ ?_ <;> (intro hb; (try simp only [hSQ] at hb); try (exfalso; omega))) | fail)
    rename_i g1 g2 a' c' _ _
    refine ⟨rfl, (i + 1, a', c'), hlt, by dsimp only; omega, ?_, ?_⟩
    · dsimp only
      rw [hsl]
      (exact sbS)
    · dsimp only
      unfold ownB
      rw [hsl, hsn, bvs_append]
      exact ((se_drop _ _).trans (se_drop _ _)).ent w0
  obtain rfl : i = 2 := by omega
  rw [show (d1 ++ d2).take (32 * 2) = d1 ++ d2 from List.take_of_length_le (by omega)]
  repeat' (first | (refine goW ?_; intros) | (refine goCC ?_ ?_ <;> (intro hb; (try simp only [hSQ] at hb); try (exfalso; omega))) | fail)
  exact ⟨_, _, rfl, rfl⟩

def u64s (l : List Nat) : List Value := l.map fun (n : Nat) => .int .u64 (n : Int)
theorem u64s_at (l : List Nat) (k : Nat) (h : k < l.length) : (u64s l)[k]? = some (.int .u64 ((l[k] : Nat) : Int)) := by simp [u64s, h]
def dig8s (l : List Nat) : List UInt8 := l.flatMap fun n => digs n 8
theorem dig8s_length (l : List Nat) : (dig8s l).length = 8 * l.length := by
  induction l with
  | nil => rfl
  | cons n l ih => simp only [dig8s, List.flatMap_cons, List.length_append, digs_length, List.length_cons] at ih ⊢; omega
theorem putN_vc (w0 : World) (L : List Asn) (ob : Option Addr) (cb : Nat) (B : List UInt8) (a : Option Addr) (cap : Nat) (l : List Nat) {n m : Nat} (hn : n = l.length) (hm : m = B.length) (hl : l.length ≤ 1000) (hB : B.length ≤ 1000000) (h64 : ∀ x ∈ l, x < 18446744073709551616) [hr : RdC w0 L a (u64s l)] :
    VC Tryz.prog w0 153 [.slice ob m cb, .slice a n cap, .func (.func 154) #[] #[]] (ownB ob cb B :: L) fun v L' => ∃ a' c', v = .slice a' (B ++ dig8s l).length c' ∧ L' = ownB a' c' (B ++ dig8s l) :: L := by
  subst hn; subst hm
  refine vc_in rfl rfl ?_
  repeat' (first | (refine go1 ?_; intros) | (refine goCC ?_ ?_ <;> (intro hb; (try simp only [hSQ] at hb); try (exfalso; omega))) | fail)
  refine v_loopF (Nat × Option Addr × Nat) [2, 9, 10] rfl (fun x => [(11, .int .i64 x.1), (0, .slice x.2.1 (B ++ dig8s (l.take x.1)).length x.2.2)]) (fun _ x => ownB x.2.1 x.2.2 (B ++ dig8s (l.take x.1)) :: L) (fun x => x.1 ≤ l.length) (fun x => l.length - x.1) (0, ob, cb) (Nat.zero_le _) (by dsimp only; rw [show B ++ dig8s (l.take 0) = B by simp [dig8s]]; (exact sbS)) (by dsimp only; rw [show B ++ dig8s (l.take 0) = B by simp [dig8s]]; exact Ent.refl _ _) ?_
  rintro ⟨i, oa, oc⟩ hi
  dsimp only at hi ⊢
  have hol : (B ++ dig8s (l.take i)).length ≤ 1010000 := by rw [List.length_append, dig8s_length, List.length_take]; omega
  by_cases hlt : i < l.length
  · have hg := u64s_at l i hlt
    have hx := h64 _ (List.getElem_mem hlt)
    have hp0 : 0 < (u64s l).length := by simp [u64s]; omega
    have hsn : B ++ dig8s (l.take (i + 1)) = (B ++ dig8s (l.take i)) ++ digs (l[i]) 8 := by
      rw [List.take_succ_eq_append_getElem hlt]; simp only [dig8s, List.flatMap_append, List.flatMap_cons, List.flatMap_nil, List.append_nil, List.append_assoc]
    have hd8 := digs_length (l[i]) 8
    have hsl : (B ++ dig8s (l.take (i + 1))).length = (B ++ dig8s (l.take i)).length + 8 := by rw [hsn, List.length_append, hd8]
    generalize B ++ dig8s (l.take i) = T at *
    generalize l[i] = N at *
    repeat' (first | (refine go1 ?_; intros) | (refine goCC ?_ ?_ <;> (intro hb; (try simp only [hSQ] at hb); try (exfalso; omega))) | fail)
    refine clV ?_
    refine vc_mono (put_vc w0 _ N 8 (by decide) (by decide) (by simpa using hx)) ?_
    rintro v L' ⟨a4, c4, rfl, rfl⟩
    repeat' (first | (refine go1 ?_; intros) | (refine goCC ?_ ?_ <;> (intro hb; (try simp only [hSQ] at hb); try (exfalso; omega))) | fail)
    rename_i a' c' _ _
    refine ⟨rfl, (i + 1, a', c'), hlt, by dsimp only; omega, ?_, ?_⟩
    · dsimp only
      rw [hsl]
      (exact sbS)
    · dsimp only
      unfold ownB
      rw [hsl, hsn, bvs_append]
      exact (se_drop _ _).ent w0
  obtain rfl : i = l.length := by omega
  rw [List.take_of_length_le (Nat.le_refl _)] at hol ⊢
  repeat' (first | (refine go1 ?_; intros) | (refine goCC ?_ ?_ <;> (intro hb; (try simp only [hSQ] at hb); try (exfalso; omega))) | fail)
  exact ⟨_, _, rfl, rfl⟩

theorem body_vc (w0 : World) (L : List Asn) (x : Tx) (h : x.ok) :
    VC Tryz.prog w0 129 [.agg x.cells.toArray] L fun v L' => ∃ a' c', v = .slice a' 88 c' ∧ L' = ownB a' c' (txBody x) :: L := by
  have f0 := Tx.f0 h
  have f1 := Tx.f1 h
  have f2 := Tx.f2 h
  have f3 := Tx.f3 h
  have f4 := Tx.f4 h
  have hl0 := h.pub
  have hl1 := h.to
  have hBl := txBody_length h
  have hBd : txBody x = (x.pub ++ x.to) ++ dig8s [x.nonce, x.amount, x.fee] := by simp [txBody, dig8s]
  have hn := h.nonce
  have ha := h.amount
  have hf := h.fee
  generalize x.cells = cs at *
  refine vc_ent ?_
  refine vc_in rfl rfl ?_
  repeat' (first | (refine go1 ?_; intros) | (refine goCC ?_ ?_ <;> (intro hb; (try simp only [hSQ] at hb); try (exfalso; omega))) | fail)
  rename_i g1 g2
  rw [List.append_nil]
  refine clV ?_
  haveI hr1 : RdC w0 (own 47 32 (some ⟨g2, 0, none⟩) 2 2 (bvs x.pub ++ bvs x.to) :: blk g1 50 cs :: L) (some ⟨g2, 0, none⟩) (bvs (x.pub ++ x.to)) := by rw [bvs_append]; infer_instance
  refine vc_mono (putD_vc w0 _ (some ⟨g2, 0, none⟩) 2 x.pub x.to hl0 hl1) ?_
  rintro v L' ⟨a1, c1, rfl, rfl⟩
  repeat' (first | (refine go1 ?_; intros) | (refine goCC ?_ ?_ <;> (intro hb; (try simp only [hSQ] at hb); try (exfalso; omega))) | fail)
  rename_i g3
  refine clV ?_
  refine vc_pre (SE.ent (se_swap _ _ _) w0) ?_
  haveI hr2 : RdC w0 (own 48 1 (some ⟨g3, 0, none⟩) 3 3 [.int .u64 (x.nonce : Int), .int .u64 (x.amount : Int), .int .u64 (x.fee : Int)] :: own 47 32 (some ⟨g2, 0, none⟩) 2 2 (bvs x.pub ++ bvs x.to) :: blk g1 50 cs :: L) (some ⟨g3, 0, none⟩) (u64s [x.nonce, x.amount, x.fee]) := (inferInstance : RdC w0 _ _ [.int .u64 (x.nonce : Int), .int .u64 (x.amount : Int), .int .u64 (x.fee : Int)])
  refine vc_mono (putN_vc w0 _ a1 c1 (x.pub ++ x.to) (some ⟨g3, 0, none⟩) 3 [x.nonce, x.amount, x.fee] rfl rfl (by simp) (by rw [List.length_append, hl0, hl1]; decide) (by intro y hy; simp at hy; omega)) ?_
  rintro v L' ⟨a2, c2, rfl, rfl⟩
  rw [← hBd, hBl]
  repeat' (first | (refine go1 ?_; intros) | (refine goCC ?_ ?_ <;> (intro hb; (try simp only [hSQ] at hb); try (exfalso; omega))) | fail)
  refine ⟨_, ?_, a2, c2, rfl, rfl⟩
  exact (SE.cons _ ((se_drop _ _).trans ((se_drop _ _).trans (se_drop _ _)))).ent w0

theorem rbody_vc (w0 : World) (L : List Asn) (x : Tx) (h : x.ok) :
    VC Tryz.prog w0 133 [.agg x.cells.toArray] L fun v L' => ∃ a' c', v = .slice a' 88 c' ∧ L' = ownB a' c' (txBody x) :: L := by
  have f0 := Tx.f0 h
  have f1 := Tx.f1 h
  have f2 := Tx.f2 h
  have f3 := Tx.f3 h
  have f4 := Tx.f4 h
  have hl0 := h.pub
  have hl1 := h.to
  have hl0' : x.pub.length = 32 * 1 := hl0
  have hl1' : x.to.length = 32 * 1 := hl1
  have hBl := txBody_length h
  have hn := h.nonce
  have ha := h.amount
  have hf := h.fee
  generalize x.cells = cs at *
  refine vc_ent ?_
  refine vc_in rfl rfl ?_
  repeat' (first | (refine go1 ?_; intros) | (refine goCC ?_ ?_ <;> (intro hb; (try simp only [hSQ] at hb); try (exfalso; omega))) | fail)
  rename_i g1
  haveI hp : RdC w0 (blk g1 50 cs :: L) (some ⟨g1, 0 + 0, none⟩) (bvs x.pub) := rdC_part (0 + 0) 32 f0
  haveI ht : RdC w0 (blk g1 50 cs :: L) (some ⟨g1, 0 + 32, none⟩) (bvs x.to) := rdC_part (0 + 32) 32 f1
  repeat' (first | (refine goW ?_; intros) | (refine goCC ?_ ?_ <;> (intro hb; (try simp only [hSQ] at hb); try (exfalso; omega))) | fail)
  refine clV ?_
  refine vc_mono (digits_vc w0 _ x.nonce 8 (by decide) (by decide) hn) ?_
  rintro v L' ⟨a4, c4, b4, rfl, rfl⟩
  repeat' (first | (refine go1 ?_; intros) | (refine goCC ?_ ?_ <;> (intro hb; (try simp only [hSQ] at hb); try (exfalso; omega))) | fail)
  refine clV ?_
  refine vc_mono (digits_vc w0 _ x.amount 8 (by decide) (by decide) ha) ?_
  rintro v L' ⟨a5, c5, b5, rfl, rfl⟩
  repeat' (first | (refine go1 ?_; intros) | (refine goCC ?_ ?_ <;> (intro hb; (try simp only [hSQ] at hb); try (exfalso; omega))) | fail)
  refine clV ?_
  refine vc_mono (digits_vc w0 _ x.fee 8 (by decide) (by decide) hf) ?_
  rintro v L' ⟨a6, c6, b6, rfl, rfl⟩
  repeat' (first | (refine go1 ?_; intros) | (refine goCC ?_ ?_ <;> (intro hb; (try simp only [hSQ] at hb); try (exfalso; omega))) | fail)
  have hd1 := digs_length x.nonce 8
  have hd2 := digs_length x.amount 8
  have hd3 := digs_length x.fee 8
  rename_i a7 c7 _ _
  have hbv : bvs (txBody x) = bvs x.pub ++ bvs x.to ++ bvs (digs x.nonce 8) ++ bvs (digs x.amount 8) ++ bvs (digs x.fee 8) := by simp [txBody, bvs_append]
  refine ⟨_, ?_, a7, c7, rfl, rfl⟩
  unfold ownB
  rw [hBl, hbv]
  exact ((se_drop _ _).trans ((se_drop _ _).trans ((se_drop _ _).trans (SE.cons _ (se_drop _ _))))).ent w0
end Go.Proofs.YtcpndfffdbogbaaGreatDoor
namespace Go.Proofs.YtcpndfffdbogbaaGreatDoor
open Go Go.RowKit

end Go.Proofs.YtcpndfffdbogbaaGreatDoor
namespace Go.Proofs.YtcpndfffdbogbaaGreatDoor
open Go Go.RowKit

/-- The right sign. -/
theorem txsign_vc (w0 : World) (L : List Asn) (x : Tx) (h : x.ok) [hK : RdA w0 (some ⟨0, 0, none⟩) (wds K64)] :
    VC Tryz.prog w0 89 [.agg x.cells.toArray] L fun v L' => v = .agg (bvs (sha (tagB 4 [txBody x]))).toArray ∧ L' = L := by
  have hlen := Tx.len h
  have hbl := txBody_length h
  refine vc_ent ?_
  refine vc_in rfl rfl ?_
  repeat' (first | (refine go1 ?_; intros) | (refine goCC ?_ ?_ <;> (intro hb; (try simp only [hSQ] at hb); try (exfalso; omega))) | fail)
  rename_i g1 g2
  refine clV ?_
  refine vc_mono (body_vc w0 _ x h) ?_
  rintro v L' ⟨a1, c1, rfl, rfl⟩
  rw [← hbl]
  repeat' (first | (refine go1 ?_; intros) | (refine goCC ?_ ?_ <;> (intro hb; (try simp only [hSQ] at hb); try (exfalso; omega))) | fail)
  rename_i g3
  refine clV ?_
  haveI h1 : RdC w0 (own 70 1 (some ⟨g3, 0, none⟩) 1 1 [.slice a1 (txBody x).length c1] :: ownB a1 c1 (txBody x) :: blk g2 47 (bvs (List.replicate 32 0)) :: blk g1 50 x.cells :: L) (some ⟨g3, 0, none⟩) (pbs [⟨a1, c1, txBody x⟩]) := (inferInstance : RdC w0 _ _ [.slice a1 (txBody x).length c1])
  haveI h2 : RdPs w0 (own 70 1 (some ⟨g3, 0, none⟩) 1 1 [.slice a1 (txBody x).length c1] :: ownB a1 c1 (txBody x) :: blk g2 47 (bvs (List.replicate 32 0)) :: blk g1 50 x.cells :: L) [⟨a1, c1, txBody x⟩] := ⟨fun p hp => by
    simp only [List.mem_singleton] at hp
    subst hp
    infer_instance⟩
  refine vc_mono (tof_vc w0 _ 4 (by decide) (some ⟨g3, 0, none⟩) 1 [⟨a1, c1, txBody x⟩] rfl (by simp only [tagB, ls, List.map_cons, List.map_nil, List.flatMap_cons, List.flatMap_nil, List.length_cons, List.length_append, digs_length, List.length_nil, hbl]; decide)) ?_
  rintro v L' ⟨rfl, rfl⟩
  rw [show tagB 4 (ls [⟨a1, c1, txBody x⟩]) = tagB 4 [txBody x] from rfl]
  have hS := sha_length (tagB 4 [txBody x])
  generalize sha (tagB 4 [txBody x]) = S at *
  repeat' (first | (refine go1 ?_; intros) | (refine goCC ?_ ?_ <;> (intro hb; (try simp only [hSQ] at hb); try (exfalso; omega))) | fail)
  exact ⟨_, ((se_drop _ _).trans ((se_drop _ _).trans ((se_drop _ _).trans (se_drop _ _)))).ent w0, rfl, rfl⟩

/-- The right sign of one; signed. -/
def sgn (x : Tx) : List UInt8 := sha (tagB 4 [txBody x])
def signed (x : Tx) : Tx := { x with sign := sgn x }
theorem sgn_length (x : Tx) : (sgn x).length = 32 := sha_length _
theorem Tx.ok.signed {x : Tx} (h : x.ok) : (signed x).ok := Tx.withSign h (sgn_length x)
theorem txCheck_vc (w0 : World) (L : List Asn) (x : Tx) (h : x.ok) [hK : RdA w0 (some ⟨0, 0, none⟩) (wds K64)] :
    VC Tryz.prog w0 43 [.agg x.cells.toArray] L fun v L' => v = .int .i64 (if x.sign = sgn x then 0 else 110) ∧ L' = L := by
  have hlen := Tx.len h
  have f5 := Tx.f5 h
  have hl5 := h.sign
  have hS := sgn_length x
  refine vc_ent ?_
  refine vc_in rfl rfl ?_
  repeat' (first | (refine go1 ?_; intros) | (refine goCC ?_ ?_ <;> (intro hb; (try simp only [hSQ] at hb); try (exfalso; omega))) | fail)
  (refine v_draw0 [] (by kernel_rfl) ?_ <;> (refine tA 0 ?_) <;> (refine tA 1 ?_) <;> (refine tA 2 ?_))
  first | refine va_one 3 (by kernel_rfl) rfl rfl (vo_call rfl rfl ?_) | refine va_one 3 (by kernel_rfl) rfl rfl (vo_callV rfl rfl rfl ?_)
  refine vc_mono (txsign_vc w0 _ x h) ?_
  rintro v L' ⟨rfl, rfl⟩
  rw [show sha (tagB 4 [txBody x]) = sgn x from rfl]
  generalize sgn x = S at *
  refine ⟨.inr entD, ?_⟩
  ((refine tA 4 ?_) <;> (refine va_done (by kernel_rfl) ?_))
  by_cases he : x.sign = S
  · rw [decide_eq_true he, if_pos he]
    repeat' (first | (refine go1 ?_; intros) | (refine goCC ?_ ?_ <;> (intro hb; (try simp only [hSQ] at hb); try (exfalso; omega))) | fail)
    exact ⟨_, (se_drop _ _).ent w0, rfl, rfl⟩
  · rw [decide_eq_false he, if_neg he]
    repeat' (first | (refine go1 ?_; intros) | (refine goCC ?_ ?_ <;> (intro hb; (try simp only [hSQ] at hb); try (exfalso; omega))) | fail)
    exact ⟨_, (se_drop _ _).ent w0, rfl, rfl⟩

theorem rCheck_vc (w0 : World) (L : List Asn) (x : Tx) (h : x.ok) :
    VC Tryz.prog w0 92 [.agg x.cells.toArray] L fun v L' => v = .int .i64 (if x.sign = sgn x then 0 else 110) ∧ L' = L := by
  have hlen := Tx.len h
  have f5 := Tx.f5 h
  have hl5 := h.sign
  have hS := sgn_length x
  have hbl := txBody_length h
  refine vc_ent ?_
  refine vc_in rfl rfl ?_
  repeat' (first | (refine go1 ?_; intros) | (refine goCC ?_ ?_ <;> (intro hb; (try simp only [hSQ] at hb); try (exfalso; omega))) | fail)
  (refine v_draw0 [] (by kernel_rfl) ?_ <;> (refine tA 0 ?_) <;> (refine tA 1 ?_) <;> (refine tA 2 ?_))
  first | refine va_one 3 (by kernel_rfl) rfl rfl (vo_call rfl rfl ?_) | refine va_one 3 (by kernel_rfl) rfl rfl (vo_callV rfl rfl rfl ?_)
  refine vc_mono (rbody_vc w0 _ x h) ?_
  rintro v L' ⟨a1, c1, rfl, rfl⟩
  rw [← hbl]
  refine ⟨.inr entD, ?_⟩
  skip
  first | refine va_one 4 (by kernel_rfl) rfl rfl (vo_call rfl rfl ?_) | refine va_one 4 (by kernel_rfl) rfl rfl (vo_callV rfl rfl rfl ?_)
  refine vc_mono (rone_vc w0 _ 4 (by decide) a1 c1 (txBody x) rfl (by omega)) ?_
  rintro v L' ⟨rfl, rfl⟩
  rw [show sha (tagB 4 [txBody x]) = sgn x from rfl]
  generalize sgn x = S at *
  refine ⟨.inr entD, ?_⟩
  ((refine tA 5 ?_) <;> (refine va_done (by kernel_rfl) ?_))
  by_cases he : x.sign = S
  · rw [decide_eq_true he, if_pos he]
    repeat' (first | (refine go1 ?_; intros) | (refine goCC ?_ ?_ <;> (intro hb; (try simp only [hSQ] at hb); try (exfalso; omega))) | fail)
    exact ⟨_, ((se_drop _ _).trans (se_drop _ _)).ent w0, rfl, rfl⟩
  · rw [decide_eq_false he, if_neg he]
    repeat' (first | (refine go1 ?_; intros) | (refine goCC ?_ ?_ <;> (intro hb; (try simp only [hSQ] at hb); try (exfalso; omega))) | fail)
    exact ⟨_, ((se_drop _ _).trans (se_drop _ _)).ent w0, rfl, rfl⟩
end Go.Proofs.YtcpndfffdbogbaaGreatDoor
namespace Go.Proofs.YtcpndfffdbogbaaGreatDoor
open Go Go.RowKit

/-- A key of an account. -/
theorem key_vc (w0 : World) (L : List Asn) (d : List UInt8) (hd : d.length = 32) [hK : RdA w0 (some ⟨0, 0, none⟩) (wds K64)] :
    VC Tryz.prog w0 63 [.agg (bvs d).toArray] L fun v L' => v = .agg (bvs (sha (tagB 3 [d]))).toArray ∧ L' = L := by
  refine vc_ent ?_
  refine vc_in rfl rfl ?_
  repeat' (first | (refine goW ?_; intros) | (refine goCC ?_ ?_ <;> (intro hb; (try simp only [hSQ] at hb); try (exfalso; omega))) | fail)
  rename_i g1 g2 g3
  refine clV ?_
  haveI h1 : RdC w0 (own 70 1 (some ⟨g3, 0, none⟩) 1 1 [.slice (some ⟨g1, 0, none⟩) 32 32] :: blk g2 47 (bvs (List.replicate 32 0)) :: blk g1 47 (bvs d) :: L) (some ⟨g3, 0, none⟩) (pbs [⟨some ⟨g1, 0, none⟩, 32, d⟩]) := by
    rw [show pbs [⟨some ⟨g1, 0, none⟩, 32, d⟩] = [.slice (some ⟨g1, 0, none⟩) 32 32] by simp [pbs, PB.v, hd]]
    infer_instance
  haveI h2 : RdPs w0 (own 70 1 (some ⟨g3, 0, none⟩) 1 1 [.slice (some ⟨g1, 0, none⟩) 32 32] :: blk g2 47 (bvs (List.replicate 32 0)) :: blk g1 47 (bvs d) :: L) [⟨some ⟨g1, 0, none⟩, 32, d⟩] := ⟨fun p hp => by
    simp only [List.mem_singleton] at hp
    subst hp
    infer_instance⟩
  refine vc_mono (tof_vc w0 _ 3 (by decide) (some ⟨g3, 0, none⟩) 1 [⟨some ⟨g1, 0, none⟩, 32, d⟩] rfl (by simp only [tagB, ls, List.map_cons, List.map_nil, List.flatMap_cons, List.flatMap_nil, List.length_cons, List.length_append, digs_length, List.length_nil, hd]; decide)) ?_
  rintro v L' ⟨rfl, rfl⟩
  rw [show tagB 3 (ls [⟨some ⟨g1, 0, none⟩, 32, d⟩]) = tagB 3 [d] from rfl]
  have hS := sha_length (tagB 3 [d])
  generalize sha (tagB 3 [d]) = S at *
  repeat' (first | (refine go1 ?_; intros) | (refine goCC ?_ ?_ <;> (intro hb; (try simp only [hSQ] at hb); try (exfalso; omega))) | fail)
  exact ⟨_, ((se_drop _ _).trans ((se_drop _ _).trans (se_drop _ _))).ent w0, rfl, rfl⟩
theorem rkey_vc (w0 : World) (L : List Asn) (d : List UInt8) (hd : d.length = 32) :
    VC Tryz.prog w0 134 [.agg (bvs d).toArray] L fun v L' => v = .agg (bvs (sha (tagB 3 [d]))).toArray ∧ L' = L := by
  refine vc_ent ?_
  refine vc_in rfl rfl ?_
  repeat' (first | (refine goW ?_; intros) | (refine goCC ?_ ?_ <;> (intro hb; (try simp only [hSQ] at hb); try (exfalso; omega))) | fail)
  rename_i g1 g2
  refine clV ?_
  refine vc_mono (rone_vc w0 _ 3 (by decide) (some ⟨g1, 0, none⟩) 32 d hd.symm (by omega)) ?_
  rintro v L' ⟨rfl, rfl⟩
  have hS := sha_length (tagB 3 [d])
  generalize sha (tagB 3 [d]) = S at *
  repeat' (first | (refine go1 ?_; intros) | (refine goCC ?_ ?_ <;> (intro hb; (try simp only [hSQ] at hb); try (exfalso; omega))) | fail)
  exact ⟨_, ((se_drop _ _).trans (se_drop _ _)).ent w0, rfl, rfl⟩
theorem txFrom_vc (w0 : World) (L : List Asn) (x : Tx) (h : x.ok) [hK : RdA w0 (some ⟨0, 0, none⟩) (wds K64)] :
    VC Tryz.prog w0 27 [.agg x.cells.toArray] L fun v L' => v = .agg (bvs (sha (tagB 3 [x.pub]))).toArray ∧ L' = L := by
  have f0 := Tx.f0 h
  have hl0 := h.pub
  refine vc_ent ?_
  refine vc_in rfl rfl ?_
  repeat' (first | (refine go1 ?_; intros) | (refine goCC ?_ ?_ <;> (intro hb; (try simp only [hSQ] at hb); try (exfalso; omega))) | fail)
  refine clV ?_
  refine vc_mono (key_vc w0 _ x.pub hl0) ?_
  rintro v L' ⟨rfl, rfl⟩
  have hS := sha_length (tagB 3 [x.pub])
  generalize sha (tagB 3 [x.pub]) = S at *
  repeat' (first | (refine go1 ?_; intros) | (refine goCC ?_ ?_ <;> (intro hb; (try simp only [hSQ] at hb); try (exfalso; omega))) | fail)
  exact ⟨_, ((se_drop _ _).trans (se_drop _ _)).ent w0, rfl, rfl⟩
theorem rFrom_vc (w0 : World) (L : List Asn) (x : Tx) (h : x.ok) :
    VC Tryz.prog w0 93 [.agg x.cells.toArray] L fun v L' => v = .agg (bvs (sha (tagB 3 [x.pub]))).toArray ∧ L' = L := by
  have f0 := Tx.f0 h
  have hl0 := h.pub
  refine vc_ent ?_
  refine vc_in rfl rfl ?_
  repeat' (first | (refine go1 ?_; intros) | (refine goCC ?_ ?_ <;> (intro hb; (try simp only [hSQ] at hb); try (exfalso; omega))) | fail)
  refine clV ?_
  refine vc_mono (rkey_vc w0 _ x.pub hl0) ?_
  rintro v L' ⟨rfl, rfl⟩
  have hS := sha_length (tagB 3 [x.pub])
  generalize sha (tagB 3 [x.pub]) = S at *
  repeat' (first | (refine go1 ?_; intros) | (refine goCC ?_ ?_ <;> (intro hb; (try simp only [hSQ] at hb); try (exfalso; omega))) | fail)
  exact ⟨_, ((se_drop _ _).trans (se_drop _ _)).ent w0, rfl, rfl⟩

end Go.Proofs.YtcpndfffdbogbaaGreatDoor

/-
  A reply in any memory: what it reads.
-/
import Derived.Test.YtgffejpcldeklaaOpenE
import Derived.Test.YtgffejpcldeklaaGRD
import Derived.Test.YtgffejpcldeklaaWirK
set_option linter.unusedVariables false
set_option linter.unusedSimpArgs false
set_option linter.unusedSectionVars false

namespace Go.Proofs.Ytgffejpcldeklaa
open Go Go.RowKit Go.WideShapes

theorem reply_rec {cs : List Value} (h : FitsW rcShape cs) : ∃ x : Rec, x.ok ∧ I64 x.code ∧ cs = x.cells := by
  rw [rcShape_eq] at h
  obtain ⟨n, us, rfl, hn, h1⟩ := h.cons
  obtain ⟨us1, ws1, rfl, h2, h3⟩ := h1.split
  obtain ⟨p, rfl, hp⟩ := h2.bytes
  obtain ⟨m, us4, rfl, hm, h8⟩ := h3.cons
  obtain rfl := h8.nil'
  have := wir_u8 hn
  refine ⟨⟨n.toNat, p, m⟩, ⟨by dsimp only; omega, hp⟩, wir_i64 hm, ?_⟩
  unfold Rec.cells
  dsimp only
  rw [Int.toNat_of_nonneg (by omega)]
theorem reply_hd {cs : List Value} (h : FitsW hdShape cs) : ∃ x : Hd, x.ok ∧ I64 x.height ∧ I64 x.many ∧ cs = x.cells := by
  obtain ⟨n, us, rfl, hn, h1⟩ := h.cons
  obtain ⟨us1, ws1, rfl, h2, h3⟩ := h1.split
  obtain ⟨p, rfl, hp⟩ := h2.bytes
  obtain ⟨us2, ws2, rfl, h4, h5⟩ := h3.split
  obtain ⟨s, rfl, hs⟩ := h4.bytes
  obtain ⟨us3, ws3, rfl, h6, h7⟩ := h5.split
  obtain ⟨r, rfl, hr⟩ := h6.bytes
  obtain ⟨m, us4, rfl, hm, h8⟩ := h7.cons
  obtain rfl := h8.nil'
  exact ⟨⟨n, p, s, r, m⟩, ⟨hp, hs, hr⟩, wir_i64 hn, wir_i64 hm, rfl⟩
set_option maxRecDepth 100000 in
theorem prf_trod {H : Type} {enc : TypeId × Value → H} {W : World} {fuel : Nat} {cs : List Value} {x : DataW H × List MemPlace} (hf : DataW.trod enc Try.prog W 0 (fun _ => true) true fuel 33 cs = some x) : ∃ q : Prf, cs = q.cells ∧ q.ok0 ∧ Rc W q.va (bvs q.vl) ∧ Rc W q.pa (bvs q.pl.flatten) := by
  obtain ⟨xs, n, rfl, _, hlen, hxl, hx⟩ := DataW.trod_struct Try.underlying33 hf
  rw [show Try.prog.cellsOf 33 = 67 by kernel_rfl] at hlen
  have hy : ∀ i, i < 5 → ∃ y, xs[i]? = some y := fun i hi => ⟨_, List.getElem?_eq_getElem (by rw [hxl]; exact hi)⟩
  obtain ⟨y0, e0⟩ := hy 0 (by decide)
  obtain ⟨y1, e1⟩ := hy 1 (by decide)
  obtain ⟨y2, e2⟩ := hy 2 (by decide)
  obtain ⟨y3, e3⟩ := hy 3 (by decide)
  obtain ⟨y4, e4⟩ := hy 4 (by decide)
  have h0 : DataW.trod enc Try.prog W 0 (fun _ => true) true n 24 ((cs.drop 0).take (Try.prog.cellsOf 24)) = some y0 := (hx 0 _ rfl).trans e0
  have h1 : DataW.trod enc Try.prog W 0 (fun _ => true) true n 5 ((cs.drop 32).take (Try.prog.cellsOf 5)) = some y1 := (hx 1 _ rfl).trans e1
  have h2 : DataW.trod enc Try.prog W 0 (fun _ => true) true n 24 ((cs.drop 33).take (Try.prog.cellsOf 24)) = some y2 := (hx 2 _ rfl).trans e2
  have h3 : DataW.trod enc Try.prog W 0 (fun _ => true) true n 30 ((cs.drop 65).take (Try.prog.cellsOf 30)) = some y3 := (hx 3 _ rfl).trans e3
  have h4 : DataW.trod enc Try.prog W 0 (fun _ => true) true n 31 ((cs.drop 66).take (Try.prog.cellsOf 31)) = some y4 := (hx 4 _ rfl).trans e4
  have l3 : cs.length = 67 := hlen
  rw [show Try.prog.cellsOf 24 = 32 by kernel_rfl] at h0 h2
  rw [show Try.prog.cellsOf 5 = 1 by kernel_rfl] at h1
  rw [show Try.prog.cellsOf 30 = 1 by kernel_rfl] at h3
  rw [show Try.prog.cellsOf 31 = 1 by kernel_rfl] at h4
  have u3 := take1 (l := cs) (k := 65) (by omega)
  have u4 := take1 (l := cs) (k := 66) (by omega)
  obtain ⟨k, hk, hkl⟩ := trod_dig h0
  obtain ⟨m, hm, _, hw⟩ := DataW.trod_int Try.underlying5 h1
  obtain ⟨o, ho, hol⟩ := trod_dig h2
  rw [u3] at h3
  rw [u4] at h4
  obtain ⟨a1, c1, l1, s1, b1⟩ := bts_trod h3
  obtain ⟨a2, c2, l2, s2, _, _, hd, b2⟩ := dgs_trod h4
  rw [s1] at u3
  rw [s2] at u4
  have hb := bounds_u8 hw
  refine ⟨⟨k, m.toNat, o, a1, c1, l1, a2, c2, l2⟩, ?_, ⟨hkl, by show m.toNat < 256; omega, hol, hd⟩, b1.rc, b2⟩
  have e : cs = bvs k ++ (.int .u8 m.toNat :: (bvs o ++ [.slice a1 l1.length c1, .slice a2 l2.length c2])) := by
    have q0 : cs = cs.drop 0 := rfl
    have q5 : cs.drop 67 = [] := List.drop_eq_nil_of_le (by omega)
    have hm' : (cs.drop 32).take 1 = [.int .u8 (m.toNat : Int)] := by rw [Int.toNat_of_nonneg (by omega)]; exact hm
    rw [q0, cut_at _ 0 32, cut_at _ (0 + 32) 1, cut_at _ (0 + 32 + 1) 32, cut_at _ (0 + 32 + 1 + 32) 1, cut_at _ (0 + 32 + 1 + 32 + 1) 1]
    simp only [Nat.zero_add, Nat.reduceAdd] at *
    rw [hk, hm', ho, u3, u4, q5]
    rfl
  rw [e]
  rfl
theorem wir_u64 {n : Int} (h : (Lit.int .u64 n).wf = true) : 0 ≤ n ∧ n < 18446744073709551616 := by
  simp [Lit.wf, IntKind.min, IntKind.max, IntKind.bits, IntKind.signed] at h
  omega
set_option maxRecDepth 100000 in
theorem open_reply {H : Type} {enc : TypeId × Value → H} {W : World} {base : Nat} {v : Value} {d : DataW H} {p : List MemPlace} (hv : Value.okWide Try.prog W .any base 41 v) (h : DataW.Trod enc Try.prog W 0 (fun _ => true) true 41 v d p) :
    ∃ r : Rp, v = .agg r.cells.toArray ∧ r.ok0 ∧ Rc W r.prf.va (bvs r.prf.vl) ∧ Rc W r.prf.pa (bvs r.prf.pl.flatten) := by
  unfold Value.okWide at hv
  rw [Try.underlying41] at hv
  obtain ⟨cs, rfl, _⟩ := hv
  obtain ⟨fuel, hf⟩ := h
  obtain ⟨xs, n, rfl, _, hlen, hxl, hx⟩ := DataW.trod_struct Try.underlying41 hf
  rw [show Try.prog.cellsOf 41 = 240 by kernel_rfl] at hlen
  have hy : ∀ i, i < 9 → ∃ y, xs[i]? = some y := fun i hi => ⟨_, List.getElem?_eq_getElem (by rw [hxl]; exact hi)⟩
  obtain ⟨y0, e0⟩ := hy 0 (by decide)
  obtain ⟨y1, e1⟩ := hy 1 (by decide)
  obtain ⟨y2, e2⟩ := hy 2 (by decide)
  obtain ⟨y3, e3⟩ := hy 3 (by decide)
  obtain ⟨y4, e4⟩ := hy 4 (by decide)
  obtain ⟨y5, e5⟩ := hy 5 (by decide)
  obtain ⟨y6, e6⟩ := hy 6 (by decide)
  obtain ⟨y7, e7⟩ := hy 7 (by decide)
  obtain ⟨y8, e8⟩ := hy 8 (by decide)
  have h0 : DataW.trod enc Try.prog W 0 (fun _ => true) true n 5 ((cs.toList.drop 0).take (Try.prog.cellsOf 5)) = some y0 := (hx 0 _ rfl).trans e0
  have h1 : DataW.trod enc Try.prog W 0 (fun _ => true) true n 22 ((cs.toList.drop 1).take (Try.prog.cellsOf 22)) = some y1 := (hx 1 _ rfl).trans e1
  have h2 : DataW.trod enc Try.prog W 0 (fun _ => true) true n 3 ((cs.toList.drop 2).take (Try.prog.cellsOf 3)) = some y2 := (hx 2 _ rfl).trans e2
  have h3 : DataW.trod enc Try.prog W 0 (fun _ => true) true n 24 ((cs.toList.drop 3).take (Try.prog.cellsOf 24)) = some y3 := (hx 3 _ rfl).trans e3
  have h4 : DataW.trod enc Try.prog W 0 (fun _ => true) true n 27 ((cs.toList.drop 35).take (Try.prog.cellsOf 27)) = some y4 := (hx 4 _ rfl).trans e4
  have h5 : DataW.trod enc Try.prog W 0 (fun _ => true) true n 29 ((cs.toList.drop 37).take (Try.prog.cellsOf 29)) = some y5 := (hx 5 _ rfl).trans e5
  have h6 : DataW.trod enc Try.prog W 0 (fun _ => true) true n 33 ((cs.toList.drop 71).take (Try.prog.cellsOf 33)) = some y6 := (hx 6 _ rfl).trans e6
  have h7 : DataW.trod enc Try.prog W 0 (fun _ => true) true n 3 ((cs.toList.drop 138).take (Try.prog.cellsOf 3)) = some y7 := (hx 7 _ rfl).trans e7
  have h8 : DataW.trod enc Try.prog W 0 (fun _ => true) true n 39 ((cs.toList.drop 139).take (Try.prog.cellsOf 39)) = some y8 := (hx 8 _ rfl).trans e8
  rw [show Try.prog.cellsOf 5 = 1 by kernel_rfl] at h0
  rw [show Try.prog.cellsOf 22 = 1 by kernel_rfl] at h1
  rw [show Try.prog.cellsOf 3 = 1 by kernel_rfl] at h2 h7
  rw [show Try.prog.cellsOf 24 = 32 by kernel_rfl] at h3
  rw [show Try.prog.cellsOf 27 = 2 by kernel_rfl] at h4
  rw [show Try.prog.cellsOf 29 = 34 by kernel_rfl] at h5
  rw [show Try.prog.cellsOf 33 = 67 by kernel_rfl] at h6
  rw [show Try.prog.cellsOf 39 = 101 by kernel_rfl] at h8
  have f0 : FitsW [some .u8] _ := fits_of_trod 40 (by kernel_rfl) h0
  have f1 : FitsW [some .i64] _ := fits_of_trod 40 (by kernel_rfl) h1
  have f2 : FitsW [some .i64] _ := fits_of_trod 40 (by kernel_rfl) h2
  have f4 : FitsW accShape _ := fits_of_trod 40 (by kernel_rfl) h4
  have f5 : FitsW rcShape _ := fits_of_trod 40 (by kernel_rfl) h5
  have f7 : FitsW [some .i64] _ := fits_of_trod 40 (by kernel_rfl) h7
  have f8 : FitsW itShape _ := fits_of_trod 40 (by kernel_rfl) h8
  obtain ⟨dg, hdg, hdl⟩ := trod_dig h3
  obtain ⟨k, us0, g0, w0, z0⟩ := f0.cons
  obtain rfl := z0.nil'
  obtain ⟨c, us1, g1, w1, z1⟩ := f1.cons
  obtain rfl := z1.nil'
  obtain ⟨ht, us2, g2, w2, z2⟩ := f2.cons
  obtain rfl := z2.nil'
  obtain ⟨nn, us4, g4, w4, z4⟩ := f4.cons
  obtain ⟨bb, us5, g5, w5, z5⟩ := z4.cons
  obtain rfl := z5.nil'
  subst g5
  obtain ⟨x, hxo, hxc, g6⟩ := reply_rec f5
  obtain ⟨sb, us7, g7, w7, z7⟩ := f7.cons
  obtain rfl := z7.nil'
  obtain ⟨gp, us8, g8, z8⟩ := f8.consB
  obtain ⟨nm, us9, g9, w9, z9⟩ := z8.cons
  obtain ⟨rl, us10, g10, z10⟩ := z9.consB
  obtain ⟨hd, ho, hh1, hh2, g11⟩ := reply_hd z10
  subst g11 g10 g9
  obtain ⟨q, hq, oq, ra, rb⟩ := prf_trod h6
  have hk := wir_u8 w0
  have hn4 := wir_u64 w4
  have hn5 := wir_u64 w5
  refine ⟨⟨UInt8.ofNat k.toNat, c, ht, dg, nn.toNat, bb.toNat, x, q, sb, gp, ⟨nm, rl, hd⟩⟩, ?_, ⟨wir_i64 w1, wir_i64 w2, hdl, by dsimp only; omega, by dsimp only; omega, hxo, hxc, oq, wir_i64 w7, wir_i64 w9, ho, hh1, hh2⟩, ra, rb⟩
  have e : cs.toList = .int .u8 k :: .int .i64 c :: .int .i64 ht :: (bvs dg ++ (.int .u64 nn :: .int .u64 bb :: (x.cells ++ (q.cells ++ (.int .i64 sb :: .bool gp :: .int .i64 nm :: .bool rl :: hd.cells))))) := by
    have q0 : cs.toList = cs.toList.drop 0 := rfl
    have l3 : cs.toList.length = 240 := hlen
    have q9 : cs.toList.drop 240 = [] := List.drop_eq_nil_of_le (by omega)
    rw [q0, cut_at _ 0 1, cut_at _ (0 + 1) 1, cut_at _ (0 + 1 + 1) 1, cut_at _ (0 + 1 + 1 + 1) 32, cut_at _ (0 + 1 + 1 + 1 + 32) 2, cut_at _ (0 + 1 + 1 + 1 + 32 + 2) 34, cut_at _ (0 + 1 + 1 + 1 + 32 + 2 + 34) 67, cut_at _ (0 + 1 + 1 + 1 + 32 + 2 + 34 + 67) 1, cut_at _ (0 + 1 + 1 + 1 + 32 + 2 + 34 + 67 + 1) 101]
    simp only [Nat.zero_add, Nat.reduceAdd] at *
    rw [g0, g1, g2, hdg, g4, g6, hq, g7, g8, q9, List.append_nil]
    rfl
  show Value.agg cs = .agg (List.toArray _)
  rw [show cs = cs.toList.toArray by simp, e]
  unfold Rp.cells Evt.cells
  dsimp only
  rw [show ((UInt8.ofNat k.toNat).toNat : Int) = k by simp; omega, Int.toNat_of_nonneg (by omega), Int.toNat_of_nonneg (by omega)]
end Go.Proofs.Ytgffejpcldeklaa

/-
  Proofs of trees: the program's and the document's. The proof of a key: the program's and the document's; the law ProofMakes. ProofMakes: the proof of a key.
-/
import Derived.Test.YtnoihibaoalkaaaDoorTreM
import Derived.Test.YtnoihibaoalkaaaDoorGN
set_option linter.unusedVariables false
set_option linter.unusedSimpArgs false
namespace Go.Proofs.YtnoihibaoalkaaaDoor
open Go Go.RowKit
set_option linter.unusedVariables false
set_option linter.unusedSimpArgs false
open Classical

theorem Prf.setKind (p : Prf) (k : Nat) (h : p.ok) : splice p.cells (0 + 32) [.int .u8 k] = ({ p with kind := k } : Prf).cells := by
  have := splice_mid (bvs p.key) [.int .u8 p.kind] (bvs p.other ++ [.slice p.va p.vl.length p.vc, .slice p.pa p.pl.length p.pc]) [.int .u8 k] 32 (by simp [h.key]) rfl
  simpa [Prf.cells] using this
theorem Prf.setOther (p : Prf) (o : List UInt8) (h : p.ok) (ho : o.length = 32) : splice p.cells (0 + 33) (bvs o) = ({ p with other := o } : Prf).cells := by
  have := splice_mid (bvs p.key ++ [.int .u8 p.kind]) (bvs p.other) [.slice p.va p.vl.length p.vc, .slice p.pa p.pl.length p.pc] (bvs o) 33 (by simp [h.key]) (by simp [h.other, ho])
  simpa [Prf.cells] using this
theorem Prf.setVal (p : Prf) (a : Option Addr) (c : Nat) (l : List UInt8) (h : p.ok) : splice p.cells (0 + 65) [.slice a l.length c] = ({ p with va := a, vc := c, vl := l } : Prf).cells := by
  have := splice_mid (bvs p.key ++ (.int .u8 p.kind :: bvs p.other)) [.slice p.va p.vl.length p.vc] [.slice p.pa p.pl.length p.pc] [.slice a l.length c] 65 (by simp [h.key, h.other]) rfl
  simpa [Prf.cells] using this
def endK (x : Nd) (k : List UInt8) : Nat := if x.leaf = true then (if x.key = k then 1 else 2) else 0
def endO (x : Nd) (k : List UInt8) : List UInt8 := if x.leaf = true then (if x.key = k then z32 else x.key) else z32
/-- A proof by its road. -/
def prfE (x : Nd) (xs : List (List UInt8)) (k : List UInt8) (a : Option Addr) (c : Nat) : Prf := ⟨k, endK x k, endO x k, (if x.leaf = true then x.a else none), (if x.leaf = true then x.c else 0), (if x.leaf = true then x.v else []), a, c, xs⟩
def prfZ : Prf := ⟨z32, 0, z32, none, 0, [], none, 0, []⟩
theorem prfZ_ok : prfZ.ok := ⟨rfl, by decide, rfl, by simp [prfZ, Dg], by decide, by decide⟩
def prfB (k : List UInt8) (a : Option Addr) (c : Nat) (xs : List (List UInt8)) : Prf := ⟨k, 0, z32, none, 0, [], a, c, xs⟩
theorem prfB_ok {k : List UInt8} {a : Option Addr} {c : Nat} {xs : List (List UInt8)} (hk : k.length = 32) (hd : Dg xs) (hl : xs.length ≤ 256) : (prfB k a c xs).ok := ⟨hk, by simp [prfB], by simp [prfB, z32], hd, by simp [prfB], by simp [prfB]; omega⟩
set_option maxRecDepth 100000 in
set_option maxHeartbeats 1000000 in
theorem pend_vc (w0 : World) (L : List Asn) (g : Nat) (x : Nd) (xs : List (List UInt8)) (k : List UInt8) (a : Option Addr) (c : Nat) (hk : k.length = 32) (hd : Dg xs) (hl : xs.length ≤ 256) (hxk : x.key.length = 32) (hv : x.v.length ≤ 1000000) :
    VC Tryd.prog w0 101 [.pointer (some ⟨g, 0, none⟩), .agg x.cells.toArray] (blk g 181 (prfB k a c xs).cells :: L) fun v L' => v = .tuple #[] ∧ L' = blk g 181 (prfE x xs k a c).cells :: L := by
  have h0 := prfB_ok (a := a) (c := c) hk hd hl
  have k1 : splice (prfB k a c xs).cells (0 + 0 + 32) [.int .u8 1] = ({ prfB k a c xs with kind := 1 } : Prf).cells := Prf.setKind (prfB k a c xs) 1 h0
  have k2 : splice (prfB k a c xs).cells (0 + 0 + 32) [.int .u8 2] = ({ prfB k a c xs with kind := 2 } : Prf).cells := Prf.setKind (prfB k a c xs) 2 h0
  have h1 : ({ prfB k a c xs with kind := 1 } : Prf).ok := ⟨hk, by simp, by simp [prfB, z32], hd, by simp [prfB], by simp [prfB]; omega⟩
  have h2 : ({ prfB k a c xs with kind := 2 } : Prf).ok := ⟨hk, by simp, by simp [prfB, z32], hd, by simp [prfB], by simp [prfB]; omega⟩
  have o2 : splice ({ prfB k a c xs with kind := 2 } : Prf).cells (0 + 0 + 33) (bvs x.key) = ({ ({ prfB k a c xs with kind := 2 } : Prf) with other := x.key } : Prf).cells := Prf.setOther _ x.key h2 hxk
  have h3 : ({ ({ prfB k a c xs with kind := 2 } : Prf) with other := x.key } : Prf).ok := ⟨hk, by simp, hxk, hd, by simp [prfB], by simp [prfB]; omega⟩
  have v1 : splice ({ prfB k a c xs with kind := 1 } : Prf).cells (0 + 0 + 65) [.slice x.a x.v.length x.c] = ({ ({ prfB k a c xs with kind := 1 } : Prf) with va := x.a, vc := x.c, vl := x.v } : Prf).cells := Prf.setVal _ x.a x.c x.v h1
  have v2 : splice ({ ({ prfB k a c xs with kind := 2 } : Prf) with other := x.key } : Prf).cells (0 + 0 + 65) [.slice x.a x.v.length x.c] = ({ ({ ({ prfB k a c xs with kind := 2 } : Prf) with other := x.key } : Prf) with va := x.a, vc := x.c, vl := x.v } : Prf).cells := Prf.setVal _ x.a x.c x.v h3
  have hc0 := Prf.len h0
  have hc1 := Prf.len h1
  have hc2 := Prf.len h2
  have hc3 := Prf.len h3
  have b0 := Prf.f0 h0
  rw [show (prfB k a c xs).key = k from rfl] at b0
  have f0 := Nd.f0 (x := x)
  have f1 := Nd.f1 hxk
  have f2 := Nd.f2 hxk
  have hc := Nd.len hxk
  haveI hoc : OC x.cells := oc_nd _
  haveI ho0 : OC (prfB k a c xs).cells := oc_prf _
  haveI ho1 : OC ({ prfB k a c xs with kind := 1 } : Prf).cells := oc_prf _
  haveI ho2 : OC ({ prfB k a c xs with kind := 2 } : Prf).cells := oc_prf _
  haveI ho3 : OC ({ ({ prfB k a c xs with kind := 2 } : Prf) with other := x.key } : Prf).cells := oc_prf _
  have e0 : x.leaf = false → prfE x xs k a c = prfB k a c xs := fun h => by simp [prfE, prfB, endK, endO, h]
  have e1 : x.leaf = true → x.key = k → prfE x xs k a c = { ({ prfB k a c xs with kind := 1 } : Prf) with va := x.a, vc := x.c, vl := x.v } := fun h h' => by simp [prfE, prfB, endK, endO, h, h']
  have e2 : x.leaf = true → ¬ x.key = k → prfE x xs k a c = { ({ ({ prfB k a c xs with kind := 2 } : Prf) with other := x.key } : Prf) with va := x.a, vc := x.c, vl := x.v } := fun h h' => by simp [prfE, prfB, endK, endO, h, h']
  generalize hC0 : (prfB k a c xs).cells = C0 at *
  generalize ({ prfB k a c xs with kind := 1 } : Prf).cells = C1 at *
  generalize ({ prfB k a c xs with kind := 2 } : Prf).cells = C2 at *
  generalize ({ ({ prfB k a c xs with kind := 2 } : Prf) with other := x.key } : Prf).cells = C3 at *
  generalize hcs : x.cells = cs at *
  refine vc_ent ?_
  refine vc_in rfl rfl ?_
  cases hl : x.leaf
  · rw [hl] at f0
    repeat' (first | (refine go1 ?_; intros) | (refine vl_caseG rfl rfl rfl rfl ?_ ?_ <;> (intro hb; (try simp only [decide_eq_true_eq, decide_eq_false_iff_not, Bool.not_eq_true', Bool.not_eq_false', ne_eq, Decidable.not_not, Option.isNone_iff_eq_none, not_true_eq_false, not_false_eq_true] at hb); try (exfalso; omega))) | (refine v_cond rfl ?_ ?_ <;> (intro hb; (try simp only [decide_eq_true_eq, decide_eq_false_iff_not, Bool.not_eq_true', Bool.not_eq_false', ne_eq, Decidable.not_not, Option.isNone_iff_eq_none, not_true_eq_false, not_false_eq_true] at hb); try (exfalso; omega))) | fail)
    exact ⟨_, sei _ _ (blk g 181 C0 :: L), rfl, by rw [e0 hl, hC0]⟩
  · rw [hl] at f0
    by_cases hkk : x.key = k
    · repeat' (first | (refine go1 ?_; intros) | (refine vl_caseG rfl rfl rfl rfl ?_ ?_ <;> (intro hb; (try simp only [decide_eq_true_eq, decide_eq_false_iff_not, Bool.not_eq_true', Bool.not_eq_false', ne_eq, Decidable.not_not, Option.isNone_iff_eq_none, not_true_eq_false, not_false_eq_true] at hb); try (exfalso; omega))) | (refine v_cond rfl ?_ ?_ <;> (intro hb; (try simp only [decide_eq_true_eq, decide_eq_false_iff_not, Bool.not_eq_true', Bool.not_eq_false', ne_eq, Decidable.not_not, Option.isNone_iff_eq_none, not_true_eq_false, not_false_eq_true] at hb); try (exfalso; omega))) | fail)
      (refine v_draw0 [] (by kernel_rfl) ?_ <;> (refine va_takeA 0 rfl rfl rfl rfl ?_) <;> (refine va_takeA 1 rfl rfl rfl rfl ?_) <;> (refine va_takeA 2 rfl rfl rfl rfl ?_) <;> (refine va_takeA 3 rfl rfl rfl rfl ?_) <;> (refine va_takeA 4 rfl rfl rfl rfl ?_) <;> (refine va_takeA 5 rfl rfl rfl rfl ?_) <;> (refine va_takeA 6 rfl rfl rfl rfl ?_) <;> (refine va_takeA 7 rfl rfl rfl rfl ?_) <;> (refine va_takeA 8 rfl rfl rfl rfl ?_) <;> (refine va_done (by kernel_rfl) ?_))
      repeat' (first | (refine go1 ?_; intros) | (refine vl_caseG rfl rfl rfl rfl ?_ ?_ <;> (intro hb; (try simp only [decide_eq_true_eq, decide_eq_false_iff_not, Bool.not_eq_true', Bool.not_eq_false', ne_eq, Decidable.not_not, Option.isNone_iff_eq_none, not_true_eq_false, not_false_eq_true] at hb); try (exfalso; omega))) | (refine v_cond rfl ?_ ?_ <;> (intro hb; (try simp only [decide_eq_true_eq, decide_eq_false_iff_not, Bool.not_eq_true', Bool.not_eq_false', ne_eq, Decidable.not_not, Option.isNone_iff_eq_none, not_true_eq_false, not_false_eq_true] at hb); try (exfalso; omega))) | fail)
      · rw [k1]
        repeat' (first | (refine go1 ?_; intros) | (refine vl_caseG rfl rfl rfl rfl ?_ ?_ <;> (intro hb; (try simp only [decide_eq_true_eq, decide_eq_false_iff_not, Bool.not_eq_true', Bool.not_eq_false', ne_eq, Decidable.not_not, Option.isNone_iff_eq_none, not_true_eq_false, not_false_eq_true] at hb); try (exfalso; omega))) | (refine v_cond rfl ?_ ?_ <;> (intro hb; (try simp only [decide_eq_true_eq, decide_eq_false_iff_not, Bool.not_eq_true', Bool.not_eq_false', ne_eq, Decidable.not_not, Option.isNone_iff_eq_none, not_true_eq_false, not_false_eq_true] at hb); try (exfalso; omega))) | fail)
        rw [v1]
        exact ⟨_, sei _ _ (blk g 181 ({ ({ prfB k a c xs with kind := 1 } : Prf) with va := x.a, vc := x.c, vl := x.v } : Prf).cells :: L), rfl, by rw [e1 hl hkk]⟩
      all_goals exact absurd hkk hb
    · repeat' (first | (refine go1 ?_; intros) | (refine vl_caseG rfl rfl rfl rfl ?_ ?_ <;> (intro hb; (try simp only [decide_eq_true_eq, decide_eq_false_iff_not, Bool.not_eq_true', Bool.not_eq_false', ne_eq, Decidable.not_not, Option.isNone_iff_eq_none, not_true_eq_false, not_false_eq_true] at hb); try (exfalso; omega))) | (refine v_cond rfl ?_ ?_ <;> (intro hb; (try simp only [decide_eq_true_eq, decide_eq_false_iff_not, Bool.not_eq_true', Bool.not_eq_false', ne_eq, Decidable.not_not, Option.isNone_iff_eq_none, not_true_eq_false, not_false_eq_true] at hb); try (exfalso; omega))) | fail)
      (refine v_draw0 [] (by kernel_rfl) ?_ <;> (refine va_takeA 0 rfl rfl rfl rfl ?_) <;> (refine va_takeA 1 rfl rfl rfl rfl ?_) <;> (refine va_takeA 2 rfl rfl rfl rfl ?_) <;> (refine va_takeA 3 rfl rfl rfl rfl ?_) <;> (refine va_takeA 4 rfl rfl rfl rfl ?_) <;> (refine va_takeA 5 rfl rfl rfl rfl ?_) <;> (refine va_takeA 6 rfl rfl rfl rfl ?_) <;> (refine va_takeA 7 rfl rfl rfl rfl ?_) <;> (refine va_takeA 8 rfl rfl rfl rfl ?_) <;> (refine va_done (by kernel_rfl) ?_))
      repeat' (first | (refine go1 ?_; intros) | (refine vl_caseG rfl rfl rfl rfl ?_ ?_ <;> (intro hb; (try simp only [decide_eq_true_eq, decide_eq_false_iff_not, Bool.not_eq_true', Bool.not_eq_false', ne_eq, Decidable.not_not, Option.isNone_iff_eq_none, not_true_eq_false, not_false_eq_true] at hb); try (exfalso; omega))) | (refine v_cond rfl ?_ ?_ <;> (intro hb; (try simp only [decide_eq_true_eq, decide_eq_false_iff_not, Bool.not_eq_true', Bool.not_eq_false', ne_eq, Decidable.not_not, Option.isNone_iff_eq_none, not_true_eq_false, not_false_eq_true] at hb); try (exfalso; omega))) | fail)
      · exact absurd hb hkk
      refine v_drawX [] 1 (by kernel_rfl) ?_
      refine va_takeA 0 rfl rfl rfl rfl ?_
      refine va_takeA 1 rfl rfl rfl rfl ?_
      refine va_takeA 2 rfl rfl rfl rfl ?_
      refine va_takeA 3 rfl rfl rfl rfl ?_
      refine va_takeA 4 rfl rfl rfl rfl ?_
      refine va_takeA 5 rfl rfl rfl rfl ?_
      refine va_takeA 6 rfl rfl rfl rfl ?_
      refine va_one 7 (by kernel_rfl) rfl rfl ?_
      (first | (refine vo_box rfl rfl rfl ?_; intro _) | (refine vo_alloc rfl ?_; intro _) | (refine vo_isStore ?_; first | (refine vo_isPt0 rfl ?_; refine vo_stWA rfl rfl ?_) | (refine vo_isPt rfl ?_; refine vo_stBA rfl rfl ?_) | (refine vo_stO rfl rfl (by rfl) (by first | rfl | assumption) (by first | assumption | (simp; done) | (simp; omega) | omega) rfl ?_; skip)) | (refine vo_isCall ?_; first | (refine vo_isApp ?_; first | (refine vo_append0A rfl rfl rfl ?_; intro _ _ _ _) | (refine vo_appendA rfl rfl rfl ?_; intro _ _ _ _)) | (refine vo_isCopy ?_; refine vo_copyB rfl rfl rfl (by assumption) (by assumption) (by assumption) (by assumption) ?_) | refine vo_yield rfl rfl rfl rfl rfl ?_ | refine vo_callV rfl rfl rfl (vc_in rfl rfl ?_)) | refine vo_convRow rfl rfl ?_ | (refine vo_isBs ?_; refine vo_buildSlice rfl rfl rfl (by decide) (by repeat' (first | exact trivial | rfl | assumption | refine ⟨?_, ?_⟩ | (simp; done) | (simp; omega))) (by decide) rfl ?_; intro _) | (refine vo_buildSlice0 rfl ?_; intro _) | fail)
      refine ⟨.inr (sei _ _ _), ?_⟩
      refine va_takeA 8 rfl rfl rfl rfl ?_
      refine va_takeA 9 rfl rfl rfl rfl ?_
      refine va_takeA 10 rfl rfl rfl rfl ?_
      refine va_one 11 (by kernel_rfl) rfl rfl ?_
      rw [k2]
      refine vo_stB (vs := bvs x.key) rfl rfl rfl (by rw [bvs_length, hxk]) (by rw [bvs_length, hxk, hc2]; decide) o2 ?_
      refine ⟨.inr (sei _ _ _), ?_⟩
      refine va_done (by kernel_rfl) ?_
      skip
      repeat' (first | (refine go1 ?_; intros) | (refine vl_caseG rfl rfl rfl rfl ?_ ?_ <;> (intro hb; (try simp only [decide_eq_true_eq, decide_eq_false_iff_not, Bool.not_eq_true', Bool.not_eq_false', ne_eq, Decidable.not_not, Option.isNone_iff_eq_none, not_true_eq_false, not_false_eq_true] at hb); try (exfalso; omega))) | (refine v_cond rfl ?_ ?_ <;> (intro hb; (try simp only [decide_eq_true_eq, decide_eq_false_iff_not, Bool.not_eq_true', Bool.not_eq_false', ne_eq, Decidable.not_not, Option.isNone_iff_eq_none, not_true_eq_false, not_false_eq_true] at hb); try (exfalso; omega))) | fail)
      rw [v2]
      exact ⟨_, sei _ _ (blk g 181 ({ ({ ({ prfB k a c xs with kind := 2 } : Prf) with other := x.key } : Prf) with va := x.a, vc := x.c, vl := x.v } : Prf).cells :: L), rfl, by rw [e2 hl hkk]⟩
end Go.Proofs.YtnoihibaoalkaaaDoor
namespace Go.Proofs.YtnoihibaoalkaaaDoor
open Go Go.RowKit
set_option linter.unusedVariables false
set_option linter.unusedSimpArgs false
open Classical

def Prf.ct (p : Prf) : Prf := { p with va := none, vc := 0, pa := none, pc := 0 }
noncomputable def prfT (ns : List Nd) (r : Int) (k : List UInt8) : Prf := if MayP ns r then (prfE (roadN ns r k) (roadX ns r k) k none 0).ct else prfZ
theorem prfE_ct {x y : Nd} (e : x.pl = y.pl) (xs : List (List UInt8)) (k : List UInt8) (a b : Option Addr) (c d : Nat) : (prfE x xs k a c).ct = (prfE y xs k b d).ct := by
  obtain ⟨e0, e1, e2, _, _⟩ := pl_eq.1 e
  simp [prfE, Prf.ct, endK, endO, e0, e1, e2]
theorem prfE_ok {x : Nd} {xs : List (List UInt8)} {k : List UInt8} {a : Option Addr} {c : Nat} (hk : k.length = 32) (hd : Dg xs) (hl : xs.length ≤ 256) (hx : x.key.length = 32) (hv : x.v.length ≤ 1000000) : (prfE x xs k a c).ok := by
  refine ⟨hk, ?_, ?_, hd, ?_, by show xs.length ≤ _; omega⟩
  · show endK x k < 256
    unfold endK
    split
    · split <;> decide
    · decide
  · show (endO x k).length = 32
    unfold endO
    split
    · split
      · rfl
      · exact hx
    · rfl
  · show (if x.leaf = true then x.v else []).length ≤ _
    split
    · omega
    · simp
theorem roadN_pl (ns : List Nd) (r : Int) (k : List UInt8) : (roadN ns r k).pl = roadN ns r k := by
  unfold roadN
  by_cases h : MayP ns r
  · rw [if_pos h]
    cases (roadD ns k r.toNat 0).1 <;> rfl
  · rw [if_neg h]; rfl
/-- A proof that is told: its memory is new. -/
structure PrfR (w0 : World) (L : List Asn) (ns : List Nd) (r : Int) (k : List UInt8) (p : Prf) (L' : List Asn) : Prop where
  ct : p.ct = prfT ns r k
  ok : p.ok
  hL : L' = ownB p.va p.vc p.vl :: ownDg p.pa p.pc p.pl :: L
def RPrf (w0 : World) (L : List Asn) (ns : List Nd) (r : Int) (k : List UInt8) (v : Value) (L' : List Asn) : Prop := ∃ p : Prf, v = .tuple #[.agg p.cells.toArray, .int .i64 (mayE ns r)] ∧ PrfR w0 L ns r k p L'
theorem prfR_bad (w0 : World) (L : List Asn) {ns : List Nd} {r : Int} {k : List UInt8} (h : ¬ MayP ns r) : PrfR w0 L ns r k prfZ (ownB none 0 [] :: ownDg none 0 [] :: L) := ⟨by unfold prfT; rw [if_neg h]; rfl, prfZ_ok, rfl⟩
theorem prfR_of (w0 : World) (L : List Asn) {ns : List Nd} {r : Int} {k : List UInt8} {x : Nd} {xs : List (List UInt8)} {a' : Option Addr} {c' : Nat} {L' : List Asn} (hk : k.length = 32) (hm : MayP ns r) (h : RoadR w0 L ns r k x xs a' c' L') : ∃ L'', SE (ownB x.a x.c x.v :: ownDg a' c' xs :: L) L'' ∧ PrfR w0 L ns r k (prfE x xs k a' c') L'' := by
  obtain ⟨h1, h2, h3, h4, h5, h6, h7⟩ := h
  have hct : (prfE x xs k a' c').ct = prfT ns r k := by
    unfold prfT
    rw [if_pos hm, ← h2]
    exact prfE_ct (by rw [h1, roadN_pl]) _ _ _ _ _ _
  have hok : (prfE x xs k a' c').ok := prfE_ok hk h5 h6 h3 h4
  cases hl : x.leaf
  · refine ⟨_, (se_drop _ _).trans (se_own_nil 5 1 _), hct, hok, ?_⟩
    simp [prfE, hl]
    rfl
  · refine ⟨_, SE.refl _, hct, hok, ?_⟩
    simp [prfE, hl]
set_option maxRecDepth 100000 in
set_option maxHeartbeats 2000000 in
theorem pmake_vc (w0 : World) [hK : RdA w0 (some ⟨0, 0, none⟩) (wds K64)] (L : List Asn) (a : Option Addr) (c : Nat) (ns : List Nd) (r : Int) (k : List UInt8) {n : Nat} (hn : n = ns.length) (hok : NsOk ns) (hlk : k.length = 32) [hr : RdC w0 L a (ndc ns)] [hv : RdNs w0 L ns] :
    VC Tryd.prog w0 53 [.agg #[.slice a n c, .int .i64 r], .agg (bvs k).toArray] L (RPrf w0 L ns r k) := by
  subst hn
  refine vc_ent ?_
  refine vc_in rfl rfl ?_
  repeat' (first | (refine go1 ?_; intros) | (refine vl_caseG rfl rfl rfl rfl ?_ ?_ <;> (intro hb; (try simp only [decide_eq_true_eq, decide_eq_false_iff_not, Bool.not_eq_true', Bool.not_eq_false', ne_eq, Decidable.not_not, Option.isNone_iff_eq_none, not_true_eq_false, not_false_eq_true] at hb); try (exfalso; omega))) | (refine v_cond rfl ?_ ?_ <;> (intro hb; (try simp only [decide_eq_true_eq, decide_eq_false_iff_not, Bool.not_eq_true', Bool.not_eq_false', ne_eq, Decidable.not_not, Option.isNone_iff_eq_none, not_true_eq_false, not_false_eq_true] at hb); try (exfalso; omega))) | fail)
  refine vl_o rfl (vo_call rfl rfl ?_)
  refine vc_mono (troad_vc w0 _ a c ns r k rfl hok hlk) ?_
  rintro v L' ⟨x, xs, a', c', rfl, hR⟩
  obtain ⟨h1, h2, h3, h4, h5, h6, rfl⟩ := hR
  have hR0 : RoadR w0 L ns r k x xs a' c' (ownB x.a x.c x.v :: ownDg a' c' xs :: L) := ⟨h1, h2, h3, h4, h5, h6, rfl⟩
  have hc := Nd.len h3
  haveI hoc : OC x.cells := oc_nd _
  by_cases hm : MayP ns r
  · have hE : mayE ns r = 0 := if_pos hm
    rw [hE]
    have hP := fun g L => pend_vc w0 L g x xs k a' c' hlk h5 h6 h3 h4
    obtain ⟨L2, s2, hP2⟩ := prfR_of w0 L hlk hm hR0
    have hPl : (prfE x xs k a' c').cells.length = 67 := Prf.len (prfE_ok hlk h5 h6 h3 h4)
    haveI hPo : OC (prfE x xs k a' c').cells := oc_prf _
    have hBl : (prfB k a' c' xs).cells.length = 67 := Prf.len (prfB_ok hlk h5 h6)
    haveI hBo : OC (prfB k a' c' xs).cells := oc_prf _
    have hbc : fillS [(0, 32), (32, 1), (33, 32), (65, 1), (66, 1)] (bvs (List.replicate 32 0) ++ (.int .u8 0 :: (bvs (List.replicate 32 0) ++ [.slice none 0 0, .slice none 0 0]))) [(0, bvs k), (4, [.slice a' xs.length c'])] = (prfB k a' c' xs).cells := by
      simp [fillS, splice, hlk, prfB, Prf.cells, z32, List.drop_append, List.drop_of_length_le, List.take_append]
      rw [List.take_of_length_le (by simp [hlk])]
      rfl
    generalize x.cells = cs at *
    repeat' (first | (refine goB ?_; intros) | (refine vl_caseG rfl rfl rfl rfl ?_ ?_ <;> (intro hb; (try simp only [decide_eq_true_eq, decide_eq_false_iff_not, Bool.not_eq_true', Bool.not_eq_false', ne_eq, Decidable.not_not, Option.isNone_iff_eq_none, not_true_eq_false, not_false_eq_true] at hb); try (exfalso; omega))) | (refine v_cond rfl ?_ ?_ <;> (intro hb; (try simp only [decide_eq_true_eq, decide_eq_false_iff_not, Bool.not_eq_true', Bool.not_eq_false', ne_eq, Decidable.not_not, Option.isNone_iff_eq_none, not_true_eq_false, not_false_eq_true] at hb); try (exfalso; omega))) | fail)
    refine vl_id ?_
    refine vl_q rfl rfl rfl rfl (vq_buildP (cs := (prfB k a' c' xs).cells) rfl (by simp [okS, Value.cells, hlk]) hbc) ?_
    refine vl_q rfl rfl rfl rfl (vq_build (us := (prfB k a' c' xs).cells ++ []) rfl rfl (by simp [plOf, Value.cells, hBl]) (by simp [hBl])) ?_
    rw [List.append_nil]
    repeat' (first | (refine go1 ?_; intros) | (refine vl_caseG rfl rfl rfl rfl ?_ ?_ <;> (intro hb; (try simp only [decide_eq_true_eq, decide_eq_false_iff_not, Bool.not_eq_true', Bool.not_eq_false', ne_eq, Decidable.not_not, Option.isNone_iff_eq_none, not_true_eq_false, not_false_eq_true] at hb); try (exfalso; omega))) | (refine v_cond rfl ?_ ?_ <;> (intro hb; (try simp only [decide_eq_true_eq, decide_eq_false_iff_not, Bool.not_eq_true', Bool.not_eq_false', ne_eq, Decidable.not_not, Option.isNone_iff_eq_none, not_true_eq_false, not_false_eq_true] at hb); try (exfalso; omega))) | fail)
    refine vl_o rfl (vo_call rfl rfl ?_)
    refine vc_mono (hP _ _) ?_
    rintro v L' ⟨rfl, rfl⟩
    repeat' (first | (refine go1 ?_; intros) | (refine vl_caseG rfl rfl rfl rfl ?_ ?_ <;> (intro hb; (try simp only [decide_eq_true_eq, decide_eq_false_iff_not, Bool.not_eq_true', Bool.not_eq_false', ne_eq, Decidable.not_not, Option.isNone_iff_eq_none, not_true_eq_false, not_false_eq_true] at hb); try (exfalso; omega))) | (refine v_cond rfl ?_ ?_ <;> (intro hb; (try simp only [decide_eq_true_eq, decide_eq_false_iff_not, Bool.not_eq_true', Bool.not_eq_false', ne_eq, Decidable.not_not, Option.isNone_iff_eq_none, not_true_eq_false, not_false_eq_true] at hb); try (exfalso; omega))) | fail)
    refine ⟨_, ?_, _, by rw [hE], hP2⟩
    exact (sei w0 _ (ownB x.a x.c x.v :: ownDg a' c' xs :: L)).trans (s2.ent w0)
  · have hE : mayE ns r = 8 := if_neg hm
    rw [hE]
    repeat' (first | (refine go1 ?_; intros) | (refine vl_caseG rfl rfl rfl rfl ?_ ?_ <;> (intro hb; (try simp only [decide_eq_true_eq, decide_eq_false_iff_not, Bool.not_eq_true', Bool.not_eq_false', ne_eq, Decidable.not_not, Option.isNone_iff_eq_none, not_true_eq_false, not_false_eq_true] at hb); try (exfalso; omega))) | (refine v_cond rfl ?_ ?_ <;> (intro hb; (try simp only [decide_eq_true_eq, decide_eq_false_iff_not, Bool.not_eq_true', Bool.not_eq_false', ne_eq, Decidable.not_not, Option.isNone_iff_eq_none, not_true_eq_false, not_false_eq_true] at hb); try (exfalso; omega))) | fail)
    refine ⟨_, ?_, prfZ, by rw [hE]; rfl, prfR_bad w0 L hm⟩
    exact (sei w0 _ L).trans (((se_own_nil 26 32 _).trans (se_own_nil 5 1 _)).ent w0)
end Go.Proofs.YtnoihibaoalkaaaDoor
namespace Go.Proofs.YtnoihibaoalkaaaDoor
open Go Go.RowKit
set_option linter.unusedVariables false
set_option linter.unusedSimpArgs false
open Classical

end Go.Proofs.YtnoihibaoalkaaaDoor

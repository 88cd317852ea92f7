/-
  Replies: their cells; whether their numbers may be; whether two are the same (the program's).
-/
import Derived.Test.YtgffejpcldeklaaWirF
import Derived.Test.YtgffejpcldeklaaGHA
import Derived.Test.YtgffejpcldeklaaGHB
import Derived.Test.YtgffejpcldeklaaGN
import Derived.Test.YtgffejpcldeklaaGV
import Derived.Test.YtgffejpcldeklaaGK
import Derived.Test.YtgffejpcldeklaaGC
set_option linter.unusedVariables false
set_option linter.unusedSimpArgs false
set_option linter.unusedSectionVars false
set_option maxRecDepth 100000
set_option maxHeartbeats 1000000
namespace Go.Proofs.Ytgffejpcldeklaa
open Go Go.RowKit
open Classical

/-- An event's content; an item's; a reply's. -/
structure Evt where
  num : Int
  roll : Bool
  hd : Hd
structure Rp where
  kind : UInt8
  code : Int
  height : Int
  dig : List UInt8
  nonce : Nat
  bal : Nat
  rc : Rec
  prf : Prf
  sub : Int
  gap : Bool
  ev : Evt
def Evt.cells (e : Evt) : List Value := .int .i64 e.num :: .bool e.roll :: e.hd.cells
def Rp.cells (r : Rp) : List Value := .int .u8 (r.kind.toNat : Nat) :: .int .i64 r.code :: .int .i64 r.height :: (bvs r.dig ++ (.int .u64 r.nonce :: .int .u64 r.bal :: (r.rc.cells ++ (r.prf.cells ++ (.int .i64 r.sub :: .bool r.gap :: r.ev.cells)))))
def I64 (n : Int) : Prop := -9223372036854775808 ≤ n ∧ n < 9223372036854775808
structure Rp.ok (r : Rp) : Prop where
  code : I64 r.code
  height : I64 r.height
  dig : r.dig.length = 32
  nonce : r.nonce < 18446744073709551616
  bal : r.bal < 18446744073709551616
  rc : r.rc.ok
  recc : I64 r.rc.code
  prf : r.prf.ok
  sub : I64 r.sub
  num : I64 r.ev.num
  hd : r.ev.hd.ok
  hdh : I64 r.ev.hd.height
  hdm : I64 r.ev.hd.many
theorem Evt.len {e : Evt} (h : e.hd.ok) : e.cells.length = 100 := by simp [Evt.cells, Hd.len h]
instance oc_evt (e : Evt) : OC e.cells := (inferInstance : OC (.int .i64 e.num :: .bool e.roll :: e.hd.cells))
instance oc_prf (p : Prf) : OC p.cells := (inferInstance : OC (bvs p.key ++ (.int .u8 p.kind :: (bvs p.other ++ [.slice p.va p.vl.length p.vc, .slice p.pa p.pl.length p.pc]))))
instance oc_rp (r : Rp) : OC r.cells := (inferInstance : OC (.int .u8 (r.kind.toNat : Nat) :: .int .i64 r.code :: .int .i64 r.height :: (bvs r.dig ++ (.int .u64 r.nonce :: .int .u64 r.bal :: (r.rc.cells ++ (r.prf.cells ++ (.int .i64 r.sub :: .bool r.gap :: r.ev.cells)))))))
/-- A reply's cells, cut at a place. -/
theorem cutL {α : Type} {cs pre xs post : List α} {i n : Nat} (e : cs = pre ++ (xs ++ post)) (hi : pre.length = i) (hn : xs.length = n) : (cs.drop i).take n = xs := by
  subst e hi hn
  rw [List.drop_left, List.take_left]
theorem atL {α : Type} {cs pre post : List α} {x : α} {i : Nat} (e : cs = pre ++ (x :: post)) (hi : pre.length = i) : cs[i]? = some x := by
  subst e hi
  simp
theorem setL {α : Type} {cs pre xs post ys ds : List α} {i : Nat} (e : cs = pre ++ (xs ++ post)) (hi : pre.length = i) (hy : ys.length = xs.length) (d : ds = pre ++ (ys ++ post)) : splice cs i ys = ds := by
  subst e d
  exact splice_mid pre xs post ys i hi hy
section
variable {r : Rp} (h : r.ok)
include h
theorem Rp.len : r.cells.length = 240 := by simp [Rp.cells, Evt.len h.hd, Rec.len h.rc, Prf.len h.prf, h.dig]
theorem Rp.f0 : r.cells[0 + 0]? = some (.int .u8 (r.kind.toNat : Nat)) := rfl
theorem Rp.f1 : r.cells[0 + 1]? = some (.int .i64 r.code) := rfl
theorem Rp.f2 : r.cells[0 + 2]? = some (.int .i64 r.height) := rfl
theorem Rp.f3 : (r.cells.drop (0 + 3)).take 32 = bvs r.dig := cutL (pre := [_, _, _]) rfl rfl (by simp [h.dig])
theorem Rp.f4 : (r.cells.drop (0 + 35)).take 2 = [.int .u64 r.nonce, .int .u64 r.bal] := cutL (pre := .int .u8 (r.kind.toNat : Nat) :: .int .i64 r.code :: .int .i64 r.height :: bvs r.dig) rfl (by simp [h.dig]) rfl
theorem Rp.f5 : (r.cells.drop (0 + 37)).take 34 = r.rc.cells := cutL (post := r.prf.cells ++ (.int .i64 r.sub :: .bool r.gap :: r.ev.cells)) (pre := .int .u8 (r.kind.toNat : Nat) :: .int .i64 r.code :: .int .i64 r.height :: (bvs r.dig ++ [.int .u64 r.nonce, .int .u64 r.bal])) (by simp [Rp.cells]) (by simp [h.dig]) (Rec.len h.rc)
theorem Rp.f6 : (r.cells.drop (0 + 71)).take 67 = r.prf.cells := cutL (post := .int .i64 r.sub :: .bool r.gap :: r.ev.cells) (pre := .int .u8 (r.kind.toNat : Nat) :: .int .i64 r.code :: .int .i64 r.height :: (bvs r.dig ++ (.int .u64 r.nonce :: .int .u64 r.bal :: r.rc.cells))) (by simp [Rp.cells]) (by simp [h.dig, Rec.len h.rc]) (Prf.len h.prf)
theorem Rp.e7 : r.cells = (.int .u8 (r.kind.toNat : Nat) :: .int .i64 r.code :: .int .i64 r.height :: (bvs r.dig ++ (.int .u64 r.nonce :: .int .u64 r.bal :: (r.rc.cells ++ r.prf.cells)))) ++ (.int .i64 r.sub :: .bool r.gap :: r.ev.cells) := by simp [Rp.cells]
theorem Rp.l7 : (.int .u8 (r.kind.toNat : Nat) :: .int .i64 r.code :: .int .i64 r.height :: (bvs r.dig ++ (.int .u64 r.nonce :: .int .u64 r.bal :: (r.rc.cells ++ r.prf.cells))) : List Value).length = 138 := by simp [h.dig, Rec.len h.rc, Prf.len h.prf]
theorem Rp.f7 : r.cells[0 + 138]? = some (.int .i64 r.sub) := atL (Rp.e7 h) (Rp.l7 h)
theorem Rp.f8 : (r.cells.drop (0 + 139)).take 101 = .bool r.gap :: r.ev.cells := cutL (pre := (.int .u8 (r.kind.toNat : Nat) :: .int .i64 r.code :: .int .i64 r.height :: (bvs r.dig ++ (.int .u64 r.nonce :: .int .u64 r.bal :: (r.rc.cells ++ r.prf.cells)))) ++ [.int .i64 r.sub]) (post := []) (by rw [Rp.e7 h]; simp) (by rw [List.length_append, Rp.l7 h]; rfl) (by simp [Evt.len h.hd])
theorem Rp.fg : r.cells[0 + 139 + 0]? = some (.bool r.gap) := atL (pre := (.int .u8 (r.kind.toNat : Nat) :: .int .i64 r.code :: .int .i64 r.height :: (bvs r.dig ++ (.int .u64 r.nonce :: .int .u64 r.bal :: (r.rc.cells ++ r.prf.cells)))) ++ [.int .i64 r.sub]) (post := r.ev.cells) (by rw [Rp.e7 h]; simp) (by rw [List.length_append, Rp.l7 h]; rfl)
theorem Rp.fe : (r.cells.drop (0 + 139 + 1)).take 100 = r.ev.cells := cutL (pre := (.int .u8 (r.kind.toNat : Nat) :: .int .i64 r.code :: .int .i64 r.height :: (bvs r.dig ++ (.int .u64 r.nonce :: .int .u64 r.bal :: (r.rc.cells ++ r.prf.cells)))) ++ [.int .i64 r.sub, .bool r.gap]) (post := []) (by rw [Rp.e7 h]; simp) (by rw [List.length_append, Rp.l7 h]; rfl) (Evt.len h.hd)
theorem Rp.set0 (k : UInt8) : splice r.cells (0 + 0) [.int .u8 (k.toNat : Nat)] = ({ r with kind := k } : Rp).cells := setL (pre := []) (xs := [_]) rfl rfl rfl rfl
theorem Rp.set1 (c : Int) : splice r.cells (0 + 1) [.int .i64 c] = ({ r with code := c } : Rp).cells := setL (pre := [_]) (xs := [_]) rfl rfl rfl rfl
end
theorem Evt.f0 (e : Evt) : e.cells[0 + 0]? = some (.int .i64 e.num) := rfl
theorem Evt.f1 (e : Evt) : e.cells[0 + 1]? = some (.bool e.roll) := rfl
theorem Evt.f2 {e : Evt} (h : e.hd.ok) : (e.cells.drop (0 + 2)).take 98 = e.hd.cells := cutL (pre := [_, _]) (post := []) (by rw [List.append_nil]; rfl) rfl (Hd.len h)
theorem Hd.fitsR {x : Hd} (h : x.ok) : Fits hdShape x.cells := by
  have a := fits_bvs x.parent
  have b := fits_bvs x.state
  have c := fits_bvs x.rows
  rw [h.parent] at a
  rw [h.state] at b
  rw [h.rows] at c
  exact ⟨⟨_, rfl⟩, a.append (b.append (c.append ⟨⟨_, rfl⟩, trivial⟩))⟩
theorem Hd.injR {a b : Hd} (h : a.ok) (k : b.ok) : a.cells = b.cells ↔ a = b := by
  refine ⟨fun e => ?_, fun e => by rw [e]⟩
  unfold Hd.cells at e
  obtain ⟨e0, e⟩ := List.cons.inj e
  obtain ⟨e1, e⟩ := List.append_inj e (by simp [h.parent, k.parent])
  obtain ⟨e2, e⟩ := List.append_inj e (by simp [h.state, k.state])
  obtain ⟨e3, e⟩ := List.append_inj e (by simp [h.rows, k.rows])
  simp only [List.cons.injEq, Value.int.injEq, true_and, and_true] at e e0
  have e1 := bvs_inj e1
  have e2 := bvs_inj e2
  have e3 := bvs_inj e3
  obtain ⟨x1, x2, x3, x4, x5⟩ := a
  obtain ⟨y1, y2, y3, y4, y5⟩ := b
  simp only at e0 e e1 e2 e3
  simp only [Hd.mk.injEq]
  exact ⟨e0, e1, e2, e3, e⟩
theorem Evt.inj {a b : Evt} (h : a.hd.ok) (k : b.hd.ok) : a.cells = b.cells ↔ a = b := by
  refine ⟨fun e => ?_, fun e => by rw [e]⟩
  unfold Evt.cells at e
  obtain ⟨e0, e⟩ := List.cons.inj e
  obtain ⟨e1, e⟩ := List.cons.inj e
  have e2 := (Hd.injR h k).1 e
  obtain ⟨x1, x2, x3⟩ := a
  obtain ⟨y1, y2, y3⟩ := b
  simp only [Value.int.injEq, Value.bool.injEq, true_and] at e0 e1 e2
  simp only [Evt.mk.injEq]
  exact ⟨e0, e1, e2⟩
theorem Rec.injR {a b : Rec} (h : a.ok) (k : b.ok) : a.cells = b.cells ↔ a = b := by
  refine ⟨fun e => ?_, fun e => by rw [e]⟩
  unfold Rec.cells at e
  obtain ⟨e0, e⟩ := List.cons.inj e
  obtain ⟨e1, e⟩ := List.append_inj e (by simp [h.id, k.id])
  simp only [List.cons.injEq, Value.int.injEq, true_and, and_true] at e e0
  have e1 := bvs_inj e1
  obtain ⟨x1, x2, x3⟩ := a
  obtain ⟨y1, y2, y3⟩ := b
  simp only at e0 e e1
  simp only [Rec.mk.injEq]
  exact ⟨by omega, e1, e⟩
abbrev evShape : Shape := some .i64 :: none :: hdShape
abbrev itShape : Shape := none :: evShape
abbrev rcShape : Shape := List.replicate 32 (some .u8) ++ (some .u8 :: [some .i64])
theorem rcShape_eq : rcShape = some .u8 :: (List.replicate 32 (some .u8) ++ [some .i64]) := by decide
abbrev accShape : Shape := [some .u64, some .u64]
theorem Evt.fits {e : Evt} (h : e.hd.ok) : Fits evShape e.cells := ⟨⟨_, rfl⟩, ⟨_, rfl⟩, Hd.fitsR h⟩
theorem it_fits (g : Bool) {e : Evt} (h : e.hd.ok) : Fits itShape (.bool g :: e.cells) := ⟨⟨_, rfl⟩, Evt.fits h⟩
theorem Rec.fitsR {x : Rec} (h : x.ok) : Fits rcShape x.cells := by
  have a := fits_bvs x.id
  rw [h.id] at a
  rw [rcShape_eq]
  exact ⟨⟨_, rfl⟩, a.append ⟨⟨_, rfl⟩, trivial⟩⟩
theorem acc_fits (a b : Nat) : Fits accShape [.int .u64 a, .int .u64 b] := ⟨⟨_, rfl⟩, ⟨_, rfl⟩, trivial⟩
def hd0 : Hd := ⟨0, d32, d32, d32, 0⟩
theorem hd0_ok : hd0.ok := ⟨by simp [hd0, d32], by simp [hd0, d32], by simp [hd0, d32]⟩
def ev0 : Evt := ⟨0, false, hd0⟩
def rp0 : Rp := ⟨0, 0, 0, d32, 0, 0, recZero, prf0, 0, false, ev0⟩
theorem I64_0 : I64 0 := ⟨by decide, by decide⟩
theorem rp0_ok : rp0.ok := ⟨I64_0, I64_0, by simp [rp0, d32], by decide, by decide, recZero_ok, I64_0, prf0_ok, I64_0, I64_0, hd0_ok, I64_0, I64_0⟩
section
variable {P : Program} {w0 : World} {n : Nat} {ds : List Deferred} {fr : Fr} {L : List Asn} {dst : Option Nat} {ty : TypeId} {pos : String} {after : Array Edge} {gd : Option (Nat × Bool)}
theorem vq_eqCells {t yt : TypeId} {a b : Operand} {xs ys : List Value} {sh : Shape} {p : Prop} (hx : evA fr a = some (.agg xs.toArray)) (hy : evA fr b = some (.agg ys.toArray)) [he : EqI P t sh] (hf : Fits sh xs) (hf2 : Fits sh ys) (hp : xs = ys ↔ p) : VQ P w0 n ⟨dst, .binOp .eql t a b yt, ty, pos, after, gd⟩ (.bool (decide p)) ds fr L :=
  vq_val (fun u w hk _ => run_eqAgg t yt a b rfl he xs ys (hk.ev hx) (hk.ev hy) hf hf2 p hp)
end
/-- Its numbers may be. -/
noncomputable def Rp.inR (r : Rp) : Bool := decide (r.kind.toNat ≤ 8 ∧ (0 < r.kind.toNat ∨ r.code ≠ 0) ∧ 0 ≤ r.code ∧ r.code ≤ 999 ∧ 0 ≤ r.height ∧ 0 ≤ r.sub ∧ 0 ≤ r.ev.num) && r.ev.hd.may && (!r.gap || decide (r.ev = ev0))
instance eqEvt : EqI Try.prog 37 evShape := ⟨⟨40, by decide, by kernel_rfl⟩, by kernel_rfl, by kernel_rfl⟩
instance eqItem : EqI Try.prog 39 itShape := ⟨⟨40, by decide, by kernel_rfl⟩, by kernel_rfl, by kernel_rfl⟩
theorem within_vc (w0 : World) (L : List Asn) (r : Rp) (h : r.ok) :
    VC Try.prog w0 13 [.agg r.cells.toArray] L fun v L' => v = .bool r.inR ∧ L' = L := by
  have hcl := Rp.len h
  have f0 := Rp.f0 h
  have f1 := Rp.f1 h
  have f2 := Rp.f2 h
  have f7 := Rp.f7 h
  have fg := Rp.fg h
  have fe := Rp.fe h
  have en := Evt.f0 r.ev
  have eh := Evt.f2 h.hd
  have el := Evt.len h.hd
  have hkb := r.kind.toNat_lt
  haveI hoc : OC r.cells := oc_rp r
  have hhl := Hd.len h.hd
  have efit := Evt.fits h.hd
  have e0fit := Evt.fits (e := ev0) hd0_ok
  have einj := Evt.inj (b := ev0) h.hd hd0_ok
  unfold Rp.inR
  have hno : ∀ b c : Bool, ¬ (r.kind.toNat ≤ 8 ∧ (0 < r.kind.toNat ∨ r.code ≠ 0) ∧ 0 ≤ r.code ∧ r.code ≤ 999 ∧ 0 ≤ r.height ∧ 0 ≤ r.sub ∧ 0 ≤ r.ev.num) → (decide (r.kind.toNat ≤ 8 ∧ (0 < r.kind.toNat ∨ r.code ≠ 0) ∧ 0 ≤ r.code ∧ r.code ≤ 999 ∧ 0 ≤ r.height ∧ 0 ≤ r.sub ∧ 0 ≤ r.ev.num) && b && c) = false := fun b c hx => by rw [decide_eq_false hx]; rfl
  have hye : ∀ b c : Bool, (r.kind.toNat ≤ 8 ∧ (0 < r.kind.toNat ∨ r.code ≠ 0) ∧ 0 ≤ r.code ∧ r.code ≤ 999 ∧ 0 ≤ r.height ∧ 0 ≤ r.sub ∧ 0 ≤ r.ev.num) → (decide (r.kind.toNat ≤ 8 ∧ (0 < r.kind.toNat ∨ r.code ≠ 0) ∧ 0 ≤ r.code ∧ r.code ≤ 999 ∧ 0 ≤ r.height ∧ 0 ≤ r.sub ∧ 0 ≤ r.ev.num) && b && c) = (b && c) := fun b c hx => by rw [decide_eq_true hx]; simp
  refine vc_ent ?_
  refine vc_in rfl rfl ?_
  generalize r.cells = rcs at *
  haveI hoe : OC r.ev.cells := oc_evt _
  generalize r.ev.cells = ev at *
  refine v_seq ?_
  refine v_region ?_
  repeat' (first | (refine vl_id ?_; first | refine vl_nil ?_ | refine vl_qA rfl rfl rfl rfl ?_ | (refine vl_o rfl ?_; (refine goV ?_; intros)) | refine vl_guard rfl rfl rfl rfl rfl ?_ | refine vl_pass rfl rfl rfl rfl rfl rfl rfl ?_) | refine thn_n ?_ | fail)
  refine v_seq ?_
  refine v_region ?_
  repeat' (first | (refine vl_id ?_; first | refine vl_nil ?_ | refine vl_qA rfl rfl rfl rfl ?_ | (refine vl_o rfl ?_; (refine goV ?_; intros)) | refine vl_guard rfl rfl rfl rfl rfl ?_ | refine vl_pass rfl rfl rfl rfl rfl rfl rfl ?_) | refine thn_n ?_ | fail)
  rename_i g1 g3
  refine v_seq ?_
  refine v_cut Unit [1, 2, 3] rfl (fun _ => [(4, .bool (!r.gap || decide (r.ev = ev0)))]) (fun _ => blk g3 37 ev :: blk g1 41 rcs :: L) ?_ (fun _ => ?_)
  · cases hg : r.gap
    · rw [hg] at fg
      repeat' (first | (refine go1 ?_; intros) | (refine goCC ?_ ?_ <;> (intro hb; (try simp only [hSQ] at hb); try (exfalso; omega))) | fail)
      exact ⟨rfl, (), by (exact sbS), Ent.refl _ _⟩
    · rw [hg] at fg
      repeat' (first | (refine go1 ?_; intros) | (refine goCC ?_ ?_ <;> (intro hb; (try simp only [hSQ] at hb); try (exfalso; omega))) | fail)
      refine vl_q rfl rfl rfl rfl (vq_eqCells rfl rfl efit e0fit einj) ?_
      repeat' (first | (refine go1 ?_; intros) | (refine goCC ?_ ?_ <;> (intro hb; (try simp only [hSQ] at hb); try (exfalso; omega))) | fail)
      exact ⟨rfl, (), by (exact sbS), Ent.refl _ _⟩
  generalize (!r.gap || decide (r.ev = ev0)) = q at *
  repeat' (first | (refine go1 ?_; intros) | (refine goCC ?_ ?_ <;> (intro hb; (try simp only [hSQ] at hb); try (exfalso; omega))) | fail)
  all_goals first | (exfalso; omega) | exact ⟨_, sei _ _ L, by rw [hno _ _ (by omega)], rfl⟩ | skip
  rotate_right
  · refine vl_passU rfl rfl rfl rfl rfl rfl ?_
    refine vl_passU rfl rfl rfl rfl rfl rfl ?_
    refine vl_passU rfl rfl rfl rfl rfl rfl ?_
    repeat' (first | (refine go1 ?_; intros) | (refine goCC ?_ ?_ <;> (intro hb; (try simp only [hSQ] at hb); try (exfalso; omega))) | fail)
    exact ⟨_, sei _ _ L, by rw [hno _ _ (by omega)], rfl⟩
  all_goals
    refine clV ?_
    refine vc_mono (hcheck_vc w0 _ r.ev.hd h.hd) ?_
    rintro v L' ⟨rfl, rfl⟩
    rw [hye _ _ (by omega)]
    cases r.ev.hd.may
    all_goals
      repeat' (first | (refine go1 ?_; intros) | (refine goCC ?_ ?_ <;> (intro hb; (try simp only [hSQ] at hb); try (exfalso; omega))) | fail)
      exact ⟨_, sei _ _ L, rfl, rfl⟩
end Go.Proofs.Ytgffejpcldeklaa

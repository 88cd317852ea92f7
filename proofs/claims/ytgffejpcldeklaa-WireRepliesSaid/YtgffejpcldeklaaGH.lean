/-
  What a reading of the arguments says of slices of bytes. What a reading of an argument says of a plain struct or array that came in by value. What a reading of the arguments says of slices of slices of bytes. What a reading of the arguments says of slices in general, and of digests.
-/
import Derived.Test.YtgffejpcldeklaaGA
import Derived.ProofKit
import Derived.OpenShut
import Derived.Test.YtgffejpcldeklaaGB
import Derived.Test.YtgffejpcldeklaaGG
set_option linter.unusedVariables false
set_option linter.unusedSimpArgs false
set_option linter.unusedSectionVars false

namespace Go.Proofs.Ytgffejpcldeklaa
open Go Go.RowKit

/-- A slice of integers that came in: nil; or a row of 'cap' cells. -/
def IsRow (k : IntKind) (w : World) (a : Option Addr) (len cap : Nat) (zs : List Int) : Prop :=
  (a = none ∧ len = 0 ∧ cap = 0 ∧ zs = []) ∨
  ∃ x, a = some x ∧ len ≤ cap ∧ cap ≤ maxLen ∧ zs.length = cap ∧ (∀ i, i < zs.length → w.cell? (x.add i) = some (.int k (zs.getD i 0))) ∧ ∀ n ∈ zs, (Lit.int k n).wf = true

/-- A slice of bytes that can be read: l. -/
structure Bts (w : World) (a : Option Addr) (n cap : Nat) (l : List UInt8) : Prop where
  hn : n = l.length
  hcap : l.length ≤ cap
  hmax : cap ≤ maxLen
  rc : Rc w a (bvs l)

theorem cell?_spot {w : World} {x : Addr} {v : Value} (h : w.cell? x = some v) : x.spot = none := by
  unfold World.cell? at h
  split at h
  · split at h
    · cases h
    · rename_i hs; simpa using hs
  · cases h

theorem u8_wf {n : Int} (h : (Lit.int .u8 n).wf = true) : ((UInt8.ofNat n.toNat).toNat : Int) = n := by
  have := bounds_u8 h
  rw [UInt8.toNat_ofNat']
  omega

theorem bts_of_row {w : World} {a : Option Addr} {len cap : Nat} {zs : List Int} (h : IsRow .u8 w a len cap zs) : ∃ l, Bts w a len cap l := by
  rcases h with ⟨rfl, rfl, rfl, rfl⟩ | ⟨x, rfl, h1, h2, h3, h4, h5⟩
  · exact ⟨[], rfl, Nat.le_refl _, Nat.zero_le _, .inl rfl⟩
  · refine ⟨(zs.take len).map (fun n => UInt8.ofNat n.toNat), by simp; omega, by simp; omega, h2, ?_⟩
    by_cases h0 : len = 0
    · subst h0; exact .inl rfl
    · have hc0 := h4 0 (by omega)
      have hs : x.spot = none := cell?_spot (x := x) (by simpa [Addr.add] using hc0)
      obtain ⟨b, off, s⟩ := x
      simp only at hs
      subst hs
      refine .inr ⟨b, off, rfl, fun j u hu => ?_⟩
      have hj : j < len := by
        rcases Nat.lt_or_ge j len with h | h
        · exact h
        · rw [List.getElem?_eq_none (by simp; omega)] at hu; cases hu
      have := h4 j (by omega)
      rw [addr_add] at this
      rw [this]
      have hz : zs[j]? = some (zs[j]'(by omega)) := by simp [show j < zs.length by omega]
      have hw := u8_wf (h5 (zs[j]'(by omega)) (List.getElem_mem _))
      have hu' : (bvs ((zs.take len).map fun n => UInt8.ofNat n.toNat))[j]? = some (.int .u8 (zs[j]'(by omega))) := by
        simp only [bvs, List.map_map, List.getElem?_map, List.getElem?_take, hj, if_true, hz, Option.map_some, Function.comp, bv, hw]
      rw [hu'] at hu
      simpa [List.getD, hz] using hu

set_option maxRecDepth 100000 in
open Go.ChangeShapes Go.WideShapes Go.ChangeAt in
/-- An argument that is a slice of bytes. -/
theorem open_bts {H : Type} {enc : TypeId × Value → H} {W : World} {base : Nat} {v : Value} {d : DataW H} {p : List MemPlace} (hv : Value.okWide Try.prog W .any base 30 v) (h : DataW.Trod enc Try.prog W 0 (fun _ => true) true 30 v d p) :
    ∃ a n cap l, v = .slice a n cap ∧ Bts W a n cap l := by
  obtain ⟨a0, len0, cap0, rfl⟩ := okWide_slice Try.underlying30 hv
  obtain ⟨z0, w0⟩ : ∃ zs, IsRow .u8 W a0 len0 cap0 zs := by
    obtain ⟨fuel, hf⟩ := h
    rcases open_ints Try.underlying30 Try.underlying5 (by kernel_rfl) hf with ⟨hcs, _⟩ | ⟨x, l, c, zs, hcs, _, hl, hm, hz, _, hcell, hwz⟩
    · simp [Value.cells] at hcs
      obtain ⟨rfl, rfl, rfl⟩ := hcs
      exact ⟨[], .inl ⟨rfl, rfl, rfl, rfl⟩⟩
    · simp [Value.cells] at hcs
      obtain ⟨rfl, rfl, rfl⟩ := hcs
      exact ⟨zs, .inr ⟨_, rfl, hl, hm, by simpa using hz, hcell, hwz⟩⟩
  obtain ⟨l, hb⟩ := bts_of_row w0
  exact ⟨_, _, _, l, rfl, hb⟩

end Go.Proofs.Ytgffejpcldeklaa
namespace Go.Proofs.Ytgffejpcldeklaa
open Go Go.RowKit

/-- These cells are of that shape, each whole number within its kind. -/
def FitsW : Shape → List Value → Prop
  | [], [] => True
  | some k :: sh, v :: vs => (∃ a, v = .int k a ∧ (Lit.int k a).wf = true) ∧ FitsW sh vs
  | none :: sh, v :: vs => (∃ b, v = .bool b) ∧ FitsW sh vs
  | _, _ => False

theorem FitsW.fits : ∀ {sh : Shape} {vs : List Value}, FitsW sh vs → Fits sh vs
  | [], [], _ => trivial
  | some _ :: _, _ :: _, h => ⟨⟨_, h.1.choose_spec.1⟩, FitsW.fits h.2⟩
  | none :: _, _ :: _, h => ⟨h.1, FitsW.fits h.2⟩
  | [], _ :: _, h => h.elim
  | some _ :: _, [], h => h.elim
  | none :: _, [], h => h.elim

theorem FitsW.append : ∀ {sh sh' : Shape} {vs vs' : List Value}, FitsW sh vs → FitsW sh' vs' → FitsW (sh ++ sh') (vs ++ vs')
  | [], _, [], _, _, h' => h'
  | some _ :: _, _, _ :: _, _, h, h' => ⟨h.1, FitsW.append h.2 h'⟩
  | none :: _, _, _ :: _, _, h, h' => ⟨h.1, FitsW.append h.2 h'⟩
  | [], _, _ :: _, _, h, _ => h.elim
  | some _ :: _, _, [], _, h, _ => h.elim
  | none :: _, _, [], _, h, _ => h.elim

theorem FitsW.split : ∀ {sh sh' : Shape} {vs : List Value}, FitsW (sh ++ sh') vs → ∃ us ws, vs = us ++ ws ∧ FitsW sh us ∧ FitsW sh' ws
  | [], _, vs, h => ⟨[], vs, rfl, trivial, h⟩
  | some _ :: _, _, v :: _, h => by
    obtain ⟨us, ws, e, h1, h2⟩ := FitsW.split h.2
    exact ⟨v :: us, ws, by rw [e]; rfl, ⟨h.1, h1⟩, h2⟩
  | none :: _, _, v :: _, h => by
    obtain ⟨us, ws, e, h1, h2⟩ := FitsW.split h.2
    exact ⟨v :: us, ws, by rw [e]; rfl, ⟨h.1, h1⟩, h2⟩
  | some _ :: _, _, [], h => h.elim
  | none :: _, _, [], h => h.elim

theorem FitsW.bytes : ∀ {n : Nat} {vs : List Value}, FitsW (List.replicate n (some .u8)) vs → ∃ l, vs = bvs l ∧ l.length = n
  | 0, [], _ => ⟨[], rfl, rfl⟩
  | 0, _ :: _, h => h.elim
  | _ + 1, [], h => h.elim
  | _ + 1, _ :: _, h => by
    obtain ⟨⟨a, rfl, hw⟩, h2⟩ := h
    obtain ⟨l, rfl, hl⟩ := FitsW.bytes h2
    exact ⟨UInt8.ofNat a.toNat :: l, by rw [show bvs (UInt8.ofNat a.toNat :: l) = bv (UInt8.ofNat a.toNat) :: bvs l from rfl, bv, u8_wf hw], by simp [hl]⟩

theorem FitsW.cons {k : IntKind} {sh : Shape} : ∀ {vs : List Value}, FitsW (some k :: sh) vs → ∃ a us, vs = .int k a :: us ∧ (Lit.int k a).wf = true ∧ FitsW sh us
  | [], h => h.elim
  | _ :: us, ⟨⟨a, e, hw⟩, h⟩ => ⟨a, us, by rw [e], hw, h⟩
theorem FitsW.consB {sh : Shape} : ∀ {vs : List Value}, FitsW (none :: sh) vs → ∃ b us, vs = .bool b :: us ∧ FitsW sh us
  | [], h => h.elim
  | _ :: us, ⟨⟨b, e⟩, h⟩ => ⟨b, us, by rw [e], h⟩
theorem FitsW.nil' : ∀ {vs : List Value}, FitsW [] vs → vs = []
  | [], _ => rfl
  | _ :: _, h => h.elim

theorem mapM_all {α β : Type} {f : α → Option β} : ∀ {l : List α} {r : List β}, l.mapM f = some r → ∀ x ∈ l, ∃ y, f x = some y
  | [], _, _, _, hx => by cases hx
  | a :: l, r, h, x, hx => by
    rw [List.mapM_cons] at h
    cases ha : f a with
    | none => simp [ha] at h
    | some y =>
      cases hl : l.mapM f with
      | none => simp [ha, hl] at h
      | some r' =>
        rcases List.mem_cons.1 hx with rfl | hx
        · exact ⟨y, ha⟩
        · exact mapM_all hl x hx

section
variable {P : Program} {H : Type} {enc : TypeId × Value → H} {w : World} {base : Nat} {spare : Nat → Bool} {held : Bool}

theorem cellsOf_of {t : TypeId} {n : Nat} (h : (P.info? t).map (·.size) = some n) : P.cellsOf t = n := by
  obtain ⟨i, hi, he⟩ := Option.map_eq_some_iff.1 h
  simp [Program.cellsOf, hi, he]

mutual
theorem fits_of_trod : ∀ (f : Nat) {t : TypeId} {sh : Shape} {fuel : Nat} {cs : List Value} {x : DataW H × List MemPlace}, shapeOf P f t = some sh → DataW.trod enc P w base spare held fuel t cs = some x → FitsW sh cs
  | 0, t, sh, fuel, cs, x, h, _ => by simp [shapeOf] at h
  | f + 1, t, sh, 0, cs, x, h, hx => by simp [DataW.trod] at hx
  | f + 1, t, sh, fuel + 1, cs, x, h, hx => by
    simp only [shapeOf] at h
    cases hd : P.underlying t with
    | none => simp [hd] at h
    | some dsc =>
      rw [hd] at h
      cases dsc with
      | bool =>
        obtain ⟨rfl, _⟩ := sized_spec h
        simp only [DataW.trod, hd] at hx
        split at hx <;> first | (cases hx; done) | (rename_i e1 e2; simp at e1; try (subst e2)) | skip
        all_goals first | exact ⟨⟨_, rfl⟩, trivial⟩ | simp_all
      | int k =>
        obtain ⟨rfl, _⟩ := sized_spec h
        obtain ⟨n, rfl, _, hw⟩ := DataW.trod_int hd hx
        exact ⟨⟨n, rfl, hw⟩, trivial⟩
      | array n e =>
        simp only at h
        split at h
        case h_2 => cases h
        rename_i she hshe
        obtain ⟨rfl, hsz⟩ := sized_spec h
        obtain ⟨de, hde, hie, h1e⟩ := shapeOf_und hshe
        obtain ⟨xs, m, _, _, hlen, hxl, hel⟩ := DataW.trod_array hd hx
        rw [cellsOf_of hsz] at hlen
        rw [cellsOf_of hie] at hel
        have loop : ∀ (k : Nat) (j : Nat) (us : List Value), us.length = k * she.length → (∀ i, i < k → ∃ y, DataW.trod enc P w base spare held m e ((us.drop (i * she.length)).take she.length) = some y) → FitsW (List.replicate k she).flatten us := by
          intro k
          induction k with
          | zero => intro j us hu _; simp at hu; subst hu; trivial
          | succ k ih =>
            intro j us hu hy
            rw [Nat.add_mul, Nat.one_mul] at hu
            obtain ⟨y, hy0⟩ := hy 0 (by omega)
            simp only [Nat.zero_mul, List.drop_zero] at hy0
            have h0 := fits_of_trod f hshe hy0
            have h1 := ih j (us.drop she.length) (by simp; omega) (fun i hi => by
              obtain ⟨y, hy⟩ := hy (i + 1) (by omega)
              rw [List.drop_drop]
              rw [Nat.add_mul, Nat.one_mul, Nat.add_comm] at hy
              exact ⟨y, hy⟩)
            rw [List.replicate_succ, List.flatten_cons, ← List.take_append_drop she.length us]
            exact h0.append h1
        exact loop n 0 cs (by rw [hlen]; simp) (fun i hi => ⟨xs[i]'(by omega), by rw [hel i hi]; simp [show i < xs.length by omega]⟩)
      | struct fs =>
        simp only at h
        split at h
        · cases h
        split at h
        case h_2 => cases h
        rename_i shf hshf
        obtain ⟨rfl, hsz⟩ := sized_spec h
        simp only [DataW.trod, hd] at hx
        split at hx
        case isFalse => cases hx
        rename_i hlen
        rw [cellsOf_of hsz] at hlen
        obtain ⟨ys, hys, _⟩ := Option.map_eq_some_iff.1 hx
        exact fits_of_trods f hshf (by omega) (mapM_all hys) (Nat.zero_le _)
      | _ => simp at h
theorem fits_of_trods : ∀ (f : Nat) {fs : List Field} {off : Nat} {sh : Shape} {fuel : Nat} {cs : List Value}, shapesOf P f fs off = some sh → cs.length = off + sh.length → (∀ x ∈ fs, ∃ y, DataW.trod enc P w base spare held fuel x.type ((cs.drop x.offset).take (P.cellsOf x.type)) = some y) → off ≤ cs.length → FitsW sh (cs.drop off)
  | 0, fs, off, sh, fuel, cs, h, _, _, _ => by simp [shapesOf] at h
  | f + 1, [], off, sh, fuel, cs, h, hl, _, _ => by
    simp only [shapesOf, Option.some.injEq] at h
    subst h
    have : cs.drop off = [] := List.drop_eq_nil_of_le (by simp at hl; omega)
    rw [this]; trivial
  | f + 1, x :: fs, off, sh, fuel, cs, h, hl, hy, hle => by
    simp only [shapesOf] at h
    split at h
    · cases h
    rename_i hno
    split at h
    case h_2 => cases h
    rename_i she hshe
    split at h
    case h_2 => cases h
    rename_i r hshr
    obtain rfl := Option.some.inj h
    have hoff : x.offset = off := by
      rcases Nat.decEq x.offset off with h | h
      · exact absurd (.inr h) hno
      · exact h
    obtain ⟨de, hde, hie, h1e⟩ := shapeOf_und hshe
    obtain ⟨y, hy0⟩ := hy x (by simp)
    rw [cellsOf_of hie, hoff] at hy0
    have h0 := fits_of_trod f hshe hy0
    simp only [List.length_append] at hl
    have h1 := fits_of_trods f (fuel := fuel) (cs := cs) hshr (by omega) (fun z hz => hy z (by simp [hz])) (by omega)
    have : cs.drop off = (cs.drop off).take she.length ++ cs.drop (off + she.length) := by
      rw [← List.drop_drop, List.take_append_drop]
    rw [this]
    exact h0.append h1
end

end

end Go.Proofs.Ytgffejpcldeklaa
namespace Go.Proofs.Ytgffejpcldeklaa
open Go Go.RowKit

/-- A slice of slices of bytes that can be read: ps. -/
structure Bss (w : World) (a : Option Addr) (n cap : Nat) (ps : List PB) : Prop where
  hn : n = ps.length
  hcap : ps.length ≤ cap
  hmax : cap ≤ maxLen
  rc : Rc w a (pbs ps)
  each : ∀ p ∈ ps, Bts w p.a p.l.length p.cap p.l

set_option maxRecDepth 100000 in
open Go.ChangeShapes Go.WideShapes Go.ChangeAt in
theorem bts_trod {H : Type} {enc : TypeId × Value → H} {W : World} {fuel : Nat} {v : Value} {x : DataW H × List MemPlace} (hf : DataW.trod enc Try.prog W 0 (fun _ => true) true fuel 30 [v] = some x) :
    ∃ a cap l, v = .slice a l.length cap ∧ Bts W a l.length cap l := by
  obtain ⟨a0, len0, cap0, z0, rfl, w0⟩ : ∃ a0 len0 cap0 zs, v = .slice a0 len0 cap0 ∧ IsRow .u8 W a0 len0 cap0 zs := by
    rcases open_ints Try.underlying30 Try.underlying5 (by kernel_rfl) hf with ⟨hcs, _⟩ | ⟨x, l, c, zs, hcs, _, hl, hm, hz, _, hcell, hwz⟩
    · simp only [List.cons.injEq, and_true] at hcs
      exact ⟨none, 0, 0, [], hcs, .inl ⟨rfl, rfl, rfl, rfl⟩⟩
    · simp only [List.cons.injEq, and_true] at hcs
      exact ⟨_, _, _, zs, hcs, .inr ⟨_, rfl, hl, hm, by simpa using hz, hcell, hwz⟩⟩
  obtain ⟨l, hb⟩ := bts_of_row w0
  have := hb.hn
  subst this
  exact ⟨_, _, l, rfl, hb⟩

end Go.Proofs.Ytgffejpcldeklaa
namespace Go.Proofs.Ytgffejpcldeklaa
open Go Go.RowKit

theorem flat_get {c : Nat} (hc : 0 < c) : ∀ (ls : List (List Value)), (∀ l ∈ ls, l.length = c) → ∀ (j : Nat) (u : Value), ls.flatten[j]? = some u → ∃ l, ls[j / c]? = some l ∧ l[j % c]? = some u
  | [], _, j, u, h => by simp at h
  | l :: ls, hl, j, u, h => by
    have h0 := hl l (by simp)
    rw [List.flatten_cons] at h
    by_cases hj : j < c
    · rw [List.getElem?_append_left (by omega)] at h
      exact ⟨l, by rw [Nat.div_eq_of_lt hj]; rfl, by rw [Nat.mod_eq_of_lt hj]; exact h⟩
    · rw [List.getElem?_append_right (by omega), h0] at h
      obtain ⟨m, h1, h2⟩ := flat_get hc ls (fun x hx => hl x (by simp [hx])) (j - c) u h
      refine ⟨m, ?_, ?_⟩
      · rw [Nat.div_eq_sub_div hc (by omega), List.getElem?_cons_succ]; exact h1
      · rw [Nat.mod_eq_sub_mod (by omega)]; exact h2

theorem cells_len {w : World} {base n : Nat} {a : Addr} {cs : List Value} (h : w.cells? base a n = some cs) : cs.length = n := by
  unfold World.cells? at h
  split at h
  · simpa using mapM_some_length h
  · cases h
theorem cells_at {w : World} {base n : Nat} {a : Addr} {cs : List Value} (h : w.cells? base a n = some cs) (i : Nat) (hi : i < n) : w.cell? (a.add i) = cs[i]? := by
  unfold World.cells? at h
  split at h
  · exact mapM_some_get h i i (by simp [hi])
  · cases h

open Go.ChangeShapes Go.WideShapes Go.ChangeAt in
/-- A slice: its elements, each as f spells it. -/
theorem open_slice {α H : Type} {enc : TypeId × Value → H} {P : Program} {W : World} {fuel : Nat} {t e : TypeId} {c : Nat} {v : Value} {x : DataW H × List MemPlace} (ht : P.underlying t = some (.slice e)) (hc : P.cellsOf e = c) (hc0 : 0 < c) (f : α → List Value) (Q : α → Prop)
    (hel : ∀ (n : Nat) (cs : List Value) y, cs.length = c → DataW.trod enc P W 0 (fun _ => true) true n e cs = some y → ∃ z, cs = f z ∧ Q z)
    (h : DataW.trod enc P W 0 (fun _ => true) true fuel t [v] = some x) :
    ∃ a cap, ∃ zs : List α, v = .slice a zs.length cap ∧ zs.length ≤ cap ∧ cap ≤ maxLen ∧ Rc W a (zs.map f).flatten ∧ ∀ z ∈ zs, Q z ∧ (f z).length = c := by
  rcases DataW.trod_slice ht h with ⟨hcs, _⟩ | ⟨a, len, cap, elems, rest, n, _, hcs, _, _, hl, hm, hlen, hE, _, _⟩
  · simp only [List.cons.injEq, and_true] at hcs
    exact ⟨none, 0, [], hcs, Nat.le_refl _, Nat.zero_le _, .inl rfl, by simp⟩
  · simp only [List.cons.injEq, and_true] at hcs
    rw [hc] at hE
    have each : ∀ i, i < len → ∃ z, W.cells? 0 (a.add (i * c)) c = some (f z) ∧ Q z := by
      intro i hi
      have h1 := hE i hi
      obtain ⟨y, hy⟩ : ∃ y, elems[i]? = some y := ⟨_, List.getElem?_eq_getElem (by omega)⟩
      rw [hy, Option.bind_eq_some_iff] at h1
      obtain ⟨cs', hcs', hy'⟩ := h1
      obtain ⟨z, rfl, hq⟩ := hel n cs' y (cells_len hcs') hy'
      exact ⟨z, hcs', hq⟩
    obtain ⟨zs, hzl, hzs⟩ : ∃ zs : List α, zs.length = len ∧ ∀ i (hi : i < zs.length), W.cells? 0 (a.add (i * c)) c = some (f (zs[i])) ∧ Q (zs[i]) := by
      have : ∀ m, m ≤ len → ∃ zs : List α, zs.length = m ∧ ∀ i (hi : i < zs.length), W.cells? 0 (a.add (i * c)) c = some (f (zs[i])) ∧ Q (zs[i]) := by
        intro m
        induction m with
        | zero => exact fun _ => ⟨[], rfl, fun i hi => by simp at hi⟩
        | succ m ih =>
          intro hm'
          obtain ⟨ps, h1, h2⟩ := ih (by omega)
          obtain ⟨q, q1, q2⟩ := each m (by omega)
          refine ⟨ps ++ [q], by simp [h1], fun i hi => ?_⟩
          by_cases hi' : i < ps.length
          · rw [List.getElem_append_left hi']; exact h2 i hi'
          · obtain rfl : i = m := by simp at hi; omega
            rw [List.getElem_append_right (by omega)]
            simpa [h1] using ⟨q1, q2⟩
      exact this len (Nat.le_refl _)
    have hall : ∀ z ∈ zs, Q z ∧ (f z).length = c := by
      intro z hz
      obtain ⟨i, hi, rfl⟩ := List.getElem_of_mem hz
      exact ⟨(hzs i hi).2, cells_len (hzs i hi).1⟩
    refine ⟨some a, cap, zs, by rw [hcs, hzl], by omega, hm, ?_, hall⟩
    by_cases h0 : zs.length = 0
    · exact .inl (by rw [List.eq_nil_of_length_eq_zero h0]; rfl)
    · have hlen0 : 0 < zs.length := by omega
      have hs : a.spot = none := by
        have h1 := cells_at (hzs 0 hlen0).1 0 hc0
        have h2 := (hall _ (List.getElem_mem hlen0)).2
        rw [List.getElem?_eq_getElem (by omega)] at h1
        exact cell?_spot (x := a) (by simpa [Addr.add] using h1)
      obtain ⟨b, off, s⟩ := a
      simp only at hs
      subst hs
      refine .inr ⟨b, off, rfl, fun j u hu => ?_⟩
      obtain ⟨l, h1, h2⟩ := flat_get hc0 _ (by intro l hl; obtain ⟨z, hz, rfl⟩ := List.mem_map.1 hl; exact (hall z hz).2) j u hu
      rw [List.getElem?_map, Option.map_eq_some_iff] at h1
      obtain ⟨z, hz, rfl⟩ := h1
      obtain ⟨hi, rfl⟩ := List.getElem?_eq_some_iff.1 hz
      have h3 := cells_at (hzs _ hi).1 (j % c) (Nat.mod_lt _ hc0)
      rw [h2, addr_add, addr_add] at h3
      have e : off + j / c * c + j % c = off + j := by
        have := Nat.div_add_mod j c
        rw [Nat.mul_comm] at this
        omega
      rwa [e] at h3

theorem flat_bvs (xs : List (List UInt8)) : (xs.map bvs).flatten = bvs xs.flatten := by
  induction xs with
  | nil => rfl
  | cons x xs ih => rw [List.map_cons, List.flatten_cons, ih, List.flatten_cons]; simp [bvs]

theorem trod_dig {H : Type} {enc : TypeId × Value → H} {W : World} {n : Nat} {cs : List Value} {y : DataW H × List MemPlace} (hy : DataW.trod enc Try.prog W 0 (fun _ => true) true n 24 cs = some y) : ∃ l, cs = bvs l ∧ l.length = 32 := by
  obtain ⟨f, _, hf⟩ := (inferInstance : EqI Try.prog 24 (List.replicate 32 (some .u8))).shape
  exact FitsW.bytes (fits_of_trod f hf hy)

/-- A slice of digests. -/
theorem dgs_trod {H : Type} {enc : TypeId × Value → H} {W : World} {fuel : Nat} {v : Value} {x : DataW H × List MemPlace} (h : DataW.trod enc Try.prog W 0 (fun _ => true) true fuel 31 [v] = some x) :
    ∃ a cap, ∃ xs : List (List UInt8), v = .slice a xs.length cap ∧ xs.length ≤ cap ∧ cap ≤ maxLen ∧ Dg xs ∧ Rc W a (bvs xs.flatten) := by
  obtain ⟨a, cap, xs, rfl, h1, h2, h3, h4⟩ := open_slice Try.underlying31 (c := 32) (by kernel_rfl) (by decide) bvs (fun l => l.length = 32) (fun n cs y _ hy => trod_dig hy) h
  exact ⟨a, cap, xs, rfl, h1, h2, fun z hz => (h4 z hz).1, flat_bvs xs ▸ h3⟩
end Go.Proofs.Ytgffejpcldeklaa

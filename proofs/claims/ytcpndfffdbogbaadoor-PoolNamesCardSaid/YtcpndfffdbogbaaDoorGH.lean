/-
  What a reading of the arguments says of slices of bytes. What a reading of an argument says of a plain struct or array that came in by value.
-/
import Derived.Test.YtcpndfffdbogbaaDoorGA
import Derived.ProofKit
import Derived.OpenShut
set_option linter.unusedVariables false
set_option linter.unusedSimpArgs false
namespace Go.Proofs.YtcpndfffdbogbaaDoor
open Go Go.RowKit

/-- A slice of bytes that can be read: l. -/
structure Bts (w : World) (a : Option Addr) (n cap : Nat) (l : List UInt8) : Prop where
  hn : n = l.length
  hcap : l.length ≤ cap
  hmax : cap ≤ maxLen
  rc : Rc w a (bvs l)

theorem u8_wf {n : Int} (h : (Lit.int .u8 n).wf = true) : ((UInt8.ofNat n.toNat).toNat : Int) = n := by
  have := bounds_u8 h
  rw [UInt8.toNat_ofNat']
  omega

end Go.Proofs.YtcpndfffdbogbaaDoor
namespace Go.Proofs.YtcpndfffdbogbaaDoor
open Go Go.RowKit

/-- These cells are of that shape, each whole number within its kind. -/
def FitsW : Shape → List Value → Prop
  | [], [] => True
  | some k :: sh, v :: vs => (∃ a, v = .int k a ∧ (Lit.int k a).wf = true) ∧ FitsW sh vs
  | none :: sh, v :: vs => (∃ b, v = .bool b) ∧ FitsW sh vs
  | _, _ => False

theorem FitsW.fits : ∀ {sh : Shape} {vs : List Value}, FitsW sh vs → Fits sh vs
  | [], [], _ => trivial
  | some _ :: _, _ :: _, h => ⟨⟨_, h.1.choose_spec.1⟩, FitsW.fits h.2⟩
  | none :: _, _ :: _, h => ⟨h.1, FitsW.fits h.2⟩
  | [], _ :: _, h => h.elim
  | some _ :: _, [], h => h.elim
  | none :: _, [], h => h.elim

theorem FitsW.append : ∀ {sh sh' : Shape} {vs vs' : List Value}, FitsW sh vs → FitsW sh' vs' → FitsW (sh ++ sh') (vs ++ vs')
  | [], _, [], _, _, h' => h'
  | some _ :: _, _, _ :: _, _, h, h' => ⟨h.1, FitsW.append h.2 h'⟩
  | none :: _, _, _ :: _, _, h, h' => ⟨h.1, FitsW.append h.2 h'⟩
  | [], _, _ :: _, _, h, _ => h.elim
  | some _ :: _, _, [], _, h, _ => h.elim
  | none :: _, _, [], _, h, _ => h.elim

theorem FitsW.split : ∀ {sh sh' : Shape} {vs : List Value}, FitsW (sh ++ sh') vs → ∃ us ws, vs = us ++ ws ∧ FitsW sh us ∧ FitsW sh' ws
  | [], _, vs, h => ⟨[], vs, rfl, trivial, h⟩
  | some _ :: _, _, v :: _, h => by
    obtain ⟨us, ws, e, h1, h2⟩ := FitsW.split h.2
    exact ⟨v :: us, ws, by rw [e]; rfl, ⟨h.1, h1⟩, h2⟩
  | none :: _, _, v :: _, h => by
    obtain ⟨us, ws, e, h1, h2⟩ := FitsW.split h.2
    exact ⟨v :: us, ws, by rw [e]; rfl, ⟨h.1, h1⟩, h2⟩
  | some _ :: _, _, [], h => h.elim
  | none :: _, _, [], h => h.elim

theorem FitsW.bytes : ∀ {n : Nat} {vs : List Value}, FitsW (List.replicate n (some .u8)) vs → ∃ l, vs = bvs l ∧ l.length = n
  | 0, [], _ => ⟨[], rfl, rfl⟩
  | 0, _ :: _, h => h.elim
  | _ + 1, [], h => h.elim
  | _ + 1, _ :: _, h => by
    obtain ⟨⟨a, rfl, hw⟩, h2⟩ := h
    obtain ⟨l, rfl, hl⟩ := FitsW.bytes h2
    exact ⟨UInt8.ofNat a.toNat :: l, by rw [show bvs (UInt8.ofNat a.toNat :: l) = bv (UInt8.ofNat a.toNat) :: bvs l from rfl, bv, u8_wf hw], by simp [hl]⟩

theorem FitsW.cons {k : IntKind} {sh : Shape} : ∀ {vs : List Value}, FitsW (some k :: sh) vs → ∃ a us, vs = .int k a :: us ∧ (Lit.int k a).wf = true ∧ FitsW sh us
  | [], h => h.elim
  | _ :: us, ⟨⟨a, e, hw⟩, h⟩ => ⟨a, us, by rw [e], hw, h⟩
theorem mapM_all {α β : Type} {f : α → Option β} : ∀ {l : List α} {r : List β}, l.mapM f = some r → ∀ x ∈ l, ∃ y, f x = some y
  | [], _, _, _, hx => by cases hx
  | a :: l, r, h, x, hx => by
    rw [List.mapM_cons] at h
    cases ha : f a with
    | none => simp [ha] at h
    | some y =>
      cases hl : l.mapM f with
      | none => simp [ha, hl] at h
      | some r' =>
        rcases List.mem_cons.1 hx with rfl | hx
        · exact ⟨y, ha⟩
        · exact mapM_all hl x hx

section
variable {P : Program} {H : Type} {enc : TypeId × Value → H} {w : World} {base : Nat} {spare : Nat → Bool} {held : Bool}

theorem cellsOf_of {t : TypeId} {n : Nat} (h : (P.info? t).map (·.size) = some n) : P.cellsOf t = n := by
  obtain ⟨i, hi, he⟩ := Option.map_eq_some_iff.1 h
  simp [Program.cellsOf, hi, he]

mutual
theorem fits_of_trod : ∀ (f : Nat) {t : TypeId} {sh : Shape} {fuel : Nat} {cs : List Value} {x : DataW H × List MemPlace}, shapeOf P f t = some sh → DataW.trod enc P w base spare held fuel t cs = some x → FitsW sh cs
  | 0, t, sh, fuel, cs, x, h, _ => by simp [shapeOf] at h
  | f + 1, t, sh, 0, cs, x, h, hx => by simp [DataW.trod] at hx
  | f + 1, t, sh, fuel + 1, cs, x, h, hx => by
    simp only [shapeOf] at h
    cases hd : P.underlying t with
    | none => simp [hd] at h
    | some dsc =>
      rw [hd] at h
      cases dsc with
      | bool =>
        obtain ⟨rfl, _⟩ := sized_spec h
        simp only [DataW.trod, hd] at hx
        split at hx <;> first | (cases hx; done) | (rename_i e1 e2; simp at e1; try (subst e2)) | skip
        all_goals first | exact ⟨⟨_, rfl⟩, trivial⟩ | simp_all
      | int k =>
        obtain ⟨rfl, _⟩ := sized_spec h
        obtain ⟨n, rfl, _, hw⟩ := DataW.trod_int hd hx
        exact ⟨⟨n, rfl, hw⟩, trivial⟩
      | array n e =>
        simp only at h
        split at h
        case h_2 => cases h
        rename_i she hshe
        obtain ⟨rfl, hsz⟩ := sized_spec h
        obtain ⟨de, hde, hie, h1e⟩ := shapeOf_und hshe
        obtain ⟨xs, m, _, _, hlen, hxl, hel⟩ := DataW.trod_array hd hx
        rw [cellsOf_of hsz] at hlen
        rw [cellsOf_of hie] at hel
        have loop : ∀ (k : Nat) (j : Nat) (us : List Value), us.length = k * she.length → (∀ i, i < k → ∃ y, DataW.trod enc P w base spare held m e ((us.drop (i * she.length)).take she.length) = some y) → FitsW (List.replicate k she).flatten us := by
          intro k
          induction k with
          | zero => intro j us hu _; simp at hu; subst hu; trivial
          | succ k ih =>
            intro j us hu hy
            rw [Nat.add_mul, Nat.one_mul] at hu
            obtain ⟨y, hy0⟩ := hy 0 (by omega)
            simp only [Nat.zero_mul, List.drop_zero] at hy0
            have h0 := fits_of_trod f hshe hy0
            have h1 := ih j (us.drop she.length) (by simp; omega) (fun i hi => by
              obtain ⟨y, hy⟩ := hy (i + 1) (by omega)
              rw [List.drop_drop]
              rw [Nat.add_mul, Nat.one_mul, Nat.add_comm] at hy
              exact ⟨y, hy⟩)
            rw [List.replicate_succ, List.flatten_cons, ← List.take_append_drop she.length us]
            exact h0.append h1
        exact loop n 0 cs (by rw [hlen]; simp) (fun i hi => ⟨xs[i]'(by omega), by rw [hel i hi]; simp [show i < xs.length by omega]⟩)
      | struct fs =>
        simp only at h
        split at h
        · cases h
        split at h
        case h_2 => cases h
        rename_i shf hshf
        obtain ⟨rfl, hsz⟩ := sized_spec h
        simp only [DataW.trod, hd] at hx
        split at hx
        case isFalse => cases hx
        rename_i hlen
        rw [cellsOf_of hsz] at hlen
        obtain ⟨ys, hys, _⟩ := Option.map_eq_some_iff.1 hx
        exact fits_of_trods f hshf (by omega) (mapM_all hys) (Nat.zero_le _)
      | _ => simp at h
theorem fits_of_trods : ∀ (f : Nat) {fs : List Field} {off : Nat} {sh : Shape} {fuel : Nat} {cs : List Value}, shapesOf P f fs off = some sh → cs.length = off + sh.length → (∀ x ∈ fs, ∃ y, DataW.trod enc P w base spare held fuel x.type ((cs.drop x.offset).take (P.cellsOf x.type)) = some y) → off ≤ cs.length → FitsW sh (cs.drop off)
  | 0, fs, off, sh, fuel, cs, h, _, _, _ => by simp [shapesOf] at h
  | f + 1, [], off, sh, fuel, cs, h, hl, _, _ => by
    simp only [shapesOf, Option.some.injEq] at h
    subst h
    have : cs.drop off = [] := List.drop_eq_nil_of_le (by simp at hl; omega)
    rw [this]; trivial
  | f + 1, x :: fs, off, sh, fuel, cs, h, hl, hy, hle => by
    simp only [shapesOf] at h
    split at h
    · cases h
    rename_i hno
    split at h
    case h_2 => cases h
    rename_i she hshe
    split at h
    case h_2 => cases h
    rename_i r hshr
    obtain rfl := Option.some.inj h
    have hoff : x.offset = off := by
      rcases Nat.decEq x.offset off with h | h
      · exact absurd (.inr h) hno
      · exact h
    obtain ⟨de, hde, hie, h1e⟩ := shapeOf_und hshe
    obtain ⟨y, hy0⟩ := hy x (by simp)
    rw [cellsOf_of hie, hoff] at hy0
    have h0 := fits_of_trod f hshe hy0
    simp only [List.length_append] at hl
    have h1 := fits_of_trods f (fuel := fuel) (cs := cs) hshr (by omega) (fun z hz => hy z (by simp [hz])) (by omega)
    have : cs.drop off = (cs.drop off).take she.length ++ cs.drop (off + she.length) := by
      rw [← List.drop_drop, List.take_append_drop]
    rw [this]
    exact h0.append h1
end

end

end Go.Proofs.YtcpndfffdbogbaaDoor

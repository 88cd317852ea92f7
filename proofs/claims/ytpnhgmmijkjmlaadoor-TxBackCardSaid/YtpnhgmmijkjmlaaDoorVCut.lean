/-
  A piece of code cut off from what follows it; two operations that may come up in either order.
-/
import Derived.Test.YtpnhgmmijkjmlaaDoorVMore
import Derived.Test.YtpnhgmmijkjmlaaDoorVConv
namespace Go.Proofs.YtpnhgmmijkjmlaaDoor
open Go Go.RowKit
set_option linter.unusedVariables false
set_option linter.unusedSimpArgs false

section
variable {P : Program} {ro : Option Nat} {w0 : World} {n : Nat} {ds : List Deferred} {fr : Fr} {L Lf : List Asn} {Q : Exit → List Deferred → Fr → List Asn → Prop} {ops : Array Oper} {fuel : Nat} {listed : List Bool} {E : List Nat} {rest : List Oper} {d : Nat}
/-- What is known and held behind a piece, said by F and M. -/
def cutQ (P : Program) (w0 : World) (ds : List Deferred) (X : Type) (F : X → Fr) (fr0 : Fr) (M : X → List Asn) : Exit → List Deferred → Fr → List Asn → Prop
  | .normal, ds', fr', L' => ds' = ds ∧ ∃ z, Sub (F z ++ fr0) fr' ∧ Ent w0 L' (M z)
  | _, _, _, _ => False
theorem v_cut {x y : Code} (X : Type) (ks : List Nat) {fr0 : Fr} (hks : selE fr ks = some fr0) (F : X → Fr) (M : X → List Asn)
    (h : V P ro w0 n x (cutQ P w0 ds X F fr0 M) ds fr L)
    (k : ∀ z, V P ro w0 n y Q ds (F z ++ fr0) (M z)) : V P ro w0 n x (thn (V P ro w0 n y Q) Q) ds fr L :=
  ⟨fun a w hk hs => wpIn_mono (h.out a w hk hs) (fun e a' w' ⟨ds', fr', L', h1, h2, h3⟩ => by
    cases e <;> first | exact h3.elim | skip
    obtain ⟨rfl, z, h4, h5⟩ := h3
    exact ⟨ds', F z ++ fr0, M z, h1.sub h4, h5 w' h2, k z⟩)⟩
theorem vl_passU {o : Oper} {j dj : Nat} {oj : Oper} {want : Bool} (hg : o.guard = some (j, want)) (hj : ops.toList[j]? = some oj) (hdj : oj.dst = some dj) (hv : look fr dj = some undef) (hd : o.dst = some d) (hdn : Nat.blt d n = true)
    (h : VL P ro w0 n ops Q rest ds ((d, undef) :: fr) L) : VL P ro w0 n ops Q (o :: rest) ds fr L :=
  ⟨fun a w hk hs => by
    have hj' : ops[j]? = some oj := by rw [← hj]; simp
    have hv' := hk.at' dj _ hv
    have hw : Region.wanted o (yielded ops a.tmps) = false := by simp [Region.wanted, hg, yielded, hj', hdj, hv', undef]
    show (if Region.wanted o (yielded ops a.tmps) then _ else _)
    rw [if_neg (by rw [hw]; simp), hd]
    exact ⟨fun _ _ => trivial, h.out _ w (hk.put d undef hdn) hs⟩⟩
theorem two_core (i j : Nat) {oi oj : Oper} (hr : Region.ready .any ops listed.toArray = [i, j]) (hi : ops.toList[i]? = some oi) (hj : ops.toList[j]? = some oj) (hgi : ∀ a, Kn n ds a fr → Region.wanted oi (yielded ops a.tmps) = true) (hgj : ∀ a, Kn n ds a fr → Region.wanted oj (yielded ops a.tmps) = true)
    (h1 : VO P ro w0 n oi (fun ds fr L => (anyE E (listed.set i true).toArray = true ∨ Ent w0 L Lf) ∧ VA P ro w0 n ops Q E Lf fuel (listed.set i true) ds fr L) Q ds fr L)
    (h2 : VO P ro w0 n oj (fun ds fr L => (anyE E (listed.set j true).toArray = true ∨ Ent w0 L Lf) ∧ VA P ro w0 n ops Q E Lf fuel (listed.set j true) ds fr L) Q ds fr L) : VA P ro w0 n ops Q E Lf (fuel + 1) listed ds fr L :=
  ⟨fun a w hk hs => by
    refine ⟨fun h0 => (by rw [hr] at h0; cases h0), fun m hm => ?_⟩
    rw [hr] at hm
    have core : ∀ (m : Nat) (om : Oper), ops.toList[m]? = some om → (∀ a, Kn n ds a fr → Region.wanted om (yielded ops a.tmps) = true) → VO P ro w0 n om (fun ds fr L => (anyE E (listed.set m true).toArray = true ∨ Ent w0 L Lf) ∧ VA P ro w0 n ops Q E Lf fuel (listed.set m true) ds fr L) Q ds fr L → wpOpIn (fen ro) 0 P ops (up w0 n Q) m (fun a' w' => SE' w0 E Lf (listed.toArray.setIfInBounds m true) w' ∧ wpAnyV P ro ops (up w0 n Q) (SE' w0 E Lf) fuel (listed.toArray.setIfInBounds m true) a' w') a w := by
      intro m om hl hg h
      have hi : ops[m]? = some om := by rw [← hl]; simp
      unfold wpOpIn
      simp only [hi, hg a hk, if_true]
      refine Oper.wpIn_mono (fun a' w' ⟨ds', fr', L', h1, h2, h3, h4⟩ => ⟨⟨h2.none, ?_⟩, ?_⟩) (h.out a w hk hs)
      · rcases h3 with h3 | h3
        · left; simpa using h3
        · right; exact h3 w' h2
      · have := h4.out a' w' h1 h2
        simpa using this
    simp only [List.mem_cons, List.not_mem_nil, or_false] at hm
    rcases hm with rfl | rfl
    · exact core _ oi hi hgi h1
    · exact core _ oj hj hgj h2⟩
/-- Two may come up. -/
theorem va_two (i j : Nat) {oi oj : Oper} (hr : Region.ready .any ops listed.toArray = [i, j]) (hi : ops.toList[i]? = some oi) (hj : ops.toList[j]? = some oj) (hgi : oi.guard = none) (hgj : oj.guard = none)
    (h1 : VO P ro w0 n oi (fun ds fr L => (anyE E (listed.set i true).toArray = true ∨ Ent w0 L Lf) ∧ VA P ro w0 n ops Q E Lf fuel (listed.set i true) ds fr L) Q ds fr L)
    (h2 : VO P ro w0 n oj (fun ds fr L => (anyE E (listed.set j true).toArray = true ∨ Ent w0 L Lf) ∧ VA P ro w0 n ops Q E Lf fuel (listed.set j true) ds fr L) Q ds fr L) : VA P ro w0 n ops Q E Lf (fuel + 1) listed ds fr L :=
  two_core i j hr hi hj (fun a _ => by simp [Region.wanted, hgi]) (fun a _ => by simp [Region.wanted, hgj]) h1 h2
/-- .. both of one guard, that is on. -/
theorem va_twoG (i j : Nat) {oi oj og : Oper} {g dg : Nat} {want b : Bool} (hr : Region.ready .any ops listed.toArray = [i, j]) (hi : ops.toList[i]? = some oi) (hj : ops.toList[j]? = some oj) (hgi : oi.guard = some (g, want)) (hgj : oj.guard = some (g, want)) (hg : ops.toList[g]? = some og) (hdg : og.dst = some dg) (hv : look fr dg = some (.bool b)) (hb : b = want)
    (h1 : VO P ro w0 n oi (fun ds fr L => (anyE E (listed.set i true).toArray = true ∨ Ent w0 L Lf) ∧ VA P ro w0 n ops Q E Lf fuel (listed.set i true) ds fr L) Q ds fr L)
    (h2 : VO P ro w0 n oj (fun ds fr L => (anyE E (listed.set j true).toArray = true ∨ Ent w0 L Lf) ∧ VA P ro w0 n ops Q E Lf fuel (listed.set j true) ds fr L) Q ds fr L) : VA P ro w0 n ops Q E Lf (fuel + 1) listed ds fr L :=
  two_core i j hr hi hj (fun a hk => by rw [wanted_guard hk hgi hg hdg hv]; simp [hb]) (fun a hk => by rw [wanted_guard hk hgj hg hdg hv]; simp [hb]) h1 h2
theorem ent_nil (L : List Asn) : Ent w0 L [] := fun w h => h.none
theorem vq_eqI {t yt : TypeId} {x y : Operand} {k : IntKind} {m : Int} {dst : Option Nat} {ty : TypeId} {pos : String} {after : Array Edge} {gd : Option (Nat × Bool)} (hx : evA fr x = some (.int k m)) (hy : evA fr y = some (.int k m)) : VQ P w0 n ⟨dst, .binOp .eql t x y yt, ty, pos, after, gd⟩ (.bool true) ds fr L := by
  have h := vq_eq (P := P) (w0 := w0) (n := n) (ds := ds) (L := L) (dst := dst) (ty := ty) (pos := pos) (after := after) (gd := gd) (t := t) (yt := yt) hx hy
  rwa [decide_eq_true rfl] at h
end
end Go.Proofs.YtpnhgmmijkjmlaaDoor

/-
  Shards: what Draw and Back do, in plain terms.
-/
import Derived.Test.YtccbcdhpnkbkgaaDoorShdQ
set_option linter.unusedVariables false
set_option linter.unusedSimpArgs false
namespace Go.Proofs.YtccbcdhpnkbkgaaDoor
open Go Go.RowKit
set_option linter.unusedVariables false
set_option linter.unusedSimpArgs false
set_option linter.unusedSectionVars false
open Classical

/-- How many of a run are drawn, with so much room, so many drawn. -/
def cutN (run : Nat) (room : Int) (d : Nat) : Nat := (max 0 (min (run : Int) (room - (d : Int)))).toNat
/-- One sender's run, and how many of it are drawn. -/
def cutC (f : List UInt8 → Nat) (room : Int) (d : Nat) (c : LC) : Nat := cutN (readyT c.2 (f c.1)).length room d
def drawS (f : List UInt8 → Nat) (room : Int) (s : List LC × List Tx) (c : LC) : List LC × List Tx :=
  (s.1 ++ ownC c.1 ((hiT c.2 (f c.1)).drop (cutC f room s.2.length c)), s.2 ++ (readyT c.2 (f c.1)).take (cutC f room s.2.length c))
def drawC (f : List UInt8 → Nat) (room : Int) (cs : List LC) : List LC × List Tx := cs.foldl (drawS f room) ([], [])
theorem GoodL.hi {o : List UInt8} {xs : List Tx} (h : GoodL o xs) (k : Nat) : GoodL o (hiT xs k) := ⟨Nat.le_trans (List.length_filter_le _ _) h.len, fun y hy => h.own y (hiT_sub y hy), h.up.hi k⟩
/-- A shard that is drawn zs far zs a place. -/
noncomputable def drawAt (f : List UInt8 → Nat) (room : Int) (cs : List LC) (i : Nat) : List LC := (drawC f room (cs.take i)).1 ++ cs.drop i
/-- What holds of what is drawn. -/
structure Drn (f : List UInt8 → Nat) (room : Int) (cs : List LC) (zs : List LC) (dr : List Tx) : Prop where
  from' : ∀ i (hi : i < dr.length), (∃ c ∈ cs, fromT dr[i] = c.1 ∧ dr[i] ∈ c.2 ∧ ∀ xs, (c.1, xs) ∈ zs → ∀ z ∈ xs, z.nonce ≠ dr[i].nonce) ∧ dr[i].nonce = (if 0 < i ∧ fromT (dr[i - 1]'(by omega)) = fromT dr[i] then (dr[i - 1]'(by omega)).nonce + 1 else f (fromT dr[i]))
  left : ∀ a ∈ zs, ∃ c ∈ cs, a.1 = c.1 ∧ ∀ z ∈ a.2, z ∈ c.2 ∧ f c.1 ≤ z.nonce
  few : dr.length = 0 ∨ (dr.length : Int) ≤ room
/-! ### Back -/
noncomputable def backS (f : List UInt8 → Nat) (cs : List LC) (x : Tx) : Option (List LC) :=
  if x.nonce < f (fromT x) then some cs
  else match atT (lineC cs (fromT x)) x.nonce with
    | some y => if x.fee ≤ y.fee then some cs else some (setC cs (fromT x) (withT (lineC cs (fromT x)) x))
    | none => if 256 ≤ (lineC cs (fromT x)).length then none else some (setC cs (fromT x) (withT (lineC cs (fromT x)) x))
noncomputable def backC (f : List UInt8 → Nat) (cs : List LC) (l : List Tx) : Option (List LC) := l.foldl (fun s x => s.bind fun cs => backS f cs x) (some cs)
/-- As good for every sender and nonce. -/
def Better (cs zs : List LC) : Prop := ∀ o n y, atT (lineC cs o) n = some y → ∃ z, atT (lineC zs o) n = some z ∧ (z = y ∨ y.fee < z.fee)
theorem Better.refl (cs : List LC) : Better cs cs := fun o n y h => ⟨y, h, .inl rfl⟩
theorem Better.trans {a b c : List LC} (h : Better a b) (k : Better b c) : Better a c := fun o n y hy => by
  obtain ⟨z, hz, e⟩ := h o n y hy
  obtain ⟨w, hw, e2⟩ := k o n z hz
  refine ⟨w, hw, ?_⟩
  rcases e with rfl | e
  · exact e2
  · rcases e2 with rfl | e2
    · exact .inr e
    · exact .inr (by omega)
end Go.Proofs.YtccbcdhpnkbkgaaDoor

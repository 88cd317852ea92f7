/-
  bytes.Join of parts without a separator, out of the kit's contract.
-/
import Derived.Test.YtgffejpcldeklaaGA
import Derived.Shelf.Bytes.SlJoin
set_option linter.unusedVariables false
set_option linter.unusedSimpArgs false
set_option linter.unusedSectionVars false

namespace Go.Proofs.Ytgffejpcldeklaa
open Go Go.RowKit Go.Shelf

def joinRen : Ren := ⟨fun n => match n with | 14 => 79 | 15 => 85 | n => n, fun n => match n with | 0 => 0 | 3 => 3 | 4 => 4 | 5 => 5 | 9 => 9 | 20 => 20 | 22 => 30 | 26 => 138 | n => n, fun n => n⟩
theorem joinLays : SlLaysJ.n14 Try.prog joinRen where
  mixed := by kernel_rfl
  f14 := by kernel_rfl
  f15 := by kernel_rfl
  t0 := by kernel_rfl
  a0 := fun _ => by kernel_rfl
  z0 := fun _ => by kernel_rfl
  v0 := fun _ => by kernel_rfl
  t3 := by kernel_rfl
  a3 := fun _ => by kernel_rfl
  z3 := fun _ => by kernel_rfl
  v3 := fun _ => by kernel_rfl
  t4 := by kernel_rfl
  a4 := fun _ => by kernel_rfl
  z4 := fun _ => by kernel_rfl
  v4 := fun _ => by kernel_rfl
  t9 := by kernel_rfl
  a9 := fun _ => by kernel_rfl
  z9 := fun _ => by kernel_rfl
  v9 := fun _ => by kernel_rfl
  t20 := by kernel_rfl
  a20 := fun _ => by kernel_rfl
  z20 := fun _ => by kernel_rfl
  v20 := fun _ => by kernel_rfl
  t22 := by kernel_rfl
  a22 := fun _ => by kernel_rfl
  z22 := fun _ => by kernel_rfl
  v22 := fun _ => by kernel_rfl
  t26 := by kernel_rfl
  a26 := fun _ => by kernel_rfl
  z26 := fun _ => by kernel_rfl
  v26 := fun _ => by kernel_rfl
  t5 := by kernel_rfl
  z5 := fun _ => by kernel_rfl
  i5 := by kernel_rfl

theorem join_flat : ∀ (ls : List (List UInt8)), Lib.join ls [] = ls.flatten
  | [] => rfl
  | x :: r => by simp [Lib.join_cons, Lib.joinTail]

theorem holds_rc {w : World} {a : Option Addr} {n cap : Nat} {l : List UInt8} (hn : n = l.length) (h : Rc w a (bvs l)) : Lib.HoldsBytes w (.slice a n cap) l := by
  subst hn
  refine ⟨a, cap, rfl, ?_, ?_⟩
  · rintro rfl
    rcases h with h | ⟨b, off, e, _⟩
    · simpa [bvs] using h
    · cases e
  · rintro ad rfl i x hx
    rcases h with h | ⟨b, off, e, hc⟩
    · have : l = [] := by simpa [bvs] using h
      subst this; simp at hx
    · cases e
      rw [addr_add]
      exact hc i _ (by simp [bvs, bv, hx])

theorem rd_fresh {w w' : World} {v : Value} {l : List UInt8} (h : Lib.FreshBytes w.heap.size w' v l) (hb : Below w.heap.size w w') : ∃ a cap, v = .slice a l.length cap ∧ l.length ≤ cap ∧ St w w' [rd a (bvs l)] := by
  obtain ⟨g, cap, zs, rfl, hg, hlc, _, hz, hr, hbo, hc, _⟩ := h
  refine ⟨_, cap, rfl, hlc, ?_⟩
  by_cases h0 : l = []
  · subst h0
    exact ⟨hb, fun _ => False, .inl rfl, fun _ hk => hk.elim, trivial⟩
  have hpos : 0 < l.length := List.length_pos_iff.2 h0
  have hcell : ∀ j u, (bvs l)[j]? = some u → w'.cell? ⟨g, j, none⟩ = some u := by
    intro j u hu
    have hj : j < l.length := by simpa using (List.getElem?_eq_some_iff.1 hu).1
    rw [hc j (by omega)]
    rw [← hu]
    have hzj : j < zs.length := by omega
    have e1 : l[j]? = some (UInt8.ofNat (zs[j]).toNat) := by
      rw [← hbo]
      simp only [Lib.bytesOf, List.getElem?_map, List.getElem?_take]
      simp [hj, hzj]
    have hb2 := hr zs[j] (List.getElem_mem hzj)
    have e2 : ((UInt8.ofNat (zs[j]).toNat).toNat : Int) = zs[j] := by rw [UInt8.toNat_ofNat']; omega
    simp only [bvs, List.getElem?_map, e1, Option.map_some, bv, e2]
    simp [List.getD, hzj]
  refine ⟨hb, fun k => k = g, .inr ⟨g, rfl, rfl, hcell⟩, fun k hk => ?_, trivial⟩
  subst hk
  exact ⟨hg, World.block_lt_of_cell? _ _ (hcell 0 _ (List.getElem?_eq_getElem (by simpa using hpos))), fun f => f⟩

/-- Parts, as slices' values and as lists. -/
def PartsOf (w : World) (vs : List Value) (ls : List (List UInt8)) : Prop := vs.length = ls.length ∧ ∀ (i : Nat) v l, vs[i]? = some v → ls[i]? = some l → Lib.HoldsBytes w v l
theorem PartsOf.nil (w : World) : PartsOf w [] [] := ⟨rfl, fun i v l h => by simp at h⟩
theorem PartsOf.cons {w : World} {vs : List Value} {ls : List (List UInt8)} {a : Option Addr} {n cap : Nat} {l : List UInt8} (hn : n = l.length) (h : Rc w a (bvs l)) (hp : PartsOf w vs ls) : PartsOf w (.slice a n cap :: vs) (l :: ls) := by
  refine ⟨by simp [hp.1], fun i v l' hv hl => ?_⟩
  cases i with
  | zero => simp only [List.getElem?_cons_zero, Option.some.injEq] at hv hl; subst hv; subst hl; exact holds_rc hn h
  | succ i => exact hp.2 i v l' (by simpa using hv) (by simpa using hl)

theorem join_calls (a : Option Addr) (n c : Nat) (vs : List Value) (ls : List (List UInt8)) (w : World) (hn : n = ls.length) (h2 : 2 ≤ n) (hc : Rc w a vs) (hp : PartsOf w vs ls) (hcap : n ≤ c) (hn47 : n ≤ 1000000) (hlen : Lib.lens ls ≤ 140737488355328) :
    Calls Try.prog 79 #[.slice a n c, .slice none 0 0] w (RetR ls.flatten w) := by
  obtain ⟨b, off, rfl, hcc⟩ := hc.read (by rintro rfl; have := hp.1; simp at this; omega)
  have h := Any.bytes_Join_many joinLays b off n c vs ls (.slice none 0 0) [] w hn.symm h2 ⟨hp.1, fun i v hv => by rw [addr_add]; exact hcc i v hv, hp.2⟩ hcap ⟨none, 0, rfl, fun _ => rfl, fun _ h => by cases h⟩ (by omega) (by simpa using hlen)
  refine Calls.mono (f := 79) h ?_
  rintro e w' ⟨v, rfl, hf, hb⟩
  rw [join_flat] at hf
  obtain ⟨a', cap', rfl, h1, h3⟩ := rd_fresh hf hb
  exact ⟨a', cap', rfl, h1, h3⟩
end Go.Proofs.Ytgffejpcldeklaa

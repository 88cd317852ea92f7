/-
  What a reading of the arguments says of shards.
-/
import Derived.Test.YtcpndfffdbogbaaGreatDoorGX
import Derived.Test.YtcpndfffdbogbaaGreatDoorGS
import Derived.Test.YtcpndfffdbogbaaGreatDoorGPA
set_option linter.unusedVariables false
set_option linter.unusedSimpArgs false
set_option linter.unusedSectionVars false
set_option maxRecDepth 100000
namespace Go.Proofs.YtcpndfffdbogbaaGreatDoor
open Go Go.RowKit

theorem cutS (l : List Value) (k n : Nat) : l.drop k = (l.drop k).take n ++ l.drop (k + n) := by
  rw [← List.drop_drop, List.take_append_drop]
theorem trod_line {H : Type} {enc : TypeId × Value → H} {W : World} {n : Nat} {cs : List Value} {y : DataW H × List MemPlace} (hy : DataW.trod enc Tryz.prog W 0 (fun _ => true) true n 69 cs = some y) :
    ∃ l : Ln, cs = l.cells ∧ LnR W l := by
  obtain ⟨xs, m, rfl, _, hlen, hxl, hx⟩ := DataW.trod_struct Tryz.underlying69 hy
  rw [show Tryz.prog.cellsOf 69 = 33 by kernel_rfl] at hlen
  have hy : ∀ i, i < 2 → ∃ y, xs[i]? = some y := fun i hi => ⟨_, List.getElem?_eq_getElem (by rw [hxl]; exact hi)⟩
  obtain ⟨y0, e0⟩ := hy 0 (by decide)
  obtain ⟨y1, e1⟩ := hy 1 (by decide)
  have h0 : DataW.trod enc Tryz.prog W 0 (fun _ => true) true m 47 ((cs.drop 0).take (Tryz.prog.cellsOf 47)) = some y0 := (hx 0 _ rfl).trans e0
  have h1 : DataW.trod enc Tryz.prog W 0 (fun _ => true) true m 28 ((cs.drop 32).take (Tryz.prog.cellsOf 28)) = some y1 := (hx 1 _ rfl).trans e1
  rw [show Tryz.prog.cellsOf 47 = 32 by kernel_rfl] at h0
  rw [show Tryz.prog.cellsOf 28 = 1 by kernel_rfl] at h1
  have u1 := takeQ (l := cs) (k := 32) (by omega)
  obtain ⟨k, hk, hkl⟩ := trod_dig h0
  rw [u1] at h1
  obtain ⟨a, c, ts, e1, c1, c2, c3, c4⟩ := open_slice Tryz.underlying28 (c := 99) (by kernel_rfl) (by decide) Tx.cells (fun x => x.ok) (fun n cs y _ hy => trod_tx hy) h1
  rw [e1] at u1
  refine ⟨⟨k, a, c, ts⟩, ?_, hkl, c1, Nat.le_trans c1 (Nat.le_trans c2 (by decide)), fun x hx => (c4 x hx).1, c3⟩
  have q0 : cs = cs.drop 0 := rfl
  have q : cs.drop 33 = [] := List.drop_eq_nil_of_le (by omega)
  show cs = bvs k ++ [.slice a ts.length c]
  rw [q0, cutS _ 0 32, cutS _ (0 + 32) 1]
  simp only [Nat.zero_add, Nat.reduceAdd] at *
  rw [hk, u1, q, List.append_nil]
/-- Lines that can be read. -/
structure Lns (w : World) (a : Option Addr) (cap : Nat) (ls : List Ln) : Prop where
  hcap : ls.length ≤ cap
  len : ls.length ≤ 9223372036854775807
  ln : ∀ p ∈ ls, LnR w p
  rc : Rc w a (lnc ls)
theorem Lns.rdA {w : World} {a : Option Addr} {cap : Nat} {ls : List Ln} (h : Lns w a cap ls) : RdA w a (lnc ls) := ⟨h.rc⟩
theorem Lns.rdL {w : World} {a : Option Addr} {cap : Nat} {ls : List Ln} (h : Lns w a cap ls) : RdLs w [] ls := ⟨fun p hp => by
  haveI : RdA w p.a (txc p.xs) := (h.ln p hp).rd
  infer_instance⟩
theorem Lns.wide {w : World} {a : Option Addr} {cap : Nat} {ls : List Ln} (h : Lns w a cap ls) : ∀ p ∈ ls, p.own.length = 32 ∧ (∀ x ∈ p.xs, x.ok) ∧ p.xs.length ≤ 9223372036854775807 := fun p hp => ⟨(h.ln p hp).own, (h.ln p hp).ok, (h.ln p hp).len⟩
theorem trod_shard {H : Type} {enc : TypeId × Value → H} {W : World} {n : Nat} {cs : List Value} {y : DataW H × List MemPlace} (hy : DataW.trod enc Tryz.prog W 0 (fun _ => true) true n 24 cs = some y) :
    ∃ a c ls, cs = [.slice a ls.length c] ∧ Lns W a c ls := by
  obtain ⟨xs, m, rfl, _, hlen, hxl, hx⟩ := DataW.trod_struct Tryz.underlying24 hy
  rw [show Tryz.prog.cellsOf 24 = 1 by kernel_rfl] at hlen
  obtain ⟨y0, e0⟩ : ∃ y, xs[0]? = some y := ⟨_, List.getElem?_eq_getElem (by rw [hxl]; decide)⟩
  have h0 : DataW.trod enc Tryz.prog W 0 (fun _ => true) true m 22 ((cs.drop 0).take (Tryz.prog.cellsOf 22)) = some y0 := (hx 0 _ rfl).trans e0
  rw [show Tryz.prog.cellsOf 22 = 1 by kernel_rfl] at h0
  have u0 := takeQ (l := cs) (k := 0) (by omega)
  rw [u0] at h0
  obtain ⟨a, c, ls, e1, c1, c2, c3, c4⟩ := open_slice Tryz.underlying22 (c := 33) (by kernel_rfl) (by decide) Ln.cells (fun l => LnR W l) (fun n cs y _ hy => trod_line hy) h0
  refine ⟨a, c, ls, ?_, c1, Nat.le_trans c1 (Nat.le_trans c2 (by decide)), fun x hx => (c4 x hx).1, c3⟩
  rw [e1] at u0
  have : cs = cs.take 1 := (List.take_of_length_le (by omega)).symm
  rw [this]
  simpa using u0
/-- Shards that can be read. -/
structure Shs (w : World) (a : Option Addr) (n cap : Nat) (ss : List Sh) : Prop where
  hn : n = ss.length
  hcap : ss.length ≤ cap
  len : ss.length ≤ 9223372036854775807
  ln : ∀ s ∈ ss, Lns w s.a s.c s.ls
  rc : Rc w a (shc ss)
theorem Shs.rdA {w : World} {a : Option Addr} {n cap : Nat} {ss : List Sh} (h : Shs w a n cap ss) : RdA w a (shc ss) := ⟨h.rc⟩
theorem Shs.rdS {w : World} {a : Option Addr} {n cap : Nat} {ss : List Sh} (h : Shs w a n cap ss) : RdSs w [] ss := ⟨fun s hs => by
  haveI := (h.ln s hs).rdA
  haveI := (h.ln s hs).rdL
  exact ⟨inferInstance, inferInstance⟩⟩
theorem Shs.wide {w : World} {a : Option Addr} {n cap : Nat} {ss : List Sh} (h : Shs w a n cap ss) : ∀ s ∈ ss, s.ls.length ≤ 9223372036854775807 ∧ ∀ p ∈ s.ls, p.own.length = 32 ∧ (∀ x ∈ p.xs, x.ok) ∧ p.xs.length ≤ 9223372036854775807 := fun s hs =>
  ⟨(h.ln s hs).len, fun p hp => ⟨((h.ln s hs).ln p hp).own, ((h.ln s hs).ln p hp).ok, ((h.ln s hs).ln p hp).len⟩⟩
open Go.ChangeShapes Go.WideShapes Go.ChangeAt in
/-- An argument that is a slice of shards. -/
theorem open_pool {H : Type} {enc : TypeId × Value → H} {W : World} {base : Nat} {v : Value} {d : DataW H} {p : List MemPlace} (hv : Value.okWide Tryz.prog W .any base 45 v) (h : DataW.Trod enc Tryz.prog W 0 (fun _ => true) true 45 v d p) :
    ∃ a n cap ss, v = .slice a n cap ∧ Shs W a n cap ss := by
  obtain ⟨a0, len0, cap0, rfl⟩ := okWide_slice Tryz.underlying45 hv
  obtain ⟨fuel, hf⟩ := h
  obtain ⟨a, cap, ss, e, h1, h2, h3, h4⟩ := open_slice Tryz.underlying45 (c := 1) (by kernel_rfl) (by decide) Sh.cells (fun s => Lns W s.a s.c s.ls) (fun n cs y _ hy => by
    obtain ⟨a, c, ls, e, hl⟩ := trod_shard hy
    exact ⟨⟨a, c, ls⟩, e, hl⟩) hf
  refine ⟨_, _, _, ss, rfl, ?_⟩
  simp only [Value.slice.injEq] at e
  obtain ⟨rfl, rfl, rfl⟩ := e
  exact ⟨rfl, h1, by have : maxLen ≤ 9223372036854775807 := by decide
                     omega, fun p hp => (h4 p hp).1, h3⟩
open Go.ChangeShapes Go.WideShapes Go.ChangeAt in
theorem open_int64 {H : Type} {enc : TypeId × Value → H} {W : World} {base : Nat} {v : Value} {d : DataW H} {p : List MemPlace} (hv : Value.okWide Tryz.prog W .any base 3 v) (h : DataW.Trod enc Tryz.prog W 0 (fun _ => true) true 3 v d p) :
    ∃ k : Int, v = .int .i64 k := by
  obtain ⟨n, rfl, _, _, hw⟩ := open_int Tryz.underlying3 hv h
  exact ⟨n, rfl⟩
end Go.Proofs.YtcpndfffdbogbaaGreatDoor

/-
  Shards: lines, one behind the other, with their transactions.
-/
import Derived.Test.YtccbcdhpnkbkgaaDoorGX
import Derived.Test.YtccbcdhpnkbkgaaDoorGC
set_option linter.unusedVariables false
set_option linter.unusedSimpArgs false
namespace Go.Proofs.YtccbcdhpnkbkgaaDoor
open Go Go.RowKit
set_option linter.unusedVariables false
set_option linter.unusedSimpArgs false
open Classical

abbrev lnc (ls : List Ln) : List Value := flat Ln.cells ls
structure LsOk (ls : List Ln) : Prop where
  ok : ∀ l ∈ ls, l.ok
  len : ls.length ≤ 1000000
/-- What a line tells, wherever it lies. -/
def Ln.pl (l : Ln) : List UInt8 × List Tx := (l.own, l.xs)
abbrev lls (ls : List Ln) : List (List UInt8 × List Tx) := ls.map Ln.pl
theorem LsOk.wide {ls : List Ln} (h : LsOk ls) : Wide Ln.cells 33 ls := fun l hl => Ln.len (h.ok l hl).own
theorem LsOk.sub {ls ms : List Ln} (h : LsOk ls) (hs : ∀ p ∈ ms, p ∈ ls) (hl : ms.length ≤ ls.length) : LsOk ms := ⟨fun p hp => h.ok p (hs p hp), by have := h.len; omega⟩
theorem LsOk.nil : LsOk [] := ⟨fun _ h => (by cases h), by simp⟩
instance oc_ln (l : Ln) : OC l.cells := (inferInstance : OC (bvs l.own ++ [.slice l.a l.xs.length l.c]))
section
variable {ls : List Ln}
theorem LsOk.at (h : LsOk ls) (k : Nat) (hk : k < ls.length) : (ls[k]).ok := h.ok _ (List.getElem_mem hk)
theorem LsOk.e (h : LsOk ls) (k : Nat) (hk : k < ls.length) : ((lnc ls).drop (k * 33)).take 33 = ls[k].cells := h.wide.at k hk
theorem LsOk.e0 (h : LsOk ls) (k : Nat) (hk : k < ls.length) : ((lnc ls).drop (k * 33 + 0)).take 32 = bvs ls[k].own := by
  rw [h.wide.part k hk 0 32 (by decide)]
  exact Ln.f0 (h.at k hk).own
theorem LsOk.e1 (h : LsOk ls) (k : Nat) (hk : k < ls.length) : (lnc ls)[k * 33 + 32]? = some (.slice ls[k].a ls[k].xs.length ls[k].c) := by
  rw [h.wide.cell k hk 32 (by decide)]
  simpa using Ln.f1 (h.at k hk).own
theorem LsOk.pos (h : LsOk ls) (k : Nat) (hk : k < ls.length) : 0 < (lnc ls).length := h.wide.pos (by decide) (by omega)
end
/-- Their transactions can be read. -/
class RdLs (w0 : World) (L : List Asn) (ls : List Ln) : Prop where
  out : ∀ p ∈ ls, RdC w0 L p.a (txc p.xs)
instance (priority := 50) rdLs_cons (w0 : World) (A : Asn) (L : List Asn) (ls : List Ln) [h : RdLs w0 L ls] : RdLs w0 (A :: L) ls := ⟨fun p hp => by
    have := h.out p hp
    infer_instance⟩
theorem RdLs.at {w0 : World} {L : List Asn} {ls : List Ln} (h : RdLs w0 L ls) (k : Nat) (hk : k < ls.length) : RdC w0 L (ls[k]).a (txc (ls[k]).xs) := h.out _ (List.getElem_mem hk)
theorem RdLs.sub {w0 : World} {L : List Asn} {ls ms : List Ln} (h : RdLs w0 L ls) (hs : ∀ p ∈ ms, p ∈ ls) : RdLs w0 L ms := ⟨fun p hp => h.out p (hs p hp)⟩
theorem rdLs_nil (w0 : World) (L : List Asn) : RdLs w0 L [] := ⟨by simp⟩
/-- All transactions of the call's own. -/
def tsA (ls : List Ln) : Asn := bundle (ls.map fun l => ownTs l.a l.c l.xs)
theorem se_tsA_pull (ls : List Ln) (L : List Asn) (k : Nat) (hk : k < ls.length) : SE (tsA ls :: L) (ownTs (ls[k]).a (ls[k]).c (ls[k]).xs :: tsA (ls.eraseIdx k) :: L) := by
  have h1 : (ls.map fun l => ownTs l.a l.c l.xs).Perm (ownTs (ls[k]).a (ls[k]).c (ls[k]).xs :: (ls.eraseIdx k).map fun l => ownTs l.a l.c l.xs) := by
    have := (perm_pull ls k ls[k] (by simp [hk])).map (fun l => ownTs l.a l.c l.xs)
    simpa using this
  exact (se_unbundle _ L).trans ((se_perm (h1.append_right L)).trans (SE.cons _ (se_bundle _ L)))
theorem se_tsA_push (ls qs : List Ln) (L : List Asn) (l : Ln) (h : (l :: ls).Perm qs) : SE (ownTs l.a l.c l.xs :: tsA ls :: L) (tsA qs :: L) := by
  have h1 := h.map (fun l => ownTs l.a l.c l.xs)
  exact (SE.cons _ (se_unbundle _ L)).trans ((se_perm (h1.append_right L)).trans (se_bundle _ L))
theorem se_tsA_snoc (ls : List Ln) (L : List Asn) (l : Ln) : SE (ownTs l.a l.c l.xs :: tsA ls :: L) (tsA (ls ++ [l]) :: L) := se_tsA_push ls _ L l (by simpa using (List.perm_append_comm (l₁ := [l]) (l₂ := ls)))
theorem se_tsA_nil (L : List Asn) : SE L (tsA [] :: L) := se_bundle [] L
class HasTs (L : List Asn) (ls : List Ln) : Prop where
  out : ∃ i : Nat, L[i]? = some (tsA ls)
instance hasTs_zero (L : List Asn) (ls : List Ln) : HasTs (tsA ls :: L) ls := ⟨0, rfl⟩
instance (priority := low) hasTs_succ (P : Asn) (L : List Asn) (ls : List Ln) [h : HasTs L ls] : HasTs (P :: L) ls := ⟨by obtain ⟨i, hi⟩ := h.out; exact ⟨i + 1, by simpa using hi⟩⟩
instance rdLs_own (w0 : World) (L : List Asn) (ls : List Ln) [h : HasTs L ls] : RdLs w0 L ls := ⟨fun l hl => ⟨fun w hs => by
  obtain ⟨i, hi⟩ := h.out
  refine hs.know i hi (fun F hF => ?_)
  obtain ⟨G, hG⟩ := SLs.mem (P := ownTs l.a l.c l.xs) hF (List.mem_map.2 ⟨l, hl, rfl⟩)
  exact own.rc hG⟩⟩
abbrev ownLs (a : Option Addr) (cap : Nat) (ls : List Ln) : Asn := own 49 33 a ls.length cap (lnc ls)
/-- What is told of a shard: its memory is new. -/
def RSh (w0 : World) (L : List Asn) (ls : List Ln) (v : Value) (L' : List Asn) : Prop := ∃ a c ms, v = .agg #[.slice a ms.length c] ∧ lls ms = lls ls ∧ L' = ownLs a c ms :: tsA ms :: L
theorem LsOk.of_lls {ms ls : List Ln} (h : LsOk ls) (e : lls ms = lls ls) : LsOk ms := by
  have hl : ms.length = ls.length := by simpa using congrArg List.length e
  refine ⟨fun p hp => ?_, by have := h.len; omega⟩
  have : p.pl ∈ lls ls := by rw [← e]; exact List.mem_map.2 ⟨p, hp, rfl⟩
  obtain ⟨q, hq, e2⟩ := List.mem_map.1 this
  obtain ⟨h1, h2⟩ := h.ok q hq
  unfold Ln.pl at e2
  obtain ⟨e3, e4⟩ := Prod.mk.inj e2
  rw [e3] at h1
  rw [e4] at h2
  exact ⟨h1, h2⟩
end Go.Proofs.YtccbcdhpnkbkgaaDoor

/-
  What is put behind a tree's nodes, in plain terms: the roads; the shape of what comes. A maker of trees: a node put behind; a value for a key. A tree with a value for a key: the program's. A maker of trees: without a key. A tree without a key: the program's. A tree written over. Pairs of a tree, with a value for a key, without a key: the document's.
-/
import Derived.Test.YtcpndfffdbogbaaGreatDoorTB
import Derived.Test.YtcpndfffdbogbaaGreatDoorTC
import Derived.Test.YtcpndfffdbogbaaGreatDoorGK
import Derived.Test.YtcpndfffdbogbaaGreatDoorGC
import Derived.Test.YtcpndfffdbogbaaGreatDoorTGtA
import Derived.Test.YtcpndfffdbogbaaGreatDoorGF
import Derived.Test.YtcpndfffdbogbaaGreatDoorTD
import Derived.Test.YtcpndfffdbogbaaGreatDoorGM
set_option linter.unusedVariables false
set_option linter.unusedSimpArgs false
set_option linter.unusedSectionVars false

namespace Go.Proofs.YtcpndfffdbogbaaGreatDoor
open Go Go.RowKit
open Classical

end Go.Proofs.YtcpndfffdbogbaaGreatDoor
namespace Go.Proofs.YtcpndfffdbogbaaGreatDoor
open Go Go.RowKit
open Classical

end Go.Proofs.YtcpndfffdbogbaaGreatDoor
namespace Go.Proofs.YtcpndfffdbogbaaGreatDoor
open Go Go.RowKit
open Classical

/-- A tree that goes on with another one's nodes, and stands for a list. -/
structure GrowR (ns ms : List Nd) (s : Int) (l : List KV) : Prop where
  may : MayP ms s
  ok : NsOk ms
  pre : pls (ms.take ns.length) = pls ns
  len : ns.length ≤ ms.length
  len2 : ms.length ≤ ns.length + 300
  for' : forP ms s.toNat = l
  one : ns = [] → ms.length ≤ 1
end Go.Proofs.YtcpndfffdbogbaaGreatDoor
namespace Go.Proofs.YtcpndfffdbogbaaGreatDoor
open Go Go.RowKit
open Classical

section
variable {P : Program} {w0 : World} {n : Nat} {ds : List Deferred} {fr : Fr} {L : List Asn} {dst : Option Nat} {ty : TypeId} {pos : String} {after : Array Edge} {gd : Option (Nat × Bool)}
end
end Go.Proofs.YtcpndfffdbogbaaGreatDoor
namespace Go.Proofs.YtcpndfffdbogbaaGreatDoor
open Go Go.RowKit
open Classical

end Go.Proofs.YtcpndfffdbogbaaGreatDoor
namespace Go.Proofs.YtcpndfffdbogbaaGreatDoor
open Go Go.RowKit
open Classical

end Go.Proofs.YtcpndfffdbogbaaGreatDoor
namespace Go.Proofs.YtcpndfffdbogbaaGreatDoor
open Go Go.RowKit
open Classical

theorem all6_vc (w0 : World) (L : List Asn) (a : Option Addr) (c : Nat) (ns : List Nd) (r : Int) {n : Nat} (hn : n = ns.length) (hok : NsOk ns) (hm : MayP ns r) [hr : RdC w0 L a (ndc ns)] [hv : RdNs w0 L ns] :
    VC Tryz.prog w0 40 [.agg #[.slice a n c, .int .i64 r]] L (RPs w0 L (forP ns r.toNat)) := by
  subst hn
  obtain ⟨rn, rfl⟩ : ∃ rn : Nat, r = rn := ⟨r.toNat, by have := hm.lo; omega⟩
  have hhi := hm.hi
  rw [Int.toNat_natCast]
  refine vc_ent ?_
  refine vc_in rfl rfl ?_
  repeat' (first | (refine go1 ?_; intros) | (refine goCC ?_ ?_ <;> (intro hb; (try simp only [hSQ] at hb); try (exfalso; omega))) | fail)
  refine clV ?_
  refine vc_mono (for6_vc w0 a c ns rn hok hm.ones rn _ 0 zb (by omega) (fun _ _ => rfl) hm.right) ?_
  rintro v L' ⟨a1, c1, ps, rfl, hps, rfl⟩
  repeat' (first | (refine go1 ?_; intros) | (refine goCC ?_ ?_ <;> (intro hb; (try simp only [hSQ] at hb); try (exfalso; omega))) | fail)
  exact ⟨_, sei _ _ (ownPs a1 c1 ps :: vsA ps :: L), a1, c1, ps, rfl, hps, rfl⟩
theorem all_ok {ns : List Nd} {r : Int} (hok : NsOk ns) (hm : MayP ns r) {ps : List PR} (h : kvs ps = forP ns r.toNat) : PsOk ps := for_ok hok (fun _ _ => rfl) hm.right h
end Go.Proofs.YtcpndfffdbogbaaGreatDoor

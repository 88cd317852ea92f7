/-
  What a number stands for: the document's list. A number's sum: the program's.
-/
import Derived.Test.YtcpndfffdbogbaaGreatDoorTC
import Derived.Test.YtcpndfffdbogbaaGreatDoorGJ
import Derived.Test.YtcpndfffdbogbaaGreatDoorGC
set_option linter.unusedVariables false
set_option linter.unusedSimpArgs false
namespace Go.Proofs.YtcpndfffdbogbaaGreatDoor
open Go Go.RowKit
set_option linter.unusedVariables false
set_option linter.unusedSimpArgs false
open Classical

theorem for_ok {ns : List Nd} {n d : Nat} {β : Nat → Nat} (hok : NsOk ns) (h0 : ∀ j, d ≤ j → β j = 0) (hr : 0 ≤ rightP ns n d β) {ps : List PR} (e : kvs ps = forP ns n) : PsOk ps := by
  have h1 := for_half h0 hr
  have h2 := congrArg List.length e
  simp only [List.length_map] at h2
  have h3 := hok.len
  have hm : ∀ p ∈ ps, p.kv ∈ forP ns n := fun p hp => by rw [← e]; exact List.mem_map.2 ⟨p, hp, rfl⟩
  exact ⟨fun p hp => for_k32 hok n _ (hm p hp), fun p hp => for_vl hok n _ (hm p hp), by omega⟩
end Go.Proofs.YtcpndfffdbogbaaGreatDoor
namespace Go.Proofs.YtcpndfffdbogbaaGreatDoor
open Go Go.RowKit
set_option linter.unusedVariables false
set_option linter.unusedSimpArgs false
open Classical

end Go.Proofs.YtcpndfffdbogbaaGreatDoor

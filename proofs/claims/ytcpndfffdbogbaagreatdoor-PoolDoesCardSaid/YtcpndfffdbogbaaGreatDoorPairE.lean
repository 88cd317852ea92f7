/-
  Pairs: the document's walks.
-/
import Derived.Test.YtcpndfffdbogbaaGreatDoorGL
import Derived.Test.YtcpndfffdbogbaaGreatDoorGK
set_option linter.unusedVariables false
set_option linter.unusedSimpArgs false
set_option linter.unusedSectionVars false

namespace Go.Proofs.YtcpndfffdbogbaaGreatDoor
open Go Go.RowKit
open Classical

/-- The place of a key, by going through all. -/
noncomputable def findI (l : List KV) (k : List UInt8) : Int := if has l k = true then ((lowF l k).length : Int) else -1
set_option maxRecDepth 100000 in
theorem rfind_vc (w0 : World) (L : List Asn) (a : Option Addr) (cap : Nat) (ps : List PR) (k : List UInt8) {n : Nat} (hn : n = ps.length) (h : PsOk ps) (hk : k.length = 32) (hs : Srt (kvs ps)) [hr : RdC w0 L a (prc ps)] :
    VC Tryz.prog w0 127 [.slice a n cap, .agg (bvs k).toArray] L fun v L' => v = .int .i64 (findI (kvs ps) k) ∧ L' = L := by
  subst hn
  have hlen := h.len
  refine vc_ent ?_
  refine vc_in rfl rfl ?_
  repeat' (first | (refine go1 ?_; intros) | (refine goCC ?_ ?_ <;> (intro hb; (try simp only [hSQ] at hb); try (exfalso; omega))) | fail)
  refine v_loopS Nat [0, 3] rfl (fun i => [(5, .int .i64 i)]) (fun i => i ≤ ps.length ∧ ∀ j (hj : j < ps.length), j < i → ¬ ps[j].key = k) (fun i => ps.length - i) 0 ⟨Nat.zero_le _, fun j hj h => by omega⟩ (by (exact sbS)) (fun i ⟨hi, hp⟩ => ?_)
  by_cases hlt : i < ps.length
  · have e0 := h.e0 i hlt
    have hk32 := h.k32at i hlt
    have hpos := h.pos i hlt
    repeat' (first | (refine go1 ?_; intros) | (refine goCC ?_ ?_ <;> (intro hb; (try simp only [hSQ] at hb); try (exfalso; omega))) | fail)
    (refine v_draw0 [] (by kernel_rfl) ?_ <;> (refine tA 0 ?_) <;> (refine tA 1 ?_) <;> (refine tA 2 ?_) <;> (refine tA 3 ?_) <;> (refine tA 4 ?_) <;> (refine tA 5 ?_) <;> (refine tA 6 ?_) <;> (refine va_done (by kernel_rfl) ?_))
    repeat' (first | (refine go1 ?_; intros) | (refine goCC ?_ ?_ <;> (intro hb; (try simp only [hSQ] at hb); try (exfalso; omega))) | fail)
    · refine ⟨L, sei _ _ _, ?_, rfl⟩
      have hmem : (k, ps[i].v) ∈ kvs ps := List.mem_map.2 ⟨ps[i], List.getElem_mem hlt, by simp [PR.kv, hb]⟩
      have hh : has (kvs ps) k = true := has_iff.2 ⟨_, hmem⟩
      have hat := low_len (l := kvs ps) hs (k := k) (at' := i) (by simpa using hi) (fun j hj hji => by
        have := srt_at hs hji (by simpa using hlt)
        simpa [PR.kv, hb] using this) (fun j hj hij => by
        rcases Nat.lt_or_ge i j with e | e
        · have := srt_at hs e (by simpa using hj)
          simp only [List.getElem_map, PR.kv, hb] at this
          simpa [PR.kv] using this.asymm
        · obtain rfl : j = i := by omega
          simp only [List.getElem_map, PR.kv, hb]
          exact Ahd.irrefl _)
      rw [findI, if_pos hh, ← hat]
    · refine ⟨rfl, i + 1, ⟨by omega, fun j hj hji => ?_⟩, by omega, by (exact sbS), Ent.refl _ _⟩
      rcases Nat.lt_or_ge j i with e | e
      · exact hp j hj e
      · obtain rfl : j = i := by omega
        exact hb
  · obtain rfl : i = ps.length := by omega
    repeat' (first | (refine go1 ?_; intros) | (refine goCC ?_ ?_ <;> (intro hb; (try simp only [hSQ] at hb); try (exfalso; omega))) | fail)
    refine ⟨L, sei _ _ _, ?_, rfl⟩
    have hh : has (kvs ps) k = false := has_false.2 fun x hx => by
      obtain ⟨p, hp', rfl⟩ := List.mem_map.1 hx
      obtain ⟨j, hj, rfl⟩ := List.getElem_of_mem hp'
      exact hp j hj hj
    rw [findI, if_neg (by rw [hh]; simp)]

end Go.Proofs.YtcpndfffdbogbaaGreatDoor

/-
  Bytes copied into an array.
-/
import Derived.Test.YtpnhgmmijkjmlaaDoorShaL
namespace Go.Proofs.YtpnhgmmijkjmlaaDoor
open Go Go.RowKit
set_option linter.unusedVariables false
set_option linter.unusedSimpArgs false

section
variable {P : Program} {ro : Option Nat} {w0 : World} {n : Nat} {ds : List Deferred} {fr : Fr} {L L' : List Asn} {Q : Exit → List Deferred → Fr → List Asn → Prop} {K : List Deferred → Fr → List Asn → Prop}
variable {dd : Nat} {ty : TypeId} {pos : String} {after : Array Edge} {gd : Option (Nat × Bool)} {e dT sT t : TypeId} {agg : Bool} {bytes : Nat} {z : List Value}
theorem vo_isCopy {d s : Operand} {ts : Array TypeId} (h : VO P ro w0 n ⟨some dd, .call { callee := .builtin .copy, args := #[d, s], argTypes := ts }, ty, pos, after, gd⟩ K Q ds fr L) : VO P ro w0 n ⟨some dd, .call { callee := .builtin .copy, args := #[d, s], argTypes := ts }, ty, pos, after, gd⟩ K Q ds fr L := h
theorem vo_copyB {d s : Operand} {g off dLen dCap sLen sCap i : Nat} {ao : Option Addr} {cs cs' : List Value} {xs ys : List UInt8} (hd : evA fr d = some (.slice (some ⟨g, off, none⟩) dLen dCap)) (hx : evA fr s = some (.slice ao sLen sCap)) (hdn : Nat.blt dd n = true) [hu : SlI P dT e agg 1 bytes z] [hb : HasBlk L g i t cs] [hr : RdC w0 L ao (bvs xs)] (hys : xs.take (min sLen dLen) = ys) (hl : ys.length = min sLen dLen) (hcs : splice cs off (bvs ys) = cs') (hfit : off + ys.length ≤ cs.length) [hset : SetI L i (blk g t cs') L']
    (h : K ds ((dd, .int .i64 ((min sLen dLen : Nat) : Int)) :: fr) L') : VO P ro w0 n ⟨some dd, .call { callee := .builtin .copy, args := #[d, s], argTypes := #[dT, sT] }, ty, pos, after, gd⟩ K Q ds fr L :=
  vo_runs (fun _ => by simp) (fun a w hk hs => by
    subst hys
    have hrc : Rc w ao (bvs (xs.take (min sLen dLen))) := by
      rcases hr.out w hs with h0 | ⟨b, o, hb0, hc⟩
      · have : xs = [] := by cases xs with
          | nil => rfl
          | cons x xs => simp [bvs] at h0
        subst this
        exact .inl (by simp [bvs])
      · refine .inr ⟨b, o, hb0, fun j u hu => hc j u ?_⟩
        rw [← bvs_take, List.getElem?_take] at hu
        split at hu
        · exact hu
        · cases hu
    exact wp_copyBlk d s dT sT rfl hu hs i (hk.ev hd) (hk.ev hx) hb.out (bvs (xs.take (min sLen dLen))) (by rw [bvs_length]; exact hl) hrc (bvs_one _) cs' hcs (by rw [bvs_length]; exact hfit) (fun w' hs' => ⟨_, _, _, hk.put dd _ hdn, by rw [hset.out]; exact hs', h⟩))
end
end Go.Proofs.YtpnhgmmijkjmlaaDoor

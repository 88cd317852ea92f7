/-
  Parts held against parts. The kind and the parts of a text: the plain answer; the reference's reader. The program's reader of kinds and parts. The reader of kinds and parts answers as the second writing of it does. The writer of kinds and parts; how great parts are. Digits; the document's bytes of a kind and parts; digests of them.
-/
import Derived.Test.YtcpcbgfnglnkcaaDoorGB
import Derived.Test.YtcpcbgfnglnkcaaDoorGC
import Derived.Test.YtcpcbgfnglnkcaaDoorGE
set_option linter.unusedVariables false
set_option linter.unusedSimpArgs false
set_option linter.unusedSectionVars false

namespace Go.Proofs.YtcpcbgfnglnkcaaDoor
open Go Go.RowKit

theorem take_eq_step {α : Type} {ls ms : List α} {k : Nat} (hk : k < ls.length) (hk' : k < ms.length) (h : ls.take k = ms.take k) (he : ls[k] = ms[k]) : ls.take (k + 1) = ms.take (k + 1) := by
  rw [List.take_succ_eq_append_getElem hk, List.take_succ_eq_append_getElem hk', h, he]
def ls (ps : List PB) : List (List UInt8) := ps.map (·.l)
end Go.Proofs.YtcpcbgfnglnkcaaDoor
namespace Go.Proofs.YtcpcbgfnglnkcaaDoor
open Go Go.RowKit

/-- The parts of bytes, and the error (0: none). -/
def partsG : Nat → List UInt8 → Int × List (List UInt8)
  | 0, _ => (0, [])
  | f + 1, l => if l.length = 0 then (0, []) else if l.length < 4 then (10, []) else
    if 4096 < numOf (l.take 4) then (4, []) else if l.length - 4 < numOf (l.take 4) then (10, []) else
    ((partsG f (l.drop (4 + numOf (l.take 4)))).1, (l.drop 4).take (numOf (l.take 4)) :: (partsG f (l.drop (4 + numOf (l.take 4)))).2)
def parts (l : List UInt8) : Int × List (List UInt8) := partsG l.length l
/-- What a text's reader answers. -/
def tagOf (l : List UInt8) : Nat × List (List UInt8) × Int :=
  if l.length = 0 then (0, [], 10) else if (parts (l.drop 1)).1 = 0 then ((l.getD 0 0).toNat, (parts (l.drop 1)).2, 0) else (0, [], (parts (l.drop 1)).1)
/-- With parts that have been read. -/
def more (acc : List (List UInt8)) (r : Int × List (List UInt8)) : Int × List (List UInt8) := (r.1, acc ++ r.2)

end Go.Proofs.YtcpcbgfnglnkcaaDoor
namespace Go.Proofs.YtcpcbgfnglnkcaaDoor
open Go Go.RowKit

def RTag (w0 : World) (L : List Asn) (l : List UInt8) (v : Value) (L' : List Asn) : Prop := ∃ L'', Ent w0 L' L'' ∧ ∃ a' cap' ps, v = .tuple #[.int .u8 (tagOf l).1, .slice a' ps.length cap', .int .i64 (tagOf l).2.2] ∧ ls ps = (tagOf l).2.1 ∧ L'' = own 30 1 a' ps.length cap' (pbs ps) :: psA ps :: L
theorem RTag.none {w0 : World} {L L1 : List Asn} {l : List UInt8} {e : Int} (hse : SE L1 L) (ht : tagOf l = (0, [], e)) : RTag w0 L l (.tuple #[.int .u8 0, .slice none 0 0, .int .i64 e]) L1 :=
  ⟨_, (hse.trans ((se_psA_nil L).trans (se_own_nil _ 1 _))).ent w0, Option.none, 0, [], by rw [ht]; rfl, by rw [ht]; rfl, rfl⟩
theorem subA_zero (a : Option Addr) (m s : Nat) : subA a 0 m s = a := by
  unfold subA
  split
  · rfl
  · cases a <;> simp [Addr.add]

end Go.Proofs.YtcpcbgfnglnkcaaDoor
namespace Go.Proofs.YtcpcbgfnglnkcaaDoor
open Go Go.RowKit

end Go.Proofs.YtcpcbgfnglnkcaaDoor
namespace Go.Proofs.YtcpcbgfnglnkcaaDoor
open Go Go.RowKit
/-- Parts that could be read when the call began. -/
class RdAs (w0 : World) (ps : List PB) : Prop where
  out : ∀ p ∈ ps, RdA w0 p.a (bvs p.l)
/-- The bytes that stand for a kind and its parts. -/
def tagB (k : Nat) (xs : List (List UInt8)) : List UInt8 := UInt8.ofNat k :: xs.flatMap fun x => digs x.length 4 ++ x
theorem tagB_snoc (k : Nat) (xs : List (List UInt8)) (x : List UInt8) : tagB k (xs ++ [x]) = tagB k xs ++ (digs x.length 4 ++ x) := by simp [tagB]

theorem tagB_append (k : Nat) (xs ys : List (List UInt8)) : tagB k (xs ++ ys) = tagB k xs ++ ys.flatMap fun x => digs x.length 4 ++ x := by simp [tagB]
theorem tagB_take (k : Nat) (xs : List (List UInt8)) (j : Nat) : (tagB k (xs.take j)).length ≤ (tagB k xs).length := by
  have h := tagB_append k (xs.take j) (xs.drop j)
  rw [List.take_append_drop] at h
  rw [h, List.length_append]; omega
theorem tagB_count (k : Nat) : ∀ (xs : List (List UInt8)), xs.length ≤ (tagB k xs).length
  | [] => by simp
  | x :: xs => by
    have := tagB_count k xs
    simp only [tagB, List.flatMap_cons, List.length_cons, List.length_append, digs_length] at this ⊢
    omega
theorem tagB_part {k : Nat} : ∀ {xs : List (List UInt8)} {x : List UInt8}, x ∈ xs → x.length ≤ (tagB k xs).length
  | y :: xs, x, h => by
    simp only [tagB, List.flatMap_cons, List.length_cons, List.length_append]
    rcases List.mem_cons.1 h with rfl | h
    · omega
    · have := tagB_part (k := k) h
      simp only [tagB, List.length_cons] at this
      omega
set_option maxHeartbeats 2000000 in
theorem tbytesG_vc (w0 : World) (L : List Asn) (k : Nat) (hk : k < 256) (a : Option Addr) (cap : Nat) (ps : List PB) {n : Nat} (hn : n = ps.length) (hB : (tagB k (ls ps)).length ≤ 1000000000) [hr : RdC w0 L a (pbs ps)] [hp : RdPs w0 L ps] :
    VC Tryd.prog w0 79 [.int .u8 k, .slice a n cap] L fun v L' => ∃ a' cap', v = .slice a' (tagB k (ls ps)).length cap' ∧ (tagB k (ls ps)).length ≤ cap' ∧ L' = ownB a' cap' (tagB k (ls ps)) :: L := by
  subst hn
  refine vc_in rfl rfl ?_
  repeat' (first | (refine go1 ?_; intros) | (refine vl_caseG rfl rfl rfl rfl ?_ ?_ <;> (intro hb; (try simp only [hq1, hq2, hq3, hq4, ne_eq, hq5, hq6, hq7, hq8] at hb); try (exfalso; omega))) | (refine v_cond rfl ?_ ?_ <;> (intro hb; (try simp only [hq1, hq2, hq3, hq4, ne_eq, hq5, hq6, hq7, hq8] at hb); try (exfalso; omega))) | fail)
  rename_i g
  refine v_loopF (Nat × Option Addr × Nat) [12, 13] rfl (fun x => [(5, .slice x.2.1 (tagB k ((ls ps).take x.1)).length x.2.2), (14, .int .i64 x.1)]) (fun L0 x => match L0 with | _ :: L1 => ownB x.2.1 x.2.2 (tagB k ((ls ps).take x.1)) :: L1 | L0 => L0) (fun x => x.1 ≤ ps.length ∧ (tagB k ((ls ps).take x.1)).length ≤ x.2.2) (fun x => ps.length - x.1) (0, some ⟨g, 0, none⟩, 1) ⟨Nat.zero_le _, by simp [tagB]⟩ (by (repeat' (first | exact Sub.nil _ | refine Sub.cons rfl rfl ?_ | refine Sub.cons rfl ?_ ?_))) ?_ ?_
  · have e : [Value.int IntKind.u8 (k : Int)] = bvs (tagB k ((ls ps).take 0)) := by simp [tagB, bvs, bv]; omega
    rw [e]
    exact Ent.refl _ _
  rintro ⟨j, oa, oc⟩ ⟨hj, hoc⟩
  dsimp only at hj hoc ⊢
  have hb1 := tagB_take k (ls ps) j
  have hpn : ps.length ≤ (tagB k (ls ps)).length := by simpa [ls] using tagB_count k (ls ps)
  generalize hT : tagB k ((ls ps).take j) = T at *
  by_cases hlt : j < ps.length
  · have hg := pbs_get ps j hlt
    haveI := hp.at j hlt
    have hxj : (ps[j]).l.length ≤ (tagB k (ls ps)).length := tagB_part (List.mem_map.2 ⟨ps[j], List.getElem_mem _, rfl⟩)
    have e32 : IntKind.u64.wrap (IntKind.u32.wrap ((ps[j]).l.length : Int)) = ((ps[j]).l.length : Nat) := by simp only [IntKind.wrap_u64, IntKind.wrap_u32]; omega
    repeat' (first | (refine go1 ?_; intros) | (refine vl_caseG rfl rfl rfl rfl ?_ ?_ <;> (intro hb; (try simp only [hq1, hq2, hq3, hq4, ne_eq, hq5, hq6, hq7, hq8] at hb); try (exfalso; omega))) | (refine v_cond rfl ?_ ?_ <;> (intro hb; (try simp only [hq1, hq2, hq3, hq4, ne_eq, hq5, hq6, hq7, hq8] at hb); try (exfalso; omega))) | fail)
    rw [e32]
    refine vl_o rfl (vo_call rfl rfl ?_)
    refine vc_mono (put_vc w0 _ (ps[j]).l.length 4 (by decide) (by decide) (by omega)) ?_
    rintro v L' ⟨a4, c4, rfl, rfl⟩
    have hd4 := digs_length (ps[j]).l.length 4
    have hsn : tagB k ((ls ps).take (j + 1)) = T ++ (digs (ps[j]).l.length 4 ++ (ps[j]).l) := by
      rw [List.take_succ_eq_append_getElem (by simpa [ls]), tagB_snoc, hT]; simp [ls]
    have hb2 := tagB_take k (ls ps) (j + 1)
    have hsl : (tagB k ((ls ps).take (j + 1))).length = T.length + 4 + (ps[j]).l.length := by rw [hsn]; simp; omega
    repeat' (first | (refine go1 ?_; intros) | (refine vl_caseG rfl rfl rfl rfl ?_ ?_ <;> (intro hb; (try simp only [hq1, hq2, hq3, hq4, ne_eq, hq5, hq6, hq7, hq8] at hb); try (exfalso; omega))) | (refine v_cond rfl ?_ ?_ <;> (intro hb; (try simp only [hq1, hq2, hq3, hq4, ne_eq, hq5, hq6, hq7, hq8] at hb); try (exfalso; omega))) | fail)
    rename_i a5 c5 _ _ a6 c6 _ _
    refine ⟨rfl, (j + 1, a6, c6), ⟨by omega, by dsimp only; omega⟩, by dsimp only; omega, ?_, ?_⟩
    · dsimp only
      rw [hsl]
      (repeat' (first | exact Sub.nil _ | refine Sub.cons rfl rfl ?_ | refine Sub.cons rfl ?_ ?_))
    · dsimp only
      unfold ownB
      rw [hsl, hsn, bvs_append, bvs_append, ← List.append_assoc]
      exact SE.ent (se_drop _ _) w0
  · obtain rfl : j = ps.length := by omega
    rw [List.take_of_length_le (by simp [ls])] at hT
    repeat' (first | (refine go1 ?_; intros) | (refine vl_caseG rfl rfl rfl rfl ?_ ?_ <;> (intro hb; (try simp only [hq1, hq2, hq3, hq4, ne_eq, hq5, hq6, hq7, hq8] at hb); try (exfalso; omega))) | (refine v_cond rfl ?_ ?_ <;> (intro hb; (try simp only [hq1, hq2, hq3, hq4, ne_eq, hq5, hq6, hq7, hq8] at hb); try (exfalso; omega))) | fail)
    subst hT
    exact ⟨_, _, rfl, hoc, rfl⟩
end Go.Proofs.YtcpcbgfnglnkcaaDoor
namespace Go.Proofs.YtcpcbgfnglnkcaaDoor
open Go Go.RowKit

theorem rdC_nil (w0 : World) (L : List Asn) (a : Option Addr) : RdC w0 L a [] := ⟨fun _ _ => .inl rfl⟩

/-- The program's digest of a kind and parts. -/
theorem tof_vc (w0 : World) (L : List Asn) (k : Nat) (hk : k < 256) (a : Option Addr) (cap : Nat) (ps : List PB) {n : Nat} (hn : n = ps.length) (hB : (tagB k (ls ps)).length ≤ 1000000000) [hK : RdA w0 (some ⟨1, 0, none⟩) (wds K64)] [hr : RdC w0 L a (pbs ps)] [hp : RdPs w0 L ps] :
    VC Tryd.prog w0 77 [.int .u8 k, .slice a n cap] L fun v L' => v = .agg (bvs (sha (tagB k (ls ps)))).toArray ∧ L' = L := by
  subst hn
  refine vc_ent ?_
  refine vc_in rfl rfl ?_
  repeat' (first | (refine go1 ?_; intros) | (refine goCC ?_ ?_ <;> (intro hb; (try simp only [hSQ] at hb); try (exfalso; omega))) | fail)
  rename_i g0
  refine clV ?_
  refine vc_mono (tbytesG_vc w0 _ k hk a cap ps rfl hB) ?_
  rintro v L' ⟨a1, c1, rfl, hc1, rfl⟩
  generalize tagB k (ls ps) = T at *
  repeat' (first | (refine go1 ?_; intros) | (refine goCC ?_ ?_ <;> (intro hb; (try simp only [hSQ] at hb); try (exfalso; omega))) | fail)
  rename_i g
  haveI hp1 : RdC w0 (own 30 1 (some ⟨g, 0, none⟩) 1 1 [.slice a1 T.length c1] :: ownB a1 c1 T :: blk g0 24 (bvs (List.replicate 32 0)) :: L) (some ⟨g, 0, none⟩) (pbs [⟨a1, c1, T⟩]) := (inferInstance : RdC w0 _ _ [.slice a1 T.length c1])
  refine clV ?_
  refine vc_mono (of_vc w0 _ (some ⟨g, 0, none⟩) 1 ⟨a1, c1, T⟩ rfl hB) ?_
  rintro v L' ⟨rfl, rfl⟩
  dsimp only
  have hS := sha_length T
  generalize sha T = S at *
  repeat' (first | (refine go1 ?_; intros) | (refine goCC ?_ ?_ <;> (intro hb; (try simp only [hSQ] at hb); try (exfalso; omega))) | fail)
  exact ⟨_, ((se_drop _ _).trans ((se_drop _ _).trans (se_drop _ _))).ent w0, rfl, rfl⟩
end Go.Proofs.YtcpcbgfnglnkcaaDoor

/-
  Parts held against parts. The kind and the parts of a text: the plain answer; the reference's reader. The program's reader of kinds and parts. The reader of kinds and parts answers as the second writing of it does. The writer of kinds and parts; how great parts are. Digits; the document's bytes of a kind and parts; digests of them.
-/
import Derived.Test.YthdijddgkmfbiaaDoorGB
import Derived.Test.YthdijddgkmfbiaaDoorGC
import Derived.Test.YthdijddgkmfbiaaDoorGE
set_option linter.unusedVariables false
set_option linter.unusedSimpArgs false
namespace Go.Proofs.YthdijddgkmfbiaaDoor
open Go Go.RowKit

theorem take_eq_step {α : Type} {ls ms : List α} {k : Nat} (hk : k < ls.length) (hk' : k < ms.length) (h : ls.take k = ms.take k) (he : ls[k] = ms[k]) : ls.take (k + 1) = ms.take (k + 1) := by
  rw [List.take_succ_eq_append_getElem hk, List.take_succ_eq_append_getElem hk', h, he]
def ls (ps : List PB) : List (List UInt8) := ps.map (·.l)
end Go.Proofs.YthdijddgkmfbiaaDoor
namespace Go.Proofs.YthdijddgkmfbiaaDoor
open Go Go.RowKit
set_option linter.unusedVariables false
set_option linter.unusedSimpArgs false

/-- The parts of bytes, and the error (0: none). -/
def partsG : Nat → List UInt8 → Int × List (List UInt8)
  | 0, _ => (0, [])
  | f + 1, l => if l.length = 0 then (0, []) else if l.length < 4 then (10, []) else
    if 4096 < numOf (l.take 4) then (4, []) else if l.length - 4 < numOf (l.take 4) then (10, []) else
    ((partsG f (l.drop (4 + numOf (l.take 4)))).1, (l.drop 4).take (numOf (l.take 4)) :: (partsG f (l.drop (4 + numOf (l.take 4)))).2)
theorem partsG_fuel : ∀ (f g : Nat) (l : List UInt8), l.length ≤ f → l.length ≤ g → partsG f l = partsG g l
  | 0, 0, _, _, _ => rfl
  | 0, g + 1, l, h, _ => by simp [partsG, show l.length = 0 by omega]
  | f + 1, 0, l, _, h => by simp [partsG, show l.length = 0 by omega]
  | f + 1, g + 1, l, hf, hg => by
    simp only [partsG]
    by_cases h0 : l.length = 0
    · simp [h0]
    · rw [partsG_fuel f g (l.drop (4 + numOf (l.take 4))) (by simp; omega) (by simp; omega)]
def parts (l : List UInt8) : Int × List (List UInt8) := partsG l.length l
theorem parts_nil : parts [] = (0, []) := rfl
theorem parts_short {l : List UInt8} (h0 : 0 < l.length) (h : l.length < 4) : parts l = (10, []) := by
  obtain ⟨f, hf⟩ : ∃ f, l.length = f + 1 := ⟨l.length - 1, by omega⟩
  rw [parts, hf, partsG]; simp [h, show ¬ l.length = 0 by omega]
theorem parts_many {l : List UInt8} (h : ¬ l.length < 4) (hm : 4096 < numOf (l.take 4)) : parts l = (4, []) := by
  obtain ⟨f, hf⟩ : ∃ f, l.length = f + 1 := ⟨l.length - 1, by omega⟩
  rw [parts, hf, partsG]; simp [h, hm, show ¬ l.length = 0 by omega]
theorem parts_end {l : List UInt8} (h : ¬ l.length < 4) (hm : ¬ 4096 < numOf (l.take 4)) (hs : l.length - 4 < numOf (l.take 4)) : parts l = (10, []) := by
  obtain ⟨f, hf⟩ : ∃ f, l.length = f + 1 := ⟨l.length - 1, by omega⟩
  rw [parts, hf, partsG]; simp [h, hm, hs, show ¬ l.length = 0 by omega]
theorem parts_cons {l : List UInt8} (h : ¬ l.length < 4) (hm : ¬ 4096 < numOf (l.take 4)) (hs : ¬ l.length - 4 < numOf (l.take 4)) : parts l = ((parts (l.drop (4 + numOf (l.take 4)))).1, (l.drop 4).take (numOf (l.take 4)) :: (parts (l.drop (4 + numOf (l.take 4)))).2) := by
  obtain ⟨f, hf⟩ : ∃ f, l.length = f + 1 := ⟨l.length - 1, by omega⟩
  rw [parts, hf, partsG]
  simp only [h, hm, hs, show ¬ l.length = 0 by omega, if_false]
  rw [parts, partsG_fuel f (l.drop (4 + numOf (l.take 4))).length (l.drop (4 + numOf (l.take 4))) (by simp; omega) (Nat.le_refl _)]
/-- What a text's reader answers. -/
def tagOf (l : List UInt8) : Nat × List (List UInt8) × Int :=
  if l.length = 0 then (0, [], 10) else if (parts (l.drop 1)).1 = 0 then ((l.getD 0 0).toNat, (parts (l.drop 1)).2, 0) else (0, [], (parts (l.drop 1)).1)
theorem tagOf_nil {l : List UInt8} (h : l.length = 0) : tagOf l = (0, [], 10) := by simp [tagOf, h]
theorem tagOf_err {l : List UInt8} {e : Int} (h : l.length ≠ 0) (he : e ≠ 0) (hp : (parts (l.drop 1)).1 = e) : tagOf l = (0, [], e) := by unfold tagOf; rw [if_neg h, hp, if_neg he]
theorem tagOf_ok {l : List UInt8} (h : l.length ≠ 0) (hp : (parts (l.drop 1)).1 = 0) : tagOf l = ((l.getD 0 0).toNat, (parts (l.drop 1)).2, 0) := by unfold tagOf; rw [if_neg h, if_pos hp]
/-- With parts that have been read. -/
def more (acc : List (List UInt8)) (r : Int × List (List UInt8)) : Int × List (List UInt8) := (r.1, acc ++ r.2)

end Go.Proofs.YthdijddgkmfbiaaDoor
namespace Go.Proofs.YthdijddgkmfbiaaDoor
open Go Go.RowKit
set_option linter.unusedVariables false
set_option linter.unusedSimpArgs false

def RTag (w0 : World) (L : List Asn) (l : List UInt8) (v : Value) (L' : List Asn) : Prop := ∃ L'', Ent w0 L' L'' ∧ ∃ a' cap' ps, v = .tuple #[.int .u8 (tagOf l).1, .slice a' ps.length cap', .int .i64 (tagOf l).2.2] ∧ ls ps = (tagOf l).2.1 ∧ L'' = own 24 1 a' ps.length cap' (pbs ps) :: psA ps :: L
theorem RTag.none {w0 : World} {L L1 : List Asn} {l : List UInt8} {e : Int} (hse : SE L1 L) (ht : tagOf l = (0, [], e)) : RTag w0 L l (.tuple #[.int .u8 0, .slice none 0 0, .int .i64 e]) L1 :=
  ⟨_, (hse.trans ((se_psA_nil L).trans (se_own_nil _ 1 _))).ent w0, Option.none, 0, [], by rw [ht]; rfl, by rw [ht]; rfl, rfl⟩
theorem subA_zero (a : Option Addr) (m s : Nat) : subA a 0 m s = a := by
  unfold subA
  split
  · rfl
  · cases a <;> simp [Addr.add]

theorem step_psA {hs : List PB} {A : Asn} (hA : ∀ M, SE (A :: M) (psA hs :: M)) {N : Nat} (a1 : Option Addr) (c1 : Nat) (l4 : List UInt8) (hN : N ≤ l4.length) (hc : N ≤ c1) : ∀ M, SE (bundle [A, ownB a1 c1 l4] :: M) (psA (hs ++ [⟨subA a1 0 N 1, N - 0, l4.take N⟩]) :: M) := fun M => by
  refine (se_unbundle _ M).trans ((hA _).trans ((se_swap _ _ _).trans ((se_head _ ?_).trans (se_psA_snoc hs M _ _ _))))
  intro w F h
  have := own_cut N N hN hc (Nat.le_refl _) w F h
  rw [subA_zero]
  simpa [ownB, bvs, List.map_take, Nat.min_eq_left hN] using this

end Go.Proofs.YthdijddgkmfbiaaDoor
namespace Go.Proofs.YthdijddgkmfbiaaDoor
open Go Go.RowKit
set_option linter.unusedVariables false
set_option linter.unusedSimpArgs false

theorem vc_ent' {P : Program} {w0 : World} {f : FuncId} {args : List Value} {L : List Asn} {R R' : Value → List Asn → Prop} (h : VC P w0 f args L fun v L' => ∃ L'', Ent w0 L' L'' ∧ R v L'') (hr : ∀ v L', R v L' → R' v L') : VC P w0 f args L R' := vc_mono (vc_ent h) hr
theorem u8_wrap (I : Int) : IntKind.u8.wrap I = ((UInt8.ofNat (I % 256).toNat).toNat : Int) := by
  rw [UInt8.toNat_ofNat']
  simp [IntKind.wrap, IntKind.bits, IntKind.signed]
  omega
theorem splice_set (l : List UInt8) (k : Nat) (h : k < l.length) (c : UInt8) : splice (bvs l) k [.int .u8 c.toNat] = bvs (l.set k c) := by
  have e1 : bvs l = (bvs l).take k ++ ([(bvs l)[k]'(by simpa)] ++ (bvs l).drop (k + 1)) := by simp
  rw [e1, splice_mid _ _ _ _ _ (by simp; omega) (by simp)]
  have e2 : l.set k c = l.take k ++ ([c] ++ l.drop (k + 1)) := by rw [List.set_eq_take_append_cons_drop, if_pos h]; rfl
  rw [e2]
  simp [bvs, bv]

theorem partsG_bound : ∀ (f : Nat) (l : List UInt8), (partsG f l).2.length ≤ l.length ∧ ∀ x ∈ (partsG f l).2, x.length ≤ l.length
  | 0, l => by simp [partsG]
  | f + 1, l => by
    unfold partsG
    split
    · simp
    split
    · simp
    split
    · simp
    split
    · simp
    · have ⟨h1, h2⟩ := partsG_bound f (l.drop (4 + numOf (l.take 4)))
      simp only [List.length_drop] at h1 h2
      refine ⟨by simp only [List.length_cons]; omega, fun x hx => ?_⟩
      rcases List.mem_cons.1 hx with rfl | hx
      · simp; omega
      · have := h2 x hx; omega
theorem tagOf_bound (l : List UInt8) : (tagOf l).2.1.length ≤ l.length ∧ ∀ x ∈ (tagOf l).2.1, x.length ≤ l.length := by
  have ⟨h1, h2⟩ := partsG_bound (l.drop 1).length (l.drop 1)
  simp only [List.length_drop] at h1 h2
  unfold tagOf
  split
  · simp
  split
  · refine ⟨?_, fun x hx => ?_⟩
    · show (parts (l.drop 1)).2.length ≤ _
      unfold parts
      simp only [List.length_drop]; omega
    · unfold parts at hx
      simp only [List.length_drop] at hx
      have := h2 x hx; omega
  · simp

theorem psA_set (ps : List PB) (L : List Asn) (k : Nat) (hk : k < ps.length) (p : PB) : SE (ownB p.a p.cap p.l :: psA (ps.eraseIdx k) :: L) (psA (ps.set k p) :: L) := by
  refine se_psA_push _ _ L p ?_
  have := perm_pull (ps.set k p) k p (by simp [hk])
  rw [List.eraseIdx_set_eq] at this
  exact this.symm

end Go.Proofs.YthdijddgkmfbiaaDoor
namespace Go.Proofs.YthdijddgkmfbiaaDoor
open Go Go.RowKit
set_option linter.unusedVariables false
set_option linter.unusedSimpArgs false
/-- Parts that could be read when the call began. -/
class RdAs (w0 : World) (ps : List PB) : Prop where
  out : ∀ p ∈ ps, RdA w0 p.a (bvs p.l)
instance (w0 : World) (L : List Asn) (ps : List PB) [h : RdAs w0 ps] : RdPs w0 L ps := ⟨fun p hp => by
  haveI := h.out p hp
  infer_instance⟩

/-- The bytes that stand for a kind and its parts. -/
def tagB (k : Nat) (xs : List (List UInt8)) : List UInt8 := UInt8.ofNat k :: xs.flatMap fun x => digs x.length 4 ++ x
theorem tagB_snoc (k : Nat) (xs : List (List UInt8)) (x : List UInt8) : tagB k (xs ++ [x]) = tagB k xs ++ (digs x.length 4 ++ x) := by simp [tagB]

theorem tagB_bound (k : Nat) (xs : List (List UInt8)) (h : ∀ x ∈ xs, x.length ≤ 300) : (tagB k xs).length ≤ 1 + 304 * xs.length := by
  induction xs with
  | nil => simp [tagB]
  | cons x xs ih =>
    have := ih (fun y hy => h y (by simp [hy]))
    have hx := h x (by simp)
    simp [tagB, digs_length] at this ⊢
    omega

theorem take_bound {xs : List (List UInt8)} (h : ∀ x ∈ xs, x.length ≤ 300) (j : Nat) : ∀ x ∈ xs.take j, x.length ≤ 300 := fun x hx => h x (List.mem_of_mem_take hx)
theorem tagB_append (k : Nat) (xs ys : List (List UInt8)) : tagB k (xs ++ ys) = tagB k xs ++ ys.flatMap fun x => digs x.length 4 ++ x := by simp [tagB]
theorem tagB_take (k : Nat) (xs : List (List UInt8)) (j : Nat) : (tagB k (xs.take j)).length ≤ (tagB k xs).length := by
  have h := tagB_append k (xs.take j) (xs.drop j)
  rw [List.take_append_drop] at h
  rw [h, List.length_append]; omega
theorem tagB_count (k : Nat) : ∀ (xs : List (List UInt8)), xs.length ≤ (tagB k xs).length
  | [] => by simp
  | x :: xs => by
    have := tagB_count k xs
    simp only [tagB, List.flatMap_cons, List.length_cons, List.length_append, digs_length] at this ⊢
    omega
theorem tagB_part {k : Nat} : ∀ {xs : List (List UInt8)} {x : List UInt8}, x ∈ xs → x.length ≤ (tagB k xs).length
  | y :: xs, x, h => by
    simp only [tagB, List.flatMap_cons, List.length_cons, List.length_append]
    rcases List.mem_cons.1 h with rfl | h
    · omega
    · have := tagB_part (k := k) h
      simp only [tagB, List.length_cons] at this
      omega
set_option maxHeartbeats 2000000 in
theorem tbytesG_vc (w0 : World) (L : List Asn) (k : Nat) (hk : k < 256) (a : Option Addr) (cap : Nat) (ps : List PB) {n : Nat} (hn : n = ps.length) (hB : (tagB k (ls ps)).length ≤ 1000000000) [hr : RdC w0 L a (pbs ps)] [hp : RdPs w0 L ps] :
    VC Tryd.prog w0 12 [.int .u8 k, .slice a n cap] L fun v L' => ∃ a' cap', v = .slice a' (tagB k (ls ps)).length cap' ∧ (tagB k (ls ps)).length ≤ cap' ∧ L' = ownB a' cap' (tagB k (ls ps)) :: L := by
  subst hn
  refine vc_in rfl rfl ?_
  repeat' (first | (refine go1 ?_; intros) | (refine vl_caseG rfl rfl rfl rfl ?_ ?_ <;> (intro hb; (try simp only [decide_eq_true_eq, decide_eq_false_iff_not, Bool.not_eq_true', Bool.not_eq_false', ne_eq, Decidable.not_not, Option.isNone_iff_eq_none, not_true_eq_false, not_false_eq_true] at hb); try (exfalso; omega))) | (refine v_cond rfl ?_ ?_ <;> (intro hb; (try simp only [decide_eq_true_eq, decide_eq_false_iff_not, Bool.not_eq_true', Bool.not_eq_false', ne_eq, Decidable.not_not, Option.isNone_iff_eq_none, not_true_eq_false, not_false_eq_true] at hb); try (exfalso; omega))) | fail)
  rename_i g
  refine v_loopF (Nat × Option Addr × Nat) [12, 13] rfl (fun x => [(5, .slice x.2.1 (tagB k ((ls ps).take x.1)).length x.2.2), (14, .int .i64 x.1)]) (fun L0 x => match L0 with | _ :: L1 => ownB x.2.1 x.2.2 (tagB k ((ls ps).take x.1)) :: L1 | L0 => L0) (fun x => x.1 ≤ ps.length ∧ (tagB k ((ls ps).take x.1)).length ≤ x.2.2) (fun x => ps.length - x.1) (0, some ⟨g, 0, none⟩, 1) ⟨Nat.zero_le _, by simp [tagB]⟩ (by (repeat' (first | exact Sub.nil _ | refine Sub.cons rfl rfl ?_ | refine Sub.cons rfl ?_ ?_))) ?_ ?_
  · have e : [Value.int IntKind.u8 (k : Int)] = bvs (tagB k ((ls ps).take 0)) := by simp [tagB, bvs, bv]; omega
    rw [e]
    exact Ent.refl _ _
  rintro ⟨j, oa, oc⟩ ⟨hj, hoc⟩
  dsimp only at hj hoc ⊢
  have hb1 := tagB_take k (ls ps) j
  have hpn : ps.length ≤ (tagB k (ls ps)).length := by simpa [ls] using tagB_count k (ls ps)
  generalize hT : tagB k ((ls ps).take j) = T at *
  by_cases hlt : j < ps.length
  · have hg := pbs_get ps j hlt
    haveI := hp.at j hlt
    have hxj : (ps[j]).l.length ≤ (tagB k (ls ps)).length := tagB_part (List.mem_map.2 ⟨ps[j], List.getElem_mem _, rfl⟩)
    have e32 : IntKind.u64.wrap (IntKind.u32.wrap ((ps[j]).l.length : Int)) = ((ps[j]).l.length : Nat) := by simp only [IntKind.wrap_u64, IntKind.wrap_u32]; omega
    repeat' (first | (refine go1 ?_; intros) | (refine vl_caseG rfl rfl rfl rfl ?_ ?_ <;> (intro hb; (try simp only [decide_eq_true_eq, decide_eq_false_iff_not, Bool.not_eq_true', Bool.not_eq_false', ne_eq, Decidable.not_not, Option.isNone_iff_eq_none, not_true_eq_false, not_false_eq_true] at hb); try (exfalso; omega))) | (refine v_cond rfl ?_ ?_ <;> (intro hb; (try simp only [decide_eq_true_eq, decide_eq_false_iff_not, Bool.not_eq_true', Bool.not_eq_false', ne_eq, Decidable.not_not, Option.isNone_iff_eq_none, not_true_eq_false, not_false_eq_true] at hb); try (exfalso; omega))) | fail)
    rw [e32]
    refine vl_o rfl (vo_call rfl rfl ?_)
    refine vc_mono (put_vc w0 _ (ps[j]).l.length 4 (by decide) (by decide) (by omega)) ?_
    rintro v L' ⟨a4, c4, rfl, rfl⟩
    have hd4 := digs_length (ps[j]).l.length 4
    have hsn : tagB k ((ls ps).take (j + 1)) = T ++ (digs (ps[j]).l.length 4 ++ (ps[j]).l) := by
      rw [List.take_succ_eq_append_getElem (by simpa [ls]), tagB_snoc, hT]; simp [ls]
    have hb2 := tagB_take k (ls ps) (j + 1)
    have hsl : (tagB k ((ls ps).take (j + 1))).length = T.length + 4 + (ps[j]).l.length := by rw [hsn]; simp; omega
    repeat' (first | (refine go1 ?_; intros) | (refine vl_caseG rfl rfl rfl rfl ?_ ?_ <;> (intro hb; (try simp only [decide_eq_true_eq, decide_eq_false_iff_not, Bool.not_eq_true', Bool.not_eq_false', ne_eq, Decidable.not_not, Option.isNone_iff_eq_none, not_true_eq_false, not_false_eq_true] at hb); try (exfalso; omega))) | (refine v_cond rfl ?_ ?_ <;> (intro hb; (try simp only [decide_eq_true_eq, decide_eq_false_iff_not, Bool.not_eq_true', Bool.not_eq_false', ne_eq, Decidable.not_not, Option.isNone_iff_eq_none, not_true_eq_false, not_false_eq_true] at hb); try (exfalso; omega))) | fail)
    rename_i a5 c5 _ _ a6 c6 _ _
    refine ⟨rfl, (j + 1, a6, c6), ⟨by omega, by dsimp only; omega⟩, by dsimp only; omega, ?_, ?_⟩
    · dsimp only
      rw [hsl]
      (repeat' (first | exact Sub.nil _ | refine Sub.cons rfl rfl ?_ | refine Sub.cons rfl ?_ ?_))
    · dsimp only
      unfold ownB
      rw [hsl, hsn, bvs_append, bvs_append, ← List.append_assoc]
      exact SE.ent (se_drop _ _) w0
  · obtain rfl : j = ps.length := by omega
    rw [List.take_of_length_le (by simp [ls])] at hT
    repeat' (first | (refine go1 ?_; intros) | (refine vl_caseG rfl rfl rfl rfl ?_ ?_ <;> (intro hb; (try simp only [decide_eq_true_eq, decide_eq_false_iff_not, Bool.not_eq_true', Bool.not_eq_false', ne_eq, Decidable.not_not, Option.isNone_iff_eq_none, not_true_eq_false, not_false_eq_true] at hb); try (exfalso; omega))) | (refine v_cond rfl ?_ ?_ <;> (intro hb; (try simp only [decide_eq_true_eq, decide_eq_false_iff_not, Bool.not_eq_true', Bool.not_eq_false', ne_eq, Decidable.not_not, Option.isNone_iff_eq_none, not_true_eq_false, not_false_eq_true] at hb); try (exfalso; omega))) | fail)
    subst hT
    exact ⟨_, _, rfl, hoc, rfl⟩
theorem tbytes_vc (w0 : World) (L : List Asn) (k : Nat) (hk : k < 256) (a : Option Addr) (cap : Nat) (ps : List PB) {n : Nat} (hn : n = ps.length) (hl : ps.length ≤ 8) (hx : ∀ x ∈ ls ps, x.length ≤ 300) [hr : RdC w0 L a (pbs ps)] [hp : RdPs w0 L ps] :
    VC Tryd.prog w0 12 [.int .u8 k, .slice a n cap] L fun v L' => ∃ a' cap', v = .slice a' (tagB k (ls ps)).length cap' ∧ (tagB k (ls ps)).length ≤ cap' ∧ L' = ownB a' cap' (tagB k (ls ps)) :: L :=
  tbytesG_vc w0 L k hk a cap ps hn (by
    have := tagB_bound k (ls ps) hx
    have h2 : (ls ps).length = ps.length := by simp [ls]
    omega)
end Go.Proofs.YthdijddgkmfbiaaDoor
namespace Go.Proofs.YthdijddgkmfbiaaDoor
open Go Go.RowKit
set_option linter.unusedVariables false
set_option linter.unusedSimpArgs false

def tls (D : List UInt8) (s j : Nat) : List UInt8 := List.replicate (s - j) 0 ++ D.drop (s - j)
theorem tls_length (D : List UInt8) {s : Nat} (hD : D.length = s) (j : Nat) (hj : j ≤ s) : (tls D s j).length = s := by
  simp only [tls, List.length_append, List.length_replicate, List.length_drop, hD]; omega
theorem tls_set (D : List UInt8) {s : Nat} (hD : D.length = s) (j : Nat) (hj : j < s) (x : UInt8) (hx : D[s - 1 - j]? = some x) : (tls D s j).set (s - 1 - j) x = tls D s (j + 1) := by
  obtain ⟨h1, rfl⟩ := List.getElem?_eq_some_iff.1 hx
  unfold tls
  rw [show s - j = (s - 1 - j) + 1 by omega, show s - (j + 1) = s - 1 - j by omega, List.replicate_succ', List.append_assoc, List.set_append_right _ _ (by simp), List.length_replicate, Nat.sub_self, List.singleton_append, List.set_cons_zero, List.drop_eq_getElem_cons h1]

theorem rdPs_nil (w0 : World) (L : List Asn) : RdPs w0 L [] := ⟨by simp⟩
theorem rdC_nil (w0 : World) (L : List Asn) (a : Option Addr) : RdC w0 L a [] := ⟨fun _ _ => .inl rfl⟩

end Go.Proofs.YthdijddgkmfbiaaDoor

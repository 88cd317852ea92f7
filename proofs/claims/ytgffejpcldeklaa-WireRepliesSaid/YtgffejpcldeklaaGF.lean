/-
  Parts held against parts. The kind and the parts of a text: the plain answer; the reference's reader. The program's reader of kinds and parts. The reader of kinds and parts answers as the second writing of it does. The writer of kinds and parts; how great parts are. Digits; the document's bytes of a kind and parts; digests of them.
-/
import Derived.Test.YtgffejpcldeklaaGB
import Derived.Test.YtgffejpcldeklaaGC
import Derived.Test.YtgffejpcldeklaaGE
set_option linter.unusedVariables false
set_option linter.unusedSimpArgs false
set_option linter.unusedSectionVars false

namespace Go.Proofs.Ytgffejpcldeklaa
open Go Go.RowKit

theorem take_eq_step {α : Type} {ls ms : List α} {k : Nat} (hk : k < ls.length) (hk' : k < ms.length) (h : ls.take k = ms.take k) (he : ls[k] = ms[k]) : ls.take (k + 1) = ms.take (k + 1) := by
  rw [List.take_succ_eq_append_getElem hk, List.take_succ_eq_append_getElem hk', h, he]
def ls (ps : List PB) : List (List UInt8) := ps.map (·.l)
end Go.Proofs.Ytgffejpcldeklaa
namespace Go.Proofs.Ytgffejpcldeklaa
open Go Go.RowKit

/-- The parts of bytes, and the error (0: none). -/
def partsG : Nat → List UInt8 → Int × List (List UInt8)
  | 0, _ => (0, [])
  | f + 1, l => if l.length = 0 then (0, []) else if l.length < 4 then (10, []) else
    if 4096 < numOf (l.take 4) then (4, []) else if l.length - 4 < numOf (l.take 4) then (10, []) else
    ((partsG f (l.drop (4 + numOf (l.take 4)))).1, (l.drop 4).take (numOf (l.take 4)) :: (partsG f (l.drop (4 + numOf (l.take 4)))).2)
def parts (l : List UInt8) : Int × List (List UInt8) := partsG l.length l
/-- What a text's reader answers. -/
def tagOf (l : List UInt8) : Nat × List (List UInt8) × Int :=
  if l.length = 0 then (0, [], 10) else if (parts (l.drop 1)).1 = 0 then ((l.getD 0 0).toNat, (parts (l.drop 1)).2, 0) else (0, [], (parts (l.drop 1)).1)
/-- With parts that have been read. -/
def more (acc : List (List UInt8)) (r : Int × List (List UInt8)) : Int × List (List UInt8) := (r.1, acc ++ r.2)

end Go.Proofs.Ytgffejpcldeklaa
namespace Go.Proofs.Ytgffejpcldeklaa
open Go Go.RowKit

def RTag (w0 : World) (L : List Asn) (l : List UInt8) (v : Value) (L' : List Asn) : Prop := ∃ L'', Ent w0 L' L'' ∧ ∃ a' cap' ps, v = .tuple #[.int .u8 (tagOf l).1, .slice a' ps.length cap', .int .i64 (tagOf l).2.2] ∧ ls ps = (tagOf l).2.1 ∧ L'' = own 30 1 a' ps.length cap' (pbs ps) :: psA ps :: L
theorem RTag.none {w0 : World} {L L1 : List Asn} {l : List UInt8} {e : Int} (hse : SE L1 L) (ht : tagOf l = (0, [], e)) : RTag w0 L l (.tuple #[.int .u8 0, .slice none 0 0, .int .i64 e]) L1 :=
  ⟨_, (hse.trans ((se_psA_nil L).trans (se_own_nil _ 1 _))).ent w0, Option.none, 0, [], by rw [ht]; rfl, by rw [ht]; rfl, rfl⟩
theorem subA_zero (a : Option Addr) (m s : Nat) : subA a 0 m s = a := by
  unfold subA
  split
  · rfl
  · cases a <;> simp [Addr.add]

end Go.Proofs.Ytgffejpcldeklaa
namespace Go.Proofs.Ytgffejpcldeklaa
open Go Go.RowKit

theorem u8_wrap (I : Int) : IntKind.u8.wrap I = ((UInt8.ofNat (I % 256).toNat).toNat : Int) := by
  rw [UInt8.toNat_ofNat']
  simp [IntKind.wrap, IntKind.bits, IntKind.signed]
  omega
theorem splice_set (l : List UInt8) (k : Nat) (h : k < l.length) (c : UInt8) : splice (bvs l) k [.int .u8 c.toNat] = bvs (l.set k c) := by
  have e1 : bvs l = (bvs l).take k ++ ([(bvs l)[k]'(by simpa)] ++ (bvs l).drop (k + 1)) := by simp
  rw [e1, splice_mid _ _ _ _ _ (by simp; omega) (by simp)]
  have e2 : l.set k c = l.take k ++ ([c] ++ l.drop (k + 1)) := by rw [List.set_eq_take_append_cons_drop, if_pos h]; rfl
  rw [e2]
  simp [bvs, bv]

end Go.Proofs.Ytgffejpcldeklaa
namespace Go.Proofs.Ytgffejpcldeklaa
open Go Go.RowKit
/-- Parts that could be read when the call began. -/
class RdAs (w0 : World) (ps : List PB) : Prop where
  out : ∀ p ∈ ps, RdA w0 p.a (bvs p.l)
/-- The bytes that stand for a kind and its parts. -/
def tagB (k : Nat) (xs : List (List UInt8)) : List UInt8 := UInt8.ofNat k :: xs.flatMap fun x => digs x.length 4 ++ x
end Go.Proofs.Ytgffejpcldeklaa
namespace Go.Proofs.Ytgffejpcldeklaa
open Go Go.RowKit

def tls (D : List UInt8) (s j : Nat) : List UInt8 := List.replicate (s - j) 0 ++ D.drop (s - j)
theorem tls_length (D : List UInt8) {s : Nat} (hD : D.length = s) (j : Nat) (hj : j ≤ s) : (tls D s j).length = s := by
  simp only [tls, List.length_append, List.length_replicate, List.length_drop, hD]; omega
theorem tls_set (D : List UInt8) {s : Nat} (hD : D.length = s) (j : Nat) (hj : j < s) (x : UInt8) (hx : D[s - 1 - j]? = some x) : (tls D s j).set (s - 1 - j) x = tls D s (j + 1) := by
  obtain ⟨h1, rfl⟩ := List.getElem?_eq_some_iff.1 hx
  unfold tls
  rw [show s - j = (s - 1 - j) + 1 by omega, show s - (j + 1) = s - 1 - j by omega, List.replicate_succ', List.append_assoc, List.set_append_right _ _ (by simp), List.length_replicate, Nat.sub_self, List.singleton_append, List.set_cons_zero, List.drop_eq_getElem_cons h1]

set_option maxHeartbeats 1000000 in
theorem digits_vc (w0 : World) (L : List Asn) (N s : Nat) (h0 : 0 < s) (h8 : s ≤ 8) (hN : N < 18446744073709551616) :
    VC Try.prog w0 75 [.int .u64 N, .int .i64 s] L fun v L' => ∃ a' c' b, v = .tuple #[.slice a' s c', .bool b] ∧ L' = ownB a' c' (digs N s) :: L := by
  refine vc_in rfl rfl ?_
  repeat' (first | (refine go1 ?_; intros) | (refine goCC ?_ ?_ <;> (intro hb; (try simp only [hSQ] at hb); try (exfalso; omega))) | fail)
  refine vl_o rfl (vo_make (m := s) rfl rfl rfl (by omega) (by omega) rfl ?_)
  intro g
  rw [madeB s]
  repeat' (first | (refine go1 ?_; intros) | (refine goCC ?_ ?_ <;> (intro hb; (try simp only [hSQ] at hb); try (exfalso; omega))) | fail)
  have hD8 := digs_length N s
  have hDat := fun j (hj : j < s) => digs_at N s j hj
  generalize digs N s = D at *
  refine v_loopF Nat [6] rfl (fun j => [(7, .int .i64 (((s - 1 : Nat) : Int) - (j : Int))), (0, .int .u64 ((N / 256 ^ j : Nat) : Int))]) (fun _ j => own 5 1 (some ⟨g, 0, none⟩) s s (bvs (tls D s j)) :: L) (fun j => j ≤ s) (fun j => s - j) 0 (Nat.zero_le _) (by rw [Nat.pow_zero, Nat.div_one, show (((s - 1 : Nat) : Int) - ((0 : Nat) : Int)) = ((s - 1 : Nat) : Int) by omega]; (exact sbS)) (by rw [show tls D s 0 = List.replicate s 0 by simp [tls, hD8]]; exact Ent.refl _ _) ?_
  intro j hjs
  have hT := tls_length D hD8 j hjs
  by_cases hj7 : j < s
  · have hD7 := hDat (s - 1 - j) (by omega)
    rw [show s - 1 - (s - 1 - j) = j by omega] at hD7
    have hst := tls_set D hD8 j hj7 _ hD7
    have hnl : N / 256 ^ j < 18446744073709551616 := Nat.lt_of_le_of_lt (Nat.div_le_self _ _) hN
    have hns : N / 256 ^ (j + 1) = N / 256 ^ j / 256 := by rw [Nat.pow_succ, Nat.div_div_eq_div_mul]
    generalize N / 256 ^ j = M at *
    generalize tls D s j = T at *
    repeat' (first | (refine go1 ?_; intros) | (refine goCC ?_ ?_ <;> (intro hb; (try simp only [hSQ] at hb); try (exfalso; omega))) | fail)
    refine ⟨rfl, j + 1, by omega, by omega, ?_, ?_⟩
    · rw [q256 M hnl, hns, show (((s - 1 : Nat) : Int) - (j : Int) - 1) = ((s - 1 : Nat) : Int) - ((j + 1 : Nat) : Int) by omega]
      (exact sbS)
    · rw [b256, show (((s - 1 : Nat) : Int) - (j : Int)).toNat * 1 = s - 1 - j by omega, splice_setB _ _ (by omega), hst]
      exact Ent.refl _ _
  obtain rfl : j = s := by omega
  rw [show tls D j j = D by simp [tls]]
  repeat' (first | (refine go1 ?_; intros) | (refine goCC ?_ ?_ <;> (intro hb; (try simp only [hSQ] at hb); try (exfalso; omega))) | fail)
  refine ⟨_, _, _, rfl, ?_⟩
  unfold ownB
  rw [hD8]

theorem rdC_nil (w0 : World) (L : List Asn) (a : Option Addr) : RdC w0 L a [] := ⟨fun _ _ => .inl rfl⟩

end Go.Proofs.Ytgffejpcldeklaa

/-
  A number's bytes, as the program puts them. A row of bytes turned into its own type (the translator's form of a constant's bytes): the row is marked, and can still be read. Words of 32 bits. Quotients of numbers. What is the same is not unlike. Laws for digests: what is left of a slice of one's own, variables of the program, an array as a slice. Numbers and their bytes: the one undoes the other. Bytes in arrays: the same, or not. Arrays of 32 bytes that are being filled. Bytes copied into an array. A piece of code cut off from what follows it; two operations that may come up in either order. Lists of things of one width, one behind another. What is held, in any order; several operations that may come up in any order; addresses and arrays inside of slices' elements.
-/
import Derived.Test.YtgffejpcldeklaaGB
import Derived.Test.YtgffejpcldeklaaGA
set_option linter.unusedVariables false
set_option linter.unusedSimpArgs false
set_option linter.unusedSectionVars false

namespace Go.Proofs.Ytgffejpcldeklaa
open Go Go.RowKit
attribute [simp] digs_length

theorem put_vc (w0 : World) (L : List Asn) (n s : Nat) (h0 : 0 < s) (h8 : s ≤ 8) (hn : n < 256 ^ s) :
    VC Try.prog w0 14 [.int .u64 n, .int .i64 s] L fun v L' => ∃ a' cap', v = .tuple #[.slice a' s cap', .int .i64 0] ∧ L' = ownB a' cap' (digs n s) :: L := by
  refine vc_mono (vc_fresh (R := fun v M => ∃ a' cap', v = .tuple #[.slice a' s cap', .int .i64 0] ∧ M = [ownB a' cap' (digs n s)]) (fun w hs => (put_calls n s h0 h8 hn w).mono ?_)) ?_
  · rintro e w' ⟨a', cap', rfl, hs⟩; rw [digs_length]; exact ⟨_, _, rfl, hs, _, _, rfl, rfl⟩
  · rintro v L' ⟨M, rfl, a', cap', rfl, rfl⟩; exact ⟨_, _, rfl, rfl⟩
theorem madeB (n : Nat) : (madeCells #[.int .u8 0] (n * 1)).toList = bvs (List.replicate n 0) := by
  rw [madeBytes]; simp

/-! ### Structs of which some fields are written out -/
def evP (fr : Fr) : List (Nat × Operand) → Option (List (Nat × List Value))
  | [] => some []
  | (i, x) :: ps => match evA fr x, evP fr ps with
    | some v, some vs => some ((i, v.cells.toList) :: vs)
    | _, _ => none
section
variable {P : Program} {w0 : World} {n : Nat} {ds : List Deferred} {fr : Fr} {L : List Asn} {dst : Option Nat} {ty : TypeId} {pos : String} {after : Array Edge} {gd : Option (Nat × Bool)} {t : TypeId}
theorem Kn.partsP {a : Act} (hk : Kn n ds a fr) : ∀ (parts : List (Nat × Operand)) (vs : List (Nat × List Value)), evP fr parts = some vs → parts.map (fun p => (p.1, (a.eval p.2).cells.toList)) = vs
  | [], vs, h => by simp only [evP, Option.some.injEq] at h; subst h; rfl
  | (i, x) :: ps, vs, h => by
    simp only [evP] at h
    split at h
    · rename_i v us h1 h2
      simp only [Option.some.injEq] at h
      subst h
      simp only [List.map_cons, hk.ev h1, hk.partsP ps us h2]
    · cases h
theorem vq_buildP {size bytes : Nat} {z cs : List Value} {parts : Array (Nat × Operand)} [ht : TyI P t true size bytes z] {pl : List (Nat × Nat)} [hf : FlI P t pl] {vs : List (Nat × List Value)} (hv : evP fr parts.toList = some vs) (hok : ∀ p ∈ vs, okS pl size p) (hcs : fillS pl z vs = cs) : VQ P w0 n ⟨dst, .build t parts, ty, pos, after, gd⟩ (.agg cs.toArray) ds fr L :=
  vq_val (fun a w hk hs => run_build t parts rfl ht hf vs (hk.partsP _ _ hv) hok cs hcs)
end
@[simp] theorem splice_len (cs : List Value) (k : Nat) (vs : List Value) (h : k + vs.length ≤ cs.length) : (splice cs k vs).length = cs.length := by
  simp [splice]; omega
end Go.Proofs.Ytgffejpcldeklaa
namespace Go.Proofs.Ytgffejpcldeklaa
open Go Go.RowKit

section
variable {P : Program} {w0 w : World} {L : List Asn} {o : Oper} {a : Act} {K : Act → World → Prop} {Q : Exit → Act → World → Prop}
theorem wp_convRow (t : TypeId) (x : Operand) (ho : o.op = .convert t t x) {g n cap : Nat} {e e' : TypeId} (hx : a.eval x = .slice (some ⟨g, 0, none⟩) n cap) (ht : P.underlying t = some (.slice e)) (he : P.underlying e = some (.int .u8))
    (hs : St w0 w L) (i : Nat) {sz n' cap' : Nat} {xs : List Value} (hi : L[i]? = some (own e' sz (some ⟨g, 0, none⟩) n' cap' xs))
    (h : ∀ w', St w0 w' (L.set i (rd (some ⟨g, 0, none⟩) xs)) → K (a.put o.dst (.slice (some ⟨g, 0, none⟩) n cap)) w') : Runs P o a w K Q := by
  have hk : ∃ cs, w.heap[g]? = some (.cells (List.toArray cs) e' (0, 0)) ∧ cs.take (n' * sz) = xs ∧ w0.heap.size ≤ g := by
    obtain ⟨F, hF, hb⟩ := hs.get i hi
    obtain ⟨h0, hF⟩ := hF
    rcases hF with ⟨e, _⟩ | ⟨g', off', cs, e, f, hg, r1, r2, r3, r4⟩
    · cases e
    · cases e; exact ⟨cs, hg, by simpa using r4, (hb g f).1⟩
  obtain ⟨cs, hg, hxs, hge⟩ := hk
  have hsh : w.shape? g = some (e', cs.length) := by unfold World.shape?; rw [hg]; simp
  have hoth : ∀ k, k ≠ g → (w.freeze ⟨g, cs.length, none⟩ 1).heap[k]? = w.heap[k]? := by
    intro k hk
    unfold World.freeze
    rw [if_neg (by decide)]
    show (w.heap.modify g _)[k]? = _
    rw [Array.getElem?_modify, if_neg (by omega)]
  have hown : (w.freeze ⟨g, cs.length, none⟩ 1).heap[g]? = some (.cells (List.toArray cs) e' (cs.length, cs.length + 1)) := by
    unfold World.freeze
    rw [if_neg (by decide)]
    show (w.heap.modify g _)[g]? = _
    rw [Array.getElem?_modify, if_pos rfl, hg]
    rfl
  have hsz : (w.freeze ⟨g, cs.length, none⟩ 1).heap.size = w.heap.size := by
    unfold World.freeze
    rw [if_neg (by decide)]
    show (w.heap.modify g _).size = _
    simp
  refine wp_val (v := .slice (some ⟨g, 0, none⟩) n cap) (w' := w.freeze ⟨g, cs.length, none⟩ 1) ?_ (h _ (hs.upd i hi (by omega) ?_ ?_ ?_ (fun k hk => hoth k (by omega)) (fun F hF _ => ⟨fun k _ _ hn => hoth k (fun e => hn ?_), ?_⟩)))
  · simp [execOp, ho, hx, convert, run_underlying ht, run_underlying he, markStringish, hsh]
  · unfold World.freeze; rfl
  · unfold World.freeze; rfl
  · unfold World.freeze; rfl
  · subst e
    obtain ⟨h0, hF⟩ := hF
    rcases hF with ⟨e, _⟩ | ⟨g', off', cs, e, f, _⟩
    · cases e
    · cases e; exact f
  · have hFg : F g := by
      obtain ⟨_, hF⟩ := hF
      rcases hF with ⟨e, _⟩ | ⟨g', off', cs, e, f, _⟩
      · cases e
      · cases e; exact f
    refine .inr ⟨g, .inl hFg, rfl, fun j u hu => ?_⟩
    unfold World.cell?
    rw [hown]
    rw [← hxs, List.getElem?_take] at hu
    split at hu
    · simpa using hu
    · cases hu
end

section
variable {P : Program} {ro : Option Nat} {w0 : World} {n : Nat} {ds : List Deferred} {fr : Fr} {L L' : List Asn} {Q : Exit → List Deferred → Fr → List Asn → Prop} {K : List Deferred → Fr → List Asn → Prop}
variable {d : Nat} {ty : TypeId} {pos : String} {after : Array Edge} {gd : Option (Nat × Bool)}
theorem vo_convRow {t e e' : TypeId} {x : Operand} {g m c i sz n' cap' : Nat} {xs : List Value} (hx : evA fr x = some (.slice (some ⟨g, 0, none⟩) m c)) [ht : UT P t (.slice e)] [he : UT P e (.int .u8)] [hb : HasOwn L (some ⟨g, 0, none⟩) i e' sz n' cap' xs] [hset : SetI L i (rd (some ⟨g, 0, none⟩) xs) L'] (hdn : Nat.blt d n = true)
    (h : K ds ((d, .slice (some ⟨g, 0, none⟩) m c) :: fr) L') : VO P ro w0 n ⟨some d, .convert t t x, ty, pos, after, gd⟩ K Q ds fr L :=
  vo_runs (fun _ => by simp) (fun a w hk hs => wp_convRow t x rfl (hk.ev hx) ht.out he.out hs i hb.out (fun w' hs' => ⟨_, _, _, hk.put d _ hdn, by rw [hset.out]; exact hs', h⟩))
theorem vq_eqBool {dst : Option Nat} {t yt : TypeId} {x y : Operand} {b c : Bool} (hx : evA fr x = some (.bool b)) (hy : evA fr y = some (.bool c)) [hu : UT P t .bool] : VQ P w0 n ⟨dst, .binOp .eql t x y yt, ty, pos, after, gd⟩ (.bool (b == c)) ds fr L :=
  vq_val (fun a w hk _ => by
    have e : (Op.equalIn (9999 + 1) t (Value.bool b) (Value.bool c)).run P w = .ok (b == c) w := by
      rw [Op.equalIn]
      simp [Sem.run_bind, run_underlying hu.out]
    simp [execOp, hk.ev hx, hk.ev hy, Sem.run_bind, eqGuard, binOp, Op.equal, Op.maxDepth]
    rw [e]; rfl)
end
end Go.Proofs.Ytgffejpcldeklaa
namespace Go.Proofs.Ytgffejpcldeklaa
open Go Go.RowKit

def wds (l : List UInt32) : List Value := l.map fun x => .int .u32 (x.toNat : Int)
@[simp] theorem wds_length (l : List UInt32) : (wds l).length = l.length := by simp [wds]
/-- Shifts by a number. -/
def shrN (x : UInt32) (n : Nat) : UInt32 := UInt32.ofNat (x.toNat / 2 ^ n)
def shlN (x : UInt32) (n : Nat) : UInt32 := UInt32.ofNat (x.toNat * 2 ^ n)
def rot (x : UInt32) (n : Nat) : UInt32 := shrN x n ||| shlN x (32 - n)

section
variable {P : Program} {w0 : World} {n : Nat} {ds : List Deferred} {fr : Fr} {L : List Asn} {dst : Option Nat} {ty : TypeId} {pos : String} {after : Array Edge} {gd : Option (Nat × Bool)} {t yt : TypeId} {x y : Operand}
/-- An array written out. -/
theorem vq_buildArr {agg : Bool} {size bytes m esize ebytes : Nat} {z ez : List Value} {e : TypeId} {parts : Array (Nat × Operand)} [ht : TyI P t true size bytes z] [hf : ArI P t e m agg esize ebytes ez] {vs : List (List Value)} {us : List Value} (hv : evCs fr 0 parts.toList = some vs) (hus : evF fr parts.toList = some us) (hp : plOf 0 (vs.map List.length) = (List.range m).map fun i => (i * esize, esize)) (hl : us.length = size) : VQ P w0 n ⟨dst, .build t parts, ty, pos, after, gd⟩ (.agg us.toArray) ds fr L :=
  vq_val (fun a w hk hs => by
    have he := evF_eq _ _ _ _ hv hus
    rw [← he]
    rw [← he] at hl
    refine run_buildArr t parts rfl ht hf _ (hk.parts _ _ _ hv) ?_ _ ?_
    · rw [← hp]; exact okS_all vs [] 0 size (by omega)
    · rw [← hp]
      have := fillS_all vs [] [] z 0 rfl (by rw [ht.len, hl])
      simpa using this)
end
section
variable {P : Program} {ro : Option Nat} {w0 : World} {n : Nat} {ds : List Deferred} {fr : Fr} {L L' Lf : List Asn} {Q : Exit → List Deferred → Fr → List Asn → Prop} {ops : Array Oper} {rest : List Oper} {fuel : Nat} {listed : List Bool} {E : List Nat} {d : Nat}
theorem vl_qW {o : Oper} {v : Value} (hg : o.guard = none) (hd : notDefer o.op = true) (hdst : o.dst = some d) (hdn : Nat.blt d n = true) (h : VL P ro w0 n ops Q rest ds ((d, v) :: fr) L) (hq : VQ P w0 n o v ds fr L := by (first | exact vq_move rfl | exact vq_assign rfl | (apply vq_isBin; first | (apply vq_isOp .add; exact vq_addW rfl rfl) | (apply vq_isOp .xor; exact vq_xorW rfl rfl) | (apply vq_isOp .and; exact vq_andW rfl rfl) | (apply vq_isOp .or; exact vq_orW rfl rfl) | (apply vq_isOp .sub; exact vq_notW rfl rfl) | (apply vq_isOp .mul; exact vq_mulW rfl rfl) | (apply vq_isOp .shr; exact vq_shrW rfl rfl (by omega)) | (apply vq_isOp .shl; exact vq_shlW rfl rfl (by omega))) | (apply vq_isUn; exact vq_complW rfl) | (apply vq_isConv; first | exact vq_conv8W rfl | exact vq_convW8 rfl) | (apply vq_isBuild; exact vq_buildArr rfl rfl (by rfl) (by rfl)) | (apply vq_isLoad; apply vq_isPt; exact rfl; apply vq_isOne; exact vq_ldG rfl (by assumption)) | (apply vq_isSlice; exact vq_sliceArr rfl rfl) | first | exact vq_move rfl | exact vq_assign rfl | (apply vq_isBin; first | exact vq_lt rfl rfl | exact vq_eq rfl rfl | exact vq_ne rfl rfl | (apply vq_isOp .add; exact vq_add rfl rfl (by first | exact wr_add (by omega) | exact wu_add (by omega) | exact wr_id (by omega) (by omega) | rfl)) | (apply vq_isOp .sub; exact vq_minus rfl rfl (by first | exact wr_sub (by omega) (by omega) | exact wu_sub (by omega) (by omega) | exact wr_id (by omega) (by omega) | rfl)) | exact vq_gt rfl rfl | exact vq_le rfl rfl | exact vq_ge rfl rfl | (apply vq_isOp .mul; exact vq_mul rfl rfl (by first | exact wr_mul (by omega) | exact wr_id (by omega) (by omega) | rfl)) | (apply vq_isOp .or; exact vq_or rfl rfl (by rfl)) | (apply vq_isOp .and; exact vq_and rfl rfl (by rfl)) | (apply vq_isOp .xor; exact vq_xor rfl rfl (by rfl)) | (apply vq_isOp .shl; exact vq_shl rfl rfl (by omega) (by rfl)) | (apply vq_isOp .shr; exact vq_shr rfl rfl (by omega) (by rfl)) | (apply vq_isOp .quo; exact vq_quo rfl rfl (by decide) (by first | exact q8_i64 (by omega) | exact q2_u8 (by omega) | exact q4_i64 (by omega) | assumption | rfl)) | (apply vq_isOp .rem; exact vq_rem rfl rfl (by decide) (by first | exact r8 | exact r2 | exact r4 | exact r64 | assumption | rfl)) | exact vq_eqNil rfl rfl | exact vq_eqBool rfl rfl | (apply vq_isOp .eql; exact vq_eqB rfl rfl (by first | assumption | (simp; done)) (by first | assumption | (simp; done))) | (apply vq_isOp .neq; first | exact vq_neBool rfl rfl | exact vq_neB rfl rfl (by first | assumption | (simp; done)) (by first | assumption | (simp; done)))) | (apply vq_isLoad; first | (apply vq_isPt; exact rfl; first | (apply vq_isOne; exact vq_ldB rfl (by first | rfl | assumption)) | (apply vq_isPt0; exact rfl; apply vq_isAgg; exact vq_ldW rfl (by first | rfl | assumption | (simp; done) | (simp; assumption))) | (apply vq_isAgg; exact vq_ldP rfl (by assumption) (by first | assumption | (simp; done) | (simp; assumption)))) | (apply vq_isPtA; exact rfl; first | (apply vq_isOne; exact vq_ld1 rfl (by first | assumption | rfl)) | exact vq_ldA rfl (by assumption) (by first | assumption | (simp; done) | (simp; assumption))) | fail) | exact vq_lenSl rfl | (apply vq_isIx; first | (apply vq_ixSl; exact rfl; exact vq_index rfl rfl (by omega) (by omega) (by first | assumption | (simp; done) | (simp; omega) | (rw [bvs_length]; omega)) (by first | exact ix_1 | exact ix_s _ | rfl)) | (apply vq_ixPt; exact rfl; exact vq_indexArr rfl rfl (by omega) (by omega) (by first | exact ix_1 | exact ix_s _ | rfl)) | exact vq_indexArrA rfl rfl (by first | assumption | (simp; done) | (rw [bvs_length]; omega) | (simp; omega)) (by omega) (by omega) (by first | exact ix_1 | exact ix_s _ | rfl)) | exact vq_extract rfl rfl | exact vq_pickT rfl rfl | exact vq_pickF rfl rfl | exact vq_fieldAddr rfl (by rfl) rfl | exact vq_fieldAddrO rfl (by first | assumption | (simp; done) | (simp; omega)) (by rfl) rfl | exact vq_makeFunc rfl rfl | exact vq_nilCheck rfl | (apply vq_isConv; exact vq_conv rfl (by first | exact wi_id (by omega) | exact wu_id (by omega) | exact wr_id (by omega) (by omega) | rfl)) | (apply vq_isUn; first | exact vq_not rfl | exact vq_xorU rfl (by rfl) | exact vq_neg rfl (by rfl)) | (apply vq_isSlice; first | exact vq_slice rfl (by first | exact bnd_none | exact bnd_nat rfl) (by first | exact bnd_none | exact bnd_nat rfl) (by first | exact bnd_none | exact bnd_nat rfl) rfl (by omega) (by omega) (by omega) | exact vq_sliceArr rfl rfl | exact vq_sliceArrO rfl (by first | assumption | (simp; done) | (simp; omega)) rfl) | (apply vq_isBuild; first | exact vq_build0 | exact vq_buildArr0 | exact vq_build rfl rfl (by first | rfl | (simp [plOf]; done)) (by first | rfl | (simp; done)) | exact vq_buildP rfl (by first | (simp [okS, Value.cells]; done) | (simp [okS, Value.cells]; omega)) rfl) | fail)) : VL P ro w0 n ops Q (o :: rest) ds fr L := vl_q hg hd hdst hdn hq h
theorem va_takeW (i : Nat) {oi : Oper} {v : Value} (hl : ops.toList[i]? = some oi) (hg : oi.guard = none) (hd : oi.dst = some d) (hdn : Nat.blt d n = true) (h : VA P ro w0 n ops Q E Lf fuel (listed.set i true) ds ((d, v) :: fr) L) (hc : mayTakeE ops E listed i = true := by kernel_rfl) (hp : noPanic Q := by exact (fun _ _ _ _ h => h)) (he : Ent w0 L Lf := by exact (SE.ent (by repeat' (first | exact SE.refl _ | refine SE.cons _ ?_ | refine SE.trans (se_drop _ _) ?_)) _)) (hq : VQ P w0 n oi v ds fr Lf := by (first | exact vq_move rfl | exact vq_assign rfl | (apply vq_isBin; first | (apply vq_isOp .add; exact vq_addW rfl rfl) | (apply vq_isOp .xor; exact vq_xorW rfl rfl) | (apply vq_isOp .and; exact vq_andW rfl rfl) | (apply vq_isOp .or; exact vq_orW rfl rfl) | (apply vq_isOp .sub; exact vq_notW rfl rfl) | (apply vq_isOp .mul; exact vq_mulW rfl rfl) | (apply vq_isOp .shr; exact vq_shrW rfl rfl (by omega)) | (apply vq_isOp .shl; exact vq_shlW rfl rfl (by omega))) | (apply vq_isUn; exact vq_complW rfl) | (apply vq_isConv; first | exact vq_conv8W rfl | exact vq_convW8 rfl) | (apply vq_isBuild; exact vq_buildArr rfl rfl (by rfl) (by rfl)) | (apply vq_isLoad; apply vq_isPt; exact rfl; apply vq_isOne; exact vq_ldG rfl (by assumption)) | (apply vq_isSlice; exact vq_sliceArr rfl rfl) | first | exact vq_move rfl | exact vq_assign rfl | (apply vq_isBin; first | exact vq_lt rfl rfl | exact vq_eq rfl rfl | exact vq_ne rfl rfl | (apply vq_isOp .add; exact vq_add rfl rfl (by first | exact wr_add (by omega) | exact wu_add (by omega) | exact wr_id (by omega) (by omega) | rfl)) | (apply vq_isOp .sub; exact vq_minus rfl rfl (by first | exact wr_sub (by omega) (by omega) | exact wu_sub (by omega) (by omega) | exact wr_id (by omega) (by omega) | rfl)) | exact vq_gt rfl rfl | exact vq_le rfl rfl | exact vq_ge rfl rfl | (apply vq_isOp .mul; exact vq_mul rfl rfl (by first | exact wr_mul (by omega) | exact wr_id (by omega) (by omega) | rfl)) | (apply vq_isOp .or; exact vq_or rfl rfl (by rfl)) | (apply vq_isOp .and; exact vq_and rfl rfl (by rfl)) | (apply vq_isOp .xor; exact vq_xor rfl rfl (by rfl)) | (apply vq_isOp .shl; exact vq_shl rfl rfl (by omega) (by rfl)) | (apply vq_isOp .shr; exact vq_shr rfl rfl (by omega) (by rfl)) | (apply vq_isOp .quo; exact vq_quo rfl rfl (by decide) (by first | exact q8_i64 (by omega) | exact q2_u8 (by omega) | exact q4_i64 (by omega) | assumption | rfl)) | (apply vq_isOp .rem; exact vq_rem rfl rfl (by decide) (by first | exact r8 | exact r2 | exact r4 | exact r64 | assumption | rfl)) | exact vq_eqNil rfl rfl | exact vq_eqBool rfl rfl | (apply vq_isOp .eql; exact vq_eqB rfl rfl (by first | assumption | (simp; done)) (by first | assumption | (simp; done))) | (apply vq_isOp .neq; first | exact vq_neBool rfl rfl | exact vq_neB rfl rfl (by first | assumption | (simp; done)) (by first | assumption | (simp; done)))) | (apply vq_isLoad; first | (apply vq_isPt; exact rfl; first | (apply vq_isOne; exact vq_ldB rfl (by first | rfl | assumption)) | (apply vq_isPt0; exact rfl; apply vq_isAgg; exact vq_ldW rfl (by first | rfl | assumption | (simp; done) | (simp; assumption))) | (apply vq_isAgg; exact vq_ldP rfl (by assumption) (by first | assumption | (simp; done) | (simp; assumption)))) | (apply vq_isPtA; exact rfl; first | (apply vq_isOne; exact vq_ld1 rfl (by first | assumption | rfl)) | exact vq_ldA rfl (by assumption) (by first | assumption | (simp; done) | (simp; assumption))) | fail) | exact vq_lenSl rfl | (apply vq_isIx; first | (apply vq_ixSl; exact rfl; exact vq_index rfl rfl (by omega) (by omega) (by first | assumption | (simp; done) | (simp; omega) | (rw [bvs_length]; omega)) (by first | exact ix_1 | exact ix_s _ | rfl)) | (apply vq_ixPt; exact rfl; exact vq_indexArr rfl rfl (by omega) (by omega) (by first | exact ix_1 | exact ix_s _ | rfl)) | exact vq_indexArrA rfl rfl (by first | assumption | (simp; done) | (rw [bvs_length]; omega) | (simp; omega)) (by omega) (by omega) (by first | exact ix_1 | exact ix_s _ | rfl)) | exact vq_extract rfl rfl | exact vq_pickT rfl rfl | exact vq_pickF rfl rfl | exact vq_fieldAddr rfl (by rfl) rfl | exact vq_fieldAddrO rfl (by first | assumption | (simp; done) | (simp; omega)) (by rfl) rfl | exact vq_makeFunc rfl rfl | exact vq_nilCheck rfl | (apply vq_isConv; exact vq_conv rfl (by first | exact wi_id (by omega) | exact wu_id (by omega) | exact wr_id (by omega) (by omega) | rfl)) | (apply vq_isUn; first | exact vq_not rfl | exact vq_xorU rfl (by rfl) | exact vq_neg rfl (by rfl)) | (apply vq_isSlice; first | exact vq_slice rfl (by first | exact bnd_none | exact bnd_nat rfl) (by first | exact bnd_none | exact bnd_nat rfl) (by first | exact bnd_none | exact bnd_nat rfl) rfl (by omega) (by omega) (by omega) | exact vq_sliceArr rfl rfl | exact vq_sliceArrO rfl (by first | assumption | (simp; done) | (simp; omega)) rfl) | (apply vq_isBuild; first | exact vq_build0 | exact vq_buildArr0 | exact vq_build rfl rfl (by first | rfl | (simp [plOf]; done)) (by first | rfl | (simp; done)) | exact vq_buildP rfl (by first | (simp [okS, Value.cells]; done) | (simp [okS, Value.cells]; omega)) rfl) | fail)) : VA P ro w0 n ops Q E Lf (fuel + 1) listed ds fr L := va_take i hl hg hd hdn hc hp he hq h
theorem va_takePW (i : Nat) {oi : Oper} {v : Value} (hl : ops.toList[i]? = some oi) (hg : oi.guard = none) (hd : oi.dst = some d) (hdn : Nat.blt d n = true) (h : VA P ro w0 n ops Q E Lf fuel (listed.set i true) ds ((d, v) :: fr) L) (hc : mayTake ops E listed i = true := by kernel_rfl) (hp : noPanic Q := by exact (fun _ _ _ _ h => h)) (he : anyE E listed.toArray = true := by kernel_rfl) (hq : VQ P w0 n oi v ds fr [] := by (first | exact vq_move rfl | exact vq_assign rfl | (apply vq_isBin; first | (apply vq_isOp .add; exact vq_addW rfl rfl) | (apply vq_isOp .xor; exact vq_xorW rfl rfl) | (apply vq_isOp .and; exact vq_andW rfl rfl) | (apply vq_isOp .or; exact vq_orW rfl rfl) | (apply vq_isOp .sub; exact vq_notW rfl rfl) | (apply vq_isOp .mul; exact vq_mulW rfl rfl) | (apply vq_isOp .shr; exact vq_shrW rfl rfl (by omega)) | (apply vq_isOp .shl; exact vq_shlW rfl rfl (by omega))) | (apply vq_isUn; exact vq_complW rfl) | (apply vq_isConv; first | exact vq_conv8W rfl | exact vq_convW8 rfl) | (apply vq_isBuild; exact vq_buildArr rfl rfl (by rfl) (by rfl)) | (apply vq_isLoad; apply vq_isPt; exact rfl; apply vq_isOne; exact vq_ldG rfl (by assumption)) | (apply vq_isSlice; exact vq_sliceArr rfl rfl) | first | exact vq_move rfl | exact vq_assign rfl | (apply vq_isBin; first | exact vq_lt rfl rfl | exact vq_eq rfl rfl | exact vq_ne rfl rfl | (apply vq_isOp .add; exact vq_add rfl rfl (by first | exact wr_add (by omega) | exact wu_add (by omega) | exact wr_id (by omega) (by omega) | rfl)) | (apply vq_isOp .sub; exact vq_minus rfl rfl (by first | exact wr_sub (by omega) (by omega) | exact wu_sub (by omega) (by omega) | exact wr_id (by omega) (by omega) | rfl)) | exact vq_gt rfl rfl | exact vq_le rfl rfl | exact vq_ge rfl rfl | (apply vq_isOp .mul; exact vq_mul rfl rfl (by first | exact wr_mul (by omega) | exact wr_id (by omega) (by omega) | rfl)) | (apply vq_isOp .or; exact vq_or rfl rfl (by rfl)) | (apply vq_isOp .and; exact vq_and rfl rfl (by rfl)) | (apply vq_isOp .xor; exact vq_xor rfl rfl (by rfl)) | (apply vq_isOp .shl; exact vq_shl rfl rfl (by omega) (by rfl)) | (apply vq_isOp .shr; exact vq_shr rfl rfl (by omega) (by rfl)) | (apply vq_isOp .quo; exact vq_quo rfl rfl (by decide) (by first | exact q8_i64 (by omega) | exact q2_u8 (by omega) | exact q4_i64 (by omega) | assumption | rfl)) | (apply vq_isOp .rem; exact vq_rem rfl rfl (by decide) (by first | exact r8 | exact r2 | exact r4 | exact r64 | assumption | rfl)) | exact vq_eqNil rfl rfl | exact vq_eqBool rfl rfl | (apply vq_isOp .eql; exact vq_eqB rfl rfl (by first | assumption | (simp; done)) (by first | assumption | (simp; done))) | (apply vq_isOp .neq; first | exact vq_neBool rfl rfl | exact vq_neB rfl rfl (by first | assumption | (simp; done)) (by first | assumption | (simp; done)))) | (apply vq_isLoad; first | (apply vq_isPt; exact rfl; first | (apply vq_isOne; exact vq_ldB rfl (by first | rfl | assumption)) | (apply vq_isPt0; exact rfl; apply vq_isAgg; exact vq_ldW rfl (by first | rfl | assumption | (simp; done) | (simp; assumption))) | (apply vq_isAgg; exact vq_ldP rfl (by assumption) (by first | assumption | (simp; done) | (simp; assumption)))) | (apply vq_isPtA; exact rfl; first | (apply vq_isOne; exact vq_ld1 rfl (by first | assumption | rfl)) | exact vq_ldA rfl (by assumption) (by first | assumption | (simp; done) | (simp; assumption))) | fail) | exact vq_lenSl rfl | (apply vq_isIx; first | (apply vq_ixSl; exact rfl; exact vq_index rfl rfl (by omega) (by omega) (by first | assumption | (simp; done) | (simp; omega) | (rw [bvs_length]; omega)) (by first | exact ix_1 | exact ix_s _ | rfl)) | (apply vq_ixPt; exact rfl; exact vq_indexArr rfl rfl (by omega) (by omega) (by first | exact ix_1 | exact ix_s _ | rfl)) | exact vq_indexArrA rfl rfl (by first | assumption | (simp; done) | (rw [bvs_length]; omega) | (simp; omega)) (by omega) (by omega) (by first | exact ix_1 | exact ix_s _ | rfl)) | exact vq_extract rfl rfl | exact vq_pickT rfl rfl | exact vq_pickF rfl rfl | exact vq_fieldAddr rfl (by rfl) rfl | exact vq_fieldAddrO rfl (by first | assumption | (simp; done) | (simp; omega)) (by rfl) rfl | exact vq_makeFunc rfl rfl | exact vq_nilCheck rfl | (apply vq_isConv; exact vq_conv rfl (by first | exact wi_id (by omega) | exact wu_id (by omega) | exact wr_id (by omega) (by omega) | rfl)) | (apply vq_isUn; first | exact vq_not rfl | exact vq_xorU rfl (by rfl) | exact vq_neg rfl (by rfl)) | (apply vq_isSlice; first | exact vq_slice rfl (by first | exact bnd_none | exact bnd_nat rfl) (by first | exact bnd_none | exact bnd_nat rfl) (by first | exact bnd_none | exact bnd_nat rfl) rfl (by omega) (by omega) (by omega) | exact vq_sliceArr rfl rfl | exact vq_sliceArrO rfl (by first | assumption | (simp; done) | (simp; omega)) rfl) | (apply vq_isBuild; first | exact vq_build0 | exact vq_buildArr0 | exact vq_build rfl rfl (by first | rfl | (simp [plOf]; done)) (by first | rfl | (simp; done)) | exact vq_buildP rfl (by first | (simp [okS, Value.cells]; done) | (simp [okS, Value.cells]; omega)) rfl) | fail)) : VA P ro w0 n ops Q E Lf (fuel + 1) listed ds fr L := va_takeP i hl hg hd hdn hc hp (.inr he) hq h
end
end Go.Proofs.Ytgffejpcldeklaa
namespace Go.Proofs.Ytgffejpcldeklaa
open Go Go.RowKit

theorem q8_i64 {m : Nat} (h : m < 9223372036854775808) : IntKind.i64.wrap ((m : Int).tdiv 8) = ((m / 8 : Nat) : Int) := by
  rw [Int.tdiv_eq_ediv_of_nonneg (by omega)]
  simp only [IntKind.wrap_i64]; omega
theorem q2_u8 {m : Nat} (h : m < 256) : IntKind.u8.wrap ((m : Int).tdiv 2) = ((m / 2 : Nat) : Int) := by
  rw [Int.tdiv_eq_ediv_of_nonneg (by omega)]
  simp only [IntKind.wrap_u8]; omega
theorem q4_i64 {m : Nat} (h : m < 9223372036854775808) : IntKind.i64.wrap ((m : Int).tdiv 4) = ((m / 4 : Nat) : Int) := by
  rw [Int.tdiv_eq_ediv_of_nonneg (by omega)]
  simp only [IntKind.wrap_i64]; omega
theorem r_nat {m p : Nat} : (m : Int).tmod (p : Int) = ((m % p : Nat) : Int) := by
  rw [Int.tmod_eq_emod_of_nonneg (by omega)]; simp
theorem r8 {m : Nat} : (m : Int).tmod 8 = ((m % 8 : Nat) : Int) := r_nat (p := 8)
theorem r2 {m : Nat} : (m : Int).tmod 2 = ((m % 2 : Nat) : Int) := r_nat (p := 2)
theorem r4 {m : Nat} : (m : Int).tmod 4 = ((m % 4 : Nat) : Int) := r_nat (p := 4)
theorem r64 {m : Nat} : (m : Int).tmod 64 = ((m % 64 : Nat) : Int) := r_nat (p := 64)

section
variable {P : Program} {ro : Option Nat} {w0 : World} {n : Nat} {ds : List Deferred} {fr : Fr} {L Lf : List Asn} {Q : Exit → List Deferred → Fr → List Asn → Prop} {ops : Array Oper} {fuel : Nat} {listed : List Bool} {E : List Nat}
/-- An operation whose guard was itself passed over. -/
theorem va_passU (i : Nat) {oi oj : Oper} {d j dj : Nat} {want : Bool} (hl : ops.toList[i]? = some oi) (hg : oi.guard = some (j, want)) (hj : ops.toList[j]? = some oj) (hdj : oj.dst = some dj) (hv : look fr dj = some undef) (hd : oi.dst = some d) (hdn : Nat.blt d n = true) (hc : mayTake ops E listed i = true) (hp : noPanic Q) (he : Ent w0 L Lf ∨ anyE E listed.toArray = true)
    (h : VA P ro w0 n ops Q E Lf fuel (listed.set i true) ds ((d, undef) :: fr) L) : VA P ro w0 n ops Q E Lf (fuel + 1) listed ds fr L :=
  take_core i hl hd hdn hc hp (.inl rfl) he (fun a w hk hs => .inr ⟨by
    have hj' : ops[j]? = some oj := by rw [← hj]; simp
    have hv' := hk.at' dj _ hv
    simp [Region.wanted, hg, yielded, hj', hdj, hv', undef], rfl⟩) h

theorem goCC {φ a b : Prop} (h1 : a) (h2 : b) (hc : a → b → φ := by intro h1 h2; first | exact vl_caseG rfl rfl rfl rfl h1 h2 | exact v_cond rfl h1 h2) : φ := hc h1 h2
theorem goV {φ ψ : Prop} (h : ψ) (hc : ψ → φ := by intro h; (first | (exact vo_box rfl rfl rfl  h) | (exact vo_alloc rfl  h) | (refine vo_isStore ?_; first | (refine vo_isPt0 rfl ?_; exact vo_stWA rfl rfl h) | (refine vo_isPt rfl ?_; exact vo_stBA rfl rfl h) | (exact vo_stO rfl rfl (by rfl) (by first | rfl | assumption) (by first | assumption | (simp; done) | (simp; omega) | omega) rfl h)) | (refine vo_isCall ?_; first | (refine vo_isApp ?_; first | (exact vo_append0A rfl rfl rfl  h) | (exact vo_appendA rfl rfl rfl  h)) | (refine vo_isCopy ?_; exact vo_copyB rfl rfl rfl (by assumption) (by assumption) (by assumption) (by assumption) h) | exact vo_yield rfl rfl rfl rfl rfl h | exact vo_callV rfl rfl rfl (vc_in rfl rfl h)) | exact vo_convRow rfl rfl h | (refine vo_isBs ?_; exact vo_buildSlice rfl rfl rfl (by decide) (by repeat' (first | exact trivial | rfl | assumption | refine ⟨?_, ?_⟩ | (simp; done) | (simp; omega))) (by decide) rfl  h) | (exact vo_buildSlice0 rfl  h) | fail)) : φ := hc h
theorem clV {f : FuncId} {d : Nat} {xs : Array Operand} {ts : Array TypeId} {ty : TypeId} {pos : String} {after : Array Edge} {args : List Value} {rest : List Oper} (h : VC P w0 f args L fun v L' => VL P ro w0 n ops Q rest ds ((d, v) :: fr) L') (hx : evAs fr xs.toList = some args := by rfl) [hf : FnB P f] (hdn : Nat.blt d n = true := by rfl) : VL P ro w0 n ops Q (⟨some d, .call { callee := .value (.func f), args := xs, argTypes := ts }, ty, pos, after, none⟩ :: rest) ds fr L := vl_o rfl (vo_call hx hdn h)
theorem sbS {A B : Fr} (h : Sub A B := by (repeat' (first | exact Sub.nil _ | refine Sub.cons rfl rfl ?_ | refine Sub.cons rfl ?_ ?_))) : Sub A B := h
theorem entD {A B : List Asn} (h : SE A B := by repeat' (first | exact SE.refl _ | refine SE.cons _ ?_ | refine SE.trans (se_drop _ _) ?_)) : Ent w0 A B := h.ent w0
theorem qA {o : Oper} {v : Value} (h : VQ P w0 n o v ds fr L := by (first | exact vq_move rfl | exact vq_assign rfl | (apply vq_isBin; first | exact vq_lt rfl rfl | exact vq_eq rfl rfl | exact vq_ne rfl rfl | (apply vq_isOp .add; exact vq_add rfl rfl (by first | exact wr_add (by omega) | exact wu_add (by omega) | exact wr_id (by omega) (by omega) | rfl)) | (apply vq_isOp .sub; exact vq_minus rfl rfl (by first | exact wr_sub (by omega) (by omega) | exact wu_sub (by omega) (by omega) | exact wr_id (by omega) (by omega) | rfl)) | exact vq_gt rfl rfl | exact vq_le rfl rfl | exact vq_ge rfl rfl | (apply vq_isOp .mul; exact vq_mul rfl rfl (by first | exact wr_mul (by omega) | exact wr_id (by omega) (by omega) | rfl)) | (apply vq_isOp .or; exact vq_or rfl rfl (by rfl)) | (apply vq_isOp .and; exact vq_and rfl rfl (by rfl)) | (apply vq_isOp .xor; exact vq_xor rfl rfl (by rfl)) | (apply vq_isOp .shl; exact vq_shl rfl rfl (by omega) (by rfl)) | (apply vq_isOp .shr; exact vq_shr rfl rfl (by omega) (by rfl)) | (apply vq_isOp .quo; exact vq_quo rfl rfl (by decide) (by first | exact q8_i64 (by omega) | exact q2_u8 (by omega) | exact q4_i64 (by omega) | assumption | rfl)) | (apply vq_isOp .rem; exact vq_rem rfl rfl (by decide) (by first | exact r8 | exact r2 | exact r4 | exact r64 | assumption | rfl)) | exact vq_eqNil rfl rfl | exact vq_eqBool rfl rfl | (apply vq_isOp .eql; exact vq_eqB rfl rfl (by first | assumption | (simp; done)) (by first | assumption | (simp; done))) | (apply vq_isOp .neq; first | exact vq_neBool rfl rfl | exact vq_neB rfl rfl (by first | assumption | (simp; done)) (by first | assumption | (simp; done)))) | (apply vq_isLoad; first | (apply vq_isPt; exact rfl; first | (apply vq_isOne; exact vq_ldB rfl (by first | rfl | assumption)) | (apply vq_isPt0; exact rfl; apply vq_isAgg; exact vq_ldW rfl (by first | rfl | assumption | (simp; done) | (simp; assumption))) | (apply vq_isAgg; exact vq_ldP rfl (by assumption) (by first | assumption | (simp; done) | (simp; assumption)))) | (apply vq_isPtA; exact rfl; first | (apply vq_isOne; exact vq_ld1 rfl (by first | assumption | rfl)) | exact vq_ldA rfl (by assumption) (by first | assumption | (simp; done) | (simp; assumption))) | fail) | exact vq_lenSl rfl | (apply vq_isIx; first | (apply vq_ixSl; exact rfl; exact vq_index rfl rfl (by omega) (by omega) (by first | assumption | (simp; done) | (simp; omega) | (rw [bvs_length]; omega)) (by first | exact ix_1 | exact ix_s _ | rfl)) | (apply vq_ixPt; exact rfl; exact vq_indexArr rfl rfl (by omega) (by omega) (by first | exact ix_1 | exact ix_s _ | rfl)) | exact vq_indexArrA rfl rfl (by first | assumption | (simp; done) | (rw [bvs_length]; omega) | (simp; omega)) (by omega) (by omega) (by first | exact ix_1 | exact ix_s _ | rfl)) | exact vq_extract rfl rfl | exact vq_pickT rfl rfl | exact vq_pickF rfl rfl | exact vq_fieldAddr rfl (by rfl) rfl | exact vq_fieldAddrO rfl (by first | assumption | (simp; done) | (simp; omega)) (by rfl) rfl | exact vq_makeFunc rfl rfl | exact vq_nilCheck rfl | (apply vq_isConv; exact vq_conv rfl (by first | exact wi_id (by omega) | exact wu_id (by omega) | exact wr_id (by omega) (by omega) | rfl)) | (apply vq_isUn; first | exact vq_not rfl | exact vq_xorU rfl (by rfl) | exact vq_neg rfl (by rfl)) | (apply vq_isSlice; first | exact vq_slice rfl (by first | exact bnd_none | exact bnd_nat rfl) (by first | exact bnd_none | exact bnd_nat rfl) (by first | exact bnd_none | exact bnd_nat rfl) rfl (by omega) (by omega) (by omega) | exact vq_sliceArr rfl rfl | exact vq_sliceArrO rfl (by first | assumption | (simp; done) | (simp; omega)) rfl) | (apply vq_isBuild; first | exact vq_build0 | exact vq_buildArr0 | exact vq_build rfl rfl (by first | rfl | (simp [plOf]; done)) (by first | rfl | (simp; done)) | exact vq_buildP rfl (by first | (simp [okS, Value.cells]; done) | (simp [okS, Value.cells]; omega)) rfl) | fail)) : VQ P w0 n o v ds fr L := h
theorem tA (i : Nat) {oi : Oper} {d : Nat} {v : Value} (h : VA P ro w0 n ops Q E Lf fuel (listed.set i true) ds ((d, v) :: fr) L) (hl : ops.toList[i]? = some oi := by rfl) (hg : oi.guard = none := by rfl) (hd : oi.dst = some d := by rfl) (hdn : Nat.blt d n = true := by rfl) (hc : mayTakeE ops E listed i = true := by kernel_rfl) (hp : noPanic Q := by exact fun _ _ _ _ h => h) (he : Ent w0 L Lf := by exact entD) (hq : VQ P w0 n oi v ds fr Lf := by exact qA) : VA P ro w0 n ops Q E Lf (fuel + 1) listed ds fr L := va_take i hl hg hd hdn hc hp he hq h
theorem tP (i : Nat) {oi : Oper} {d : Nat} {v : Value} (h : VA P ro w0 n ops Q E Lf fuel (listed.set i true) ds ((d, v) :: fr) L) (hl : ops.toList[i]? = some oi := by rfl) (hg : oi.guard = none := by rfl) (hd : oi.dst = some d := by rfl) (hdn : Nat.blt d n = true := by rfl) (hc : mayTake ops E listed i = true := by kernel_rfl) (hp : noPanic Q := by exact fun _ _ _ _ h => h) (he : anyE E listed.toArray = true := by kernel_rfl) (hq : VQ P w0 n oi v ds fr [] := by exact qA) : VA P ro w0 n ops Q E Lf (fuel + 1) listed ds fr L := va_takeP i hl hg hd hdn hc hp (.inr he) hq h
theorem tG (i : Nat) {oi oj : Oper} {d j dj : Nat} {want b : Bool} {v : Value} (h : VA P ro w0 n ops Q E Lf fuel (listed.set i true) ds ((d, v) :: fr) L) (hl : ops.toList[i]? = some oi := by rfl) (hg : oi.guard = some (j, want) := by rfl) (hj : ops.toList[j]? = some oj := by rfl) (hdj : oj.dst = some dj := by rfl) (hv : look fr dj = some (.bool b) := by rfl) (hb : b = want := by rfl) (hd : oi.dst = some d := by rfl) (hdn : Nat.blt d n = true := by rfl) (hc : mayTakeE ops E listed i = true := by kernel_rfl) (hp : noPanic Q := by exact fun _ _ _ _ h => h) (he : Ent w0 L Lf := by exact entD) (hq : VQ P w0 n oi v ds fr Lf := by exact qA) : VA P ro w0 n ops Q E Lf (fuel + 1) listed ds fr L := va_takeG i hl hg hj hdj hv hb hd hdn hc hp he hq h
theorem pG (i : Nat) {oi oj : Oper} {d j dj : Nat} {want b : Bool} (h : VA P ro w0 n ops Q E Lf fuel (listed.set i true) ds ((d, undef) :: fr) L) (hl : ops.toList[i]? = some oi := by rfl) (hg : oi.guard = some (j, want) := by rfl) (hj : ops.toList[j]? = some oj := by rfl) (hdj : oj.dst = some dj := by rfl) (hv : look fr dj = some (.bool b) := by rfl) (hb : b = !want := by rfl) (hd : oi.dst = some d := by rfl) (hdn : Nat.blt d n = true := by rfl) (hc : mayTake ops E listed i = true := by kernel_rfl) (hp : noPanic Q := by exact fun _ _ _ _ h => h) (he : Ent w0 L Lf := by exact entD) : VA P ro w0 n ops Q E Lf (fuel + 1) listed ds fr L := va_passG i hl hg hj hdj hv hb hd hdn hc hp (.inl he) h
theorem pB (i : Nat) {oi oj : Oper} {d j dj : Nat} {want b : Bool} (h : VA P ro w0 n ops Q E Lf fuel (listed.set i true) ds ((d, undef) :: fr) L) (hl : ops.toList[i]? = some oi := by rfl) (hg : oi.guard = some (j, want) := by rfl) (hj : ops.toList[j]? = some oj := by rfl) (hdj : oj.dst = some dj := by rfl) (hv : look fr dj = some (.bool b) := by rfl) (hb : b = !want := by rfl) (hd : oi.dst = some d := by rfl) (hdn : Nat.blt d n = true := by rfl) (hc : mayTake ops E listed i = true := by kernel_rfl) (hp : noPanic Q := by exact fun _ _ _ _ h => h) (he : anyE E listed.toArray = true := by kernel_rfl) : VA P ro w0 n ops Q E Lf (fuel + 1) listed ds fr L := va_passG i hl hg hj hdj hv hb hd hdn hc hp (.inr he) h
theorem pU (i : Nat) {oi oj : Oper} {d j dj : Nat} {want : Bool} (h : VA P ro w0 n ops Q E Lf fuel (listed.set i true) ds ((d, undef) :: fr) L) (hl : ops.toList[i]? = some oi := by rfl) (hg : oi.guard = some (j, want) := by rfl) (hj : ops.toList[j]? = some oj := by rfl) (hdj : oj.dst = some dj := by rfl) (hv : look fr dj = some undef := by rfl) (hd : oi.dst = some d := by rfl) (hdn : Nat.blt d n = true := by rfl) (hc : mayTake ops E listed i = true := by kernel_rfl) (hp : noPanic Q := by exact fun _ _ _ _ h => h) (he : Ent w0 L Lf := by exact entD) : VA P ro w0 n ops Q E Lf (fuel + 1) listed ds fr L := va_passU i hl hg hj hdj hv hd hdn hc hp (.inl he) h
theorem pV (i : Nat) {oi oj : Oper} {d j dj : Nat} {want : Bool} (h : VA P ro w0 n ops Q E Lf fuel (listed.set i true) ds ((d, undef) :: fr) L) (hl : ops.toList[i]? = some oi := by rfl) (hg : oi.guard = some (j, want) := by rfl) (hj : ops.toList[j]? = some oj := by rfl) (hdj : oj.dst = some dj := by rfl) (hv : look fr dj = some undef := by rfl) (hd : oi.dst = some d := by rfl) (hdn : Nat.blt d n = true := by rfl) (hc : mayTake ops E listed i = true := by kernel_rfl) (hp : noPanic Q := by exact fun _ _ _ _ h => h) (he : anyE E listed.toArray = true := by kernel_rfl) : VA P ro w0 n ops Q E Lf (fuel + 1) listed ds fr L := va_passU i hl hg hj hdj hv hd hdn hc hp (.inr he) h
end
end Go.Proofs.Ytgffejpcldeklaa
namespace Go.Proofs.Ytgffejpcldeklaa
open Go Go.RowKit

section
variable {P : Program} {w0 : World} {n : Nat} {ds : List Deferred} {fr : Fr} {L : List Asn} {dst : Option Nat} {ty : TypeId} {pos : String} {after : Array Edge} {gd : Option (Nat × Bool)}
theorem vq_neS {t yt : TypeId} {x y : Operand} {k : IntKind} {m : Int} (hx : evA fr x = some (.int k m)) (hy : evA fr y = some (.int k m)) : VQ P w0 n ⟨dst, .binOp .neq t x y yt, ty, pos, after, gd⟩ (.bool false) ds fr L := by
  have h := vq_ne (P := P) (w0 := w0) (n := n) (ds := ds) (L := L) (dst := dst) (ty := ty) (pos := pos) (after := after) (gd := gd) (t := t) (yt := yt) hx hy
  rwa [decide_eq_false (by simp)] at h
theorem vq_neBool {t yt : TypeId} {x y : Operand} {b c : Bool} (hx : evA fr x = some (.bool b)) (hy : evA fr y = some (.bool c)) [hu : UT P t .bool] : VQ P w0 n ⟨dst, .binOp .neq t x y yt, ty, pos, after, gd⟩ (.bool (b != c)) ds fr L :=
  vq_val (fun a w hk _ => by
    have e : (Op.equalIn (9999 + 1) t (Value.bool b) (Value.bool c)).run P w = .ok (b == c) w := by
      rw [Op.equalIn]
      simp [Sem.run_bind, run_underlying hu.out]
    simp [execOp, hk.ev hx, hk.ev hy, Sem.run_bind, eqGuard, binOp, Op.equal, Op.maxDepth]
    rw [e]; rfl)
theorem vq_neBoolS {t yt : TypeId} {x y : Operand} {b : Bool} (hx : evA fr x = some (.bool b)) (hy : evA fr y = some (.bool b)) [hu : UT P t .bool] : VQ P w0 n ⟨dst, .binOp .neq t x y yt, ty, pos, after, gd⟩ (.bool false) ds fr L := by
  have h := vq_neBool (P := P) (w0 := w0) (n := n) (ds := ds) (L := L) (dst := dst) (ty := ty) (pos := pos) (after := after) (gd := gd) (t := t) (yt := yt) hx hy
  rwa [bne_self_eq_false] at h
theorem vq_indexArrA {t e : TypeId} {agg : Bool} {size bytes : Nat} {z : List Value} {x i : Operand} {a0 : Option Addr} {k m kk : Nat} {q : IntKind} {I : Int} {vs : List Value} (hx : evA fr x = some (.pointer (offA a0 k))) (hi : evA fr i = some (.int q I)) [hu : ArI P t e m agg size bytes z] [hr : RdC w0 L a0 vs] (hl : 0 < vs.length) (h0 : 0 ≤ I) (h1 : I < m) (hk : I.toNat * size = kk) :
    VQ P w0 n ⟨dst, .indexAddr t x i, ty, pos, after, gd⟩ (.pointer (offA a0 (k + kk))) ds fr L :=
  vq_val (fun a w hkn hs => by
    subst hk
    obtain ⟨b, off, rfl, _⟩ := (hr.out w hs).read (by rintro rfl; simp at hl)
    rw [offA_some] at hx
    have hI : I.toNat < m := by omega
    simp [execOp, hkn.ev hx, hkn.ev hi, Instr.indexAt, asIntOf, run_underlying hu.arr, hu.el.run_size, h0, h1, Instr.sureAddr, addr_add, offA_some, Nat.add_assoc])
theorem vq_eqBS {t yt : TypeId} {x y : Operand} {m : Nat} {xs : List UInt8} (hx : evA fr x = some (.agg (bvs xs).toArray)) (hy : evA fr y = some (.agg (bvs xs).toArray)) [he : EqI P t (List.replicate m (some .u8))] (hlx : xs.length = m) : VQ P w0 n ⟨dst, .binOp .eql t x y yt, ty, pos, after, gd⟩ (.bool true) ds fr L :=
  vq_val (fun a w hk _ => by
    have h := run_eqAgg (o := ⟨dst, .binOp .eql t x y yt, ty, pos, after, gd⟩) (a := a) (w := w) t yt x y rfl he (bvs xs) (bvs xs) (hk.ev hx) (hk.ev hy) (hlx ▸ fits_bvs xs) (hlx ▸ fits_bvs xs) True (by simp)
    simpa using h)
end
section
variable {P : Program} {ro : Option Nat} {w0 : World} {n : Nat} {ds : List Deferred} {fr : Fr} {L : List Asn} {Q : Exit → List Deferred → Fr → List Asn → Prop} {ops : Array Oper} {rest : List Oper} {d : Nat}
end
end Go.Proofs.Ytgffejpcldeklaa
namespace Go.Proofs.Ytgffejpcldeklaa
open Go Go.RowKit

section
variable {P : Program} {ro : Option Nat} {w0 : World} {n : Nat} {ds : List Deferred} {fr : Fr} {L L' : List Asn} {Q : Exit → List Deferred → Fr → List Asn → Prop}
variable {ty : TypeId} {pos : String} {after : Array Edge} {dst : Option Nat} {gd : Option (Nat × Bool)} {e t : TypeId} {agg : Bool} {size bytes : Nat} {z : List Value}
/-- An array as a slice. -/
theorem vq_sliceArr {x : Operand} {g off m : Nat} (hx : evA fr x = some (.pointer (some ⟨g, off, none⟩))) [hu : ArI P t e m agg size bytes z] (hm : Nat.blt 0 m = true) : VQ P w0 n ⟨dst, .slice t x none none none, ty, pos, after, gd⟩ (.slice (some ⟨g, off, none⟩) m m) ds fr L :=
  vq_val (fun a w hk hs => by
    have hm' : 0 < m := by simpa using hm
    have hA := hu.arr
    have e1 : P.arrayLen t = m := by simp [Program.arrayLen, hA]
    have e2 : P.elem t = e := by simp [Program.elem, hA]
    have hu2 : P.underlying t = some (.array (P.arrayLen t) (P.elem t)) := by rw [e1, e2]; exact hA
    simp only [execOp, hk.ev hx, Sem.run_bind, Option.map_none]
    rw [run_sliceAt_array_all _ _ _ hu2, e1, e2]
    have : m ≠ 0 := by omega
    simp [hu.el.run_size, slicedAt, sliced, this, Result.andThen, Addr.add])
theorem rdC_part {g i : Nat} {t : TypeId} {cs us : List Value} (off k : Nat) [hb : HasBlk L g i t cs] (hu : (cs.drop off).take k = us) : RdC w0 L (some ⟨g, off, none⟩) us := ⟨fun w hs => by
  have hr := hs.rcBlk i hb.out
  have := hr.part off us (fun j u hj => by
    subst hu
    rw [List.getElem?_take] at hj
    split at hj
    · rwa [List.getElem?_drop] at hj
    · cases hj)
  simpa using this⟩
end
end Go.Proofs.Ytgffejpcldeklaa
namespace Go.Proofs.Ytgffejpcldeklaa
open Go Go.RowKit

theorem digs_snoc (n : Nat) : ∀ k, digs n (k + 1) = digs (n / 256) k ++ [UInt8.ofNat n]
  | 0 => by simp [digs]
  | k + 1 => by
    have ih := digs_snoc n k
    have e : n / 256 ^ (k + 1) = n / 256 / 256 ^ k := by rw [Nat.div_div_eq_div_mul, Nat.pow_succ, Nat.mul_comm]
    show UInt8.ofNat (n / 256 ^ (k + 1)) :: digs n (k + 1) = UInt8.ofNat (n / 256 / 256 ^ k) :: digs (n / 256) k ++ [UInt8.ofNat n]
    rw [ih, e]; rfl
theorem pow_le_64 {k : Nat} (h : k ≤ 8) : 256 ^ k ≤ 18446744073709551616 := by
  have := Nat.pow_le_pow_right (n := 256) (by decide) h
  simpa using this
theorem numOf_digs : ∀ (k n : Nat), k ≤ 8 → n < 256 ^ k → numOf (digs n k) = n
  | 0, n, _, h => by simp at h; subst h; rfl
  | k + 1, n, hk, h => by
    have hp := pow_le_64 hk
    have h1 : n / 256 < 256 ^ k := by rw [Nat.pow_succ] at h; omega
    rw [digs_snoc, numOf_snoc, numOf_digs k (n / 256) (by omega) h1, UInt8.toNat_ofNat']
    omega
theorem digs_numOf : ∀ (k : Nat) (l : List UInt8), l.length = k → k ≤ 8 → digs (numOf l) k = l ∧ numOf l < 256 ^ k
  | 0, l, h, _ => by
    have : l = [] := List.eq_nil_of_length_eq_zero h
    subst this; exact ⟨rfl, by decide⟩
  | k + 1, l, h, hk => by
    have e : l = l.take k ++ [l[k]] := by
      have := take_snoc' l k (by omega)
      rwa [List.take_of_length_le (by omega)] at this
    obtain ⟨i1, i2⟩ := digs_numOf k (l.take k) (by simp; omega) (by omega)
    have hc := (l[k]).toNat_lt
    have hp := pow_le_64 hk
    rw [Nat.pow_succ] at hp
    have hn : numOf l = 256 * numOf (l.take k) + (l[k]).toNat := by
      rw [congrArg numOf e, numOf_snoc]
      omega
    refine ⟨?_, by rw [Nat.pow_succ]; omega⟩
    rw [digs_snoc, hn, show (256 * numOf (l.take k) + (l[k]).toNat) / 256 = numOf (l.take k) by omega, i1]
    have : UInt8.ofNat (256 * numOf (l.take k) + (l[k]).toNat) = l[k] := by
      apply UInt8.toNat_inj.1
      rw [UInt8.toNat_ofNat']; omega
    rw [this]; exact e.symm
end Go.Proofs.Ytgffejpcldeklaa
namespace Go.Proofs.Ytgffejpcldeklaa
open Go Go.RowKit

section
variable {P : Program} {w0 : World} {n : Nat} {ds : List Deferred} {fr : Fr} {L : List Asn} {dst : Option Nat} {ty : TypeId} {pos : String} {after : Array Edge} {gd : Option (Nat × Bool)}
theorem vq_eqB {t yt : TypeId} {x y : Operand} {m : Nat} {xs ys : List UInt8} (hx : evA fr x = some (.agg (bvs xs).toArray)) (hy : evA fr y = some (.agg (bvs ys).toArray)) [he : EqI P t (List.replicate m (some .u8))] (hlx : xs.length = m) (hly : ys.length = m) : VQ P w0 n ⟨dst, .binOp .eql t x y yt, ty, pos, after, gd⟩ (.bool (decide (xs = ys))) ds fr L :=
  vq_val (fun a w hk _ => run_eqAgg t yt x y rfl he (bvs xs) (bvs ys) (hk.ev hx) (hk.ev hy) (hlx ▸ fits_bvs xs) (hly ▸ fits_bvs ys) _ bvs_eq)
theorem vq_neB {t yt : TypeId} {x y : Operand} {m : Nat} {xs ys : List UInt8} (hx : evA fr x = some (.agg (bvs xs).toArray)) (hy : evA fr y = some (.agg (bvs ys).toArray)) [he : EqI P t (List.replicate m (some .u8))] (hlx : xs.length = m) (hly : ys.length = m) : VQ P w0 n ⟨dst, .binOp .neq t x y yt, ty, pos, after, gd⟩ (.bool (!decide (xs = ys))) ds fr L :=
  vq_val (fun a w hk _ => run_neAgg t yt x y rfl he (bvs xs) (bvs ys) (hk.ev hx) (hk.ev hy) (hlx ▸ fits_bvs xs) (hly ▸ fits_bvs ys) _ bvs_eq)
end

section
variable {P : Program} {w0 : World} {n : Nat} {ds : List Deferred} {fr : Fr} {L : List Asn} {dst : Option Nat} {ty : TypeId} {pos : String} {after : Array Edge} {gd : Option (Nat × Bool)}
theorem vq_buildArr0 {t e : TypeId} {size bytes m esize ebytes : Nat} {agg : Bool} {z ez : List Value} [ht : TyI P t true size bytes z] [hf : ArI P t e m agg esize ebytes ez] : VQ P w0 n ⟨dst, .build t #[], ty, pos, after, gd⟩ (.agg z.toArray) ds fr L :=
  vq_val (fun a w hk hs => run_buildArr t #[] rfl ht hf [] rfl (by simp) z rfl)
end

end Go.Proofs.Ytgffejpcldeklaa
namespace Go.Proofs.Ytgffejpcldeklaa
open Go Go.RowKit

/-- An id, when i of its bytes are there. -/
def idM (d : List UInt8) (i : Nat) : List UInt8 := d.take i ++ List.replicate (32 - i) 0
theorem idM_length (d : List UInt8) (hd : d.length = 32) (i : Nat) (hi : i ≤ 32) : (idM d i).length = 32 := by
  simp only [idM, List.length_append, List.length_take, List.length_replicate, hd]; omega
theorem idM_set (d : List UInt8) (hd : d.length = 32) (i : Nat) (hi : i < 32) : (idM d i).set i (d[i]'(by omega)) = idM d (i + 1) := by
  unfold idM
  rw [List.set_append_right _ _ (by simp; omega), show (d.take i).length = i by simp; omega, Nat.sub_self, show 32 - i = (32 - (i + 1)) + 1 by omega, List.replicate_succ, List.set_cons_zero, List.take_succ_eq_append_getElem (by omega), List.append_assoc, List.singleton_append]
theorem idM_0 (d : List UInt8) : idM d 0 = List.replicate 32 0 := by simp [idM]
theorem idM_all (d : List UInt8) (hd : d.length = 32) : idM d 32 = d := by
  unfold idM
  rw [List.take_of_length_le (by omega)]
  simp
end Go.Proofs.Ytgffejpcldeklaa
namespace Go.Proofs.Ytgffejpcldeklaa
open Go Go.RowKit

section
variable {P : Program} {ro : Option Nat} {w0 : World} {n : Nat} {ds : List Deferred} {fr : Fr} {L L' : List Asn} {Q : Exit → List Deferred → Fr → List Asn → Prop} {K : List Deferred → Fr → List Asn → Prop}
variable {dd : Nat} {ty : TypeId} {pos : String} {after : Array Edge} {gd : Option (Nat × Bool)} {e dT sT t : TypeId} {agg : Bool} {bytes : Nat} {z : List Value}
theorem vo_isCopy {d s : Operand} {ts : Array TypeId} (h : VO P ro w0 n ⟨some dd, .call { callee := .builtin .copy, args := #[d, s], argTypes := ts }, ty, pos, after, gd⟩ K Q ds fr L) : VO P ro w0 n ⟨some dd, .call { callee := .builtin .copy, args := #[d, s], argTypes := ts }, ty, pos, after, gd⟩ K Q ds fr L := h
theorem vo_copyB {d s : Operand} {g off dLen dCap sLen sCap i : Nat} {ao : Option Addr} {cs cs' : List Value} {xs ys : List UInt8} (hd : evA fr d = some (.slice (some ⟨g, off, none⟩) dLen dCap)) (hx : evA fr s = some (.slice ao sLen sCap)) (hdn : Nat.blt dd n = true) [hu : SlI P dT e agg 1 bytes z] [hb : HasBlk L g i t cs] [hr : RdC w0 L ao (bvs xs)] (hys : xs.take (min sLen dLen) = ys) (hl : ys.length = min sLen dLen) (hcs : splice cs off (bvs ys) = cs') (hfit : off + ys.length ≤ cs.length) [hset : SetI L i (blk g t cs') L']
    (h : K ds ((dd, .int .i64 ((min sLen dLen : Nat) : Int)) :: fr) L') : VO P ro w0 n ⟨some dd, .call { callee := .builtin .copy, args := #[d, s], argTypes := #[dT, sT] }, ty, pos, after, gd⟩ K Q ds fr L :=
  vo_runs (fun _ => by simp) (fun a w hk hs => by
    subst hys
    have hrc : Rc w ao (bvs (xs.take (min sLen dLen))) := by
      rcases hr.out w hs with h0 | ⟨b, o, hb0, hc⟩
      · have : xs = [] := by cases xs with
          | nil => rfl
          | cons x xs => simp [bvs] at h0
        subst this
        exact .inl (by simp [bvs])
      · refine .inr ⟨b, o, hb0, fun j u hu => hc j u ?_⟩
        rw [← bvs_take, List.getElem?_take] at hu
        split at hu
        · exact hu
        · cases hu
    exact wp_copyBlk d s dT sT rfl hu hs i (hk.ev hd) (hk.ev hx) hb.out (bvs (xs.take (min sLen dLen))) (by rw [bvs_length]; exact hl) hrc (bvs_one _) cs' hcs (by rw [bvs_length]; exact hfit) (fun w' hs' => ⟨_, _, _, hk.put dd _ hdn, by rw [hset.out]; exact hs', h⟩))
end
end Go.Proofs.Ytgffejpcldeklaa
namespace Go.Proofs.Ytgffejpcldeklaa
open Go Go.RowKit

section
variable {P : Program} {ro : Option Nat} {w0 : World} {n : Nat} {ds : List Deferred} {fr : Fr} {L Lf : List Asn} {Q : Exit → List Deferred → Fr → List Asn → Prop} {ops : Array Oper} {fuel : Nat} {listed : List Bool} {E : List Nat} {rest : List Oper} {d : Nat}
/-- What is known and held behind a piece, said by F and M. -/
def cutQ (P : Program) (w0 : World) (ds : List Deferred) (X : Type) (F : X → Fr) (fr0 : Fr) (M : X → List Asn) : Exit → List Deferred → Fr → List Asn → Prop
  | .normal, ds', fr', L' => ds' = ds ∧ ∃ z, Sub (F z ++ fr0) fr' ∧ Ent w0 L' (M z)
  | _, _, _, _ => False
theorem v_cut {x y : Code} (X : Type) (ks : List Nat) {fr0 : Fr} (hks : selE fr ks = some fr0) (F : X → Fr) (M : X → List Asn)
    (h : V P ro w0 n x (cutQ P w0 ds X F fr0 M) ds fr L)
    (k : ∀ z, V P ro w0 n y Q ds (F z ++ fr0) (M z)) : V P ro w0 n x (thn (V P ro w0 n y Q) Q) ds fr L :=
  ⟨fun a w hk hs => wpIn_mono (h.out a w hk hs) (fun e a' w' ⟨ds', fr', L', h1, h2, h3⟩ => by
    cases e <;> first | exact h3.elim | skip
    obtain ⟨rfl, z, h4, h5⟩ := h3
    exact ⟨ds', F z ++ fr0, M z, h1.sub h4, h5 w' h2, k z⟩)⟩
theorem vl_passU {o : Oper} {j dj : Nat} {oj : Oper} {want : Bool} (hg : o.guard = some (j, want)) (hj : ops.toList[j]? = some oj) (hdj : oj.dst = some dj) (hv : look fr dj = some undef) (hd : o.dst = some d) (hdn : Nat.blt d n = true)
    (h : VL P ro w0 n ops Q rest ds ((d, undef) :: fr) L) : VL P ro w0 n ops Q (o :: rest) ds fr L :=
  ⟨fun a w hk hs => by
    have hj' : ops[j]? = some oj := by rw [← hj]; simp
    have hv' := hk.at' dj _ hv
    have hw : Region.wanted o (yielded ops a.tmps) = false := by simp [Region.wanted, hg, yielded, hj', hdj, hv', undef]
    show (if Region.wanted o (yielded ops a.tmps) then _ else _)
    rw [if_neg (by rw [hw]; simp), hd]
    exact ⟨fun _ _ => trivial, h.out _ w (hk.put d undef hdn) hs⟩⟩
theorem two_core (i j : Nat) {oi oj : Oper} (hr : Region.ready .any ops listed.toArray = [i, j]) (hi : ops.toList[i]? = some oi) (hj : ops.toList[j]? = some oj) (hgi : ∀ a, Kn n ds a fr → Region.wanted oi (yielded ops a.tmps) = true) (hgj : ∀ a, Kn n ds a fr → Region.wanted oj (yielded ops a.tmps) = true)
    (h1 : VO P ro w0 n oi (fun ds fr L => (anyE E (listed.set i true).toArray = true ∨ Ent w0 L Lf) ∧ VA P ro w0 n ops Q E Lf fuel (listed.set i true) ds fr L) Q ds fr L)
    (h2 : VO P ro w0 n oj (fun ds fr L => (anyE E (listed.set j true).toArray = true ∨ Ent w0 L Lf) ∧ VA P ro w0 n ops Q E Lf fuel (listed.set j true) ds fr L) Q ds fr L) : VA P ro w0 n ops Q E Lf (fuel + 1) listed ds fr L :=
  ⟨fun a w hk hs => by
    refine ⟨fun h0 => (by rw [hr] at h0; cases h0), fun m hm => ?_⟩
    rw [hr] at hm
    have core : ∀ (m : Nat) (om : Oper), ops.toList[m]? = some om → (∀ a, Kn n ds a fr → Region.wanted om (yielded ops a.tmps) = true) → VO P ro w0 n om (fun ds fr L => (anyE E (listed.set m true).toArray = true ∨ Ent w0 L Lf) ∧ VA P ro w0 n ops Q E Lf fuel (listed.set m true) ds fr L) Q ds fr L → wpOpIn (fen ro) 0 P ops (up w0 n Q) m (fun a' w' => SE' w0 E Lf (listed.toArray.setIfInBounds m true) w' ∧ wpAnyV P ro ops (up w0 n Q) (SE' w0 E Lf) fuel (listed.toArray.setIfInBounds m true) a' w') a w := by
      intro m om hl hg h
      have hi : ops[m]? = some om := by rw [← hl]; simp
      unfold wpOpIn
      simp only [hi, hg a hk, if_true]
      refine Oper.wpIn_mono (fun a' w' ⟨ds', fr', L', h1, h2, h3, h4⟩ => ⟨⟨h2.none, ?_⟩, ?_⟩) (h.out a w hk hs)
      · rcases h3 with h3 | h3
        · left; simpa using h3
        · right; exact h3 w' h2
      · have := h4.out a' w' h1 h2
        simpa using this
    simp only [List.mem_cons, List.not_mem_nil, or_false] at hm
    rcases hm with rfl | rfl
    · exact core _ oi hi hgi h1
    · exact core _ oj hj hgj h2⟩
/-- Two may come up. -/
theorem va_two (i j : Nat) {oi oj : Oper} (hr : Region.ready .any ops listed.toArray = [i, j]) (hi : ops.toList[i]? = some oi) (hj : ops.toList[j]? = some oj) (hgi : oi.guard = none) (hgj : oj.guard = none)
    (h1 : VO P ro w0 n oi (fun ds fr L => (anyE E (listed.set i true).toArray = true ∨ Ent w0 L Lf) ∧ VA P ro w0 n ops Q E Lf fuel (listed.set i true) ds fr L) Q ds fr L)
    (h2 : VO P ro w0 n oj (fun ds fr L => (anyE E (listed.set j true).toArray = true ∨ Ent w0 L Lf) ∧ VA P ro w0 n ops Q E Lf fuel (listed.set j true) ds fr L) Q ds fr L) : VA P ro w0 n ops Q E Lf (fuel + 1) listed ds fr L :=
  two_core i j hr hi hj (fun a _ => by simp [Region.wanted, hgi]) (fun a _ => by simp [Region.wanted, hgj]) h1 h2
theorem vq_eqI {t yt : TypeId} {x y : Operand} {k : IntKind} {m : Int} {dst : Option Nat} {ty : TypeId} {pos : String} {after : Array Edge} {gd : Option (Nat × Bool)} (hx : evA fr x = some (.int k m)) (hy : evA fr y = some (.int k m)) : VQ P w0 n ⟨dst, .binOp .eql t x y yt, ty, pos, after, gd⟩ (.bool true) ds fr L := by
  have h := vq_eq (P := P) (w0 := w0) (n := n) (ds := ds) (L := L) (dst := dst) (ty := ty) (pos := pos) (after := after) (gd := gd) (t := t) (yt := yt) hx hy
  rwa [decide_eq_true rfl] at h
end
end Go.Proofs.Ytgffejpcldeklaa
namespace Go.Proofs.Ytgffejpcldeklaa
open Go Go.RowKit

/-- The cells of things. -/
def flat {α : Type} (f : α → List Value) (xs : List α) : List Value := (xs.map f).flatten
/-- Each has so many. -/
def Wide {α : Type} (f : α → List Value) (w : Nat) (xs : List α) : Prop := ∀ x ∈ xs, (f x).length = w
section
variable {α : Type} {f : α → List Value} {w : Nat} {xs ys : List α}
@[simp] theorem flat_nil : flat f [] = [] := rfl
theorem flat_cons (x : α) : flat f (x :: xs) = f x ++ flat f xs := rfl
theorem Wide.tail {x : α} (h : Wide f w (x :: xs)) : Wide f w xs := fun y hy => h y (by simp [hy])
theorem Wide.sub (h : Wide f w xs) (hs : ∀ y ∈ ys, y ∈ xs) : Wide f w ys := fun y hy => h y (hs y hy)
theorem Wide.len : ∀ {xs : List α}, Wide f w xs → (flat f xs).length = xs.length * w
  | [], _ => by simp
  | x :: xs, h => by
    have := Wide.len h.tail
    rw [flat_cons, List.length_append, h x (by simp), this, List.length_cons, Nat.succ_mul]
    omega
theorem Wide.drop : ∀ {xs : List α}, Wide f w xs → ∀ k, (flat f xs).drop (k * w) = flat f (xs.drop k)
  | [], _, k => by simp
  | x :: xs, h, 0 => by simp
  | x :: xs, h, k + 1 => by
    rw [flat_cons, show (k + 1) * w = (f x).length + k * w by rw [h x (by simp), Nat.succ_mul]; omega, ← List.drop_drop, List.drop_left, h.tail.drop k]
    rfl
theorem Wide.take : ∀ {xs : List α}, Wide f w xs → ∀ k, (flat f xs).take (k * w) = flat f (xs.take k)
  | [], _, k => by simp
  | x :: xs, h, 0 => by simp
  | x :: xs, h, k + 1 => by
    rw [flat_cons, show (k + 1) * w = (f x).length + k * w by rw [h x (by simp), Nat.succ_mul]; omega, List.take_length_add_append, h.tail.take k]
    rfl
theorem Wide.at (h : Wide f w xs) (k : Nat) (hk : k < xs.length) : ((flat f xs).drop (k * w)).take w = f xs[k] := by
  rw [h.drop, List.drop_eq_getElem_cons hk, flat_cons, List.take_left' (h _ (List.getElem_mem hk))]
/-- A part of one. -/
theorem Wide.part (h : Wide f w xs) (k : Nat) (hk : k < xs.length) (j m : Nat) (hj : j + m ≤ w) : ((flat f xs).drop (k * w + j)).take m = ((f xs[k]).drop j).take m := by
  have hl := h _ (List.getElem_mem hk)
  rw [← List.drop_drop, h.drop, List.drop_eq_getElem_cons hk, flat_cons, List.drop_append_of_le_length (by omega), List.take_append_of_le_length (by simp; omega)]
/-- A cell of one. -/
theorem Wide.cell (h : Wide f w xs) (k : Nat) (hk : k < xs.length) (j : Nat) (hj : j < w) : (flat f xs)[k * w + j]? = (f xs[k])[j]? := by
  have hl := h _ (List.getElem_mem hk)
  rw [← List.getElem?_drop, h.drop, List.drop_eq_getElem_cons hk, flat_cons, List.getElem?_append_left (by omega)]
theorem Wide.pos (h : Wide f w xs) (hw : 0 < w) (hx : 0 < xs.length) : 0 < (flat f xs).length := by
  rw [h.len]; exact Nat.mul_pos hx hw
theorem Wide.mul (h : Wide f w xs) (k : Nat) (hk : k < xs.length) : k * w + w ≤ (flat f xs).length := by
  rw [h.len, ← Nat.succ_mul]; exact Nat.mul_le_mul_right w hk
theorem Wide.set (h : Wide f w xs) {x : α} (hx : (f x).length = w) (k : Nat) : Wide f w (xs.set k x) := fun y hy => by
  rcases List.mem_or_eq_of_mem_set hy with h' | rfl
  · exact h y h'
  · exact hx
end
end Go.Proofs.Ytgffejpcldeklaa
namespace Go.Proofs.Ytgffejpcldeklaa
open Go Go.RowKit

/-- One of what is held, and the rest. -/
class Pick (L : List Asn) (P : Asn) (R : outParam (List Asn)) : Prop where
  out : SE L (P :: R)
instance pick_zero (P : Asn) (L : List Asn) : Pick (P :: L) P L := ⟨SE.refl _⟩
instance (priority := low) pick_succ (P Q : Asn) (L R : List Asn) [h : Pick L P R] : Pick (Q :: L) P (Q :: R) := ⟨(SE.cons Q h.out).trans (se_swap _ _ _)⟩
/-- What is held has in it what is wanted. -/
class SEI (L M : List Asn) : Prop where
  out : SE L M
instance (priority := high) sei_refl (L : List Asn) : SEI L L := ⟨SE.refl L⟩
instance sei_cons (P : Asn) (L R M : List Asn) [h : Pick L P R] [k : SEI R M] : SEI L (P :: M) := ⟨h.out.trans (SE.cons P k.out)⟩
instance (priority := low) sei_drop (Q : Asn) (L M : List Asn) [h : SEI L M] : SEI (Q :: L) M := ⟨(se_drop _ _).trans h.out⟩
theorem sei (w0 : World) (L M : List Asn) [h : SEI L M] : Ent w0 L M := h.out.ent w0

section
variable {P : Program} {ro : Option Nat} {w0 : World} {n : Nat} {ds : List Deferred} {fr : Fr} {L Lf : List Asn} {Q : Exit → List Deferred → Fr → List Asn → Prop} {ops : Array Oper} {fuel : Nat} {listed : List Bool} {E : List Nat} {rest : List Oper} {d : Nat}
end

section
variable {w0 : World} {L : List Asn} {α : Type} {f : α → List Value} {s : Nat} {xs : List α}
/-- Some of the cells that can be read. -/
theorem rdC_at {a : Option Addr} {vs us : List Value} [h : RdC w0 L a vs] (k : Nat) (hu : (vs.drop k).take us.length = us) : RdC w0 L (offA a k) us :=
  ⟨fun w hs => by
    by_cases hn : us = []
    · exact .inl hn
    rcases h.out w hs with e | ⟨b, off, e, hc⟩
    · subst e
      simp at hu
      exact absurd hu (fun e => hn (by first | exact e | exact e.symm))
    · subst e
      refine .inr ⟨b, off + k, offA_some b off k, fun j u hj => ?_⟩
      rw [Nat.add_assoc]
      refine hc (k + j) u ?_
      rw [← hu, List.getElem?_take] at hj
      split at hj
      · rw [List.getElem?_drop] at hj; exact hj
      · cases hj⟩
end
section
variable {P : Program} {w0 : World} {n : Nat} {ds : List Deferred} {fr : Fr} {L : List Asn}
variable {ty : TypeId} {pos : String} {after : Array Edge} {dst : Option Nat} {gd : Option (Nat × Bool)} {e t : TypeId} {agg : Bool} {size bytes : Nat} {z : List Value}
/-- An array inside of what can be read, as a slice. -/
theorem vq_sliceArrO {x : Operand} {a0 : Option Addr} {k m : Nat} {vs : List Value} (hx : evA fr x = some (.pointer (offA a0 k))) [hr : RdC w0 L a0 vs] (hl : 0 < vs.length) [hu : ArI P t e m agg size bytes z] (hm : Nat.blt 0 m = true) : VQ P w0 n ⟨dst, .slice t x none none none, ty, pos, after, gd⟩ (.slice (offA a0 k) m m) ds fr L :=
  vq_val (fun a w hk hs => by
    obtain ⟨b, off, rfl, _⟩ := (hr.out w hs).read (by rintro rfl; simp at hl)
    rw [offA_some] at hx ⊢
    have hm' : 0 < m := by simpa using hm
    have hA := hu.arr
    have e1 : P.arrayLen t = m := by simp [Program.arrayLen, hA]
    have e2 : P.elem t = e := by simp [Program.elem, hA]
    have hu2 : P.underlying t = some (.array (P.arrayLen t) (P.elem t)) := by rw [e1, e2]; exact hA
    simp only [execOp, hk.ev hx, Sem.run_bind, Option.map_none]
    rw [run_sliceAt_array_all _ _ _ hu2, e1, e2]
    have : m ≠ 0 := by omega
    simp [hu.el.run_size, slicedAt, sliced, this, Result.andThen, Addr.add])
end
end Go.Proofs.Ytgffejpcldeklaa

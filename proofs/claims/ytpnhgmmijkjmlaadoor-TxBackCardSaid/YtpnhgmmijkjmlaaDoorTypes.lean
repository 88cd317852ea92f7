/-
  The program's types, as the laws take them.
-/
import Derived.Test.YtpnhgmmijkjmlaaDoorLawsB
import Derived.Test.YtpnhgmmijkjmlaaDoorEq
import Derived.Laws.BytesArg
import Derived.Test.YtpnhgmmijkjmlaaDoorProg
namespace Go.Proofs.YtpnhgmmijkjmlaaDoor
open Go Go.RowKit

def bv (c : UInt8) : Value := .int .u8 c.toNat
def bvs (l : List UInt8) : List Value := l.map bv
@[simp] theorem bvs_length (l : List UInt8) : (bvs l).length = l.length := by simp [bvs]
theorem bvs_one (l : List UInt8) : ∀ u ∈ bvs l, u.oneCell' = true := by
  intro u hu
  obtain ⟨c, _, rfl⟩ := List.mem_map.1 hu
  rfl
theorem bvs_get (l : List UInt8) (k : Nat) (h : k < (bvs l).length) : (bvs l)[k] = .int .u8 (l[k]'(by simpa using h)).toNat := by simp [bvs, bv]
theorem bvs_append (l m : List UInt8) : bvs (l ++ m) = bvs l ++ bvs m := by simp [bvs]

theorem tByte : TyI Tryd.prog 5 false 1 1 [.int .u8 0] := TyI.of (zv := .int .u8 0) (by kernel_rfl) (by kernel_rfl) rfl rfl (by decide)
theorem sBytes : SlI Tryd.prog 28 5 false 1 1 [.int .u8 0] := ⟨by kernel_rfl, tByte⟩

theorem tInt : TyI Tryd.prog 3 false 1 8 [.int .i64 0] := TyI.of (zv := .int .i64 0) (by kernel_rfl) (by kernel_rfl) rfl rfl (by decide)
theorem tDigest : TyI Tryd.prog 23 true 32 32 (bvs (List.replicate 32 0)) := TyI.of (zv := .agg (bvs (List.replicate 32 0)).toArray) (by kernel_rfl) (by kernel_rfl) rfl rfl (by decide)
theorem eDigest : EqI Tryd.prog 23 (List.replicate 32 (some .u8)) := ⟨⟨5, by decide, by kernel_rfl⟩, by kernel_rfl, by kernel_rfl⟩

/-- A slice of bytes of the call's own. -/
abbrev ownB (a : Option Addr) (cap : Nat) (l : List UInt8) : Asn := own 5 1 a l.length cap (bvs l)

theorem own_eq {a : Option Addr} {cap n : Nat} {xs : List Value} {l : List UInt8} (hn : n = l.length) (hx : xs = bvs l) : own 5 1 a n cap xs = ownB a cap l := by subst hn; subst hx; rfl
theorem St.asB {w0 w : World} {L : List Asn} (h : St w0 w L) (i : Nat) {a : Option Addr} {cap n : Nat} {xs : List Value} (hi : L[i]? = some (own 5 1 a n cap xs)) (l : List UInt8) (hn : n = l.length) (hx : xs = bvs l) : St w0 w (L.set i (ownB a cap l)) :=
  h.turn i hi (fun F hF => by rwa [own_eq hn hx] at hF)

theorem bvs_take (l : List UInt8) (k : Nat) : (bvs l).take k = bvs (l.take k) := by simp [bvs]
theorem bvs_drop (l : List UInt8) (k : Nat) : (bvs l).drop k = bvs (l.drop k) := by simp [bvs]
theorem bvs_inj {l m : List UInt8} (h : bvs l = bvs m) : l = m := by
  unfold bvs at h
  refine (List.map_inj_right ?_).1 h
  intro x y hxy
  simp only [bv, Value.int.injEq, true_and] at hxy
  exact UInt8.toNat_inj.1 (Int.ofNat_inj.1 hxy)
theorem bvs_eq {l m : List UInt8} : bvs l = bvs m ↔ l = m := ⟨bvs_inj, fun h => by rw [h]⟩
theorem fits_bvs : ∀ (l : List UInt8), Fits (List.replicate l.length (some .u8)) (bvs l)
  | [] => trivial
  | _ :: l => ⟨⟨_, rfl⟩, fits_bvs l⟩

theorem Rc.takeB {w : World} {a : Option Addr} {l : List UInt8} (h : Rc w a (bvs l)) (k : Nat) : Rc w a (bvs (l.take k)) := by
  rcases h with h | ⟨b, off, e, hc⟩
  · have : l = [] := by simpa [bvs] using h
    subst this; exact .inl (by simp [bvs])
  · refine .inr ⟨b, off, e, fun j u hu => hc j u ?_⟩
    rw [← bvs_take, List.getElem?_take] at hu
    split at hu
    · exact hu
    · cases hu
theorem Rc.dropB {w : World} {b off : Nat} {l : List UInt8} (h : Rc w (some ⟨b, off, none⟩) (bvs l)) (k : Nat) : Rc w (some ⟨b, off + k, none⟩) (bvs (l.drop k)) :=
  h.part k _ (fun j u hu => by rw [← bvs_drop, List.getElem?_drop] at hu; exact hu)
/-- A slice of bytes with an element has an address. -/
theorem Rc.some {w : World} {a : Option Addr} {l : List UInt8} (h : Rc w a (bvs l)) (hl : 0 < l.length) : ∃ b off, a = Option.some ⟨b, off, none⟩ := by
  obtain ⟨b, off, e, _⟩ := h.at 0 (by simpa using hl)
  exact ⟨b, off, e⟩

/-- A callee that leaves the world alone, inside a region that draws. -/
theorem quietC {P : Program} {f : FuncId} {args : Array Value} {w : World} {n : Nat} {v : Value} (h : Calls P f args (w.drewN n) fun e w' => e = .returned v ∧ w.drewN n = w') : Calls P f args (w.drewN n) fun e w'' => e = .returned v ∧ ∃ m, w'' = w.drewN m :=
  h.mono fun _ _ ⟨he, hm⟩ => ⟨he, n, hm.symm⟩

/-- Bytes filled in from the front, one more. -/
theorem fill_step (src : List UInt8) (n k : Nat) (hk : k < n) (hs : k < src.length) : splice (bvs (src.take k ++ List.replicate (n - k) 0)) k [bv src[k]] = bvs (src.take (k + 1) ++ List.replicate (n - (k + 1)) 0) := by
  rw [List.take_succ_eq_append_getElem hs, show n - k = (n - (k + 1)) + 1 by omega, List.replicate_succ, List.append_assoc, bvs_append, bvs_append]
  have e : bvs ((0 : UInt8) :: List.replicate (n - (k + 1)) 0) = [bv 0] ++ bvs (List.replicate (n - (k + 1)) 0) := rfl
  rw [e, splice_mid (bvs (src.take k)) [bv 0] _ [bv src[k]] k (by simp; omega) rfl]
  simp [bvs]

/-- The cells of a cut of a slice of bytes. -/
theorem Rc.cut {w : World} {a : Option Addr} {l : List UInt8} (h : Rc w a (bvs l)) (lo hi m : Nat) (hm : hi ≤ m) : Rc w (subA a lo m 1) (bvs ((l.take hi).drop lo)) := by
  refine h.sub lo m 1 _ (fun j u hu => ?_) (fun e => ?_)
  · rw [Nat.mul_one, ← bvs_drop, ← bvs_take, List.getElem?_drop, List.getElem?_take] at *
    split at hu
    · exact hu
    · cases hu
  · have : ((l.take hi).drop lo) = [] := List.drop_eq_nil_of_le (by simp; omega)
    rw [this]; rfl

theorem strOfNums_bytes (l : List UInt8) : strOfNums (l.map fun c : UInt8 => (c.toNat : Int)) = ⟨l.toArray⟩ := by
  have : ((l.map fun c : UInt8 => (c.toNat : Int)).map fun n => UInt8.ofNat n.toNat) = l := by
    rw [List.map_map]
    conv => rhs; rw [← List.map_id l]
    apply List.map_congr_left
    intro c _
    simp
  unfold strOfNums
  rw [this]

theorem sl_eq {a : Option Addr} {n m c : Nat} (h : n = m) : Value.slice a n c = .slice a m c := by rw [h]

theorem Rc.cutTo {w : World} {a : Option Addr} {l : List UInt8} (h : Rc w a (bvs l)) (lo m : Nat) (hm : l.length ≤ m) : Rc w (subA a lo m 1) (bvs (l.drop lo)) := by
  have := h.cut lo l.length m hm
  rwa [List.take_length] at this

section
variable {w : World} {o : Oper} {a : Act} {K : Act → World → Prop} {Q : Exit → Act → World → Prop}
theorem run_toStr (x : Operand) (ho : o.op = .convert 28 9 x) {ao : Option Addr} {cap : Nat} (l : List UInt8) (hx : a.eval x = .slice ao l.length cap) (hc : Rc w ao (bvs l)) : (execOp a.eval o).run Tryd.prog w = .ok (.value (.string ⟨l.toArray⟩)) w := by
  have hu : Tryd.prog.underlying 5 = some (.int .u8) := by kernel_rfl
  have hs : Tryd.prog.underlying 9 = some .string := by kernel_rfl
  have hr : (convert 28 9 (.slice ao l.length cap)).run Tryd.prog w = .ok (.string ⟨l.toArray⟩) w := by
    cases ao with
    | none =>
      have : l = [] := by
        rcases hc with h | ⟨b, off, e, _⟩
        · simpa [bvs] using h
        · cases e
      subst this
      exact run_convert_bytes_nil w _ _ sBytes.sl hu _ _ _ hs
    | some ad =>
      have hloc : ∃ b off, (l = [] ∨ ad = ⟨b, off, none⟩) ∧ ∀ i, i < l.length → w.cell? ⟨b, off + i, none⟩ = some (.int .u8 ((l.map fun c : UInt8 => (c.toNat : Int)).getD i 0)) := by
        rcases hc with h | ⟨b, off, e, hc⟩
        · have : l = [] := by simpa [bvs] using h
          subst this
          exact ⟨0, 0, .inl rfl, fun i hi => by simp at hi⟩
        · cases e
          refine ⟨b, off, .inr rfl, fun i hi => ?_⟩
          rw [hc i (bv l[i]) (by simp [bvs, hi])]
          simp [bv, hi]
      obtain ⟨b, off, h0 | rfl, hcell⟩ := hloc
      · subst h0
        rw [run_convert_bytes_string w _ _ _ _ _ _ sBytes.sl hu hs]
        have := run_bytesToString (P := Tryd.prog) w ad 0 cap [] (by simp [loadCells, loadCellsFrom])
        show _ = Result.ok (Value.string ByteArray.empty) w
        simpa using this
      · have := run_convert_bytes_arg (P := Tryd.prog) w _ _ sBytes.sl hu b off l.length cap (l.map fun c : UInt8 => (c.toNat : Int)) (by simp) hcell _ hs
        rw [this, strOfNums_bytes]
  simp [execOp, ho, hx, hr]
theorem wp_toStr (x : Operand) (ho : o.op = .convert 28 9 x) {ao : Option Addr} {cap : Nat} (l : List UInt8) (hx : a.eval x = .slice ao l.length cap) (hc : Rc w ao (bvs l)) (h : K (a.put o.dst (.string ⟨l.toArray⟩)) w) : Runs Tryd.prog o a w K Q :=
  wp_val (run_toStr x ho l hx hc) h

theorem run_eqStr (t ty : TypeId) (x y : Operand) (ho : o.op = .binOp .eql t x y ty) (l m : List UInt8) (hx : a.eval x = .string ⟨l.toArray⟩) (hy : a.eval y = .string ⟨m.toArray⟩) : (execOp a.eval o).run Tryd.prog w = .ok (.value (.bool (decide (l = m)))) w := by
  have : (l == m) = decide (l = m) := by by_cases e : l = m <;> simp [e]
  simp [execOp, ho, hx, hy, eqGuard, binOp_string_eql, this]
theorem wp_eqStr (t ty : TypeId) (x y : Operand) (ho : o.op = .binOp .eql t x y ty) (l m : List UInt8) (hx : a.eval x = .string ⟨l.toArray⟩) (hy : a.eval y = .string ⟨m.toArray⟩) (h : K (a.put o.dst (.bool (decide (l = m)))) w) : Runs Tryd.prog o a w K Q :=
  wp_val (run_eqStr t ty x y ho l m hx hy) h
end

end Go.Proofs.YtpnhgmmijkjmlaaDoor

/-
  The operations in the logic without worlds.
-/
import Derived.Test.YtpnhgmmijkjmlaaDoorV
namespace Go.Proofs.YtpnhgmmijkjmlaaDoor
open Go Go.RowKit
set_option linter.unusedVariables false
set_option linter.unusedSimpArgs false

section
variable {P : Program} {ro : Option Nat} {w0 : World} {n : Nat} {ds : List Deferred} {fr : Fr} {L : List Asn} {Q : Exit → List Deferred → Fr → List Asn → Prop}
variable {ops : Array Oper} {rest : List Oper} {d : Nat} {ty : TypeId} {pos : String} {after : Array Edge} {dst : Option Nat} {gd : Option (Nat × Bool)}

theorem rows_wide {row : String} {args : Array Value} {w : World} {R : Value → World → Prop} (h : Rows P row args w R) : RowsIn (fen ro) 0 P row args w R :=
  fun c cs _ => let ⟨v, w', r, s⟩ := h c cs; ⟨v, w', r, stepsIn_wide.2 s⟩
theorem calls_fen {f : FuncId} {args : Array Value} {w : World} {R : Ending → World → Prop} {m : Nat} (h : Calls P f args w R) : CallsIn (fen ro) m P f args w R := (callsIn_wide (n := m)).2 h

theorem fen_room (ro : Option Nat) : (fen ro).depth.isSome = true → 1 ≤ 0 := fun h => absurd h (by simp [fen, Fence.wide])
def notDefer : Op → Bool
  | .defer _ => false
  | _ => true
theorem notDefer_spec {op : Op} (h : notDefer op = true) : ∀ c, op ≠ .defer c := fun c e => by subst e; cases h
/-- What an operation does in an ordinary frame it does in a round. -/
theorem wpIn_of_wp {o : Oper} {a : Act} {w : World} {K : Act → World → Prop} {Q' : Exit → Act → World → Prop} (hd : ∀ c, o.op ≠ .defer c) (h : o.wp P a w K Q') : o.wpIn (fen ro) 0 P a w K Q' := by
  refine ⟨fun _ _ => trivial, ?_⟩
  unfold Oper.wp at h
  have e : o.semAt (fen ro).round a.eval = execOp a.eval o := Oper.semAt_eq _ _ _ hd
  rw [e]
  generalize (execOp a.eval o).run P w = r at h ⊢
  cases r with
  | ok x w' =>
    cases x <;> simp only [Oper.upon] at h <;> simp only [Oper.uponIn] <;>
      first
        | exact h
        | exact False.elim h
        | exact ⟨fen_room ro, rows_wide h⟩
        | exact ⟨fen_room ro, calls_fen (h.mono fun e w'' he => by cases e <;> exact he)⟩
  | halt x w' => cases x <;> simp only [Oper.upon] at h ⊢ <;> exact h

/-- One operation, from what is known; K: what is known behind it. -/
structure VO (P : Program) (ro : Option Nat) (w0 : World) (n : Nat) (o : Oper) (K : List Deferred → Fr → List Asn → Prop) (Q : Exit → List Deferred → Fr → List Asn → Prop) (ds : List Deferred) (fr : Fr) (L : List Asn) : Prop where
  out : ∀ a w, Kn n ds a fr → St w0 w L → o.wpIn (fen ro) 0 P a w (fun a' w' => ∃ ds' fr' L', Kn n ds' a' fr' ∧ St w0 w' L' ∧ K ds' fr' L') (up w0 n Q)
/-- One operation that only reckons, or reads: its value. -/
structure VQ (P : Program) (w0 : World) (n : Nat) (o : Oper) (v : Value) (ds : List Deferred) (fr : Fr) (L : List Asn) : Prop where
  out : ∀ a w, Kn n ds a fr → St w0 w L → (execOp a.eval o).run P w = .ok (.value v) w

theorem vl_o {o : Oper} (hg : o.guard = none) (h : VO P ro w0 n o (VL P ro w0 n ops Q rest) Q ds fr L) : VL P ro w0 n ops Q (o :: rest) ds fr L :=
  ⟨fun a w hk hs => by
    have hw : Region.wanted o (yielded ops a.tmps) = true := by simp [Region.wanted, hg]
    show (if Region.wanted o (yielded ops a.tmps) then _ else _)
    rw [if_pos hw]
    exact Oper.wpIn_mono (fun a' w' ⟨ds', fr', L', h1, h2, h3⟩ => h3.out a' w' h1 h2) (h.out a w hk hs)⟩
/-- By a law of the elder kind. -/
theorem vo_runs {o : Oper} {K : List Deferred → Fr → List Asn → Prop} (hd : ∀ c, o.op ≠ .defer c)
    (h : ∀ a w, Kn n ds a fr → St w0 w L → Runs P o a w (fun a' w' => ∃ ds' fr' L', Kn n ds' a' fr' ∧ St w0 w' L' ∧ K ds' fr' L') (up w0 n Q)) : VO P ro w0 n o K Q ds fr L :=
  ⟨fun a w hk hs => wpIn_of_wp hd (h a w hk hs).out⟩
theorem vo_q {o : Oper} {K : List Deferred → Fr → List Asn → Prop} {v : Value} (hd : notDefer o.op = true) (h : VQ P w0 n o v ds fr L) (hdst : o.dst = some d) (hdn : Nat.blt d n = true) (hK : K ds ((d, v) :: fr) L) : VO P ro w0 n o K Q ds fr L :=
  vo_runs (notDefer_spec hd) (fun a w hk hs => wp_val (h.out a w hk hs) ⟨_, _, _, by rw [hdst]; exact hk.put d v hdn, hs, hK⟩)
theorem vl_q {o : Oper} {v : Value} (hg : o.guard = none) (hd : notDefer o.op = true) (hdst : o.dst = some d) (hdn : Nat.blt d n = true) (hq : VQ P w0 n o v ds fr L) (h : VL P ro w0 n ops Q rest ds ((d, v) :: fr) L) : VL P ro w0 n ops Q (o :: rest) ds fr L :=
  vl_o hg (vo_q hd hq hdst hdn h)
theorem vq_val {o : Oper} {v : Value} (h : ∀ a w, Kn n ds a fr → St w0 w L → (execOp a.eval o).run P w = .ok (.value v) w) : VQ P w0 n o v ds fr L := ⟨h⟩

/-! ### Guards -/
theorem vl_guard {o : Oper} {j dj : Nat} {oj : Oper} {want b : Bool} (hg : o.guard = some (j, want)) (hj : ops.toList[j]? = some oj) (hdj : oj.dst = some dj) (hv : look fr dj = some (.bool b)) (hb : b = want)
    (h : VL P ro w0 n ops Q ({ o with guard := none } :: rest) ds fr L) : VL P ro w0 n ops Q (o :: rest) ds fr L :=
  ⟨fun a w hk hs => by
    subst hb
    have hj' : ops[j]? = some oj := by rw [← hj]; simp
    have hv' := hk.at' dj _ hv
    have hw : Region.wanted o (yielded ops a.tmps) = true := by simp [Region.wanted, hg, yielded, hj', hdj, hv']
    have h1 := h.out a w hk hs
    have hw2 : Region.wanted { o with guard := none } (yielded ops a.tmps) = true := by simp [Region.wanted]
    change (if Region.wanted { o with guard := none } (yielded ops a.tmps) then _ else _) at h1
    rw [if_pos hw2] at h1
    show (if Region.wanted o (yielded ops a.tmps) then _ else _)
    rw [if_pos hw]
    exact h1⟩
theorem vl_pass {o : Oper} {j dj : Nat} {oj : Oper} {want b : Bool} (hg : o.guard = some (j, want)) (hj : ops.toList[j]? = some oj) (hdj : oj.dst = some dj) (hv : look fr dj = some (.bool b)) (hb : b = !want) (hd : o.dst = some d) (hdn : Nat.blt d n = true)
    (h : VL P ro w0 n ops Q rest ds ((d, undef) :: fr) L) : VL P ro w0 n ops Q (o :: rest) ds fr L :=
  ⟨fun a w hk hs => by
    subst hb
    have hj' : ops[j]? = some oj := by rw [← hj]; simp
    have hv' := hk.at' dj _ hv
    have hw : Region.wanted o (yielded ops a.tmps) = false := by simp [Region.wanted, hg, yielded, hj', hdj, hv']
    show (if Region.wanted o (yielded ops a.tmps) then _ else _)
    rw [if_neg (by rw [hw]; simp), hd]
    exact ⟨fun _ _ => trivial, h.out _ w (hk.put d undef hdn) hs⟩⟩

/-! ### Operations that only reckon -/
theorem vq_move {x : Operand} {v : Value} (hx : evA fr x = some v) : VQ P w0 n ⟨dst, .move x, ty, pos, after, gd⟩ (v) ds fr L :=
  vq_val (fun a w hk _ => by simp [execOp, hk.ev hx])
theorem vq_assign {x : Operand} {v : Value} (hx : evA fr x = some v) : VQ P w0 n ⟨dst, .assign x, ty, pos, after, gd⟩ (v) ds fr L :=
  vq_val (fun a w hk _ => by simp [execOp, hk.ev hx])
theorem vq_pickT {x y : Operand} {c : Operand} {u : Value} (hc : evA fr c = some (.bool true)) (hx : evA fr x = some u) : VQ P w0 n ⟨dst, .pick c x y, ty, pos, after, gd⟩ u ds fr L :=
  vq_val (fun a w hk _ => by simp [execOp, hk.ev hx, hk.ev hc, asBool])
theorem vq_pickF {x y : Operand} {c : Operand} {v : Value} (hc : evA fr c = some (.bool false)) (hy : evA fr y = some v) : VQ P w0 n ⟨dst, .pick c x y, ty, pos, after, gd⟩ v ds fr L :=
  vq_val (fun a w hk _ => by simp [execOp, hk.ev hy, hk.ev hc, asBool])
theorem vq_int {op : BinOp} {t yt : TypeId} {x y : Operand} {k : IntKind} {m p : Int} {v : Value} (hx : evA fr x = some (.int k m)) (hy : evA fr y = some (.int k p))
    (hr : ∀ w, (binOp op t (.int k m) (.int k p)).run P w = .ok v w) : VQ P w0 n ⟨dst, .binOp op t x y yt, ty, pos, after, gd⟩ (v) ds fr L :=
  vq_val (fun a w hk _ => by
    have he : (eqGuard op t x y (.int k m) (.int k p)).run P w = .ok () w := by cases op <;> simp [eqGuard]
    simp [execOp, hk.ev hx, hk.ev hy, Sem.run_bind, he, hr w])
theorem vq_add {t yt : TypeId} {x y : Operand} {k : IntKind} {m p r : Int} (hx : evA fr x = some (.int k m)) (hy : evA fr y = some (.int k p)) (hr : k.wrap (m + p) = r) : VQ P w0 n ⟨dst, .binOp .add t x y yt, ty, pos, after, gd⟩ (.int k r) ds fr L := vq_int hx hy (fun w => by subst hr; simp [binOp, Op.intArith])
theorem vq_minus {t yt : TypeId} {x y : Operand} {k : IntKind} {m p r : Int} (hx : evA fr x = some (.int k m)) (hy : evA fr y = some (.int k p)) (hr : k.wrap (m - p) = r) : VQ P w0 n ⟨dst, .binOp .sub t x y yt, ty, pos, after, gd⟩ (.int k r) ds fr L := vq_int hx hy (fun w => by subst hr; simp [binOp, Op.intArith])
theorem vq_mul {t yt : TypeId} {x y : Operand} {k : IntKind} {m p r : Int} (hx : evA fr x = some (.int k m)) (hy : evA fr y = some (.int k p)) (hr : k.wrap (m * p) = r) : VQ P w0 n ⟨dst, .binOp .mul t x y yt, ty, pos, after, gd⟩ (.int k r) ds fr L := vq_int hx hy (fun w => by subst hr; simp [binOp, Op.intArith])
theorem vq_quo {t yt : TypeId} {x y : Operand} {k : IntKind} {m p r : Int} (hx : evA fr x = some (.int k m)) (hy : evA fr y = some (.int k p)) (h0 : p ≠ 0) (hr : k.wrap (m.tdiv p) = r) : VQ P w0 n ⟨dst, .binOp .quo t x y yt, ty, pos, after, gd⟩ (.int k r) ds fr L := vq_int hx hy (fun w => by subst hr; simp [binOp, Op.intDiv, h0])
theorem vq_rem {t yt : TypeId} {x y : Operand} {k : IntKind} {m p r : Int} (hx : evA fr x = some (.int k m)) (hy : evA fr y = some (.int k p)) (h0 : p ≠ 0) (hr : m.tmod p = r) : VQ P w0 n ⟨dst, .binOp .rem t x y yt, ty, pos, after, gd⟩ (.int k r) ds fr L := vq_int hx hy (fun w => by subst hr; simp [binOp, Op.intDiv, h0])
/-- 'bits' of two numbers. -/
def bitsV (op : BinOp) (k : IntKind) (m p : Int) : Int :=
  let a := BitVec.ofInt k.bits m
  let b := BitVec.ofInt k.bits p
  match op with
  | .and => k.wrap (a &&& b).toNat
  | .or => k.wrap (a ||| b).toNat
  | .xor => k.wrap (a ^^^ b).toNat
  | _ => k.wrap (a &&& ~~~b).toNat
theorem vq_and {t yt : TypeId} {x y : Operand} {k : IntKind} {m p r : Int} (hx : evA fr x = some (.int k m)) (hy : evA fr y = some (.int k p)) (hr : bitsV .and k m p = r) : VQ P w0 n ⟨dst, .binOp .and t x y yt, ty, pos, after, gd⟩ (.int k r) ds fr L := vq_int hx hy (fun w => by subst hr; simp [binOp, Op.intBits, bitsV])
theorem vq_or {t yt : TypeId} {x y : Operand} {k : IntKind} {m p r : Int} (hx : evA fr x = some (.int k m)) (hy : evA fr y = some (.int k p)) (hr : bitsV .or k m p = r) : VQ P w0 n ⟨dst, .binOp .or t x y yt, ty, pos, after, gd⟩ (.int k r) ds fr L := vq_int hx hy (fun w => by subst hr; simp [binOp, Op.intBits, bitsV])
theorem vq_xor {t yt : TypeId} {x y : Operand} {k : IntKind} {m p r : Int} (hx : evA fr x = some (.int k m)) (hy : evA fr y = some (.int k p)) (hr : bitsV .xor k m p = r) : VQ P w0 n ⟨dst, .binOp .xor t x y yt, ty, pos, after, gd⟩ (.int k r) ds fr L := vq_int hx hy (fun w => by subst hr; simp [binOp, Op.intBits, bitsV])
theorem vq_shl {t yt : TypeId} {x y : Operand} {k k' : IntKind} {m p r : Int} (hx : evA fr x = some (.int k m)) (hy : evA fr y = some (.int k' p)) (h0 : 0 ≤ p) (hr : k.wrap (m * 2 ^ min p.toNat k.bits) = r) : VQ P w0 n ⟨dst, .binOp .shl t x y yt, ty, pos, after, gd⟩ (.int k r) ds fr L :=
  vq_val (fun a w hk _ => by
    have : ¬ p < 0 := by omega
    subst hr
    simp [execOp, hk.ev hx, hk.ev hy, eqGuard, binOp, Op.shift, this])
theorem vq_shr {t yt : TypeId} {x y : Operand} {k k' : IntKind} {m p r : Int} (hx : evA fr x = some (.int k m)) (hy : evA fr y = some (.int k' p)) (h0 : 0 ≤ p) (hr : m.fdiv (2 ^ min p.toNat k.bits) = r) : VQ P w0 n ⟨dst, .binOp .shr t x y yt, ty, pos, after, gd⟩ (.int k r) ds fr L :=
  vq_val (fun a w hk _ => by
    have : ¬ p < 0 := by omega
    subst hr
    simp [execOp, hk.ev hx, hk.ev hy, eqGuard, binOp, Op.shift, this])
theorem vq_eq {t yt : TypeId} {x y : Operand} {k : IntKind} {m p : Int} (hx : evA fr x = some (.int k m)) (hy : evA fr y = some (.int k p)) : VQ P w0 n ⟨dst, .binOp .eql t x y yt, ty, pos, after, gd⟩ (.bool (decide (m = p))) ds fr L := vq_int hx hy (fun w => by by_cases e : m = p <;> simp [binOp, Op.intCmp, e])
theorem vq_ne {t yt : TypeId} {x y : Operand} {k : IntKind} {m p : Int} (hx : evA fr x = some (.int k m)) (hy : evA fr y = some (.int k p)) : VQ P w0 n ⟨dst, .binOp .neq t x y yt, ty, pos, after, gd⟩ (.bool (decide (m ≠ p))) ds fr L := vq_int hx hy (fun w => by by_cases e : m = p <;> simp [binOp, Op.intCmp, e])
theorem vq_lt {t yt : TypeId} {x y : Operand} {k : IntKind} {m p : Int} (hx : evA fr x = some (.int k m)) (hy : evA fr y = some (.int k p)) : VQ P w0 n ⟨dst, .binOp .lss t x y yt, ty, pos, after, gd⟩ (.bool (decide (m < p))) ds fr L := vq_int hx hy (fun w => by simp [binOp, Op.intCmp])
theorem vq_le {t yt : TypeId} {x y : Operand} {k : IntKind} {m p : Int} (hx : evA fr x = some (.int k m)) (hy : evA fr y = some (.int k p)) : VQ P w0 n ⟨dst, .binOp .leq t x y yt, ty, pos, after, gd⟩ (.bool (decide (m ≤ p))) ds fr L := vq_int hx hy (fun w => by simp [binOp, Op.intCmp])
theorem vq_gt {t yt : TypeId} {x y : Operand} {k : IntKind} {m p : Int} (hx : evA fr x = some (.int k m)) (hy : evA fr y = some (.int k p)) : VQ P w0 n ⟨dst, .binOp .gtr t x y yt, ty, pos, after, gd⟩ (.bool (decide (p < m))) ds fr L := vq_int hx hy (fun w => by simp [binOp, Op.intCmp])
theorem vq_ge {t yt : TypeId} {x y : Operand} {k : IntKind} {m p : Int} (hx : evA fr x = some (.int k m)) (hy : evA fr y = some (.int k p)) : VQ P w0 n ⟨dst, .binOp .geq t x y yt, ty, pos, after, gd⟩ (.bool (decide (p ≤ m))) ds fr L := vq_int hx hy (fun w => by simp [binOp, Op.intCmp])
theorem vq_not {t : TypeId} {x : Operand} {b : Bool} (hx : evA fr x = some (.bool b)) : VQ P w0 n ⟨dst, .unOp .not t x, ty, pos, after, gd⟩ (.bool (!b)) ds fr L := vq_val (fun a w hk _ => by simp [execOp, hk.ev hx, Op.unary])
theorem vq_neg {t : TypeId} {x : Operand} {k : IntKind} {m r : Int} (hx : evA fr x = some (.int k m)) (hr : k.wrap (0 - m) = r) : VQ P w0 n ⟨dst, .unOp .neg t x, ty, pos, after, gd⟩ (.int k r) ds fr L := vq_val (fun a w hk _ => by subst hr; simp [execOp, hk.ev hx, Op.unary, Op.intArith])
theorem vq_xorU {t : TypeId} {x : Operand} {k : IntKind} {m r : Int} (hx : evA fr x = some (.int k m)) (hr : bitsV .xor k (if k.signed then -1 else k.max) m = r) : VQ P w0 n ⟨dst, .unOp .xor t x, ty, pos, after, gd⟩ (.int k r) ds fr L := vq_val (fun a w hk _ => by subst hr; simp [execOp, hk.ev hx, Op.unary, Op.intBits, bitsV])
theorem vq_extract {x : Operand} {i : Nat} {vs : Array Value} {v : Value} (hx : evA fr x = some (.tuple vs)) (hv : vs.toList[i]? = some v) : VQ P w0 n ⟨dst, .extract x i, ty, pos, after, gd⟩ (v) ds fr L := vq_val (fun a w hk _ => by
      have hv' : vs[i]? = some v := by rw [← hv]; simp
      simp [execOp, hk.ev hx, Instr.extract, hv'])
theorem vq_nilCheck {x : Operand} {p : Addr} (hx : evA fr x = some (.pointer (some p))) : VQ P w0 n ⟨dst, .nilCheck x, ty, pos, after, gd⟩ (.pointer (some p)) ds fr L := vq_val (fun a w hk _ => by simp [execOp, hk.ev hx])
/-- Operands' values. -/
def evAs (fr : Fr) : List Operand → Option (List Value)
  | [] => some []
  | x :: xs => match evA fr x, evAs fr xs with
    | some v, some vs => some (v :: vs)
    | _, _ => none
theorem Kn.evs {a : Act} (hk : Kn n ds a fr) : ∀ (xs : List Operand) (vs : List Value), evAs fr xs = some vs → xs.map a.eval = vs
  | [], vs, h => by simp only [evAs, Option.some.injEq] at h; subst h; rfl
  | x :: xs, vs, h => by
    simp only [evAs] at h
    split at h
    · rename_i v us h1 h2
      simp only [Option.some.injEq] at h
      subst h
      simp only [List.map_cons, hk.ev h1, hk.evs xs us h2]
    · cases h
theorem vq_makeFunc {f : Fn} {first captured : Array Operand} {fs cs : List Value} (h1 : evAs fr first.toList = some fs) (h2 : evAs fr captured.toList = some cs) : VQ P w0 n ⟨dst, .makeFunc f first captured, ty, pos, after, gd⟩ (.func f fs.toArray cs.toArray) ds fr L := vq_val (fun a w hk _ => by
      have e1 : first.map a.eval = fs.toArray := Array.ext' (by rw [Array.toList_map, hk.evs _ _ h1])
      have e2 : captured.map a.eval = cs.toArray := Array.ext' (by rw [Array.toList_map, hk.evs _ _ h2])
      simp [execOp, e1, e2, Instr.makeFunc])
/-- What a type is. -/
class UT (P : Program) (t : TypeId) (e : outParam TypeDesc) : Prop where
  out : P.underlying t = some e
theorem vq_conv {s t : TypeId} {x : Operand} {k k' : IntKind} {m r : Int} (hx : evA fr x = some (.int k m)) [hs : UT P s (.int k)] [ht : UT P t (.int k')] (hr : k'.wrap m = r) : VQ P w0 n ⟨dst, .convert s t x, ty, pos, after, gd⟩ (.int k' r) ds fr L := vq_val (fun a w hk _ => by
      subst hr
      simp [execOp, hk.ev hx, convert, run_underlying hs.out, run_underlying ht.out, Conv.intToInt])
theorem vq_lenSl {x : Operand} {t e : TypeId} {a0 : Option Addr} {m c : Nat} [hu : UT P t (.slice e)] (hx : evA fr x = some (.slice a0 m c)) : VQ P w0 n ⟨dst, .call { callee := .builtin .len, args := #[x], argTypes := #[t] }, ty, pos, after, gd⟩ (.int .i64 m) ds fr L := vq_val (fun a w hk _ => by
      simp [execOp, resolve, invoke, builtin, hk.ev hx, Builtin.len_, goInt, run_underlying hu.out])
end
end Go.Proofs.YtpnhgmmijkjmlaaDoor

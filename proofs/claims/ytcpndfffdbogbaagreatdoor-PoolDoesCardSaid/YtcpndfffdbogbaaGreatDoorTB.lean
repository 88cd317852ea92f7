/-
  Nodes and trees: their cells; whether a node may be, and a tree; a key with one bit turned. Trees, in plain terms: where values lie does not matter. Trees' small walks: an array's element by value; a node's roads; a fork; a bit; a bit turned. Whether a node may be, of so many ahead of it: the program's and the document's.
-/
import Derived.Test.YtcpndfffdbogbaaGreatDoorTA
import Derived.Test.YtcpndfffdbogbaaGreatDoorPairE
import Derived.Test.YtcpndfffdbogbaaGreatDoorGJ
import Derived.Test.YtcpndfffdbogbaaGreatDoorGC
set_option linter.unusedVariables false
set_option linter.unusedSimpArgs false
set_option linter.unusedSectionVars false
set_option maxRecDepth 100000
namespace Go.Proofs.YtcpndfffdbogbaaGreatDoor
open Go Go.RowKit
open Classical

def Nd.cells (x : Nd) : List Value := .bool x.leaf :: (bvs x.key ++ [.slice x.a x.v.length x.c, .int .i64 x.left, .int .i64 x.right])
def Nd.pb (x : Nd) : PB := ⟨x.a, x.c, x.v⟩
abbrev ndc (ns : List Nd) : List Value := flat Nd.cells ns
structure NsOk (ns : List Nd) : Prop where
  key : ∀ p ∈ ns, p.key.length = 32
  vl : ∀ p ∈ ns, p.v.length ≤ 1000000
  len : ns.length ≤ 1000000
theorem Nd.len {x : Nd} (h : x.key.length = 32) : x.cells.length = 36 := by simp [Nd.cells, h]
theorem NsOk.wide {ns : List Nd} (h : NsOk ns) : Wide Nd.cells 36 ns := fun p hp => Nd.len (h.key p hp)
theorem NsOk.sub {ns ms : List Nd} (h : NsOk ns) (hs : ∀ p ∈ ms, p ∈ ns) (hl : ms.length ≤ ns.length) : NsOk ms := ⟨fun p hp => h.key p (hs p hp), fun p hp => h.vl p (hs p hp), by have := h.len; omega⟩
section
variable {x : Nd}
theorem Nd.f0 : x.cells[0 + 0]? = some (.bool x.leaf) := rfl
theorem Nd.f1 (h : x.key.length = 32) : (x.cells.drop (0 + 1)).take 32 = bvs x.key := by
  simp only [Nd.cells, Nat.zero_add, List.drop_succ_cons, List.drop_zero]
  rw [List.take_left' (by simp [h])]
theorem Nd.f2 (h : x.key.length = 32) : x.cells[0 + 33]? = some (.slice x.a x.v.length x.c) := by
  simp [Nd.cells, List.getElem?_append, h]
theorem Nd.f3 (h : x.key.length = 32) : x.cells[0 + 34]? = some (.int .i64 x.left) := by
  simp [Nd.cells, List.getElem?_append, h]
theorem Nd.f4 (h : x.key.length = 32) : x.cells[0 + 35]? = some (.int .i64 x.right) := by
  simp [Nd.cells, List.getElem?_append, h]
end
instance oc_nd (p : Nd) : OC p.cells := (inferInstance : OC (.bool p.leaf :: (bvs p.key ++ [.slice p.a p.v.length p.c, .int .i64 p.left, .int .i64 p.right])))
section
variable {ns : List Nd}
theorem NsOk.e (h : NsOk ns) (k : Nat) (hk : k < ns.length) : ((ndc ns).drop (k * 36)).take 36 = ns[k].cells := h.wide.at k hk
theorem NsOk.e0 (h : NsOk ns) (k : Nat) (hk : k < ns.length) : (ndc ns)[k * 36 + 0]? = some (.bool ns[k].leaf) := by
  rw [h.wide.cell k hk 0 (by decide)]; exact Nd.f0
theorem NsOk.e1 (h : NsOk ns) (k : Nat) (hk : k < ns.length) : ((ndc ns).drop (k * 36 + 1)).take 32 = bvs ns[k].key := by
  rw [h.wide.part k hk 1 32 (by decide)]
  exact Nd.f1 (h.key _ (List.getElem_mem hk))
theorem NsOk.e2 (h : NsOk ns) (k : Nat) (hk : k < ns.length) : (ndc ns)[k * 36 + 33]? = some (.slice ns[k].a ns[k].v.length ns[k].c) := by
  rw [h.wide.cell k hk 33 (by decide)]
  exact Nd.f2 (h.key _ (List.getElem_mem hk))
theorem NsOk.e3 (h : NsOk ns) (k : Nat) (hk : k < ns.length) : (ndc ns)[k * 36 + 34]? = some (.int .i64 ns[k].left) := by
  rw [h.wide.cell k hk 34 (by decide)]
  exact Nd.f3 (h.key _ (List.getElem_mem hk))
theorem NsOk.e4 (h : NsOk ns) (k : Nat) (hk : k < ns.length) : (ndc ns)[k * 36 + 35]? = some (.int .i64 ns[k].right) := by
  rw [h.wide.cell k hk 35 (by decide)]
  exact Nd.f4 (h.key _ (List.getElem_mem hk))
theorem NsOk.k32at (h : NsOk ns) (k : Nat) (hk : k < ns.length) : ns[k].key.length = 32 := h.key _ (List.getElem_mem hk)
theorem NsOk.vlat (h : NsOk ns) (k : Nat) (hk : k < ns.length) : ns[k].v.length ≤ 1000000 := h.vl _ (List.getElem_mem hk)
theorem NsOk.pos (h : NsOk ns) (k : Nat) (hk : k < ns.length) : 0 < (ndc ns).length := h.wide.pos (by decide) (by omega)
end
/-- Their values can be read. -/
class RdNs (w0 : World) (L : List Asn) (ns : List Nd) : Prop where
  out : ∀ p ∈ ns, RdC w0 L p.a (bvs p.v)
instance (priority := 50) rdNs_cons (w0 : World) (A : Asn) (L : List Asn) (ns : List Nd) [h : RdNs w0 L ns] : RdNs w0 (A :: L) ns := ⟨fun p hp => by
    have := h.out p hp
    infer_instance⟩
theorem RdNs.at {w0 : World} {L : List Asn} {ns : List Nd} (h : RdNs w0 L ns) (k : Nat) (hk : k < ns.length) : RdC w0 L (ns[k]).a (bvs (ns[k]).v) := h.out _ (List.getElem_mem hk)
theorem RdNs.sub {w0 : World} {L : List Asn} {ns ms : List Nd} (h : RdNs w0 L ns) (hs : ∀ p ∈ ms, p ∈ ns) : RdNs w0 L ms := ⟨fun p hp => h.out p (hs p hp)⟩
/-! ### What may be -/
def zb : Nat → Nat := fun _ => 0
structure MayP (ns : List Nd) (r : Int) : Prop where
  len : ns.length ≤ 262144
  lo : 0 ≤ r
  hi : r ≤ ns.length
  ones : onesP ns
  right : 0 ≤ rightP ns r.toNat 0 zb
theorem onesP.at {ns : List Nd} (h : onesP ns) {k : Nat} (hk : k < ns.length) : oneP ns[k] k := h k _ (List.getElem?_eq_getElem hk)
theorem onesP.fork {ns : List Nd} (h : onesP ns) {k : Nat} (hk : k < ns.length) (hl : ns[k].leaf = false) : 0 ≤ ns[k].left ∧ ns[k].left ≤ k ∧ 0 ≤ ns[k].right ∧ ns[k].right ≤ k := by
  have := h.at hk
  unfold oneP at this
  rw [if_neg (by simp [hl])] at this
  omega
theorem onesP.l {ns : List Nd} (h : onesP ns) {k : Nat} (hk : k < ns.length) (hl : ns[k].leaf = false) : ns[k].l k = ns[k].left.toNat := by
  have := h.fork hk hl
  unfold Nd.l; omega
theorem onesP.r {ns : List Nd} (h : onesP ns) {k : Nat} (hk : k < ns.length) (hl : ns[k].leaf = false) : ns[k].r k = ns[k].right.toNat := by
  have := h.fork hk hl
  unfold Nd.r; omega
theorem onesP.take {ns : List Nd} (h : onesP ns) (k : Nat) : onesP (ns.take k) := fun i x hx => by
  rw [List.getElem?_take] at hx
  split at hx
  · exact h i x hx
  · cases hx
theorem onesP_step {ns : List Nd} {k : Nat} (hk : k < ns.length) (h : onesP (ns.take k)) (hx : oneP ns[k] k) : onesP (ns.take (k + 1)) := by
  rw [List.take_succ_eq_append_getElem hk]
  exact onesP_snoc h (by rw [List.length_take, Nat.min_eq_left (by omega)]; exact hx)

/-! ### A bit turned -/
def turnK (k : List UInt8) (i : Nat) : List UInt8 := k.set (i / 8) (UInt8.ofNat ((k.getD (i / 8) 0).toNat + 2 ^ (7 - i % 8)))
theorem turnK_len (k : List UInt8) (i : Nat) : (turnK k i).length = k.length := by simp [turnK]
theorem turn_byte : ∀ (c j : Nat), c < 256 → j < 8 → c / 2 ^ j % 2 = 0 → c + 2 ^ j < 256 ∧ c ^^^ 2 ^ j = c + 2 ^ j ∧ ∀ k, k < 8 → (c + 2 ^ j) / 2 ^ k % 2 = if k = j then 1 else c / 2 ^ k % 2 := by
  have h : (List.range 256).all (fun c => (List.range 8).all fun j => decide (c / 2 ^ j % 2 = 1) || (decide (c + 2 ^ j < 256) && decide (c ^^^ 2 ^ j = c + 2 ^ j) && (List.range 8).all fun k => decide ((c + 2 ^ j) / 2 ^ k % 2 = if k = j then 1 else c / 2 ^ k % 2))) = true := by decide +kernel
  intro c j hc hj h0
  have h1 := List.all_eq_true.1 h c (by simpa using hc)
  have h2 := List.all_eq_true.1 h1 j (by simpa using hj)
  simp only [Bool.or_eq_true, Bool.and_eq_true, decide_eq_true_eq, List.all_eq_true, List.mem_range] at h2
  rcases h2 with h2 | h2
  · omega
  · exact ⟨h2.1.1, h2.1.2, h2.2⟩
theorem bitAt_turn {k : List UInt8} {d : Nat} (hk : k.length = 32) (hd : d < 256) (hz : bitAt k d = 0) : bitAt (turnK k d) = flipB (bitAt k) d := by
  funext m
  unfold flipB
  have hb := (k.getD (d / 8) 0).toNat_lt
  obtain ⟨t1, t2, t3⟩ := turn_byte (k.getD (d / 8) 0).toNat (7 - d % 8) hb (by omega) hz
  unfold bitAt turnK
  by_cases e : m / 8 = d / 8
  · have h1 : (k.set (d / 8) (UInt8.ofNat ((k.getD (d / 8) 0).toNat + 2 ^ (7 - d % 8)))).getD (m / 8) 0 = UInt8.ofNat ((k.getD (d / 8) 0).toNat + 2 ^ (7 - d % 8)) := by
      rw [e, List.getD_eq_getElem?_getD, List.getElem?_set_self (by omega)]; rfl
    rw [h1, UInt8.toNat_ofNat', Nat.mod_eq_of_lt t1, t3 _ (by omega), e]
    by_cases e2 : m = d
    · rw [if_pos (by omega), if_pos e2]
    · rw [if_neg (by omega), if_neg e2]
  · have h1 : (k.set (d / 8) (UInt8.ofNat ((k.getD (d / 8) 0).toNat + 2 ^ (7 - d % 8)))).getD (m / 8) 0 = k.getD (m / 8) 0 := by
      rw [List.getD_eq_getElem?_getD, List.getElem?_set_ne (by omega), ← List.getD_eq_getElem?_getD]
    rw [h1, if_neg (by intro e2; exact e (by rw [e2]))]
theorem bitAt_z32 : bitAt z32T = zb := by
  funext m
  unfold bitAt zb z32T
  rw [List.getD_eq_getElem?_getD, List.getElem?_replicate]
  split <;> simp
end Go.Proofs.YtcpndfffdbogbaaGreatDoor
namespace Go.Proofs.YtcpndfffdbogbaaGreatDoor
open Go Go.RowKit
open Classical

def Nd.pl (x : Nd) : Nd := { x with a := none, c := 0 }
abbrev pls (ns : List Nd) : List Nd := ns.map Nd.pl
section
variable {ms ns : List Nd}
end
/-- What a tree that may be stands for. -/
theorem MayP.for {ns : List Nd} {r : Int} (h : MayP ns r) : RightR (forP ns r.toNat) 0 zb (rightP ns r.toNat 0 zb) := right_law ns r.toNat 0 zb (fun _ _ => rfl) h.right
theorem for_k32 {ns : List Nd} (h : NsOk ns) (n : Nat) : K32 (forP ns n) := fun y hy => by
  obtain ⟨x, hx, _, rfl⟩ := for_mem ns n y hy
  exact h.key x hx
theorem for_vl {ns : List Nd} (h : NsOk ns) (n : Nat) : ∀ y ∈ forP ns n, y.2.length ≤ 1000000 := fun y hy => by
  obtain ⟨x, hx, _, rfl⟩ := for_mem ns n y hy
  exact h.vl x hx
end Go.Proofs.YtcpndfffdbogbaaGreatDoor
namespace Go.Proofs.YtcpndfffdbogbaaGreatDoor
open Go Go.RowKit
open Classical

section
variable {P : Program} {w0 : World} {n : Nat} {ds : List Deferred} {fr : Fr} {L : List Asn} {dst : Option Nat} {ty : TypeId} {pos : String} {after : Array Edge} {gd : Option (Nat × Bool)}
/-- An element of an array that is a value. -/
theorem vq_ixV1 {t e : TypeId} {m size bytes : Nat} {z : List Value} {x i : Operand} {cs : Array Value} {q : IntKind} {I : Int} {v : Value} (hx : evA fr x = some (.agg cs)) (hi : evA fr i = some (.int q I)) [hu : ArI P t e m false size bytes z] (h0 : 0 ≤ I) (h1 : I < m) (hv : cs.toList[I.toNat * size]? = some v) : VQ P w0 n ⟨dst, .index t x i, ty, pos, after, gd⟩ v ds fr L :=
  vq_val (fun a w hk _ => by
    have hv' : cs[I.toNat * size]? = some v := by rw [← hv]; simp
    simp [execOp, hk.ev hx, hk.ev hi, Instr.index, asIntOf, Sem.run_bind, run_underlying hu.arr, h0, h1, hu.el.run_size, part, hu.el.run_isAgg, hv'])
theorem vq_ixVA {t e : TypeId} {m size bytes : Nat} {z : List Value} {x i : Operand} {cs : Array Value} {q : IntKind} {I : Int} {us : List Value} (hx : evA fr x = some (.agg cs)) (hi : evA fr i = some (.int q I)) [hu : ArI P t e m true size bytes z] (h0 : 0 ≤ I) (h1 : I < m) (hv : (cs.toList.drop (I.toNat * size)).take size = us) : VQ P w0 n ⟨dst, .index t x i, ty, pos, after, gd⟩ (.agg us.toArray) ds fr L :=
  vq_val (fun a w hk _ => by
    have hv' : cs.extract (I.toNat * size) (I.toNat * size + size) = us.toArray := by
      apply Array.ext'
      rw [Array.toList_extract, ← hv]
      simp [List.extract_eq_take_drop]
    simp [execOp, hk.ev hx, hk.ev hi, Instr.index, asIntOf, Sem.run_bind, run_underlying hu.arr, h0, h1, hu.el.run_size, part, hu.el.run_isAgg, hv'])
end
theorem roads_vc (w0 : World) (L : List Asn) (x : Nd) (h : x.key.length = 32) :
    VC Tryz.prog w0 145 [.agg x.cells.toArray] L fun v L' => v = .agg #[.int .i64 x.left, .int .i64 x.right] ∧ L' = L := by
  have f3 := Nd.f3 h
  have f4 := Nd.f4 h
  have hc := Nd.len h
  generalize x.cells = cs at *
  refine vc_ent ?_
  refine vc_in rfl rfl ?_
  repeat' (first | (refine goW ?_; intros) | (refine goCC ?_ ?_ <;> (intro hb; (try simp only [hSQ] at hb); try (exfalso; omega))) | fail)
  exact ⟨L, sei _ _ _, rfl, rfl⟩
theorem tbit_vc (w0 : World) (L : List Asn) (k : List UInt8) (hk : k.length = 32) (i : Nat) (hi : i < 256) :
    VC Tryz.prog w0 146 [.agg (bvs k).toArray, .int .i64 i] L fun v L' => v = .int .u8 (bitAt k i) ∧ L' = L := by
  refine vc_ent ?_
  refine vc_in rfl rfl ?_
  repeat' (first | (refine go1 ?_; intros) | (refine goCC ?_ ?_ <;> (intro hb; (try simp only [hSQ] at hb); try (exfalso; omega))) | fail)
  refine clV ?_
  refine vc_mono (pbit_vc w0 _ k hk i hi) ?_
  rintro v L' ⟨rfl, rfl⟩
  repeat' (first | (refine go1 ?_; intros) | (refine goCC ?_ ?_ <;> (intro hb; (try simp only [hSQ] at hb); try (exfalso; omega))) | fail)
  exact ⟨L, sei _ _ _, rfl, rfl⟩
theorem turn_bytes (k : List UInt8) (i : Nat) (c : Nat) (hi : i / 8 < k.length) (h : (UInt8.ofNat ((k.getD (i / 8) 0).toNat + 2 ^ (7 - i % 8))).toNat = c) : splice (bvs k) (0 + i / 8) [.int .u8 (c : Int)] = bvs (turnK k i) := by
  unfold turnK
  subst h
  rw [Nat.zero_add]
  have := splice_mid (bvs (k.take (i / 8))) (bvs [k[i / 8]]) (bvs (k.drop (i / 8 + 1))) (bvs [UInt8.ofNat ((k.getD (i / 8) 0).toNat + 2 ^ (7 - i % 8))]) (i / 8) (by simp; omega) (by simp)
  rw [List.set_eq_take_append_cons_drop, if_pos hi]
  have e : bvs k = bvs (k.take (i / 8)) ++ (bvs [k[i / 8]] ++ bvs (k.drop (i / 8 + 1))) := by
    simp only [bvs, ← List.map_append]
    congr 1
    rw [List.singleton_append, ← List.drop_eq_getElem_cons hi, List.take_append_drop]
  rw [e]
  refine Eq.trans ?_ (this.trans ?_)
  · rfl
  · simp [bvs]
theorem pturn_vc (w0 : World) (L : List Asn) (k : List UInt8) (hk : k.length = 32) (i : Nat) (hi : i < 256) (hz : bitAt k i = 0) :
    VC Tryz.prog w0 164 [.agg (bvs k).toArray, .int .i64 i] L fun v L' => v = .tuple #[.agg (bvs (turnK k i)).toArray, .int .i64 0] ∧ L' = L := by
  have hg : (bvs k)[0 + i / 8]? = some (.int .u8 (k.getD (i / 8) 0).toNat) := by rw [Nat.zero_add, getD_get k (i / 8) (by omega)]; exact bvs_at k (i / 8) (by omega)
  have hb := (k.getD (i / 8) 0).toNat_lt
  obtain ⟨t1, t2, t3⟩ := turn_byte (k.getD (i / 8) 0).toNat (7 - i % 8) hb (by omega) hz
  have hT := turn_bytes k i _ (by omega) (UInt8.toNat_ofNat_of_lt' (by exact t1))
  have hlT : (turnK k i).length = 32 := by rw [turnK_len, hk]
  generalize turnK k i = T at *
  have hx := bitsV_xor (p := (k.getD (i / 8) 0).toNat) (q := 2 ^ (7 - i % 8)) hb (by omega)
  rw [t2] at hx
  have hsh : ((128 : Int)).fdiv (2 ^ min ((i % 8 : Nat) : Int).toNat IntKind.u8.bits) = ((2 ^ (7 - i % 8) : Nat) : Int) := by
    have : (List.range 8).all (fun j => decide (((128 : Int)).fdiv (2 ^ min ((j : Nat) : Int).toNat IntKind.u8.bits) = ((2 ^ (7 - j) : Nat) : Int))) = true := by decide +kernel
    simpa using List.all_eq_true.1 this (i % 8) (by simp; omega)
  generalize (k.getD (i / 8) 0).toNat = c at *
  generalize 2 ^ (7 - i % 8) = D at *
  refine vc_ent ?_
  refine vc_in rfl rfl ?_
  repeat' (first | (refine go1 ?_; intros) | (refine goCC ?_ ?_ <;> (intro hb; (try simp only [hSQ] at hb); try (exfalso; omega))) | fail)
  (refine v_draw0 [9] (by kernel_rfl) ?_ <;> (refine tA 0 ?_) <;> (refine tA 1 ?_) <;> (refine tA 2 ?_) <;> (refine tA 3 ?_) <;> (refine tA 4 ?_) <;> (refine tA 5 ?_) <;> (refine tA 6 ?_) <;> (refine tA 7 ?_) <;> (refine tA 8 ?_) <;> (refine va_one 9 (by kernel_rfl) rfl rfl ?_; (refine goV ?_; intros); refine ⟨.inl (by kernel_rfl), ?_⟩) <;> (refine va_done (by kernel_rfl) ?_))
  rw [hsh, hx, hT]
  repeat' (first | (refine go1 ?_; intros) | (refine goCC ?_ ?_ <;> (intro hb; (try simp only [hSQ] at hb); try (exfalso; omega))) | fail)
  exact ⟨L, sei _ _ _, rfl, rfl⟩
theorem rturn_vc (w0 : World) (L : List Asn) (k : List UInt8) (hk : k.length = 32) (i : Nat) (hi : i < 256) (hz : bitAt k i = 0) :
    VC Tryz.prog w0 149 [.agg (bvs k).toArray, .int .i64 i] L fun v L' => v = .tuple #[.agg (bvs (turnK k i)).toArray, .int .i64 0] ∧ L' = L := by
  have hg : (bvs k)[0 + i / 8]? = some (.int .u8 (k.getD (i / 8) 0).toNat) := by rw [Nat.zero_add, getD_get k (i / 8) (by omega)]; exact bvs_at k (i / 8) (by omega)
  have hb := (k.getD (i / 8) 0).toNat_lt
  obtain ⟨t1, t2, t3⟩ := turn_byte (k.getD (i / 8) 0).toNat (7 - i % 8) hb (by omega) hz
  have hT := turn_bytes k i _ (by omega) (UInt8.toNat_ofNat_of_lt' (by exact t1))
  have hlT : (turnK k i).length = 32 := by rw [turnK_len, hk]
  generalize turnK k i = T at *
  generalize (k.getD (i / 8) 0).toNat = c at *
  have hp : ∀ j : Nat, i % 8 ≤ j → j ≤ 7 → 2 ^ (7 - j) ≤ 128 := fun j h1 h2 => by
    have : 2 ^ (7 - j) ≤ 2 ^ 7 := Nat.pow_le_pow_right (by decide) (by omega)
    omega
  refine vc_ent ?_
  refine vc_in rfl rfl ?_
  repeat' (first | (refine go1 ?_; intros) | (refine goCC ?_ ?_ <;> (intro hb; (try simp only [hSQ] at hb); try (exfalso; omega))) | fail)
  refine v_loopS Nat [1, 2, 4, 5] rfl (fun j => [(6, .int .u8 (2 ^ (7 - j) : Nat)), (7, .int .i64 j)]) (fun j => i % 8 ≤ j ∧ j ≤ 7) (fun j => j) 7 ⟨by omega, by omega⟩ (by (exact sbS)) (fun j ⟨hj, hj7⟩ => ?_)
  have hpj := hp j hj hj7
  by_cases hlt2 : i % 8 < j
  · have e1 : 2 * 2 ^ (7 - j) = 2 ^ (7 - (j - 1)) := by
      rw [show 7 - (j - 1) = 7 - j + 1 by omega, Nat.pow_succ]; omega
    have hpj2 := hp (j - 1) (by omega) (by omega)
    generalize hC : 2 ^ (7 - j) = C at *
    repeat' (first | (refine go1 ?_; intros) | (refine goCC ?_ ?_ <;> (intro hb; (try simp only [hSQ] at hb); try (exfalso; omega))) | fail)
    refine ⟨rfl, j - 1, ⟨by omega, by omega⟩, by omega, ?_, Ent.refl _ _⟩
    have hw : IntKind.u8.wrap (2 * (C : Int)) = ((2 * C : Nat) : Int) := by simp only [IntKind.wrap_u8]; omega
    rw [← e1, ← hw]
    (exact sbS)
  · obtain rfl : j = i % 8 := by omega
    generalize hC : 2 ^ (7 - i % 8) = C at *
    repeat' (first | (refine go1 ?_; intros) | (refine goCC ?_ ?_ <;> (intro hb; (try simp only [hSQ] at hb); try (exfalso; omega))) | fail)
    refine clV ?_
    refine vc_mono (at_vc w0 _ k hk i hi) ?_
    rintro v L' ⟨rfl, rfl⟩
    rw [hz]
    repeat' (first | (refine go1 ?_; intros) | (refine goCC ?_ ?_ <;> (intro hb; (try simp only [hSQ] at hb); try (exfalso; omega))) | fail)
    have hw : IntKind.u8.wrap ((c : Int) + (C : Int)) = ((c + C : Nat) : Int) := by simp only [IntKind.wrap_u8]; omega
    rw [hw, hT]
    repeat' (first | (refine go1 ?_; intros) | (refine goCC ?_ ?_ <;> (intro hb; (try simp only [hSQ] at hb); try (exfalso; omega))) | fail)
    exact ⟨L, sei _ _ _, rfl, rfl⟩
end Go.Proofs.YtcpndfffdbogbaaGreatDoor
namespace Go.Proofs.YtcpndfffdbogbaaGreatDoor
open Go Go.RowKit
open Classical

theorem oneP_leaf {x : Nd} {i : Nat} (h : x.leaf = true) : oneP x i ↔ okVal x.v.length = true ∧ x.left = 0 ∧ x.right = 0 := by unfold oneP; rw [if_pos h]
theorem oneP_fork {x : Nd} {i : Nat} (h : x.leaf = false) : oneP x i ↔ 0 ≤ x.left ∧ x.left ≤ i ∧ 0 ≤ x.right ∧ x.right ≤ i ∧ ¬ (x.left = 0 ∧ x.right = 0) ∧ x.key = z32T ∧ x.v.length = 0 := by unfold oneP; rw [if_neg (by simp [h])]
def Nd.pr (x : Nd) : PR := ⟨x.key, x.a, x.c, x.v⟩
theorem mapOk_one (p : PR) : MapOk (kvs [p]) ↔ okVal p.v.length = true := by
  refine ⟨fun h => h.2.1 p.kv (by simp), fun h => ⟨by simp, ?_, by simp [Srt]⟩⟩
  intro y hy
  simp at hy
  subst hy
  exact h

theorem one_vc (w0 : World) (L : List Asn) (x : Nd) (ahead : Nat) (hk : x.key.length = 32) (hv : x.v.length ≤ 1000000) (ha : ahead ≤ 1000000) :
    VC Tryz.prog w0 143 [.agg x.cells.toArray, .int .i64 ahead] L fun v L' => v = .bool (decide (oneP x ahead)) ∧ L' = L := by
  have f0 := Nd.f0 (x := x)
  have f1 := Nd.f1 hk
  have f2 := Nd.f2 hk
  have f3 := Nd.f3 hk
  have f4 := Nd.f4 hk
  have hc := Nd.len hk
  have hok : PsOk [x.pr] := psOk_one hk hv
  have hR := fun L => roads_vc w0 L x hk
  refine vc_ent ?_
  refine vc_in rfl rfl ?_
  cases hl : x.leaf
  · rw [hl] at f0
    have hI := oneP_fork (i := ahead) hl
    generalize x.cells = cs at *
    repeat' (first | (refine go1 ?_; intros) | (refine goCC ?_ ?_ <;> (intro hb; (try simp only [hSQ] at hb); try (exfalso; omega))) | fail)
    refine clV ?_
    refine vc_mono (hR _) ?_
    rintro v L' ⟨rfl, rfl⟩
    repeat' (first | (refine go1 ?_; intros) | (refine goCC ?_ ?_ <;> (intro hb; (try simp only [hSQ] at hb); try (exfalso; omega))) | fail)
    refine v_loopS Nat [1, 2, 4, 28] rfl (fun i => [(29, .int .i64 i)]) (fun i => i ≤ 2 ∧ (0 < i → 0 ≤ x.left ∧ x.left ≤ ahead) ∧ (1 < i → 0 ≤ x.right ∧ x.right ≤ ahead)) (fun i => 2 - i) 0 ⟨by omega, by omega, by omega⟩ (by (exact sbS)) (fun i ⟨hi, hi1, hi2⟩ => ?_)
    have hno : ∀ {v : Value}, ¬ oneP x ahead → v = .bool false → v = .bool (decide (oneP x ahead)) := fun h1 h2 => by rw [h2, decide_eq_false h1]
    rcases (by omega : i = 0 ∨ i = 1 ∨ i = 2) with rfl | rfl | rfl
    · repeat' (first | (refine go1 ?_; intros) | (refine goCC ?_ ?_ <;> (intro hb; (try simp only [hSQ] at hb); try (exfalso; omega))) | fail)
      refine vl_q rfl rfl rfl rfl (vq_ixV1 rfl rfl (by decide) (by decide) rfl) ?_
      repeat' (first | (refine go1 ?_; intros) | (refine goCC ?_ ?_ <;> (intro hb; (try simp only [hSQ] at hb); try (exfalso; omega))) | fail)
      · exact ⟨L, sei _ _ _, hno (fun h => by have := hI.1 h; omega) rfl, rfl⟩
      · exact ⟨L, sei _ _ _, hno (fun h => by have := hI.1 h; omega) rfl, rfl⟩
      · exact ⟨rfl, 1, ⟨by omega, fun _ => by omega, by omega⟩, by omega, by (exact sbS), Ent.refl _ _⟩
    · have hi3 := hi1 (by omega)
      repeat' (first | (refine go1 ?_; intros) | (refine goCC ?_ ?_ <;> (intro hb; (try simp only [hSQ] at hb); try (exfalso; omega))) | fail)
      refine vl_q rfl rfl rfl rfl (vq_ixV1 rfl rfl (by decide) (by decide) rfl) ?_
      repeat' (first | (refine go1 ?_; intros) | (refine goCC ?_ ?_ <;> (intro hb; (try simp only [hSQ] at hb); try (exfalso; omega))) | fail)
      · exact ⟨L, sei _ _ _, hno (fun h => by have := hI.1 h; omega) rfl, rfl⟩
      · exact ⟨L, sei _ _ _, hno (fun h => by have := hI.1 h; omega) rfl, rfl⟩
      · exact ⟨rfl, 2, ⟨by omega, fun _ => by omega, fun _ => by omega⟩, by omega, by (exact sbS), Ent.refl _ _⟩
    · have hi3 := hi1 (by omega)
      have hi4 := hi2 (by omega)
      repeat' (first | (refine go1 ?_; intros) | (refine goCC ?_ ?_ <;> (intro hb; (try simp only [hSQ] at hb); try (exfalso; omega))) | fail)
      · rename_i hz
        refine ⟨L, sei _ _ _, congrArg Value.bool (decide_eq_decide.2 ⟨fun e => hI.2 ⟨by omega, by omega, by omega, by omega, by omega, hz, by omega⟩, fun e => by have := hI.1 e; omega⟩), rfl⟩
      · exact ⟨L, sei _ _ _, hno (fun e => hb (by have := hI.1 e; omega)) rfl, rfl⟩
      · exact ⟨L, sei _ _ _, hno (fun e => hb (hI.1 e).2.2.2.2.2.1) rfl, rfl⟩
  · rw [hl] at f0
    have hI := oneP_leaf (i := ahead) hl
    have hno : ∀ {v : Value}, ¬ oneP x ahead → v = .bool false → v = .bool (decide (oneP x ahead)) := fun h1 h2 => by rw [h2, decide_eq_false h1]
    generalize x.cells = cs at *
    repeat' (first | (refine goB ?_; intros) | (refine goCC ?_ ?_ <;> (intro hb; (try simp only [hSQ] at hb); try (exfalso; omega))) | fail)
    · rename_i g1 _
      refine vl_q rfl rfl rfl rfl (vq_build (us := x.pr.cells) rfl rfl (by simp [plOf, Value.cells, hk, Nd.pr, PR.cells]) (PR.len hk)) ?_
      have hp33 : x.pr.cells.length = 33 := PR.len hk
      repeat' (first | (refine go1 ?_; intros) | (refine goCC ?_ ?_ <;> (intro hb; (try simp only [hSQ] at hb); try (exfalso; omega))) | fail)
      rename_i g2
      haveI hr1 : RdC w0 (own 170 33 (some ⟨g2, 0, none⟩) 1 1 (x.pr.cells ++ []) :: blk g1 72 cs :: L) (some ⟨g2, 0, none⟩) (prc [x.pr]) := (inferInstance : RdC w0 _ _ (x.pr.cells ++ []))
      refine clV ?_
      refine vc_mono (pcheck_vc w0 _ (some ⟨g2, 0, none⟩) 1 [x.pr] rfl hok) ?_
      rintro v L' ⟨rfl, rfl⟩
      by_cases hm : MapOk (kvs [x.pr])
      · rw [if_pos hm]
        repeat' (first | (refine go1 ?_; intros) | (refine goCC ?_ ?_ <;> (intro hb; (try simp only [hSQ] at hb); try (exfalso; omega))) | fail)
        exact ⟨L, sei _ _ _, by rw [decide_eq_true (hI.2 ⟨(mapOk_one _).1 hm, by omega, by omega⟩)]; rfl, rfl⟩
      · rw [if_neg hm]
        repeat' (first | (refine go1 ?_; intros) | (refine goCC ?_ ?_ <;> (intro hb; (try simp only [hSQ] at hb); try (exfalso; omega))) | fail)
        exact ⟨L, sei _ _ _, hno (fun e => hm ((mapOk_one _).2 (hI.1 e).1)) rfl, rfl⟩
    · exact ⟨L, sei _ _ _, hno (fun e => by have := hI.1 e; omega) rfl, rfl⟩
    · exact ⟨L, sei _ _ _, hno (fun e => by have := hI.1 e; omega) rfl, rfl⟩
theorem one6_vc (w0 : World) (L : List Asn) (x : Nd) (ahead : Nat) (hk : x.key.length = 32) (hv : x.v.length ≤ 1000000) (ha : ahead ≤ 1000000) :
    VC Tryz.prog w0 124 [.agg x.cells.toArray, .int .i64 ahead] L fun v L' => v = .bool (decide (oneP x ahead)) ∧ L' = L := by
  have f0 := Nd.f0 (x := x)
  have f1 := Nd.f1 hk
  have f2 := Nd.f2 hk
  have f3 := Nd.f3 hk
  have f4 := Nd.f4 hk
  have hc := Nd.len hk
  have hno : ∀ {v : Value}, ¬ oneP x ahead → v = .bool false → v = .bool (decide (oneP x ahead)) := fun h1 h2 => by rw [h2, decide_eq_false h1]
  refine vc_ent ?_
  refine vc_in rfl rfl ?_
  cases hl : x.leaf
  · rw [hl] at f0
    have hI := oneP_fork (i := ahead) hl
    generalize x.cells = cs at *
    by_cases h1 : 0 ≤ x.left ∧ x.left ≤ ahead
    · by_cases h2 : 0 ≤ x.right ∧ x.right ≤ ahead
      · repeat' (first | (refine goU ?_; intros) | (refine goCC ?_ ?_ <;> (intro hb; (try simp only [hSQ] at hb); try (exfalso; omega))) | fail)
        all_goals first
          | exact ⟨L, sei _ _ _, hno (fun e => by have := hI.1 e; omega) rfl, rfl⟩
          | exact ⟨L, sei _ _ _, hno (fun e => absurd (hI.1 e).2.2.2.2.2.1 ‹¬ x.key = List.replicate 32 0›) rfl, rfl⟩
          | exact ⟨L, sei _ _ _, congrArg Value.bool (decide_eq_decide.2 ⟨fun e => hI.2 ⟨by omega, by omega, by omega, by omega, by omega, ‹x.key = List.replicate 32 0›, by omega⟩, fun e => by have := hI.1 e; omega⟩), rfl⟩
      · repeat' (first | (refine goU ?_; intros) | (refine goCC ?_ ?_ <;> (intro hb; (try simp only [hSQ] at hb); try (exfalso; omega))) | fail)
        all_goals exact ⟨L, sei _ _ _, hno (fun e => by have := hI.1 e; omega) rfl, rfl⟩
    · repeat' (first | (refine goU ?_; intros) | (refine goCC ?_ ?_ <;> (intro hb; (try simp only [hSQ] at hb); try (exfalso; omega))) | fail)
      all_goals exact ⟨L, sei _ _ _, hno (fun e => by have := hI.1 e; omega) rfl, rfl⟩
  · rw [hl] at f0
    have hI := oneP_leaf (i := ahead) hl
    generalize x.cells = cs at *
    repeat' (first | (refine go1 ?_; intros) | (refine goCC ?_ ?_ <;> (intro hb; (try simp only [hSQ] at hb); try (exfalso; omega))) | fail)
    refine clV ?_
    refine vc_mono (val5_vc w0 _ x.a x.v.length x.c (by omega)) ?_
    rintro v L' ⟨rfl, rfl⟩
    cases ho : okVal x.v.length
    · repeat' (first | (refine go1 ?_; intros) | (refine goCC ?_ ?_ <;> (intro hb; (try simp only [hSQ] at hb); try (exfalso; omega))) | fail)
      exact ⟨L, sei _ _ _, hno (fun e => by rw [hI, ho] at e; exact absurd e.1 (by simp)) rfl, rfl⟩
    · repeat' (first | (refine go1 ?_; intros) | (refine goCC ?_ ?_ <;> (intro hb; (try simp only [hSQ] at hb); try (exfalso; omega))) | fail)
      · exact ⟨L, sei _ _ _, congrArg Value.bool (decide_eq_decide.2 ⟨fun e => hI.2 ⟨ho, by omega, by omega⟩, fun e => by have := hI.1 e; omega⟩), rfl⟩
      · exact ⟨L, sei _ _ _, hno (fun e => by have := hI.1 e; omega) rfl, rfl⟩
end Go.Proofs.YtcpndfffdbogbaaGreatDoor

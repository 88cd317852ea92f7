/-
  Pools, plainly: a shard turned; what Submit, Draw and Back tell.
-/
import Derived.Test.YtcpndfffdbogbaaDoorPolT
import Derived.Test.YtcpndfffdbogbaaDoorGU
set_option linter.unusedVariables false
set_option linter.unusedSimpArgs false
namespace Go.Proofs.YtcpndfffdbogbaaDoor
open Go Go.RowKit
set_option linter.unusedVariables false
set_option linter.unusedSimpArgs false
set_option linter.unusedSectionVars false
open Classical

abbrev PC := List (List LC)
structure MayO (cs : PC) : Prop where
  lo : 1 ≤ cs.length
  hi : cs.length ≤ 8
  at' : ∀ i (h : i < cs.length), MayC cs[i] ∧ ∀ c ∈ cs[i], atP c.1 cs.length = (i : Int)
theorem shl_length (ss : List Sh) : (shl ss).length = ss.length := List.length_map ..
theorem shl_at (ss : List Sh) (i : Nat) (hi : i < (shl ss).length) : (shl ss)[i] = lls (ss[i]'(by rwa [shl_length] at hi)).ls := List.getElem_map ..
theorem mayO_iff {ss : List Sh} : mayPo ss = true ↔ MayO (shl ss) := by
  have hl := shl_length ss
  have hz : ((shl ss).length : Int) = (ss.length : Int) := by rw [hl]
  have e : ∀ i (hi : i < ss.length), shAt ss i = true ↔ MayC (lls ss[i].ls) ∧ ∀ c ∈ lls ss[i].ls, atP c.1 ss.length = (i : Int) := fun i hi => by
    rw [shAt_eq i hi, Bool.and_eq_true, mayS_iff]
    refine and_congr_right fun _ => ?_
    unfold ofS
    rw [decide_eq_true_iff]
    constructor
    · intro h c hc
      obtain ⟨l, hl, rfl⟩ := List.mem_map.1 hc
      obtain ⟨k, hk, rfl⟩ := List.getElem_of_mem hl
      exact h k hk
    · intro h k hk
      exact h ss[i].ls[k].pl (List.mem_map.2 ⟨_, List.getElem_mem hk, rfl⟩)
  unfold mayPo
  rw [decide_eq_true_iff]
  constructor
  · rintro ⟨h1, h2, h3⟩
    refine ⟨by omega, by omega, fun i hi => ?_⟩
    rw [shl_at, hz]
    exact (e i (by omega)).1 (h3 i (by omega))
  · rintro ⟨h1, h2, h3⟩
    refine ⟨by omega, by omega, fun i hi => ?_⟩
    have := h3 i (by omega)
    rw [shl_at, hz] at this
    exact (e i hi).2 this
theorem atP_lt (k : List UInt8) {m : Int} (h : 1 ≤ m) : 0 ≤ atP k m ∧ atP k m < m := ⟨Int.tmod_nonneg _ (by omega), Int.tmod_lt_of_pos _ (by omega)⟩
/-- A key's shard as a number. -/
def atN (k : List UInt8) (n : Nat) : Nat := (atP k n).toNat
theorem atN_lt (k : List UInt8) {n : Nat} (h : 1 ≤ n) : atN k n < n := by
  have := atP_lt k (m := n) (by omega)
  unfold atN
  omega
theorem atN_cast (k : List UInt8) {n : Nat} (h : 1 ≤ n) : ((atN k n : Nat) : Int) = atP k n := by
  have := atP_lt k (m := n) (by omega)
  unfold atN
  omega
theorem MayO.set {cs : PC} (h : MayO cs) {i : Nat} (hi : i < cs.length) {z : List LC} (hz : MayC z) (ho : ∀ c ∈ z, atP c.1 cs.length = (i : Int)) : MayO (cs.set i z) := by
  have hl : (cs.set i z).length = cs.length := List.length_set
  refine ⟨by rw [hl]; exact h.lo, by rw [hl]; exact h.hi, fun j hj => ?_⟩
  rw [hl]
  rw [List.getElem_set]
  split
  · rename_i e
    subst e
    exact ⟨hz, ho⟩
  · exact h.at' j (by omega)
/-- What a pool turned in one shard tells. -/
def turnO {α : Type} (cs : PC) (i : Int) (q : Nat → List LC × α × Int) (none' : α) : PC × α × Int :=
  if 0 ≤ i ∧ i < cs.length then (if (q i.toNat).2.2 = 0 then (cs.set i.toNat (q i.toNat).1, (q i.toNat).2.1, 0) else ([], none', (q i.toNat).2.2)) else ([], none', 2)
theorem turnO_in {cs : PC} {k : Nat} (hk : k < cs.length) {q : Nat → List LC × List Tx × Int} {Q : List LC × List Tx × Int} (e : q k = Q) : turnO cs (k : Int) q [] = if Q.2.2 = 0 then (cs.set k Q.1, Q.2.1, 0) else ([], [], Q.2.2) := by
  subst e
  unfold turnO
  rw [if_pos (by omega), Int.toNat_natCast]
def atC (cs : PC) (i : Nat) : List LC := (cs[i]?).getD []
theorem atC_eq {cs : PC} {i : Nat} (h : i < cs.length) : atC cs i = cs[i] := by
  unfold atC
  rw [List.getElem?_eq_getElem h]
  rfl
noncomputable def submitO (cs : PC) (ns : List Nd) (r : Int) (cap : Int) (x : Tx) : PC × List Tx × Int :=
  if MayO cs ∧ StP ns r then turnO cs (atP (fromT x) cs.length) (fun i => submitS (atC cs i) cap (nonceA ns r (fromT x)) x) [] else ([], [], 8)
noncomputable def drawO (cs : PC) (ns : List Nd) (r : Int) (i : Int) (room : Int) : PC × List Tx × Int :=
  if MayO cs ∧ StP ns r then turnO cs i (fun i => drawQ (atC cs i) ns r room) [] else ([], [], 8)
/-! ### Memory -/
theorem sh2_erase (ss : List Sh) {i : Nat} (hi : i < ss.length) : (sh2 (ss.take i ++ ss.drop (i + 1))).Sublist (sh2 ss) := by
  have e : ss.take i ++ ss[i] :: ss.drop (i + 1) = ss := by rw [← List.drop_eq_getElem_cons hi, List.take_append_drop]
  have h : sh2 ss = sh2 (ss.take i) ++ ([ownLs ss[i].a ss[i].c ss[i].ls, tsA ss[i].ls] ++ sh2 (ss.drop (i + 1))) := by
    conv => lhs; rw [← e]
    unfold sh2
    rw [List.flatMap_append, List.flatMap_cons]
  rw [h]
  unfold sh2
  rw [List.flatMap_append]
  exact (List.Sublist.refl _).append (List.sublist_append_right _ _)
theorem setSh_perm {ss : List Sh} {i : Nat} (hi : i < ss.length) (s : Sh) : (s :: (ss.take i ++ ss.drop (i + 1))).Perm (ss.set i s) := by
  rw [List.set_eq_take_append_cons_drop, if_pos hi]
  exact List.perm_middle.symm
theorem se_shA_set (ss : List Sh) {i : Nat} (hi : i < ss.length) (s : Sh) (L : List Asn) : SE (ownLs s.a s.c s.ls :: tsA s.ls :: shA ss :: L) (shA (ss.set i s) :: L) := by
  have h1 : (ownLs s.a s.c s.ls :: tsA s.ls :: sh2 (ss.take i ++ ss.drop (i + 1))).Perm (sh2 (ss.set i s)) := List.Perm.flatMap_right (fun s : Sh => [ownLs s.a s.c s.ls, tsA s.ls]) (setSh_perm hi s)
  exact (SE.cons _ (SE.cons _ ((se_unbundle _ L).trans (se_sublist (sh2_erase ss hi) L)))).trans ((se_perm (h1.append_right L)).trans (se_bundle _ L))
theorem shc_set (ss : List Sh) {i : Nat} (hi : i < ss.length) (s : Sh) : splice (shc ss) i [.slice s.a s.ls.length s.c] = shc (ss.set i s) := by
  have := (shs_wide ss).spl (x := s) rfl i hi
  rw [Nat.mul_one] at this
  exact this
theorem SsOk.set {ss : List Sh} (h : SsOk ss) (i : Nat) {s : Sh} (hs : LsOk s.ls) : SsOk (ss.set i s) := ⟨fun p hp => by
  rcases List.mem_or_eq_of_mem_set hp with hp | rfl
  · exact h.ok p hp
  · exact hs, by rw [List.length_set]; exact h.len⟩
theorem shl_set (ss : List Sh) (i : Nat) (s : Sh) : shl (ss.set i s) = (shl ss).set i (lls s.ls) := by
  show List.map _ _ = _
  rw [List.map_set]
/-- What is told of a pool, of transactions, and with an error: their memory is new. -/
def RPS (q : PC × List Tx × Int) (L : List Asn) (v : Value) (L' : List Asn) : Prop := ∃ a c ts b d, v = .tuple #[.slice a ts.length c, .slice b q.2.1.length d, .int .i64 q.2.2] ∧ shl ts = q.1 ∧ SsOk ts ∧ L' = ownSs a c ts :: shA ts :: ownTs b d q.2.1 :: L
theorem SsOk.nil : SsOk [] := ⟨fun _ h => (by cases h), by simp⟩
theorem RPS.bad (w0 : World) (L : List Asn) (e : Int) {M : List Asn} (h : Ent w0 M L) : ∃ L', Ent w0 M L' ∧ RPS ([], [], e) L (.tuple #[.slice none 0 0, .slice none 0 0, .int .i64 e]) L' :=
  ⟨_, h.trans (((se_own_nil 39 99 L).trans (se_ss_nil _)).ent w0), none, 0, [], none, 0, rfl, rfl, SsOk.nil, rfl⟩
theorem K2.at {ss : List Sh} (h : SsOk ss) {i : Nat} (hi : i < ss.length) : K2 (lls ss[i].ls) := (h.at i hi).k2
end Go.Proofs.YtcpndfffdbogbaaDoor

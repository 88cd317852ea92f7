/-
  An account's bytes, in plain terms. Accounts of bytes (the program's). Accounts, in plain terms: what bytes tell of one; states. States: whether a tree is one; a key's account (the program's).
-/
import Derived.Test.YtcpndfffdbogbaaGreatDoorGC
import Derived.Test.YtcpndfffdbogbaaGreatDoorGZC
import Derived.Test.YtcpndfffdbogbaaGreatDoorGB
import Derived.Test.YtcpndfffdbogbaaGreatDoorGK
import Derived.Test.YtcpndfffdbogbaaGreatDoorTB
import Derived.Test.YtcpndfffdbogbaaGreatDoorGM
import Derived.Test.YtcpndfffdbogbaaGreatDoorTEaB
import Derived.Test.YtcpndfffdbogbaaGreatDoorTGtA
set_option linter.unusedVariables false
set_option linter.unusedSimpArgs false
set_option linter.unusedSectionVars false
set_option maxRecDepth 100000
set_option maxHeartbeats 4000000
namespace Go.Proofs.YtcpndfffdbogbaaGreatDoor
open Go Go.RowKit
open Classical

/-- What bytes tell of an account: nonce, balance, error. -/
noncomputable def accR (b : List UInt8) : Nat × Nat × Int :=
  if b.length < 16 then (0, 0, 10)
  else if 16 < b.length then (0, 0, 11)
  else if numOf (b.take 8) = 0 ∧ numOf (b.drop 8) = 0 then (0, 0, 8)
  else (numOf (b.take 8), numOf (b.drop 8), 0)
theorem accR_short {b : List UInt8} (h : b.length < 16) : accR b = (0, 0, 10) := if_pos h
theorem accR_long {b : List UInt8} (h : 16 < b.length) : accR b = (0, 0, 11) := by
  unfold accR
  rw [if_neg (by omega), if_pos h]
theorem accR_zero {b : List UInt8} (h : b.length = 16) (h1 : numOf (b.take 8) = 0) (h2 : numOf (b.drop 8) = 0) : accR b = (0, 0, 8) := by
  unfold accR
  rw [if_neg (by omega), if_neg (by omega), if_pos ⟨h1, h2⟩]
theorem accR_ok {b : List UInt8} (h : b.length = 16) (h1 : ¬ (numOf (b.take 8) = 0 ∧ numOf (b.drop 8) = 0)) : accR b = (numOf (b.take 8), numOf (b.drop 8), 0) := by
  unfold accR
  rw [if_neg (by omega), if_neg (by omega), if_neg h1]
theorem accR_lt (b : List UInt8) : (accR b).1 < 18446744073709551616 ∧ (accR b).2.1 < 18446744073709551616 := by
  have h1 := numOf_lt (b.take 8)
  have h2 := numOf_lt (b.drop 8)
  unfold accR
  split
  · exact ⟨by decide, by decide⟩
  split
  · exact ⟨by decide, by decide⟩
  rename_i a1 a2
  split
  · exact ⟨by decide, by decide⟩
  · exact ⟨h1, h2⟩
end Go.Proofs.YtcpndfffdbogbaaGreatDoor
namespace Go.Proofs.YtcpndfffdbogbaaGreatDoor
open Go Go.RowKit
open Classical

theorem takeShort_vc (w0 : World) (L : List Asn) (a : Option Addr) (cap : Nat) (b : List UInt8) (s : Nat) {n : Nat} (hn : n = b.length) (h0 : 0 < s) (h8 : s ≤ 8) (h : b.length < s) :
    VC Tryz.prog w0 113 [.slice a n cap, .int .i64 s] L fun v L' => v = .tuple #[.int .u64 0, .slice none 0 0, .int .i64 10] ∧ L' = L := by
  subst hn
  refine vc_ent ?_
  refine vc_in rfl rfl ?_
  repeat' (first | (refine go1 ?_; intros) | (refine goCC ?_ ?_ <;> (intro hb; (try simp only [hSQ] at hb); try (exfalso; omega))) | fail)
  all_goals first | (exfalso; omega) | exact ⟨_, sei _ _ L, rfl, rfl⟩
theorem numEnd_vc (w0 : World) (L : List Asn) (a : Option Addr) (n cap : Nat) :
    VC Tryz.prog w0 114 [.slice a n cap] L fun v L' => v = .int .i64 (if n = 0 then 0 else 11) ∧ L' = L := by
  refine vc_ent ?_
  refine vc_in rfl rfl ?_
  repeat' (first | (refine go1 ?_; intros) | (refine goCC ?_ ?_ <;> (intro hb; (try simp only [hSQ] at hb); try (exfalso; omega))) | fail)
  all_goals first | exact ⟨_, sei _ _ L, by rw [if_neg (by omega)], rfl⟩ | exact ⟨_, sei _ _ L, by rw [if_pos (by omega)], rfl⟩
section
variable {P : Program} {w0 : World} {n : Nat} {ds : List Deferred} {fr : Fr} {L : List Asn} {dst : Option Nat} {ty : TypeId} {pos : String} {after : Array Edge} {gd : Option (Nat × Bool)}
theorem vq_eqAcc {t yt : TypeId} {x y : Operand} {a b c d : Nat} (hx : evA fr x = some (.agg #[.int .u64 a, .int .u64 b])) (hy : evA fr y = some (.agg #[.int .u64 c, .int .u64 d])) [he : EqI P t [some .u64, some .u64]] : VQ P w0 n ⟨dst, .binOp .eql t x y yt, ty, pos, after, gd⟩ (.bool (decide (a = c ∧ b = d))) ds fr L :=
  vq_val (fun u w hk _ => run_eqAgg t yt x y rfl he [.int .u64 a, .int .u64 b] [.int .u64 c, .int .u64 d] (hk.ev hx) (hk.ev hy) ⟨⟨_, rfl⟩, ⟨_, rfl⟩, trivial⟩ ⟨⟨_, rfl⟩, ⟨_, rfl⟩, trivial⟩ _ (by simp only [List.cons.injEq, Value.int.injEq, true_and, and_true]; omega))
end
theorem aread_vc (w0 : World) (L : List Asn) (a : Option Addr) (cap : Nat) (b : List UInt8) {n : Nat} (hn : n = b.length) (hcap : b.length ≤ cap) (hl : b.length ≤ 1000000000000) [hr : RdC w0 L a (bvs b)] :
    VC Tryz.prog w0 71 [.slice a n cap] L fun v L' => v = .tuple #[.agg #[.int .u64 (accR b).1, .int .u64 (accR b).2.1], .int .i64 (accR b).2.2] ∧ L' = L := by
  subst hn
  refine vc_ent ?_
  refine vc_in rfl rfl ?_
  by_cases h8 : b.length < 8
  · rw [accR_short (by omega)]
    repeat' (first | (refine go1 ?_; intros) | (refine goCC ?_ ?_ <;> (intro hb; (try simp only [hSQ] at hb); try (exfalso; omega))) | fail)
    refine clV ?_
    refine vc_mono (takeShort_vc w0 _ a cap b 8 rfl (by decide) (by decide) h8) ?_
    rintro v L' ⟨rfl, rfl⟩
    repeat' (first | (refine go1 ?_; intros) | (refine goCC ?_ ?_ <;> (intro hb; (try simp only [hSQ] at hb); try (exfalso; omega))) | fail)
    exact ⟨_, sei _ _ L, rfl, rfl⟩
  repeat' (first | (refine go1 ?_; intros) | (refine goCC ?_ ?_ <;> (intro hb; (try simp only [hSQ] at hb); try (exfalso; omega))) | fail)
  refine clV ?_
  refine vc_mono (take_vc w0 _ a cap b 8 rfl (by decide) (by decide) (by omega) hcap hl) ?_
  rintro v L' ⟨a1, c1, hc1, rfl, rfl⟩
  have hdl : (b.drop 8).length = b.length - 8 := List.length_drop
  have hs1 : ∀ X : Value, splice [Value.int .u64 0, .int .u64 0] (0 + 0) [X] = [X, .int .u64 0] := fun _ => rfl
  have hs2 : ∀ X Y : Value, splice [X, Value.int .u64 0] (0 + 1) [Y] = [X, Y] := fun _ _ => rfl
  by_cases h16 : b.length < 16
  · rw [accR_short h16]
    rw [← hdl]
    repeat' (first | (refine go1 ?_; intros) | (refine goCC ?_ ?_ <;> (intro hb; (try simp only [hSQ] at hb); try (exfalso; omega))) | fail)
    rw [hs1]
    refine clV ?_
    refine vc_mono (takeShort_vc w0 _ a1 c1 (b.drop 8) 8 rfl (by decide) (by decide) (by omega)) ?_
    rintro v L' ⟨rfl, rfl⟩
    repeat' (first | (refine go1 ?_; intros) | (refine goCC ?_ ?_ <;> (intro hb; (try simp only [hSQ] at hb); try (exfalso; omega))) | fail)
    exact ⟨_, sei _ _ L, rfl, rfl⟩
  rw [← hdl] at hc1 ⊢
  have hn1 := numOf_lt (b.take 8)
  repeat' (first | (refine go1 ?_; intros) | (refine goCC ?_ ?_ <;> (intro hb; (try simp only [hSQ] at hb); try (exfalso; omega))) | fail)
  rw [hs1]
  refine clV ?_
  refine vc_mono (take_vc w0 _ a1 c1 (b.drop 8) 8 rfl (by decide) (by decide) (by omega) hc1 (by omega)) ?_
  rintro v L' ⟨a2, c2, hc2, rfl, rfl⟩
  repeat' (first | (refine go1 ?_; intros) | (refine goCC ?_ ?_ <;> (intro hb; (try simp only [hSQ] at hb); try (exfalso; omega))) | fail)
  rw [hs2]
  refine clV ?_
  refine vc_mono (numEnd_vc w0 _ a2 _ c2) ?_
  rintro v L' ⟨rfl, rfl⟩
  by_cases hlong : 16 < b.length
  · rw [accR_long hlong, if_neg (by omega)]
    repeat' (first | (refine go1 ?_; intros) | (refine goCC ?_ ?_ <;> (intro hb; (try simp only [hSQ] at hb); try (exfalso; omega))) | fail)
    exact ⟨_, sei _ _ L, rfl, rfl⟩
  have h16' : b.length = 16 := by omega
  rw [if_pos (by omega), List.take_of_length_le (show (b.drop 8).length ≤ 8 by omega)]
  repeat' (first | (refine go1 ?_; intros) | (refine goCC ?_ ?_ <;> (intro hb; (try simp only [hSQ] at hb); try (exfalso; omega))) | fail)
  refine vl_q rfl rfl rfl rfl (vq_eqAcc (c := 0) (d := 0) rfl rfl) ?_
  by_cases hz : numOf (b.take 8) = 0 ∧ numOf (b.drop 8) = 0
  · rw [decide_eq_true hz, accR_zero h16' hz.1 hz.2]
    repeat' (first | (refine go1 ?_; intros) | (refine goCC ?_ ?_ <;> (intro hb; (try simp only [hSQ] at hb); try (exfalso; omega))) | fail)
    exact ⟨_, sei _ _ L, rfl, rfl⟩
  · rw [decide_eq_false hz, accR_ok h16' hz]
    repeat' (first | (refine go1 ?_; intros) | (refine goCC ?_ ?_ <;> (intro hb; (try simp only [hSQ] at hb); try (exfalso; omega))) | fail)
    exact ⟨_, sei _ _ L, rfl, rfl⟩
end Go.Proofs.YtcpndfffdbogbaaGreatDoor
namespace Go.Proofs.YtcpndfffdbogbaaGreatDoor
open Go Go.RowKit
open Classical

/-- Whether all values are accounts; whether a tree is a state. -/
def heldP (l : List KV) : Prop := ∀ x ∈ l, (accR x.2).2.2 = 0
def StP (ns : List Nd) (r : Int) : Prop := MayP ns r ∧ heldP (forP ns r.toNat)
/-- The account of a key among pairs; of a state. -/
noncomputable def inP (l : List KV) (k : List UInt8) : Nat × Nat := if has l k = true then ((accR (getF l k)).1, (accR (getF l k)).2.1) else (0, 0)
noncomputable def getA (ns : List Nd) (r : Int) (k : List UInt8) : Nat × Nat := inP (forP ns r.toNat) k
theorem inP_lt (l : List KV) (k : List UInt8) : (inP l k).1 < 18446744073709551616 ∧ (inP l k).2 < 18446744073709551616 := by
  unfold inP
  split
  · exact accR_lt _
  · exact ⟨by decide, by decide⟩
end Go.Proofs.YtcpndfffdbogbaaGreatDoor
namespace Go.Proofs.YtcpndfffdbogbaaGreatDoor
open Go Go.RowKit
open Classical

theorem psA_capH (w0 : World) (L : List Asn) (qs : List PB) (k : Nat) (hk : k < qs.length) [h : HasPs L qs] (w : World) (hs : St w0 w L) : (qs[k]).l.length ≤ (qs[k]).cap := by
  obtain ⟨i, hi⟩ := h.out
  refine hs.know i hi (fun F hF => ?_)
  obtain ⟨G, h0, hG⟩ := SLs.mem (P := ownB (qs[k]).a (qs[k]).cap (qs[k]).l) hF (List.mem_map.2 ⟨qs[k], List.getElem_mem hk, rfl⟩)
  rcases hG with ⟨_, e1, e2⟩ | ⟨g, off, cs, _, _, _, h1, _⟩
  · omega
  · exact h1
theorem aeach_vc (w0 : World) (L : List Asn) (t : List Value) (ht : t.length = 2) [OC t] :
    VC Tryz.prog w0 67 [.agg t.toArray] L fun v L' => ∃ g, v = .func (.func 108) #[] #[.pointer (some ⟨g, 0, none⟩)] ∧ L' = blk g 27 t :: L := by
  refine vc_in rfl rfl ?_
  repeat' (first | (refine go1 ?_; intros) | (refine goCC ?_ ?_ <;> (intro hb; (try simp only [hSQ] at hb); try (exfalso; omega))) | fail)
  exact ⟨_, rfl, rfl⟩
theorem acheck_vc (w0 : World) (L : List Asn) (a : Option Addr) (c : Nat) (ns : List Nd) (r : Int) {n : Nat} (hn : n = ns.length) (hok : NsOk ns) [hr : RdC w0 L a (ndc ns)] [hv : RdNs w0 L ns] :
    VC Tryz.prog w0 31 [.agg #[.slice a n c, .int .i64 r]] L fun v L' => v = .int .i64 (if StP ns r then 0 else 8) ∧ L' = L := by
  subst hn
  have hlen := hok.len
  refine vc_ent ?_
  refine vc_in rfl rfl ?_
  repeat' (first | (refine go1 ?_; intros) | (refine goCC ?_ ?_ <;> (intro hb; (try simp only [hSQ] at hb); try (exfalso; omega))) | fail)
  refine clV ?_
  refine vc_mono (aeach_vc w0 _ [.slice a ns.length c, .int .i64 r] rfl) ?_
  rintro v L' ⟨g, rfl, rfl⟩
  repeat' (first | (refine go1 ?_; intros) | (refine goCC ?_ ?_ <;> (intro hb; (try simp only [hSQ] at hb); try (exfalso; omega))) | fail)
  rename_i g1 g2
  refine v_sub (selE_sub [2, 6] _ rfl) ?_
  refine v_range rfl (fun lp D => ?_)
  refine vc_in rfl rfl ?_
  repeat' (first | (refine go1 ?_; intros) | (refine goCC ?_ ?_ <;> (intro hb; (try simp only [hSQ] at hb); try (exfalso; omega))) | fail)
  refine clV ?_
  refine vc_mono (tpairs_vc w0 _ a c ns r rfl hok) ?_
  rintro v L' ⟨x, rfl, a1, c1, ps, rfl, hps, rfl⟩
  by_cases hm : MayP ns r
  rotate_left
  · have hst : ¬ StP ns r := fun e => hm e.1
    rw [if_neg hm, if_neg hst]
    repeat' (first | (refine go1 ?_; intros) | (refine goCC ?_ ?_ <;> (intro hb; (try simp only [hSQ] at hb); try (exfalso; omega))) | fail)
    exact ⟨_, sei _ _ L, rfl, rfl⟩
  rw [if_pos hm] at hps ⊢
  have hpo : PsOk ps := for_ok hok (fun _ _ => rfl) hm.right hps
  have hpl := hpo.len
  have hmem : ∀ i (hi : i < ps.length), (ps[i].key, ps[i].v) ∈ forP ns r.toNat := fun i hi => by
    rw [← hps]
    exact List.mem_map.2 ⟨ps[i], List.getElem_mem hi, rfl⟩
  repeat' (first | (refine go1 ?_; intros) | (refine goCC ?_ ?_ <;> (intro hb; (try simp only [hSQ] at hb); try (exfalso; omega))) | fail)
  refine v_loopS Nat [0, 19, 20] rfl (fun i => [(21, .int .i64 i)]) (fun i => i ≤ ps.length ∧ ∀ j (hj : j < ps.length), j < i → (accR ps[j].v).2.2 = 0) (fun i => ps.length - i) 0 ⟨Nat.zero_le _, fun j _ h => by omega⟩ (by (exact sbS)) (fun i ⟨hi, hall⟩ => ?_)
  by_cases hlt : i < ps.length
  rotate_left
  · obtain rfl : i = ps.length := by omega
    have hst : StP ns r := ⟨hm, fun x hx => by
      rw [← hps] at hx
      obtain ⟨p, hp, rfl⟩ := List.mem_map.1 hx
      obtain ⟨j, hj, rfl⟩ := List.getElem_of_mem hp
      exact hall j hj hj⟩
    rw [if_pos hst]
    repeat' (first | (refine go1 ?_; intros) | (refine goCC ?_ ?_ <;> (intro hb; (try simp only [hSQ] at hb); try (exfalso; omega))) | fail)
    exact ⟨_, sei _ _ L, rfl, rfl⟩
  have e := hpo.e i hlt
  have hpos := hpo.pos i hlt
  have hk32 := hpo.k32at i hlt
  have hvl := hpo.vlat i hlt
  have hcap : ∀ (M : List Asn) [HasPs M (ps.map PR.pb)] (w : World), St w0 w M → ps[i].v.length ≤ ps[i].c := fun M _ w hs => by
    have := psA_capH w0 M (ps.map PR.pb) i (by simpa using hlt) w hs
    rw [List.getElem_map] at this
    exact this
  haveI hrd : ∀ M [RdVs w0 M ps], RdC w0 M ps[i].a (bvs ps[i].v) := fun M k => k.at i hlt
  have hmi := hmem i hlt
  have hnext : (accR ps[i].v).2.2 = 0 → ∀ j (hj : j < ps.length), j < i + 1 → (accR ps[j].v).2.2 = 0 := fun hq j hj hji => by
    by_cases e2 : j = i
    · subst e2; exact hq
    · exact hall j hj (by omega)
  generalize ps[i] = p at *
  have hcl := PR.len hk32
  have f1 := PR.f1 hk32
  haveI hoc : OC p.cells := oc_pr _
  obtain ⟨cs, hcs⟩ : ∃ cs, cs = p.cells := ⟨_, rfl⟩
  rw [← hcs] at e hcl f1 hoc
  repeat' (first | (refine go1 ?_; intros) | (refine goCC ?_ ?_ <;> (intro hb; (try simp only [hSQ] at hb); try (exfalso; omega))) | fail)
  refine vl_know (φ := p.v.length ≤ p.c) (fun w hs => hcap _ w hs) (fun hpc => ?_)
  refine clV ?_
  refine vc_mono (aread_vc w0 _ p.a p.c p.v rfl hpc (by omega)) ?_
  rintro v L' ⟨rfl, rfl⟩
  have hlta := accR_lt p.v
  have hEm : StP ns r → (accR p.v).2.2 = 0 := fun e => e.2 _ hmi
  generalize (accR p.v).2.2 = E at *
  by_cases hE : E = 0
  · subst hE
    repeat' (first | (refine go1 ?_; intros) | (refine goCC ?_ ?_ <;> (intro hb; (try simp only [hSQ] at hb); try (exfalso; omega))) | fail)
    all_goals first | (exfalso; omega) | skip
    exact ⟨rfl, i + 1, ⟨by omega, hnext rfl⟩, by omega, by (exact sbS), sei _ _ _⟩
  · have hst : ¬ StP ns r := fun e => hE (hEm e)
    rw [if_neg hst]
    repeat' (first | (refine go1 ?_; intros) | (refine goCC ?_ ?_ <;> (intro hb; (try simp only [hSQ] at hb); try (exfalso; omega))) | fail)
    all_goals first | (exfalso; omega) | skip
    exact ⟨_, sei _ _ L, rfl, rfl⟩
/-- The account of a key, and whether the tree is a state. -/
noncomputable def accG (ns : List Nd) (r : Int) (k : List UInt8) : Nat × Nat := if StP ns r then getA ns r k else (0, 0)
theorem has_getF {l : List KV} {k : List UInt8} (h : has l k = true) : (k, getF l k) ∈ l := by
  unfold getF
  cases hf : l.find? (fun x => decide (x.1 = k)) with
  | none =>
    rw [List.find?_eq_none] at hf
    obtain ⟨x, hx, hp⟩ := List.any_eq_true.1 h
    exact absurd hp (hf x hx)
  | some y =>
    have h1 := List.mem_of_find?_eq_some hf
    have h2 := List.find?_some hf
    simp only [decide_eq_true_eq] at h2
    subst h2
    exact h1
theorem getT_len {ns : List Nd} (h : NsOk ns) {r : Int} (hm : MayP ns r) (k : List UInt8) : (getF (forP ns r.toNat) k).length ≤ 1000000000000 := by
  have e : kvs ((forP ns r.toNat).map fun x => PR.mk x.1 none 0 x.2) = forP ns r.toNat := by
    unfold kvs
    rw [List.map_map]
    exact List.map_id _
  have ho := for_ok h (fun _ _ => rfl) hm.right e
  cases hh : has (forP ns r.toNat) k
  · rw [getF_none hh]
    simp
  · have := ho.vl _ (List.mem_map.2 ⟨_, has_getF hh, rfl⟩)
    have : (getF (forP ns r.toNat) k).length ≤ 1000000 := this
    omega
theorem aget_vc (w0 : World) (L : List Asn) (a : Option Addr) (c : Nat) (ns : List Nd) (r : Int) (k : List UInt8) {n : Nat} (hn : n = ns.length) (hok : NsOk ns) (hk : k.length = 32) [hr : RdC w0 L a (ndc ns)] [hv : RdNs w0 L ns] :
    VC Tryz.prog w0 33 [.agg #[.slice a n c, .int .i64 r], .agg (bvs k).toArray] L fun v L' => v = .tuple #[.agg #[.int .u64 (accG ns r k).1, .int .u64 (accG ns r k).2], .int .i64 (if StP ns r then 0 else 8)] ∧ L' = L := by
  subst hn
  have hlen := hok.len
  unfold accG
  refine vc_ent ?_
  refine vc_in rfl rfl ?_
  repeat' (first | (refine go1 ?_; intros) | (refine goCC ?_ ?_ <;> (intro hb; (try simp only [hSQ] at hb); try (exfalso; omega))) | fail)
  refine clV ?_
  refine vc_mono (acheck_vc w0 _ a c ns r rfl hok) ?_
  rintro v L' ⟨rfl, rfl⟩
  by_cases hst : StP ns r
  rotate_left
  · rw [if_neg hst, if_neg hst]
    repeat' (first | (refine go1 ?_; intros) | (refine goCC ?_ ?_ <;> (intro hb; (try simp only [hSQ] at hb); try (exfalso; omega))) | fail)
    exact ⟨_, sei _ _ L, rfl, rfl⟩
  rw [if_pos hst, if_pos hst]
  repeat' (first | (refine go1 ?_; intros) | (refine goCC ?_ ?_ <;> (intro hb; (try simp only [hSQ] at hb); try (exfalso; omega))) | fail)
  refine clV ?_
  refine vc_mono (tget_vc w0 _ a c ns r k rfl hok hk) ?_
  rintro v L' ⟨a1, c1, rfl, rfl⟩
  have hgl := getT_len hok hst.1 k
  have e1 : getT ns r k = getF (forP ns r.toNat) k := if_pos hst.1
  have e2 : hasT ns r k = has (forP ns r.toNat) k := if_pos hst.1
  unfold getA inP
  rw [e1, e2]
  have hlt := accR_lt (getF (forP ns r.toNat) k)
  cases hh : has (forP ns r.toNat) k
  · rw [if_neg (by decide)]
    repeat' (first | (refine go1 ?_; intros) | (refine goCC ?_ ?_ <;> (intro hb; (try simp only [hSQ] at hb); try (exfalso; omega))) | fail)
    exact ⟨_, sei _ _ L, rfl, rfl⟩
  · rw [if_pos rfl]
    have h0 := hst.2 _ (has_getF hh)
    dsimp only at h0
    refine vl_know (φ := (getF (forP ns r.toNat) k).length ≤ c1) (fun w hs => (hs.ownLen 0 rfl).2.1) (fun hcp => ?_)
    repeat' (first | (refine go1 ?_; intros) | (refine goCC ?_ ?_ <;> (intro hb; (try simp only [hSQ] at hb); try (exfalso; omega))) | fail)
    refine clV ?_
    refine vc_mono (aread_vc w0 _ a1 c1 (getF (forP ns r.toNat) k) rfl hcp hgl) ?_
    rintro v L' ⟨rfl, rfl⟩
    rw [h0]
    repeat' (first | (refine go1 ?_; intros) | (refine goCC ?_ ?_ <;> (intro hb; (try simp only [hSQ] at hb); try (exfalso; omega))) | fail)
    exact ⟨_, sei _ _ L, rfl, rfl⟩
end Go.Proofs.YtcpndfffdbogbaaGreatDoor

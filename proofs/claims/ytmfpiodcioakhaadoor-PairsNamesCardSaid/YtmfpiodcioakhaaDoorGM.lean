/-
  Maps: what was put is got, and dropped again; two ways to one map. Pairs: the chapter's first examples.
-/
import Derived.Test.YtmfpiodcioakhaaDoorGL
import Derived.Test.YtmfpiodcioakhaaDoorGI
import Derived.Test.YtmfpiodcioakhaaDoorGK
import Derived.Test.YtmfpiodcioakhaaDoorGC
set_option linter.unusedVariables false
set_option linter.unusedSimpArgs false
namespace Go.Proofs.YtmfpiodcioakhaaDoor
open Go Go.RowKit
set_option linter.unusedVariables false
set_option linter.unusedSimpArgs false
open Classical

section
variable {l : List KV} {k v o : List UInt8}
theorem putE_iff : putE l k v = 0 ↔ MapOk l ∧ okVal v.length = true ∧ (putF l k v).length ≤ 512 := by
  unfold putE
  split
  · rename_i h
    split
    · rename_i h2; exact ⟨fun _ => ⟨h.1, h.2, h2⟩, fun _ => rfl⟩
    · rename_i h2; exact ⟨fun e => by omega, fun e => absurd e.2.2 h2⟩
  · rename_i h; exact ⟨fun e => by omega, fun e => absurd ⟨e.1, e.2.1⟩ h⟩
theorem mapOk_put (h : putE l k v = 0) (hk : K32 l) (hkk : k.length = 32) : MapOk (putF l k v) := by
  obtain ⟨h1, h2, h3⟩ := putE_iff.1 h
  refine ⟨h3, fun x hx => ?_, srt_put h1.2.2⟩
  rcases (mem_put hk hkk).1 hx with rfl | ⟨hx, _⟩
  · exact h2
  · exact h1.2.1 x hx
theorem has_put (hk : K32 l) (hkk : k.length = 32) : has (putF l k v) k = true := has_iff.2 ⟨v, (mem_put hk hkk).2 (.inl rfl)⟩
theorem get_put (hs : Srt l) (hk : K32 l) (hkk : k.length = 32) : getF (putF l k v) k = v := getF_mem (srt_put hs) ((mem_put hk hkk).2 (.inl rfl))
theorem has_put_o (hk : K32 l) (hkk : k.length = 32) (ho : o ≠ k) : has (putF l k v) o = has l o := by
  rw [Bool.eq_iff_iff, has_iff, has_iff]
  constructor
  · rintro ⟨w, h⟩
    rcases (mem_put hk hkk).1 h with e | ⟨h, _⟩
    · exact absurd (Prod.mk.inj e).1 ho
    · exact ⟨w, h⟩
  · rintro ⟨w, h⟩
    exact ⟨w, (mem_put hk hkk).2 (.inr ⟨h, ho⟩)⟩
theorem get_put_o (hs : Srt l) (hk : K32 l) (hkk : k.length = 32) (ho : o ≠ k) : getF (putF l k v) o = getF l o := by
  cases hh : has l o
  · rw [getF_none hh, getF_none (by rw [has_put_o hk hkk ho]; exact hh)]
  · obtain ⟨w, h⟩ := has_iff.1 hh
    rw [getF_mem hs h, getF_mem (srt_put hs) ((mem_put hk hkk).2 (.inr ⟨h, ho⟩))]
theorem drop_put (hs : Srt l) (hk : K32 l) (hkk : k.length = 32) (hh : has l k = false) : dropF (putF l k v) k = l := by
  refine srt_ext (srt_dropF (srt_put hs) k) hs fun x => ?_
  rw [mem_drop, mem_put hk hkk]
  constructor
  · rintro ⟨rfl | ⟨h, _⟩, h2⟩
    · exact absurd rfl h2
    · exact h
  · intro h
    have := has_false.1 hh x h
    exact ⟨.inr ⟨h, this⟩, this⟩
theorem put_put {a b va vb : List UInt8} (hs : Srt l) (hk : K32 l) (ha : a.length = 32) (hb : b.length = 32) (hab : a ≠ b) : putF (putF l a va) b vb = putF (putF l b vb) a va := by
  refine srt_ext (srt_put (srt_put hs)) (srt_put (srt_put hs)) fun x => ?_
  rw [mem_put (hk.put ha) hb, mem_put hk ha, mem_put (hk.put hb) ha, mem_put hk hb]
  constructor
  · rintro (rfl | ⟨rfl | ⟨h1, h2⟩, h3⟩)
    · exact .inr ⟨.inl rfl, hab.symm⟩
    · exact .inl rfl
    · exact .inr ⟨.inr ⟨h1, h3⟩, h2⟩
  · rintro (rfl | ⟨rfl | ⟨h1, h2⟩, h3⟩)
    · exact .inr ⟨.inl rfl, hab⟩
    · exact .inl rfl
    · exact .inr ⟨.inr ⟨h1, h3⟩, h2⟩
theorem put_le (hs : Srt l) (hk : K32 l) (hkk : k.length = 32) : l.length ≤ (putF l k v).length := by
  rw [put_len hs hk hkk]
  split <;> omega
theorem ways {a b va vb : List UInt8} (hk : K32 l) (ha : a.length = 32) (hb : b.length = 32) (hab : a ≠ b) (h1 : putE l a va = 0) (h2 : putE (putF l a va) b vb = 0) : putE l b vb = 0 ∧ putE (putF l b vb) a va = 0 ∧ putF (putF l b vb) a va = putF (putF l a va) b vb := by
  obtain ⟨m1, o1, l1⟩ := putE_iff.1 h1
  obtain ⟨m2, o2, l2⟩ := putE_iff.1 h2
  have e := put_put (va := va) (vb := vb) m1.2.2 hk ha hb hab
  rw [e] at l2
  have l3 := put_le (v := va) (k := a) (srt_put (l := l) (k := b) (v := vb) m1.2.2) (hk.put hb) ha
  have h3 : putE l b vb = 0 := putE_iff.2 ⟨m1, o2, by omega⟩
  exact ⟨h3, putE_iff.2 ⟨mapOk_put h3 hk hb, o1, l2⟩, e.symm⟩
end

/-- A key of a first byte. -/
def dk (c : UInt8) : List UInt8 := c :: List.replicate 31 0
theorem dk_len (c : UInt8) : (dk c).length = 32 := by simp [dk]
theorem dk_inj {a b : UInt8} : dk a = dk b ↔ a = b := by simp [dk]
theorem ahd_dk {a b : UInt8} : Ahd (dk a) (dk b) ↔ a.toNat < b.toNat := by
  by_cases e : a = b
  · subst e
    exact ⟨fun h => absurd h (Ahd.irrefl _), fun h => absurd h (Nat.lt_irrefl _)⟩
  · have hx : ((dk a).getD 0 0).toNat ^^^ ((dk b).getD 0 0).toNat ≠ 0 := fun h => e (UInt8.toNat_inj.1 (xor_zero_eq h))
    exact Ahd.of_byte (i := 0) (by decide) (fun j hj => by omega) rfl hx
end Go.Proofs.YtmfpiodcioakhaaDoor
namespace Go.Proofs.YtmfpiodcioakhaaDoor
open Go Go.RowKit
set_option linter.unusedVariables false
set_option linter.unusedSimpArgs false
open Classical

section
variable {P : Program} {w0 : World} {n : Nat} {ds : List Deferred} {fr : Fr} {L : List Asn} {dst : Option Nat} {ty : TypeId} {pos : String} {after : Array Edge} {gd : Option (Nat × Bool)}
/-- An array of which some elements are written out. -/
theorem vq_buildArrP {t e : TypeId} {agg : Bool} {size bytes m esize ebytes : Nat} {z ez cs : List Value} {parts : Array (Nat × Operand)} [ht : TyI P t true size bytes z] [hf : ArI P t e m agg esize ebytes ez] {vs : List (Nat × List Value)} (hv : evP fr parts.toList = some vs) (hok : ∀ p ∈ vs, okS ((List.range m).map fun i => (i * esize, esize)) size p) (hcs : fillS ((List.range m).map fun i => (i * esize, esize)) z vs = cs) : VQ P w0 n ⟨dst, .build t parts, ty, pos, after, gd⟩ (.agg cs.toArray) ds fr L :=
  vq_val (fun a w hk hs => run_buildArr t parts rfl ht hf vs (hk.partsP _ _ hv) hok cs hcs)
/-- A digest of a first byte. -/
theorem vq_dk {t e : TypeId} {bytes ebytes : Nat} {ez : List Value} {c : UInt8} {x : Operand} (hx : evA fr x = some (.int .u8 c.toNat)) [ht : TyI P t true 32 bytes (bvs (List.replicate 32 0))] [hf : ArI P t e 32 false 1 ebytes ez] : VQ P w0 n ⟨dst, .build t #[(0, x)], ty, pos, after, gd⟩ (.agg (bvs (dk c)).toArray) ds fr L :=
  vq_buildArrP (vs := [(0, [.int .u8 c.toNat])]) (by simp [evP, hx, Value.cells]) (by simp [okS]) (by simp [fillS, splice, dk, bvs, bv])
end

set_option maxRecDepth 100000 in
theorem one5_vc (w0 : World) (L : List Asn) (k : UInt8) (l : List UInt8) {I : Int} (hI : I = (k.toNat : Int)) :
    VC Tryd.prog w0 19 [.int .u8 I, .string ⟨l.toArray⟩] L fun v L' => ∃ g c, v = .agg (PR.cells ⟨dk k, some ⟨g, 0, none⟩, c, l⟩).toArray ∧ L' = rd (some ⟨g, 0, none⟩) (bvs l) :: L := by
  subst hI
  have hk := dk_len k
  refine vc_ent ?_
  refine vc_in rfl rfl ?_
  repeat' (first | (refine goB ?_; intros) | (refine vl_caseG rfl rfl rfl rfl ?_ ?_ <;> (intro hb; (try simp only [decide_eq_true_eq, decide_eq_false_iff_not, Bool.not_eq_true', Bool.not_eq_false', ne_eq, Decidable.not_not, Option.isNone_iff_eq_none, not_true_eq_false, not_false_eq_true] at hb); try (exfalso; omega))) | (refine v_cond rfl ?_ ?_ <;> (intro hb; (try simp only [decide_eq_true_eq, decide_eq_false_iff_not, Bool.not_eq_true', Bool.not_eq_false', ne_eq, Decidable.not_not, Option.isNone_iff_eq_none, not_true_eq_false, not_false_eq_true] at hb); try (exfalso; omega))) | fail)
  refine vl_q rfl rfl rfl rfl (vq_dk rfl) ?_
  repeat' (first | (refine goB ?_; intros) | (refine vl_caseG rfl rfl rfl rfl ?_ ?_ <;> (intro hb; (try simp only [decide_eq_true_eq, decide_eq_false_iff_not, Bool.not_eq_true', Bool.not_eq_false', ne_eq, Decidable.not_not, Option.isNone_iff_eq_none, not_true_eq_false, not_false_eq_true] at hb); try (exfalso; omega))) | (refine v_cond rfl ?_ ?_ <;> (intro hb; (try simp only [decide_eq_true_eq, decide_eq_false_iff_not, Bool.not_eq_true', Bool.not_eq_false', ne_eq, Decidable.not_not, Option.isNone_iff_eq_none, not_true_eq_false, not_false_eq_true] at hb); try (exfalso; omega))) | fail)
  refine vl_o rfl (vo_strBytes rfl rfl ?_)
  intro g c hc
  repeat' (first | (refine goB ?_; intros) | (refine vl_caseG rfl rfl rfl rfl ?_ ?_ <;> (intro hb; (try simp only [decide_eq_true_eq, decide_eq_false_iff_not, Bool.not_eq_true', Bool.not_eq_false', ne_eq, Decidable.not_not, Option.isNone_iff_eq_none, not_true_eq_false, not_false_eq_true] at hb); try (exfalso; omega))) | (refine v_cond rfl ?_ ?_ <;> (intro hb; (try simp only [decide_eq_true_eq, decide_eq_false_iff_not, Bool.not_eq_true', Bool.not_eq_false', ne_eq, Decidable.not_not, Option.isNone_iff_eq_none, not_true_eq_false, not_false_eq_true] at hb); try (exfalso; omega))) | fail)
  have hx33 : (PR.cells ⟨dk k, some ⟨g, 0, none⟩, c, l⟩).length = 33 := PR.len hk
  refine vl_q rfl rfl rfl rfl (vq_build (us := PR.cells ⟨dk k, some ⟨g, 0, none⟩, c, l⟩) rfl rfl (by simp [plOf, Value.cells, hk]) hx33) ?_
  generalize hxc : PR.cells ⟨dk k, some ⟨g, 0, none⟩, c, l⟩ = xc at *
  haveI hoc : OC xc := by rw [← hxc]; infer_instance
  repeat' (first | (refine go1 ?_; intros) | (refine vl_caseG rfl rfl rfl rfl ?_ ?_ <;> (intro hb; (try simp only [decide_eq_true_eq, decide_eq_false_iff_not, Bool.not_eq_true', Bool.not_eq_false', ne_eq, Decidable.not_not, Option.isNone_iff_eq_none, not_true_eq_false, not_false_eq_true] at hb); try (exfalso; omega))) | (refine v_cond rfl ?_ ?_ <;> (intro hb; (try simp only [decide_eq_true_eq, decide_eq_false_iff_not, Bool.not_eq_true', Bool.not_eq_false', ne_eq, Decidable.not_not, Option.isNone_iff_eq_none, not_true_eq_false, not_false_eq_true] at hb); try (exfalso; omega))) | fail)
  exact ⟨rd (some ⟨g, 0, none⟩) (bvs l) :: L, sei _ _ _, g, c, by rw [hxc], rfl⟩

/-- Pairs of texts, and what they hold. -/
theorem rdVs_cons1 {w0 : World} {L : List Asn} {p : PR} {ps : List PR} (h : RdC w0 L p.a (bvs p.v)) (k : RdVs w0 L ps) : RdVs w0 L (p :: ps) := ⟨fun q hq => by
  rcases List.mem_cons.1 hq with rfl | hq
  · exact h
  · exact k.out q hq⟩

theorem ex_map : MapOk [(dk 3, [97]), (dk 9, [99])] := by
  refine ⟨by decide, by simp [okVal], ?_⟩
  unfold Srt
  simp [ahd_dk]
theorem ex_put : putF [(dk 3, [97]), (dk 9, [99])] (dk 5) [98] = [(dk 3, [97]), (dk 5, [98]), (dk 9, [99])] := by
  simp [putF, lowF, highF, ahd_dk]
theorem ex_putE : putE [(dk 3, [97]), (dk 9, [99])] (dk 5) [98] = 0 := putE_iff.2 ⟨ex_map, by decide, by rw [ex_put]; decide⟩
theorem ex_map3 : MapOk [(dk 3, [97]), (dk 5, [98]), (dk 9, [99])] := by
  refine ⟨by decide, by simp [okVal], ?_⟩
  unfold Srt
  simp [ahd_dk]
theorem ex_get : getF [(dk 3, [97]), (dk 5, [98]), (dk 9, [99])] (dk 9) = [99] := by
  simp [getF, dk_inj]
theorem ex_has : has [(dk 3, [97]), (dk 5, [98]), (dk 9, [99])] (dk 9) = true := by
  simp [has, dk_inj]

set_option maxRecDepth 100000 in
set_option maxHeartbeats 4000000 in
theorem alive5_vc (w0 : World) (L : List Asn) :
    VC Tryd.prog w0 16 [] L fun v L' => v = .bool true ∧ L' = L := by
  have k3 := dk_len 3
  have k5 := dk_len 5
  have k9 := dk_len 9
  refine vc_ent ?_
  refine vc_in rfl rfl ?_
  repeat' (first | (refine go1 ?_; intros) | (refine vl_caseG rfl rfl rfl rfl ?_ ?_ <;> (intro hb; (try simp only [decide_eq_true_eq, decide_eq_false_iff_not, Bool.not_eq_true', Bool.not_eq_false', ne_eq, Decidable.not_not, Option.isNone_iff_eq_none, not_true_eq_false, not_false_eq_true] at hb); try (exfalso; omega))) | (refine v_cond rfl ?_ ?_ <;> (intro hb; (try simp only [decide_eq_true_eq, decide_eq_false_iff_not, Bool.not_eq_true', Bool.not_eq_false', ne_eq, Decidable.not_not, Option.isNone_iff_eq_none, not_true_eq_false, not_false_eq_true] at hb); try (exfalso; omega))) | fail)
  refine vl_o rfl (vo_call rfl rfl ?_)
  refine vc_mono (one5_vc w0 _ 3 [97] rfl) ?_
  rintro v L' ⟨g1, c1, rfl, rfl⟩
  repeat' (first | (refine go1 ?_; intros) | (refine vl_caseG rfl rfl rfl rfl ?_ ?_ <;> (intro hb; (try simp only [decide_eq_true_eq, decide_eq_false_iff_not, Bool.not_eq_true', Bool.not_eq_false', ne_eq, Decidable.not_not, Option.isNone_iff_eq_none, not_true_eq_false, not_false_eq_true] at hb); try (exfalso; omega))) | (refine v_cond rfl ?_ ?_ <;> (intro hb; (try simp only [decide_eq_true_eq, decide_eq_false_iff_not, Bool.not_eq_true', Bool.not_eq_false', ne_eq, Decidable.not_not, Option.isNone_iff_eq_none, not_true_eq_false, not_false_eq_true] at hb); try (exfalso; omega))) | fail)
  refine vl_o rfl (vo_call rfl rfl ?_)
  refine vc_mono (one5_vc w0 _ 9 [99] rfl) ?_
  rintro v L' ⟨g2, c2, rfl, rfl⟩
  have p33 : (PR.cells ⟨dk 3, some ⟨g1, 0, none⟩, c1, [97]⟩).length = 33 := PR.len k3
  have q33 : (PR.cells ⟨dk 9, some ⟨g2, 0, none⟩, c2, [99]⟩).length = 33 := PR.len k9
  repeat' (first | (refine goB ?_; intros) | (refine vl_caseG rfl rfl rfl rfl ?_ ?_ <;> (intro hb; (try simp only [decide_eq_true_eq, decide_eq_false_iff_not, Bool.not_eq_true', Bool.not_eq_false', ne_eq, Decidable.not_not, Option.isNone_iff_eq_none, not_true_eq_false, not_false_eq_true] at hb); try (exfalso; omega))) | (refine v_cond rfl ?_ ?_ <;> (intro hb; (try simp only [decide_eq_true_eq, decide_eq_false_iff_not, Bool.not_eq_true', Bool.not_eq_false', ne_eq, Decidable.not_not, Option.isNone_iff_eq_none, not_true_eq_false, not_false_eq_true] at hb); try (exfalso; omega))) | fail)
  rename_i g3
  have e1 : PR.cells ⟨dk 3, some ⟨g1, 0, none⟩, c1, [97]⟩ ++ (PR.cells ⟨dk 9, some ⟨g2, 0, none⟩, c2, [99]⟩ ++ []) = prc [⟨dk 3, some ⟨g1, 0, none⟩, c1, [97]⟩, ⟨dk 9, some ⟨g2, 0, none⟩, c2, [99]⟩] := rfl
  rw [e1]
  refine vl_q rfl rfl rfl rfl (vq_dk (c := 5) rfl) ?_
  repeat' (first | (refine goB ?_; intros) | (refine vl_caseG rfl rfl rfl rfl ?_ ?_ <;> (intro hb; (try simp only [decide_eq_true_eq, decide_eq_false_iff_not, Bool.not_eq_true', Bool.not_eq_false', ne_eq, Decidable.not_not, Option.isNone_iff_eq_none, not_true_eq_false, not_false_eq_true] at hb); try (exfalso; omega))) | (refine v_cond rfl ?_ ?_ <;> (intro hb; (try simp only [decide_eq_true_eq, decide_eq_false_iff_not, Bool.not_eq_true', Bool.not_eq_false', ne_eq, Decidable.not_not, Option.isNone_iff_eq_none, not_true_eq_false, not_false_eq_true] at hb); try (exfalso; omega))) | fail)
  rename_i g5
  haveI hrv : ∀ M, RdC w0 (rd (some ⟨g5, 0, none⟩) [.int .u8 98] :: M) (some ⟨g5, 0, none⟩) (bvs [98]) := fun M => (inferInstance : RdC w0 _ _ [.int .u8 98])
  refine vl_o rfl (vo_call rfl rfl ?_)
  refine vc_mono (pput_vc (hv := by exact rdVs_cons1 inferInstance (rdVs_cons1 inferInstance (rdVs_nil _ _))) w0 _ (some ⟨g3, 0, none⟩) 2 [⟨dk 3, some ⟨g1, 0, none⟩, c1, [97]⟩, ⟨dk 9, some ⟨g2, 0, none⟩, c2, [99]⟩] (dk 5) _ _ [98] rfl rfl ?_ k5 (by decide)) ?_
  · exact (psOk_one k3 (by simp)).app (psOk_one k9 (by simp)) (by simp)
  rintro v L' ⟨_, rfl, a4, c4, n4, rfl, e4, rfl⟩
  have e0 : putE (kvs [⟨dk 3, some ⟨g1, 0, none⟩, c1, [97]⟩, ⟨dk 9, some ⟨g2, 0, none⟩, c2, [99]⟩]) (dk 5) [98] = 0 := ex_putE
  have em : putM (kvs [⟨dk 3, some ⟨g1, 0, none⟩, c1, [97]⟩, ⟨dk 9, some ⟨g2, 0, none⟩, c2, [99]⟩]) (dk 5) [98] = [(dk 3, [97]), (dk 5, [98]), (dk 9, [99])] := by rw [putM, if_pos e0]; exact ex_put
  rw [em] at e4
  rw [e0]
  have ok4 : PsOk n4 := by
    refine ⟨fun p hp => ?_, fun p hp => ?_, ?_⟩
    · have : p.kv ∈ kvs n4 := List.mem_map.2 ⟨p, hp, rfl⟩
      rw [e4] at this
      simp only [List.mem_cons, List.not_mem_nil, or_false, PR.kv, Prod.mk.injEq] at this
      rcases this with ⟨h, _⟩ | ⟨h, _⟩ | ⟨h, _⟩ <;> rw [h] <;> exact dk_len _
    · have : p.kv ∈ kvs n4 := List.mem_map.2 ⟨p, hp, rfl⟩
      rw [e4] at this
      simp only [List.mem_cons, List.not_mem_nil, or_false, PR.kv, Prod.mk.injEq] at this
      rcases this with ⟨_, h⟩ | ⟨_, h⟩ | ⟨_, h⟩ <;> rw [h] <;> decide
    · have := congrArg List.length e4
      simp at this
      omega
  refine vl_ent (L' := ownPs a4 c4 n4 :: vsA n4 :: L) (sei _ _ _) ?_
  repeat' (first | (refine goB ?_; intros) | (refine vl_caseG rfl rfl rfl rfl ?_ ?_ <;> (intro hb; (try simp only [decide_eq_true_eq, decide_eq_false_iff_not, Bool.not_eq_true', Bool.not_eq_false', ne_eq, Decidable.not_not, Option.isNone_iff_eq_none, not_true_eq_false, not_false_eq_true] at hb); try (exfalso; omega))) | (refine v_cond rfl ?_ ?_ <;> (intro hb; (try simp only [decide_eq_true_eq, decide_eq_false_iff_not, Bool.not_eq_true', Bool.not_eq_false', ne_eq, Decidable.not_not, Option.isNone_iff_eq_none, not_true_eq_false, not_false_eq_true] at hb); try (exfalso; omega))) | fail)
  refine vl_q rfl rfl rfl rfl (vq_dk (c := 9) rfl) ?_
  repeat' (first | (refine goB ?_; intros) | (refine vl_caseG rfl rfl rfl rfl ?_ ?_ <;> (intro hb; (try simp only [decide_eq_true_eq, decide_eq_false_iff_not, Bool.not_eq_true', Bool.not_eq_false', ne_eq, Decidable.not_not, Option.isNone_iff_eq_none, not_true_eq_false, not_false_eq_true] at hb); try (exfalso; omega))) | (refine v_cond rfl ?_ ?_ <;> (intro hb; (try simp only [decide_eq_true_eq, decide_eq_false_iff_not, Bool.not_eq_true', Bool.not_eq_false', ne_eq, Decidable.not_not, Option.isNone_iff_eq_none, not_true_eq_false, not_false_eq_true] at hb); try (exfalso; omega))) | fail)
  refine vl_o rfl (vo_call rfl rfl ?_)
  refine vc_mono (pget_vc w0 _ a4 c4 n4 (dk 9) rfl ok4 k9) ?_
  rintro v L' ⟨a5, c5, b5, u5, rfl, e5, rfl⟩
  rw [e4, if_pos ex_map3, ex_get, ex_has] at e5
  obtain ⟨rfl, rfl⟩ := Prod.mk.inj e5
  repeat' (first | (refine goB ?_; intros) | (refine vl_caseG rfl rfl rfl rfl ?_ ?_ <;> (intro hb; (try simp only [decide_eq_true_eq, decide_eq_false_iff_not, Bool.not_eq_true', Bool.not_eq_false', ne_eq, Decidable.not_not, Option.isNone_iff_eq_none, not_true_eq_false, not_false_eq_true] at hb); try (exfalso; omega))) | (refine v_cond rfl ?_ ?_ <;> (intro hb; (try simp only [decide_eq_true_eq, decide_eq_false_iff_not, Bool.not_eq_true', Bool.not_eq_false', ne_eq, Decidable.not_not, Option.isNone_iff_eq_none, not_true_eq_false, not_false_eq_true] at hb); try (exfalso; omega))) | fail)
  refine vl_o rfl (vo_call rfl rfl ?_)
  refine vc_mono (one5_vc w0 _ 3 [97] rfl) ?_
  rintro v L' ⟨g6, c6, rfl, rfl⟩
  repeat' (first | (refine goB ?_; intros) | (refine vl_caseG rfl rfl rfl rfl ?_ ?_ <;> (intro hb; (try simp only [decide_eq_true_eq, decide_eq_false_iff_not, Bool.not_eq_true', Bool.not_eq_false', ne_eq, Decidable.not_not, Option.isNone_iff_eq_none, not_true_eq_false, not_false_eq_true] at hb); try (exfalso; omega))) | (refine v_cond rfl ?_ ?_ <;> (intro hb; (try simp only [decide_eq_true_eq, decide_eq_false_iff_not, Bool.not_eq_true', Bool.not_eq_false', ne_eq, Decidable.not_not, Option.isNone_iff_eq_none, not_true_eq_false, not_false_eq_true] at hb); try (exfalso; omega))) | fail)
  refine vl_o rfl (vo_call rfl rfl ?_)
  refine vc_mono (one5_vc w0 _ 5 [98] rfl) ?_
  rintro v L' ⟨g7, c7, rfl, rfl⟩
  repeat' (first | (refine goB ?_; intros) | (refine vl_caseG rfl rfl rfl rfl ?_ ?_ <;> (intro hb; (try simp only [decide_eq_true_eq, decide_eq_false_iff_not, Bool.not_eq_true', Bool.not_eq_false', ne_eq, Decidable.not_not, Option.isNone_iff_eq_none, not_true_eq_false, not_false_eq_true] at hb); try (exfalso; omega))) | (refine v_cond rfl ?_ ?_ <;> (intro hb; (try simp only [decide_eq_true_eq, decide_eq_false_iff_not, Bool.not_eq_true', Bool.not_eq_false', ne_eq, Decidable.not_not, Option.isNone_iff_eq_none, not_true_eq_false, not_false_eq_true] at hb); try (exfalso; omega))) | fail)
  refine vl_o rfl (vo_call rfl rfl ?_)
  refine vc_mono (one5_vc w0 _ 9 [99] rfl) ?_
  rintro v L' ⟨g8, c8, rfl, rfl⟩
  have p6 : (PR.cells ⟨dk 3, some ⟨g6, 0, none⟩, c6, [97]⟩).length = 33 := PR.len k3
  have p7 : (PR.cells ⟨dk 5, some ⟨g7, 0, none⟩, c7, [98]⟩).length = 33 := PR.len k5
  have p8 : (PR.cells ⟨dk 9, some ⟨g8, 0, none⟩, c8, [99]⟩).length = 33 := PR.len k9
  repeat' (first | (refine goB ?_; intros) | (refine vl_caseG rfl rfl rfl rfl ?_ ?_ <;> (intro hb; (try simp only [decide_eq_true_eq, decide_eq_false_iff_not, Bool.not_eq_true', Bool.not_eq_false', ne_eq, Decidable.not_not, Option.isNone_iff_eq_none, not_true_eq_false, not_false_eq_true] at hb); try (exfalso; omega))) | (refine v_cond rfl ?_ ?_ <;> (intro hb; (try simp only [decide_eq_true_eq, decide_eq_false_iff_not, Bool.not_eq_true', Bool.not_eq_false', ne_eq, Decidable.not_not, Option.isNone_iff_eq_none, not_true_eq_false, not_false_eq_true] at hb); try (exfalso; omega))) | fail)
  rename_i g9
  have e9 : PR.cells ⟨dk 3, some ⟨g6, 0, none⟩, c6, [97]⟩ ++ (PR.cells ⟨dk 5, some ⟨g7, 0, none⟩, c7, [98]⟩ ++ (PR.cells ⟨dk 9, some ⟨g8, 0, none⟩, c8, [99]⟩ ++ [])) = prc [⟨dk 3, some ⟨g6, 0, none⟩, c6, [97]⟩, ⟨dk 5, some ⟨g7, 0, none⟩, c7, [98]⟩, ⟨dk 9, some ⟨g8, 0, none⟩, c8, [99]⟩] := rfl
  rw [e9]
  refine vl_o rfl (vo_call rfl rfl ?_)
  refine vc_mono (rsame_vc (hv2 := by exact rdVs_cons1 inferInstance (rdVs_cons1 inferInstance (rdVs_cons1 inferInstance (rdVs_nil _ _)))) w0 _ a4 c4 n4 (some ⟨g9, 0, none⟩) 3 [⟨dk 3, some ⟨g6, 0, none⟩, c6, [97]⟩, ⟨dk 5, some ⟨g7, 0, none⟩, c7, [98]⟩, ⟨dk 9, some ⟨g8, 0, none⟩, c8, [99]⟩] rfl rfl ok4 ?_) ?_
  · exact (psOk_one k3 (by simp)).app ((psOk_one k5 (by simp)).app (psOk_one k9 (by simp)) (by simp)) (by simp)
  rintro v L' ⟨rfl, rfl⟩
  rw [decide_eq_true (show kvs n4 = kvs [⟨dk 3, some ⟨g6, 0, none⟩, c6, [97]⟩, ⟨dk 5, some ⟨g7, 0, none⟩, c7, [98]⟩, ⟨dk 9, some ⟨g8, 0, none⟩, c8, [99]⟩] from e4)]
  repeat' (first | (refine goB ?_; intros) | (refine vl_caseG rfl rfl rfl rfl ?_ ?_ <;> (intro hb; (try simp only [decide_eq_true_eq, decide_eq_false_iff_not, Bool.not_eq_true', Bool.not_eq_false', ne_eq, Decidable.not_not, Option.isNone_iff_eq_none, not_true_eq_false, not_false_eq_true] at hb); try (exfalso; omega))) | (refine v_cond rfl ?_ ?_ <;> (intro hb; (try simp only [decide_eq_true_eq, decide_eq_false_iff_not, Bool.not_eq_true', Bool.not_eq_false', ne_eq, Decidable.not_not, Option.isNone_iff_eq_none, not_true_eq_false, not_false_eq_true] at hb); try (exfalso; omega))) | fail)
  refine vl_q rfl rfl rfl rfl (vq_toStr (l := [99]) rfl rfl) ?_
  repeat' (first | (refine goB ?_; intros) | (refine vl_caseG rfl rfl rfl rfl ?_ ?_ <;> (intro hb; (try simp only [decide_eq_true_eq, decide_eq_false_iff_not, Bool.not_eq_true', Bool.not_eq_false', ne_eq, Decidable.not_not, Option.isNone_iff_eq_none, not_true_eq_false, not_false_eq_true] at hb); try (exfalso; omega))) | (refine v_cond rfl ?_ ?_ <;> (intro hb; (try simp only [decide_eq_true_eq, decide_eq_false_iff_not, Bool.not_eq_true', Bool.not_eq_false', ne_eq, Decidable.not_not, Option.isNone_iff_eq_none, not_true_eq_false, not_false_eq_true] at hb); try (exfalso; omega))) | fail)
  refine vl_q rfl rfl rfl rfl (vq_eqStr (l := [99]) (m := [99]) rfl rfl) ?_
  rw [decide_eq_true rfl]
  repeat' (first | (refine goB ?_; intros) | (refine vl_caseG rfl rfl rfl rfl ?_ ?_ <;> (intro hb; (try simp only [decide_eq_true_eq, decide_eq_false_iff_not, Bool.not_eq_true', Bool.not_eq_false', ne_eq, Decidable.not_not, Option.isNone_iff_eq_none, not_true_eq_false, not_false_eq_true] at hb); try (exfalso; omega))) | (refine v_cond rfl ?_ ?_ <;> (intro hb; (try simp only [decide_eq_true_eq, decide_eq_false_iff_not, Bool.not_eq_true', Bool.not_eq_false', ne_eq, Decidable.not_not, Option.isNone_iff_eq_none, not_true_eq_false, not_false_eq_true] at hb); try (exfalso; omega))) | fail)
  exact ⟨L, sei _ _ _, rfl, rfl⟩
end Go.Proofs.YtmfpiodcioakhaaDoor

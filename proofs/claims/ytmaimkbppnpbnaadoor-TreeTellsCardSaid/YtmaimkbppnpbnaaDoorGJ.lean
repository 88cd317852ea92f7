/-
  Roots of maps. Roots of maps: the document's walk; the statement's law.
-/
import Derived.Test.YtmaimkbppnpbnaaDoorGI
import Derived.Test.YtmaimkbppnpbnaaDoorGF
set_option linter.unusedVariables false
set_option linter.unusedSimpArgs false
namespace Go.Proofs.YtmaimkbppnpbnaaDoor
open Go Go.RowKit
set_option linter.unusedVariables false
set_option linter.unusedSimpArgs false
open Classical

/-- Digests of nothing, of a pair, of two. -/
def sha0 : List UInt8 := sha [0]
def leaf1 (k v : List UInt8) : List UInt8 := sha (tagB 1 [k, v])
def fork2 (a b : List UInt8) : List UInt8 := sha (tagB 2 [a, b])
theorem sha0_len : sha0.length = 32 := sha_length _
theorem leaf1_len (k v : List UInt8) : (leaf1 k v).length = 32 := sha_length _
theorem fork2_len (a b : List UInt8) : (fork2 a b).length = 32 := sha_length _
/-- A bit of keys; the root of a map's pairs that share so many bits. -/
noncomputable def bit0 (l : List KV) (d : Nat) : List KV := l.filter fun x => decide (bitAt x.1 d = 0)
noncomputable def bit1 (l : List KV) (d : Nat) : List KV := l.filter fun x => decide (¬ bitAt x.1 d = 0)
noncomputable def rootF : Nat → List KV → Nat → List UInt8
  | 0, _, _ => sha0
  | f + 1, l, d => match l with
    | [] => sha0
    | [x] => leaf1 x.1 x.2
    | x :: y :: l => fork2 (rootF f (bit0 (x :: y :: l) d) (d + 1)) (rootF f (bit1 (x :: y :: l) d) (d + 1))
theorem rootF_len : ∀ f l d, (rootF f l d).length = 32
  | 0, _, _ => sha0_len
  | f + 1, l, d => by
    unfold rootF
    split
    · exact sha0_len
    · exact leaf1_len _ _
    · exact fork2_len _ _
theorem rootF_two {f : Nat} {l : List KV} {d : Nat} (h : 2 ≤ l.length) : rootF (f + 1) l d = fork2 (rootF f (bit0 l d) (d + 1)) (rootF f (bit1 l d) (d + 1)) := by
  match l, h with
  | x :: y :: l, _ => rfl
theorem rootF_nil {f : Nat} {l : List KV} {d : Nat} (h : l.length = 0) : rootF (f + 1) l d = sha0 := by
  match l, h with
  | [], _ => rfl
/-- Keys that share so many bits. -/
def Shr (l : List KV) (d : Nat) : Prop := ∀ x ∈ l, ∀ y ∈ l, ∀ m, m < d → bitAt x.1 m = bitAt y.1 m
theorem Shr.zero (l : List KV) : Shr l 0 := fun _ _ _ _ m hm => by omega
theorem Shr.sub {l m : List KV} {d : Nat} (h : Shr l d) (hs : ∀ x ∈ m, x ∈ l) : Shr m d := fun x hx y hy => h x (hs x hx) y (hs y hy)
theorem Shr.step {l : List KV} {d : Nat} (h : Shr l d) {b : Nat} (hb : ∀ x ∈ l, bitAt x.1 d = b) : Shr l (d + 1) := fun x hx y hy m hm => by
  rcases Nat.lt_or_ge m d with e | e
  · exact h x hx y hy m e
  · obtain rfl : m = d := by omega
    rw [hb x hx, hb y hy]
theorem Shr.bit0 {l : List KV} {d : Nat} (h : Shr l d) : Shr (bit0 l d) (d + 1) := (h.sub (m := Proofs.YtmaimkbppnpbnaaDoor.bit0 l d) (fun x hx => (List.mem_filter.1 hx).1)).step (b := 0) (fun x hx => by simpa using (List.mem_filter.1 hx).2)
theorem Shr.bit1 {l : List KV} {d : Nat} (h : Shr l d) : Shr (bit1 l d) (d + 1) := (h.sub (m := Proofs.YtmaimkbppnpbnaaDoor.bit1 l d) (fun x hx => (List.mem_filter.1 hx).1)).step (b := 1) (fun x hx => by
  have := (List.mem_filter.1 hx).2
  have h2 := bitAt_lt x.1 d
  have : ¬ bitAt x.1 d = 0 := by simpa using this
  omega)
/-- Two of them can't share all. -/
theorem Shr.lt {l : List KV} {d : Nat} (h : Shr l d) (hs : Srt l) (hk : K32 l) (h2 : 2 ≤ l.length) : d < 256 := by
  rcases Nat.lt_or_ge d 256 with e | e
  · exact e
  · have ha := srt_at hs (i := 0) (j := 1) (by omega) (by omega)
    have := bits_ext (hk _ (List.getElem_mem (by omega : 0 < l.length))) (hk _ (List.getElem_mem (by omega : 1 < l.length))) (fun m hm => h _ (List.getElem_mem _) _ (List.getElem_mem _) m (by omega))
    exact absurd this ha.ne
theorem leaf_bytes (k v : List UInt8) (hk : k.length = 32) (hv : v.length ≤ 1000000) : (tagB 1 [k, v]).length ≤ 1000000000 := by
  simp [tagB, hk]; omega
theorem fork_bytes (a b : List UInt8) (ha : a.length = 32) (hb : b.length = 32) : (tagB 2 [a, b]).length ≤ 1000000000 := by
  simp [tagB, ha, hb]

set_option maxRecDepth 100000 in
theorem pbit_vc (w0 : World) (L : List Asn) (k : List UInt8) (hk : k.length = 32) (i : Nat) (hi : i < 256) :
    VC Tryd.prog w0 102 [.agg (bvs k).toArray, .int .i64 i] L fun v L' => v = .tuple #[.int .u8 (bitAt k i), .int .i64 0] ∧ L' = L := by
  have hg : (bvs k)[0 + i / 8]? = some (.int .u8 (k[i / 8]'(by omega)).toNat) := by rw [Nat.zero_add]; exact bvs_at k (i / 8) (by omega)
  have hb := (k[i / 8]'(by omega)).toNat_lt
  have hbit : bitAt k i = (k[i / 8]'(by omega)).toNat / 2 ^ (7 - i % 8) % 2 := by rw [bitAt, getD_get]
  rw [hbit]
  clear hbit
  generalize (k[i / 8]'(by omega)).toNat = c at *
  have hsh : ((c : Int)).fdiv (2 ^ min ((7 - i % 8 : Nat) : Int).toNat IntKind.u8.bits) = ((c / 2 ^ (7 - i % 8) : Nat) : Int) := by
    rw [show min ((7 - i % 8 : Nat) : Int).toNat IntKind.u8.bits = 7 - i % 8 by simp [IntKind.bits]; omega, Int.fdiv_eq_ediv_of_nonneg _ (Int.le_of_lt (Int.pow_pos (by decide)))]
    simp
  have hand : bitsV .and .u8 ((c / 2 ^ (7 - i % 8) : Nat) : Int) 1 = ((c / 2 ^ (7 - i % 8) % 2 : Nat) : Int) := by
    have hc : c / 2 ^ (7 - i % 8) < 256 := Nat.lt_of_le_of_lt (Nat.div_le_self _ _) hb
    generalize c / 2 ^ (7 - i % 8) = x at *
    have : (List.range 256).all (fun x => decide (bitsV .and .u8 (x : Int) 1 = ((x % 2 : Nat) : Int))) = true := by decide +kernel
    simpa using List.all_eq_true.1 this x (by simpa using hc)
  refine vc_ent ?_
  refine vc_in rfl rfl ?_
  repeat' (first | (refine go1 ?_; intros) | (refine vl_caseG rfl rfl rfl rfl ?_ ?_ <;> (intro hb; (try simp only [decide_eq_true_eq, decide_eq_false_iff_not, Bool.not_eq_true', Bool.not_eq_false', ne_eq, Decidable.not_not, Option.isNone_iff_eq_none, not_true_eq_false, not_false_eq_true] at hb); try (exfalso; omega))) | (refine v_cond rfl ?_ ?_ <;> (intro hb; (try simp only [decide_eq_true_eq, decide_eq_false_iff_not, Bool.not_eq_true', Bool.not_eq_false', ne_eq, Decidable.not_not, Option.isNone_iff_eq_none, not_true_eq_false, not_false_eq_true] at hb); try (exfalso; omega))) | fail)
  refine ⟨L, sei _ _ _, ?_, rfl⟩
  rw [hsh, hand]
theorem tof2_vc (w0 : World) (L : List Asn) (k : Nat) (hk : k < 256) (g : Nat) (a1 : Option Addr) (c1 : Nat) (l1 : List UInt8) (a2 : Option Addr) (c2 : Nat) (l2 : List UInt8) {n1 n2 : Nat} (hn1 : n1 = l1.length) (hn2 : n2 = l2.length) (hB : (tagB k [l1, l2]).length ≤ 1000000000) [hK : RdA w0 (some ⟨0, 0, none⟩) (wds K64)] {i : Nat} [ho : HasOwn L (some ⟨g, 0, none⟩) i 29 1 2 2 [.slice a1 n1 c1, .slice a2 n2 c2]] [h1 : RdC w0 L a1 (bvs l1)] [h2 : RdC w0 L a2 (bvs l2)] :
    VC Tryd.prog w0 90 [.int .u8 k, .slice (some ⟨g, 0, none⟩) 2 2] L fun v L' => v = .agg (bvs (sha (tagB k [l1, l2]))).toArray ∧ L' = L := by
  subst hn1; subst hn2
  haveI hA : RdC w0 L (some ⟨g, 0, none⟩) (pbs [⟨a1, c1, l1⟩, ⟨a2, c2, l2⟩]) := (inferInstance : RdC w0 L _ [.slice a1 l1.length c1, .slice a2 l2.length c2])
  haveI hB2 : RdPs w0 L [⟨a1, c1, l1⟩, ⟨a2, c2, l2⟩] := ⟨fun p hp => by
    simp only [List.mem_cons, List.not_mem_nil, or_false] at hp
    rcases hp with rfl | rfl <;> infer_instance⟩
  exact tof_vc w0 L k hk (some ⟨g, 0, none⟩) 2 [⟨a1, c1, l1⟩, ⟨a2, c2, l2⟩] rfl hB
theorem rtwo_vc (w0 : World) (L : List Asn) (k : Nat) (hk : k < 256) (a1 : Option Addr) (c1 : Nat) (l1 : List UInt8) (a2 : Option Addr) (c2 : Nat) (l2 : List UInt8) {n1 n2 : Nat} (hn1 : n1 = l1.length) (hn2 : n2 = l2.length) (hB : (tagB k [l1, l2]).length ≤ 1000000000) [h1 : RdC w0 L a1 (bvs l1)] [h2 : RdC w0 L a2 (bvs l2)] :
    VC Tryd.prog w0 110 [.int .u8 k, .slice a1 n1 c1, .slice a2 n2 c2] L fun v L' => v = .agg (bvs (sha (tagB k [l1, l2]))).toArray ∧ L' = L := by
  subst hn1; subst hn2
  refine vc_ent ?_
  refine vc_in rfl rfl ?_
  repeat' (first | (refine go1 ?_; intros) | (refine vl_caseG rfl rfl rfl rfl ?_ ?_ <;> (intro hb; (try simp only [decide_eq_true_eq, decide_eq_false_iff_not, Bool.not_eq_true', Bool.not_eq_false', ne_eq, Decidable.not_not, Option.isNone_iff_eq_none, not_true_eq_false, not_false_eq_true] at hb); try (exfalso; omega))) | (refine v_cond rfl ?_ ?_ <;> (intro hb; (try simp only [decide_eq_true_eq, decide_eq_false_iff_not, Bool.not_eq_true', Bool.not_eq_false', ne_eq, Decidable.not_not, Option.isNone_iff_eq_none, not_true_eq_false, not_false_eq_true] at hb); try (exfalso; omega))) | fail)
  rename_i g0 g1
  haveI hA : RdC w0 (own 29 1 (some ⟨g1, 0, none⟩) 2 2 [.slice a1 l1.length c1, .slice a2 l2.length c2] :: blk g0 26 (bvs (List.replicate 32 0)) :: L) (some ⟨g1, 0, none⟩) (pbs [⟨a1, c1, l1⟩, ⟨a2, c2, l2⟩]) := (inferInstance : RdC w0 _ _ [.slice a1 l1.length c1, .slice a2 l2.length c2])
  haveI hB2 : RdPs w0 (own 29 1 (some ⟨g1, 0, none⟩) 2 2 [.slice a1 l1.length c1, .slice a2 l2.length c2] :: blk g0 26 (bvs (List.replicate 32 0)) :: L) [⟨a1, c1, l1⟩, ⟨a2, c2, l2⟩] := ⟨fun p hp => by
    simp only [List.mem_cons, List.not_mem_nil, or_false] at hp
    rcases hp with rfl | rfl <;> infer_instance⟩
  refine vl_o rfl (vo_call rfl rfl ?_)
  refine vc_mono (rof_vc w0 _ k hk (some ⟨g1, 0, none⟩) 2 [⟨a1, c1, l1⟩, ⟨a2, c2, l2⟩] rfl hB) ?_
  rintro v L' ⟨rfl, rfl⟩
  rw [show tagB k (ls [⟨a1, c1, l1⟩, ⟨a2, c2, l2⟩]) = tagB k [l1, l2] from rfl]
  have hS := sha_length (tagB k [l1, l2])
  generalize sha (tagB k [l1, l2]) = S at *
  repeat' (first | (refine go1 ?_; intros) | (refine vl_caseG rfl rfl rfl rfl ?_ ?_ <;> (intro hb; (try simp only [decide_eq_true_eq, decide_eq_false_iff_not, Bool.not_eq_true', Bool.not_eq_false', ne_eq, Decidable.not_not, Option.isNone_iff_eq_none, not_true_eq_false, not_false_eq_true] at hb); try (exfalso; omega))) | (refine v_cond rfl ?_ ?_ <;> (intro hb; (try simp only [decide_eq_true_eq, decide_eq_false_iff_not, Bool.not_eq_true', Bool.not_eq_false', ne_eq, Decidable.not_not, Option.isNone_iff_eq_none, not_true_eq_false, not_false_eq_true] at hb); try (exfalso; omega))) | fail)
  exact ⟨L, sei _ _ _, rfl, rfl⟩

end Go.Proofs.YtmaimkbppnpbnaaDoor
namespace Go.Proofs.YtmaimkbppnpbnaaDoor
open Go Go.RowKit
set_option linter.unusedVariables false
set_option linter.unusedSimpArgs false
open Classical

theorem ownPs_snoc (a : Option Addr) (c : Nat) (ws : List PR) (p : PR) : ownPs a c (ws ++ [p]) = own 62 33 a (ws.length + 1) c (prc ws ++ (p.cells ++ [])) := by
  unfold ownPs prc
  rw [flat_snoc, List.length_append, List.append_nil]
  rfl
noncomputable def pb0 (ps : List PR) (d : Nat) : List PR := ps.filter fun p => decide (bitAt p.key d = 0)
noncomputable def pb1 (ps : List PR) (d : Nat) : List PR := ps.filter fun p => decide (¬ bitAt p.key d = 0)
theorem kvs_pb0 (ps : List PR) (d : Nat) : kvs (pb0 ps d) = bit0 (kvs ps) d := by
  simp only [pb0, bit0, kvs, List.filter_map]
  rfl
theorem kvs_pb1 (ps : List PR) (d : Nat) : kvs (pb1 ps d) = bit1 (kvs ps) d := by
  simp only [pb1, bit1, kvs, List.filter_map]
  rfl
theorem pb0_take {ps : List PR} {d i : Nat} (hi : i < ps.length) : pb0 (ps.take (i + 1)) d = if bitAt ps[i].key d = 0 then pb0 (ps.take i) d ++ [ps[i]] else pb0 (ps.take i) d := by
  unfold pb0
  rw [List.take_succ_eq_append_getElem hi, List.filter_append]
  by_cases h : bitAt ps[i].key d = 0
  · rw [if_pos h, List.filter_cons_of_pos (by simpa using h)]; rfl
  · rw [if_neg h, List.filter_cons_of_neg (by simpa using h)]; simp
theorem pb1_take {ps : List PR} {d i : Nat} (hi : i < ps.length) : pb1 (ps.take (i + 1)) d = if bitAt ps[i].key d = 0 then pb1 (ps.take i) d else pb1 (ps.take i) d ++ [ps[i]] := by
  unfold pb1
  rw [List.take_succ_eq_append_getElem hi, List.filter_append]
  by_cases h : bitAt ps[i].key d = 0
  · rw [if_pos h, List.filter_cons_of_neg (by simpa using h)]; simp
  · rw [if_neg h, List.filter_cons_of_pos (by simpa using h)]; rfl
theorem pb0_len (ps : List PR) (d i : Nat) : (pb0 (ps.take i) d).length ≤ ps.length := Nat.le_trans (List.length_filter_le _ _) (by simp; omega)
theorem pb1_len (ps : List PR) (d i : Nat) : (pb1 (ps.take i) d).length ≤ ps.length := Nat.le_trans (List.length_filter_le _ _) (by simp; omega)
theorem pb0_mem {ps : List PR} {d : Nat} {p : PR} (h : p ∈ pb0 ps d) : p ∈ ps := (List.mem_filter.1 h).1
theorem pb1_mem {ps : List PR} {d : Nat} {p : PR} (h : p ∈ pb1 ps d) : p ∈ ps := (List.mem_filter.1 h).1

set_option maxRecDepth 100000 in
set_option maxHeartbeats 4000000 in
theorem rroot_vc (w0 : World) (f : Nat) : ∀ (L : List Asn) (a : Option Addr) (cap : Nat) (ps : List PR) {n : Nat} (d : Nat) (hn : n = ps.length) (h : PsOk ps) (hs : Srt (kvs ps)) (hd : Shr (kvs ps) d) (hfd : f + d = 257) [hr : RdC w0 L a (prc ps)] [hv : RdVs w0 L ps],
    VC Tryd.prog w0 71 [.slice a n cap, .int .i64 d] L fun v L' => v = .agg (bvs (rootF (f + 1) (kvs ps) d)).toArray ∧ L' = L := by
  induction f using Nat.strongRecOn with
  | _ f ih =>
  intro L a cap ps n d hn h hs hd hfd hr hv
  subst hn
  have hlen := h.len
  have hkl : (kvs ps).length = ps.length := by simp
  refine vc_ent ?_
  refine vc_in rfl rfl ?_
  by_cases h0 : ps.length = 0
  · rw [rootF_nil (by simpa using h0), h0]
    repeat' (first | (refine go1 ?_; intros) | (refine vl_caseG rfl rfl rfl rfl ?_ ?_ <;> (intro hb; (try simp only [decide_eq_true_eq, decide_eq_false_iff_not, Bool.not_eq_true', Bool.not_eq_false', ne_eq, Decidable.not_not, Option.isNone_iff_eq_none, not_true_eq_false, not_false_eq_true] at hb); try (exfalso; omega))) | (refine v_cond rfl ?_ ?_ <;> (intro hb; (try simp only [decide_eq_true_eq, decide_eq_false_iff_not, Bool.not_eq_true', Bool.not_eq_false', ne_eq, Decidable.not_not, Option.isNone_iff_eq_none, not_true_eq_false, not_false_eq_true] at hb); try (exfalso; omega))) | fail)
    refine vl_o rfl (vo_call rfl rfl ?_)
    refine vc_mono (rnone_vc w0 _) ?_
    rintro v L' ⟨rfl, rfl⟩
    rw [show sha [0] = sha0 from rfl]
    have hS := sha0_len
    generalize sha0 = S at *
    repeat' (first | (refine go1 ?_; intros) | (refine vl_caseG rfl rfl rfl rfl ?_ ?_ <;> (intro hb; (try simp only [decide_eq_true_eq, decide_eq_false_iff_not, Bool.not_eq_true', Bool.not_eq_false', ne_eq, Decidable.not_not, Option.isNone_iff_eq_none, not_true_eq_false, not_false_eq_true] at hb); try (exfalso; omega))) | (refine v_cond rfl ?_ ?_ <;> (intro hb; (try simp only [decide_eq_true_eq, decide_eq_false_iff_not, Bool.not_eq_true', Bool.not_eq_false', ne_eq, Decidable.not_not, Option.isNone_iff_eq_none, not_true_eq_false, not_false_eq_true] at hb); try (exfalso; omega))) | fail)
    exact ⟨L, sei _ _ _, rfl, rfl⟩
  by_cases h1 : ps.length = 1
  · obtain ⟨p, rfl⟩ := List.length_eq_one_iff.1 h1
    have e0 : ((prc [p]).drop (0 * 33 + 0)).take 32 = bvs p.key := h.e0 0 (by simp)
    have e1 : (prc [p])[0 * 33 + 32]? = some (.slice p.a p.v.length p.c) := h.e1 0 (by simp)
    have hk32 : p.key.length = 32 := h.key p (by simp)
    have hvl := h.vl p (by simp)
    have hpos : 0 < (prc [p]).length := h.pos 0 (by simp)
    have hB := leaf_bytes p.key p.v hk32 hvl
    haveI r1 : RdC w0 L (offA a (0 * 33 + 0)) (bvs p.key) := rdC_at (0 * 33 + 0) (by rw [bvs_length, hk32]; exact e0)
    haveI r2 : RdC w0 L p.a (bvs p.v) := hv.out p (by simp)
    rw [show rootF (f + 1) (kvs [p]) d = leaf1 p.key p.v from rfl, show ([p] : List PR).length = 1 from rfl]
    generalize prc [p] = cs at *
    repeat' (first | (refine go1 ?_; intros) | (refine vl_caseG rfl rfl rfl rfl ?_ ?_ <;> (intro hb; (try simp only [decide_eq_true_eq, decide_eq_false_iff_not, Bool.not_eq_true', Bool.not_eq_false', ne_eq, Decidable.not_not, Option.isNone_iff_eq_none, not_true_eq_false, not_false_eq_true] at hb); try (exfalso; omega))) | (refine v_cond rfl ?_ ?_ <;> (intro hb; (try simp only [decide_eq_true_eq, decide_eq_false_iff_not, Bool.not_eq_true', Bool.not_eq_false', ne_eq, Decidable.not_not, Option.isNone_iff_eq_none, not_true_eq_false, not_false_eq_true] at hb); try (exfalso; omega))) | fail)
    (refine v_draw0 [8, 9] (by kernel_rfl) ?_ <;> (refine va_takeW 0 rfl rfl rfl rfl ?_) <;> (refine va_takeW 1 rfl rfl rfl rfl ?_) <;> (refine va_takeW 2 rfl rfl rfl rfl ?_) <;> (refine va_takeW 3 rfl rfl rfl rfl ?_) <;> (refine va_takeW 4 rfl rfl rfl rfl ?_) <;> (refine va_takeW 5 rfl rfl rfl rfl ?_) <;> (refine va_takeW 6 rfl rfl rfl rfl ?_) <;> (refine va_takeW 7 rfl rfl rfl rfl ?_))
    refine va_one 8 (by kernel_rfl) rfl rfl (vo_call rfl rfl ?_)
    refine vc_mono (rtwo_vc w0 _ 1 (by decide) (offA a (0 * 33 + 0)) 32 p.key p.a p.c p.v hk32.symm rfl hB) ?_
    rintro v L' ⟨rfl, rfl⟩
    rw [show sha (tagB 1 [p.key, p.v]) = leaf1 p.key p.v from rfl]
    have hS := leaf1_len p.key p.v
    generalize leaf1 p.key p.v = S at *
    refine ⟨.inr (SE.ent (by repeat' (first | exact SE.refl _ | refine SE.cons _ ?_ | refine SE.trans (se_drop _ _) ?_)) _), ?_⟩
    ((refine va_one 9 (by kernel_rfl) rfl rfl ?_; (first | (refine vo_box rfl rfl rfl ?_; intro _) | (refine vo_alloc rfl ?_; intro _) | (refine vo_isStore ?_; first | (refine vo_isPt0 rfl ?_; refine vo_stWA rfl rfl ?_) | (refine vo_isPt rfl ?_; refine vo_stBA rfl rfl ?_) | (refine vo_stO rfl rfl (by rfl) (by first | rfl | assumption) (by first | assumption | (simp; done) | (simp; omega) | omega) rfl ?_; skip)) | (refine vo_isCall ?_; first | (refine vo_isApp ?_; first | (refine vo_append0A rfl rfl rfl ?_; intro _ _ _ _) | (refine vo_appendA rfl rfl rfl ?_; intro _ _ _ _)) | (refine vo_isCopy ?_; refine vo_copyB rfl rfl rfl (by assumption) (by assumption) (by assumption) (by assumption) ?_) | refine vo_yield rfl rfl rfl rfl rfl ?_ | refine vo_callV rfl rfl rfl (vc_in rfl rfl ?_)) | refine vo_convRow rfl rfl ?_ | (refine vo_isBs ?_; refine vo_buildSlice rfl rfl rfl (by decide) (by repeat' (first | exact trivial | rfl | assumption | refine ⟨?_, ?_⟩ | (simp; done) | (simp; omega))) (by decide) rfl ?_; intro _) | (refine vo_buildSlice0 rfl ?_; intro _) | fail); refine ⟨.inl (by kernel_rfl), ?_⟩) <;> (refine va_done (by kernel_rfl) ?_))
    repeat' (first | (refine go1 ?_; intros) | (refine vl_caseG rfl rfl rfl rfl ?_ ?_ <;> (intro hb; (try simp only [decide_eq_true_eq, decide_eq_false_iff_not, Bool.not_eq_true', Bool.not_eq_false', ne_eq, Decidable.not_not, Option.isNone_iff_eq_none, not_true_eq_false, not_false_eq_true] at hb); try (exfalso; omega))) | (refine v_cond rfl ?_ ?_ <;> (intro hb; (try simp only [decide_eq_true_eq, decide_eq_false_iff_not, Bool.not_eq_true', Bool.not_eq_false', ne_eq, Decidable.not_not, Option.isNone_iff_eq_none, not_true_eq_false, not_false_eq_true] at hb); try (exfalso; omega))) | fail)
    exact ⟨L, sei _ _ _, rfl, rfl⟩
  have h2 : 2 ≤ (kvs ps).length := by omega
  have hd256 := hd.lt hs h.k32 h2
  rw [rootF_two h2]
  obtain ⟨f', rfl⟩ : ∃ f', f = f' + 1 := ⟨f - 1, by omega⟩
  obtain ⟨A, hA⟩ : ∃ A, A = rootF (f' + 1) (bit0 (kvs ps) d) (d + 1) := ⟨_, rfl⟩
  obtain ⟨B, hB⟩ : ∃ B, B = rootF (f' + 1) (bit1 (kvs ps) d) (d + 1) := ⟨_, rfl⟩
  have lA : A.length = 32 := by rw [hA]; exact rootF_len _ _ _
  have lB : B.length = 32 := by rw [hB]; exact rootF_len _ _ _
  rw [← hA, ← hB]
  repeat' (first | (refine go1 ?_; intros) | (refine vl_caseG rfl rfl rfl rfl ?_ ?_ <;> (intro hb; (try simp only [decide_eq_true_eq, decide_eq_false_iff_not, Bool.not_eq_true', Bool.not_eq_false', ne_eq, Decidable.not_not, Option.isNone_iff_eq_none, not_true_eq_false, not_false_eq_true] at hb); try (exfalso; omega))) | (refine v_cond rfl ?_ ?_ <;> (intro hb; (try simp only [decide_eq_true_eq, decide_eq_false_iff_not, Bool.not_eq_true', Bool.not_eq_false', ne_eq, Decidable.not_not, Option.isNone_iff_eq_none, not_true_eq_false, not_false_eq_true] at hb); try (exfalso; omega))) | fail)
  rename_i g4 _
  refine v_loopF (Nat × (Option Addr × Nat) × (Option Addr × Nat)) [0, 1, 4] rfl (fun x => [(7, .int .i64 x.1), (5, .slice x.2.1.1 (pb0 (ps.take x.1) d).length x.2.1.2), (6, .slice x.2.2.1 (pb1 (ps.take x.1) d).length x.2.2.2)])
    (fun _ x => ownPs x.2.1.1 x.2.1.2 (pb0 (ps.take x.1) d) :: ownPs x.2.2.1 x.2.2.2 (pb1 (ps.take x.1) d) :: blk g4 26 (bvs (List.replicate 32 0)) :: L)
    (fun x => x.1 ≤ ps.length) (fun x => ps.length - x.1) (0, (none, 0), (none, 0)) (Nat.zero_le _) (by (repeat' (first | exact Sub.nil _ | refine Sub.cons rfl rfl ?_ | refine Sub.cons rfl ?_ ?_))) ?_ ?_
  · exact ((se_own_nil 62 33 _).trans (se_own_nil 62 33 _)).ent w0
  rintro ⟨i, ⟨a5, c5⟩, ⟨a6, c6⟩⟩ hi
  dsimp only at hi ⊢
  by_cases hlt : i < ps.length
  · have e0 := h.e0 i hlt
    have e := h.e i hlt
    have hk32 := h.k32at i hlt
    have hc33 := PR.len hk32
    have hpos := h.pos i hlt
    have hl0 := pb0_len ps d i
    have hl1 := pb1_len ps d i
    have s0 := pb0_take (d := d) hlt
    have s1 := pb1_take (d := d) hlt
    by_cases hbit : bitAt ps[i].key d = 0
    · rw [if_pos hbit] at s0 s1
      generalize hAs : pb0 (ps.take i) d = ws at *
      generalize hBs : pb1 (ps.take i) d = bs at *
      repeat' (first | (refine go1 ?_; intros) | (refine vl_caseG rfl rfl rfl rfl ?_ ?_ <;> (intro hb; (try simp only [decide_eq_true_eq, decide_eq_false_iff_not, Bool.not_eq_true', Bool.not_eq_false', ne_eq, Decidable.not_not, Option.isNone_iff_eq_none, not_true_eq_false, not_false_eq_true] at hb); try (exfalso; omega))) | (refine v_cond rfl ?_ ?_ <;> (intro hb; (try simp only [decide_eq_true_eq, decide_eq_false_iff_not, Bool.not_eq_true', Bool.not_eq_false', ne_eq, Decidable.not_not, Option.isNone_iff_eq_none, not_true_eq_false, not_false_eq_true] at hb); try (exfalso; omega))) | fail)
      refine vl_o rfl (vo_call rfl rfl ?_)
      refine vc_mono (at_vc w0 _ ps[i].key hk32 d hd256) ?_
      rintro v L' ⟨rfl, rfl⟩
      rw [hbit]
      repeat' (first | (refine go1 ?_; intros) | (refine vl_caseG rfl rfl rfl rfl ?_ ?_ <;> (intro hb; (try simp only [decide_eq_true_eq, decide_eq_false_iff_not, Bool.not_eq_true', Bool.not_eq_false', ne_eq, Decidable.not_not, Option.isNone_iff_eq_none, not_true_eq_false, not_false_eq_true] at hb); try (exfalso; omega))) | (refine v_cond rfl ?_ ?_ <;> (intro hb; (try simp only [decide_eq_true_eq, decide_eq_false_iff_not, Bool.not_eq_true', Bool.not_eq_false', ne_eq, Decidable.not_not, Option.isNone_iff_eq_none, not_true_eq_false, not_false_eq_true] at hb); try (exfalso; omega))) | fail)
      rename_i a5' c5' _ _
      refine ⟨rfl, (i + 1, (a5', c5'), (a6, c6)), by dsimp only; omega, by dsimp only; omega, ?_, ?_⟩
      · dsimp only
        rw [s0, s1, List.length_append]
        (repeat' (first | exact Sub.nil _ | refine Sub.cons rfl rfl ?_ | refine Sub.cons rfl ?_ ?_))
      · dsimp only
        rw [s0, s1, ownPs_snoc]
        exact sei _ _ _
    · rw [if_neg hbit] at s0 s1
      generalize hAs : pb0 (ps.take i) d = ws at *
      generalize hBs : pb1 (ps.take i) d = bs at *
      repeat' (first | (refine go1 ?_; intros) | (refine vl_caseG rfl rfl rfl rfl ?_ ?_ <;> (intro hb; (try simp only [decide_eq_true_eq, decide_eq_false_iff_not, Bool.not_eq_true', Bool.not_eq_false', ne_eq, Decidable.not_not, Option.isNone_iff_eq_none, not_true_eq_false, not_false_eq_true] at hb); try (exfalso; omega))) | (refine v_cond rfl ?_ ?_ <;> (intro hb; (try simp only [decide_eq_true_eq, decide_eq_false_iff_not, Bool.not_eq_true', Bool.not_eq_false', ne_eq, Decidable.not_not, Option.isNone_iff_eq_none, not_true_eq_false, not_false_eq_true] at hb); try (exfalso; omega))) | fail)
      refine vl_o rfl (vo_call rfl rfl ?_)
      refine vc_mono (at_vc w0 _ ps[i].key hk32 d hd256) ?_
      rintro v L' ⟨rfl, rfl⟩
      generalize bitAt ps[i].key d = bb at *
      repeat' (first | (refine go1 ?_; intros) | (refine vl_caseG rfl rfl rfl rfl ?_ ?_ <;> (intro hb; (try simp only [decide_eq_true_eq, decide_eq_false_iff_not, Bool.not_eq_true', Bool.not_eq_false', ne_eq, Decidable.not_not, Option.isNone_iff_eq_none, not_true_eq_false, not_false_eq_true] at hb); try (exfalso; omega))) | (refine v_cond rfl ?_ ?_ <;> (intro hb; (try simp only [decide_eq_true_eq, decide_eq_false_iff_not, Bool.not_eq_true', Bool.not_eq_false', ne_eq, Decidable.not_not, Option.isNone_iff_eq_none, not_true_eq_false, not_false_eq_true] at hb); try (exfalso; omega))) | fail)
      rename_i a6' c6' _ _
      refine ⟨rfl, (i + 1, (a5, c5), (a6', c6')), by dsimp only; omega, by dsimp only; omega, ?_, ?_⟩
      · dsimp only
        rw [s0, s1, List.length_append]
        (repeat' (first | exact Sub.nil _ | refine Sub.cons rfl rfl ?_ | refine Sub.cons rfl ?_ ?_))
      · dsimp only
        rw [s0, s1, ownPs_snoc]
        exact sei _ _ _
  · obtain rfl : i = ps.length := by omega
    rw [List.take_length]
    have eA : rootF (f' + 1) (kvs (pb0 ps d)) (d + 1) = A := by rw [hA, kvs_pb0]
    have eB : rootF (f' + 1) (kvs (pb1 ps d)) (d + 1) = B := by rw [hB, kvs_pb1]
    have okA : PsOk (pb0 ps d) := h.sub (fun p hp => pb0_mem hp) (List.length_filter_le _ _)
    have okB : PsOk (pb1 ps d) := h.sub (fun p hp => pb1_mem hp) (List.length_filter_le _ _)
    have sA : Srt (kvs (pb0 ps d)) := by rw [kvs_pb0]; exact hs.sub List.filter_sublist
    have sB : Srt (kvs (pb1 ps d)) := by rw [kvs_pb1]; exact hs.sub List.filter_sublist
    have dA : Shr (kvs (pb0 ps d)) (d + 1) := by rw [kvs_pb0]; exact hd.bit0
    have dB : Shr (kvs (pb1 ps d)) (d + 1) := by rw [kvs_pb1]; exact hd.bit1
    haveI vA : RdVs w0 L (pb0 ps d) := hv.sub (fun p hp => pb0_mem hp)
    haveI vB : RdVs w0 L (pb1 ps d) := hv.sub (fun p hp => pb1_mem hp)
    generalize pb0 ps d = ws at *
    generalize pb1 ps d = bs at *
    repeat' (first | (refine go1 ?_; intros) | (refine vl_caseG rfl rfl rfl rfl ?_ ?_ <;> (intro hb; (try simp only [decide_eq_true_eq, decide_eq_false_iff_not, Bool.not_eq_true', Bool.not_eq_false', ne_eq, Decidable.not_not, Option.isNone_iff_eq_none, not_true_eq_false, not_false_eq_true] at hb); try (exfalso; omega))) | (refine v_cond rfl ?_ ?_ <;> (intro hb; (try simp only [decide_eq_true_eq, decide_eq_false_iff_not, Bool.not_eq_true', Bool.not_eq_false', ne_eq, Decidable.not_not, Option.isNone_iff_eq_none, not_true_eq_false, not_false_eq_true] at hb); try (exfalso; omega))) | fail)
    refine vl_o rfl (vo_call rfl rfl ?_)
    refine vc_mono (ih f' (by omega) _ a5 c5 ws (d + 1) rfl okA sA dA (by omega)) ?_
    rintro v L' ⟨rfl, rfl⟩
    rw [eA]
    repeat' (first | (refine go1 ?_; intros) | (refine vl_caseG rfl rfl rfl rfl ?_ ?_ <;> (intro hb; (try simp only [decide_eq_true_eq, decide_eq_false_iff_not, Bool.not_eq_true', Bool.not_eq_false', ne_eq, Decidable.not_not, Option.isNone_iff_eq_none, not_true_eq_false, not_false_eq_true] at hb); try (exfalso; omega))) | (refine v_cond rfl ?_ ?_ <;> (intro hb; (try simp only [decide_eq_true_eq, decide_eq_false_iff_not, Bool.not_eq_true', Bool.not_eq_false', ne_eq, Decidable.not_not, Option.isNone_iff_eq_none, not_true_eq_false, not_false_eq_true] at hb); try (exfalso; omega))) | fail)
    refine vl_o rfl (vo_call rfl rfl ?_)
    refine vc_mono (ih f' (by omega) _ a6 c6 bs (d + 1) rfl okB sB dB (by omega)) ?_
    rintro v L' ⟨rfl, rfl⟩
    rw [eB]
    have hBy := fork_bytes A B lA lB
    repeat' (first | (refine go1 ?_; intros) | (refine vl_caseG rfl rfl rfl rfl ?_ ?_ <;> (intro hb; (try simp only [decide_eq_true_eq, decide_eq_false_iff_not, Bool.not_eq_true', Bool.not_eq_false', ne_eq, Decidable.not_not, Option.isNone_iff_eq_none, not_true_eq_false, not_false_eq_true] at hb); try (exfalso; omega))) | (refine v_cond rfl ?_ ?_ <;> (intro hb; (try simp only [decide_eq_true_eq, decide_eq_false_iff_not, Bool.not_eq_true', Bool.not_eq_false', ne_eq, Decidable.not_not, Option.isNone_iff_eq_none, not_true_eq_false, not_false_eq_true] at hb); try (exfalso; omega))) | fail)
    rename_i g8 g9
    (refine v_draw0 [2, 3] (by kernel_rfl) ?_ <;> (refine va_takeW 0 rfl rfl rfl rfl ?_) <;> (refine va_takeW 1 rfl rfl rfl rfl ?_))
    refine va_one 2 (by kernel_rfl) rfl rfl (vo_call rfl rfl ?_)
    refine vc_mono (rtwo_vc w0 _ 2 (by decide) (some ⟨g8, 0, none⟩) 32 A (some ⟨g9, 0, none⟩) 32 B lA.symm lB.symm hBy) ?_
    rintro v L' ⟨rfl, rfl⟩
    rw [show sha (tagB 2 [A, B]) = fork2 A B from rfl]
    have hS := fork2_len A B
    generalize fork2 A B = S at *
    refine ⟨.inr (SE.ent (by repeat' (first | exact SE.refl _ | refine SE.cons _ ?_ | refine SE.trans (se_drop _ _) ?_)) _), ?_⟩
    ((refine va_one 3 (by kernel_rfl) rfl rfl ?_; (first | (refine vo_box rfl rfl rfl ?_; intro _) | (refine vo_alloc rfl ?_; intro _) | (refine vo_isStore ?_; first | (refine vo_isPt0 rfl ?_; refine vo_stWA rfl rfl ?_) | (refine vo_isPt rfl ?_; refine vo_stBA rfl rfl ?_) | (refine vo_stO rfl rfl (by rfl) (by first | rfl | assumption) (by first | assumption | (simp; done) | (simp; omega) | omega) rfl ?_; skip)) | (refine vo_isCall ?_; first | (refine vo_isApp ?_; first | (refine vo_append0A rfl rfl rfl ?_; intro _ _ _ _) | (refine vo_appendA rfl rfl rfl ?_; intro _ _ _ _)) | (refine vo_isCopy ?_; refine vo_copyB rfl rfl rfl (by assumption) (by assumption) (by assumption) (by assumption) ?_) | refine vo_yield rfl rfl rfl rfl rfl ?_ | refine vo_callV rfl rfl rfl (vc_in rfl rfl ?_)) | refine vo_convRow rfl rfl ?_ | (refine vo_isBs ?_; refine vo_buildSlice rfl rfl rfl (by decide) (by repeat' (first | exact trivial | rfl | assumption | refine ⟨?_, ?_⟩ | (simp; done) | (simp; omega))) (by decide) rfl ?_; intro _) | (refine vo_buildSlice0 rfl ?_; intro _) | fail); refine ⟨.inl (by kernel_rfl), ?_⟩) <;> (refine va_done (by kernel_rfl) ?_))
    repeat' (first | (refine go1 ?_; intros) | (refine vl_caseG rfl rfl rfl rfl ?_ ?_ <;> (intro hb; (try simp only [decide_eq_true_eq, decide_eq_false_iff_not, Bool.not_eq_true', Bool.not_eq_false', ne_eq, Decidable.not_not, Option.isNone_iff_eq_none, not_true_eq_false, not_false_eq_true] at hb); try (exfalso; omega))) | (refine v_cond rfl ?_ ?_ <;> (intro hb; (try simp only [decide_eq_true_eq, decide_eq_false_iff_not, Bool.not_eq_true', Bool.not_eq_false', ne_eq, Decidable.not_not, Option.isNone_iff_eq_none, not_true_eq_false, not_false_eq_true] at hb); try (exfalso; omega))) | fail)
    exact ⟨L, sei _ _ _, rfl, rfl⟩

/-- The root of a map, and the error. -/
noncomputable def rootM (l : List KV) : List UInt8 := if MapOk l then rootF 258 l 0 else List.replicate 32 0
end Go.Proofs.YtmaimkbppnpbnaaDoor

/-
  Maps as lists of keys and values: plain. Pairs: their cells; which key is ahead; whether pairs are a map. Pairs: where a key is; a key's value; whether two are the same. Pairs: how many statements go through; what is the same is known to be.
-/
import Derived.Test.YtcpndfffdbogbaaGreatDoorGG
import Derived.Test.YtcpndfffdbogbaaGreatDoorGF
import Derived.Test.YtcpndfffdbogbaaGreatDoorGC
import Derived.Test.YtcpndfffdbogbaaGreatDoorGB
import Derived.Test.YtcpndfffdbogbaaGreatDoorGK
set_option linter.unusedVariables false
set_option linter.unusedSimpArgs false
set_option linter.unusedSectionVars false
set_option maxRecDepth 100000
set_option maxHeartbeats 1000000
namespace Go.Proofs.YtcpndfffdbogbaaGreatDoor
open Go Go.RowKit
open Classical

/-- A key and a value. -/
abbrev KV := List UInt8 × List UInt8
def K32 (l : List KV) : Prop := ∀ x ∈ l, x.1.length = 32
def Srt (l : List KV) : Prop := l.Pairwise (fun x y => Ahd x.1 y.1)
theorem K32.sub {l m : List KV} (h : K32 l) (hs : ∀ x ∈ m, x ∈ l) : K32 m := fun x hx => h x (hs x hx)
/-- They are a map. -/
def MapOk (l : List KV) : Prop := l.length ≤ 512 ∧ (∀ x ∈ l, okVal x.2.length = true) ∧ Srt l

theorem srt_snoc {l : List KV} {x : KV} : Srt (l ++ [x]) ↔ Srt l ∧ ∀ y ∈ l, Ahd y.1 x.1 := by
  simp [Srt, List.pairwise_append]
theorem srt_step {l : List KV} {k : Nat} (hk : k < l.length) (h : Srt (l.take k)) (hp : 0 < k → Ahd (l[k - 1]'(by omega)).1 l[k].1) : Srt (l.take (k + 1)) := by
  rw [List.take_succ_eq_append_getElem hk, srt_snoc]
  refine ⟨h, fun y hy => ?_⟩
  obtain ⟨i, hi, rfl⟩ := List.getElem_of_mem hy
  simp only [List.length_take] at hi
  have hk0 : 0 < k := by omega
  rw [List.getElem_take]
  by_cases e : i = k - 1
  · subst e; exact hp hk0
  · have h1 : i < (l.take k).length := by simp; omega
    have h2 : k - 1 < (l.take k).length := by simp; omega
    have := List.pairwise_iff_getElem.1 h i (k - 1) h1 h2 (by omega)
    rw [List.getElem_take, List.getElem_take] at this
    exact this.trans (hp hk0)
theorem srt_at {l : List KV} (h : Srt l) {i j : Nat} (hij : i < j) (hj : j < l.length) : Ahd (l[i]'(by omega)).1 l[j].1 := List.pairwise_iff_getElem.1 h i j (by omega) hj hij
theorem Srt.sub {l m : List KV} (h : Srt l) (hs : m.Sublist l) : Srt m := List.Pairwise.sublist hs h
theorem MapOk.not_adj {l : List KV} {k : Nat} (hk : k < l.length) (h0 : 0 < k) (hn : ¬ Ahd (l[k - 1]'(by omega)).1 l[k].1) : ¬ MapOk l := fun ⟨_, _, h⟩ => hn (srt_at h (by omega) hk)
theorem MapOk.not_val {l : List KV} {k : Nat} (hk : k < l.length) (hn : ¬ okVal l[k].2.length = true) : ¬ MapOk l := fun ⟨_, h, _⟩ => hn (h _ (List.getElem_mem hk))
/-- The value of a key; the map with one, without one. -/
noncomputable def has (l : List KV) (k : List UInt8) : Bool := l.any fun x => decide (x.1 = k)
noncomputable def getF (l : List KV) (k : List UInt8) : List UInt8 := ((l.find? fun x => decide (x.1 = k)).map Prod.snd).getD []
noncomputable def lowF (l : List KV) (k : List UInt8) : List KV := l.filter fun x => decide (Ahd x.1 k)
noncomputable def highF (l : List KV) (k : List UInt8) : List KV := l.filter fun x => decide (Ahd k x.1)
noncomputable def putF (l : List KV) (k v : List UInt8) : List KV := lowF l k ++ (k, v) :: highF l k
noncomputable def dropF (l : List KV) (k : List UInt8) : List KV := l.filter fun x => decide (x.1 ≠ k)

theorem has_iff {l : List KV} {k : List UInt8} : has l k = true ↔ ∃ v, (k, v) ∈ l := by
  simp only [has, List.any_eq_true, decide_eq_true_eq]
  exact ⟨fun ⟨x, h, e⟩ => ⟨x.2, by rw [← e]; exact h⟩, fun ⟨v, h⟩ => ⟨_, h, rfl⟩⟩
theorem has_false {l : List KV} {k : List UInt8} : has l k = false ↔ ∀ x ∈ l, x.1 ≠ k := by
  simp only [has, List.any_eq_false, decide_eq_true_eq]
theorem mem_low {l : List KV} {k : List UInt8} {x : KV} : x ∈ lowF l k ↔ x ∈ l ∧ Ahd x.1 k := by simp [lowF]
theorem mem_high {l : List KV} {k : List UInt8} {x : KV} : x ∈ highF l k ↔ x ∈ l ∧ Ahd k x.1 := by simp [highF]
theorem mem_drop {l : List KV} {k : List UInt8} {x : KV} : x ∈ dropF l k ↔ x ∈ l ∧ x.1 ≠ k := by simp [dropF]
theorem mem_put {l : List KV} (h : K32 l) {k v : List UInt8} (hk : k.length = 32) {x : KV} : x ∈ putF l k v ↔ x = (k, v) ∨ x ∈ l ∧ x.1 ≠ k := by
  simp only [putF, List.mem_append, List.mem_cons, mem_low, mem_high]
  constructor
  · rintro (⟨h1, h2⟩ | rfl | ⟨h1, h2⟩)
    · exact .inr ⟨h1, h2.ne⟩
    · exact .inl rfl
    · exact .inr ⟨h1, h2.ne.symm⟩
  · rintro (rfl | ⟨h1, h2⟩)
    · exact .inr (.inl rfl)
    · rcases Ahd.tri (h x h1) hk with e | e | e
      · exact .inl ⟨h1, e⟩
      · exact absurd e h2
      · exact .inr (.inr ⟨h1, e⟩)

/-- A sorted list in three: ahead of a key, the key's own, behind it. -/
theorem srt_three : ∀ {l : List KV}, Srt l → K32 l → ∀ {k : List UInt8}, k.length = 32 → (has l k = false ∧ l = lowF l k ++ highF l k) ∨ (has l k = true ∧ l = lowF l k ++ (k, getF l k) :: highF l k)
  | [], _, _, k, _ => .inl ⟨rfl, rfl⟩
  | x :: l, h, hl, k, hk => by
    have h1 := List.pairwise_cons.1 h
    have hx : x.1.length = 32 := hl x (by simp)
    have hl' : K32 l := hl.sub (fun y hy => by simp [hy])
    rcases Ahd.tri hx hk with e | e | e
    · have ne := e.ne
      have e1 : lowF (x :: l) k = x :: lowF l k := by simp [lowF, e]
      have e2 : highF (x :: l) k = highF l k := by simp [highF, e.asymm]
      have e3 : has (x :: l) k = has l k := by simp [has, ne]
      have e4 : getF (x :: l) k = getF l k := by simp [getF, ne]
      rw [e1, e2, e3, e4]
      rcases srt_three h1.2 hl' hk with ⟨a, b⟩ | ⟨a, b⟩
      · exact .inl ⟨a, by rw [List.cons_append, ← b]⟩
      · exact .inr ⟨a, by rw [List.cons_append, ← b]⟩
    · have hall : ∀ y ∈ l, Ahd k y.1 := fun y hy => e ▸ h1.1 y hy
      have e1 : lowF (x :: l) k = [] := by
        rw [List.eq_nil_iff_forall_not_mem]
        intro y hy
        obtain ⟨h2, h3⟩ := mem_low.1 hy
        rcases List.mem_cons.1 h2 with rfl | h2
        · rw [e] at h3; exact Ahd.irrefl _ h3
        · exact h3.asymm (hall y h2)
      have e2 : highF (x :: l) k = l := by
        have : highF l k = l := List.filter_eq_self.2 fun y hy => by simpa using hall y hy
        simp only [highF, e] at this ⊢
        rw [List.filter_cons_of_neg (by simpa [e] using Ahd.irrefl k), this]
      refine .inr ⟨by simp [has, e], ?_⟩
      rw [e1, e2]
      obtain ⟨a, b⟩ := x
      simp only at e
      subst e
      simp [getF]
    · have hall : ∀ y ∈ l, Ahd k y.1 := fun y hy => e.trans (h1.1 y hy)
      have e1 : lowF (x :: l) k = [] := by
        rw [List.eq_nil_iff_forall_not_mem]
        intro y hy
        obtain ⟨h2, h3⟩ := mem_low.1 hy
        rcases List.mem_cons.1 h2 with rfl | h2
        · exact h3.asymm e
        · exact h3.asymm (hall y h2)
      have e2 : highF (x :: l) k = x :: l := List.filter_eq_self.2 fun y hy => by
        rcases List.mem_cons.1 hy with rfl | hy
        · simpa using e
        · simpa using hall y hy
      refine .inl ⟨has_false.2 fun y hy => ?_, by rw [e1, e2]; rfl⟩
      rcases List.mem_cons.1 hy with rfl | hy
      · exact e.ne.symm
      · exact (hall y hy).ne.symm
theorem K32.put {l : List KV} (h : K32 l) {k v : List UInt8} (hk : k.length = 32) : K32 (putF l k v) := fun x hx => by
  rcases (mem_put h hk).1 hx with rfl | ⟨h1, _⟩
  · exact hk
  · exact h x h1
theorem K32.dropF {l : List KV} (h : K32 l) (k : List UInt8) : K32 (dropF l k) := fun x hx => h x (mem_drop.1 hx).1
theorem getF_none {l : List KV} {k : List UInt8} (h : has l k = false) : getF l k = [] := by
  have := has_false.1 h
  unfold getF
  rw [List.find?_eq_none.2 (fun x hx => by simpa using this x hx)]
  rfl

/-- How many of them have some property. -/
theorem low_take {l : List KV} (h : Srt l) {k : List UInt8} {at' : Nat} (h1 : at' ≤ l.length) (h2 : ∀ i (hi : i < l.length), i < at' → Ahd l[i].1 k) (h3 : ∀ i (hi : i < l.length), at' ≤ i → ¬ Ahd l[i].1 k) : lowF l k = l.take at' := by
  unfold lowF
  rw [← List.take_append_drop at' l, List.filter_append, List.take_append_drop]
  rw [List.filter_eq_self.2, List.filter_eq_nil_iff.2, List.append_nil]
  · intro y hy
    obtain ⟨i, hi, rfl⟩ := List.getElem_of_mem hy
    rw [List.getElem_drop]
    simp only [List.length_drop] at hi
    simpa using h3 _ (by omega) (by omega)
  · intro y hy
    obtain ⟨i, hi, rfl⟩ := List.getElem_of_mem hy
    rw [List.getElem_take]
    simp only [List.length_take] at hi
    simpa using h2 _ (by omega) (by omega)
theorem low_len {l : List KV} (h : Srt l) {k : List UInt8} {at' : Nat} (h1 : at' ≤ l.length) (h2 : ∀ i (hi : i < l.length), i < at' → Ahd l[i].1 k) (h3 : ∀ i (hi : i < l.length), at' ≤ i → ¬ Ahd l[i].1 k) : at' = (lowF l k).length := by
  rw [low_take h h1 h2 h3, List.length_take, Nat.min_eq_left h1]
/-- The place behind what is ahead of a key has it, or none has. -/
theorem has_at {l : List KV} (h : Srt l) (hl : K32 l) {k : List UInt8} (hk : k.length = 32) : has l k = true ↔ ∃ hi : (lowF l k).length < l.length, l[(lowF l k).length].1 = k := by
  rcases srt_three h hl hk with ⟨a, b⟩ | ⟨a, b⟩
  · rw [a]
    refine ⟨fun h => by simp at h, fun ⟨hi, e⟩ => ?_⟩
    exact absurd e (has_false.1 a _ (List.getElem_mem hi))
  · rw [a]
    refine ⟨fun _ => ?_, fun _ => rfl⟩
    have hlen : (lowF l k).length < l.length := by
      have := congrArg List.length b
      simp only [List.length_append, List.length_cons] at this
      omega
    refine ⟨hlen, ?_⟩
    have : l[(lowF l k).length] = (lowF l k ++ (k, getF l k) :: highF l k)[(lowF l k).length]'(by simp) := by congr 1
    rw [this]
    simp
theorem has_get {l : List KV} (h : Srt l) (hl : K32 l) {k : List UInt8} (hk : k.length = 32) (hh : has l k = true) (hi : (lowF l k).length < l.length) : l[(lowF l k).length] = (k, getF l k) := by
  rcases srt_three h hl hk with ⟨a, b⟩ | ⟨a, b⟩
  · rw [a] at hh; simp at hh
  · have : l[(lowF l k).length] = (lowF l k ++ (k, getF l k) :: highF l k)[(lowF l k).length]'(by simp) := by congr 1
    rw [this]
    simp
end Go.Proofs.YtcpndfffdbogbaaGreatDoor
namespace Go.Proofs.YtcpndfffdbogbaaGreatDoor
open Go Go.RowKit
open Classical

/-- A pair as it lies. -/
structure PR where
  key : List UInt8
  a : Option Addr
  c : Nat
  v : List UInt8
def PR.cells (p : PR) : List Value := bvs p.key ++ [.slice p.a p.v.length p.c]
def PR.kv (p : PR) : KV := (p.key, p.v)
def PR.pb (p : PR) : PB := ⟨p.a, p.c, p.v⟩
abbrev kvs (ps : List PR) : List KV := ps.map PR.kv
abbrev prc (ps : List PR) : List Value := flat PR.cells ps
structure PsOk (ps : List PR) : Prop where
  key : ∀ p ∈ ps, p.key.length = 32
  vl : ∀ p ∈ ps, p.v.length ≤ 1000000
  len : ps.length ≤ 1000000
theorem PR.len {p : PR} (h : p.key.length = 32) : p.cells.length = 33 := by simp [PR.cells, h]
theorem PsOk.wide {ps : List PR} (h : PsOk ps) : Wide PR.cells 33 ps := fun p hp => PR.len (h.key p hp)
theorem PsOk.k32 {ps : List PR} (h : PsOk ps) : K32 (kvs ps) := fun x hx => by
  obtain ⟨p, hp, rfl⟩ := List.mem_map.1 hx
  exact h.key p hp
theorem PsOk.sub {ps qs : List PR} (h : PsOk ps) (hs : ∀ p ∈ qs, p ∈ ps) (hl : qs.length ≤ ps.length) : PsOk qs := ⟨fun p hp => h.key p (hs p hp), fun p hp => h.vl p (hs p hp), by have := h.len; omega⟩
theorem PR.f0 {p : PR} (h : p.key.length = 32) : (p.cells.drop (0 + 0)).take 32 = bvs p.key := by
  simp only [PR.cells, Nat.add_zero, List.drop_zero]
  rw [List.take_left' (by simp [h])]
theorem PR.f1 {p : PR} (h : p.key.length = 32) : p.cells[0 + 32]? = some (.slice p.a p.v.length p.c) := by
  simp [PR.cells, List.getElem?_append, h]
instance oc_pr (p : PR) : OC p.cells := (inferInstance : OC (bvs p.key ++ [.slice p.a p.v.length p.c]))
instance oc_flat {α : Type} (f : α → List Value) [h : ∀ x, OC (f x)] (xs : List α) : OC (flat f xs) := ⟨fun v hv => by
  obtain ⟨l, hl, hv⟩ := List.mem_flatten.1 hv
  obtain ⟨x, _, rfl⟩ := List.mem_map.1 hl
  exact (h x).out v hv⟩
section
variable {ps : List PR}
theorem PsOk.e (h : PsOk ps) (k : Nat) (hk : k < ps.length) : ((prc ps).drop (k * 33)).take 33 = ps[k].cells := h.wide.at k hk
theorem PsOk.e0 (h : PsOk ps) (k : Nat) (hk : k < ps.length) : ((prc ps).drop (k * 33 + 0)).take 32 = bvs ps[k].key := by
  rw [h.wide.part k hk 0 32 (by decide)]
  exact PR.f0 (h.key _ (List.getElem_mem hk))
theorem PsOk.e1 (h : PsOk ps) (k : Nat) (hk : k < ps.length) : (prc ps)[k * 33 + 32]? = some (.slice ps[k].a ps[k].v.length ps[k].c) := by
  rw [h.wide.cell k hk 32 (by decide)]
  exact PR.f1 (h.key _ (List.getElem_mem hk))
theorem PsOk.k32at (h : PsOk ps) (k : Nat) (hk : k < ps.length) : ps[k].key.length = 32 := h.key _ (List.getElem_mem hk)
theorem PsOk.vlat (h : PsOk ps) (k : Nat) (hk : k < ps.length) : ps[k].v.length ≤ 1000000 := h.vl _ (List.getElem_mem hk)
theorem PsOk.pos (h : PsOk ps) (k : Nat) (hk : k < ps.length) : 0 < (prc ps).length := h.wide.pos (by decide) (by omega)
end
/-- Their values can be read. -/
class RdVs (w0 : World) (L : List Asn) (ps : List PR) : Prop where
  out : ∀ p ∈ ps, RdC w0 L p.a (bvs p.v)
instance (priority := 50) rdVs_cons (w0 : World) (A : Asn) (L : List Asn) (ps : List PR) [h : RdVs w0 L ps] : RdVs w0 (A :: L) ps := ⟨fun p hp => by
  have := h.out p hp
  infer_instance⟩
theorem RdVs.at {w0 : World} {L : List Asn} {ps : List PR} (h : RdVs w0 L ps) (k : Nat) (hk : k < ps.length) : RdC w0 L (ps[k]).a (bvs (ps[k]).v) := h.out _ (List.getElem_mem hk)
theorem RdVs.sub {w0 : World} {L : List Asn} {ps qs : List PR} (h : RdVs w0 L ps) (hs : ∀ p ∈ qs, p ∈ ps) : RdVs w0 L qs := ⟨fun p hp => h.out p (hs p hp)⟩
abbrev vsA (ps : List PR) : Asn := psA (ps.map PR.pb)
instance rdVs_own (w0 : World) (L : List Asn) (ps : List PR) [h : HasPs L (ps.map PR.pb)] : RdVs w0 L ps := ⟨fun p hp => by
  have : RdPs w0 L (ps.map PR.pb) := inferInstance
  exact this.out p.pb (List.mem_map.2 ⟨p, hp, rfl⟩)⟩
abbrev ownPs (a : Option Addr) (cap : Nat) (ps : List PR) : Asn := own 170 33 a ps.length cap (prc ps)
/-! ### Which key is ahead -/
theorem ahead_vc (w0 : World) (L : List Asn) (a b : List UInt8) (hla : a.length = 32) (hlb : b.length = 32) :
    VC Tryz.prog w0 66 [.agg (bvs a).toArray, .agg (bvs b).toArray] L fun v L' => v = .bool (decide (Ahd a b)) ∧ L' = L := by
  refine vc_ent ?_
  refine vc_in rfl rfl ?_
  repeat' (first | (refine go1 ?_; intros) | (refine goCC ?_ ?_ <;> (intro hb; (try simp only [hSQ] at hb); try (exfalso; omega))) | fail)
  refine clV ?_
  refine vc_mono (apart_vc w0 _ a b) ?_
  rintro v L' ⟨ga, gb, rfl, rfl⟩
  repeat' (first | (refine go1 ?_; intros) | (refine goCC ?_ ?_ <;> (intro hb; (try simp only [hSQ] at hb); try (exfalso; omega))) | fail)
  refine v_range rfl (fun lp D => ?_)
  refine vc_in rfl rfl ?_
  repeat' (first | (refine go1 ?_; intros) | (refine goCC ?_ ?_ <;> (intro hb; (try simp only [hSQ] at hb); try (exfalso; omega))) | fail)
  refine v_loopS Nat [0, 1, 2] rfl (fun i => [(6, .int .i64 i)]) (fun i => i ≤ 32 ∧ ∀ j, j < i → a.getD j 0 = b.getD j 0) (fun i => 32 - i) 0 ⟨by omega, by omega⟩ (by (exact sbS)) (fun i ⟨hi, hp⟩ => ?_)
  by_cases hlt : i < 32
  · have hga : (bvs a)[0 + i]? = some (.int .u8 (a.getD i 0).toNat) := by rw [Nat.zero_add, getD_get a i (by omega)]; exact bvs_at a i (by omega)
    have hgb : (bvs b)[0 + i]? = some (.int .u8 (b.getD i 0).toNat) := by rw [Nat.zero_add, getD_get b i (by omega)]; exact bvs_at b i (by omega)
    have hx := bitsV_xor (a.getD i 0).toNat_lt (b.getD i 0).toNat_lt
    repeat' (first | (refine go1 ?_; intros) | (refine goCC ?_ ?_ <;> (intro hb; (try simp only [hSQ] at hb); try (exfalso; omega))) | fail)
    (refine v_draw0 [] (by kernel_rfl) ?_ <;> (refine tA 0 ?_) <;> (refine tA 1 ?_) <;> (refine tA 2 ?_) <;> (refine tA 3 ?_) <;> (refine tA 4 ?_) <;> (refine tA 5 ?_) <;> (refine tA 6 ?_) <;> (refine tA 7 ?_) <;> (refine va_done (by kernel_rfl) ?_))
    rw [hx]
    by_cases heq : a.getD i 0 = b.getD i 0
    · rw [heq, Nat.xor_self]
      repeat' (first | (refine go1 ?_; intros) | (refine goCC ?_ ?_ <;> (intro hb; (try simp only [hSQ] at hb); try (exfalso; omega))) | fail)
      refine ⟨rfl, i + 1, ⟨by omega, fun j hj => ?_⟩, by omega, ?_, Ent.refl _ _⟩
      · rcases Nat.lt_or_ge j i with h | h
        · exact hp j h
        · obtain rfl : j = i := by omega
          exact heq
      · (exact sbS)
    · have hne : (a.getD i 0).toNat ^^^ (b.getD i 0).toNat ≠ 0 := by
        intro e
        exact heq (UInt8.toNat_inj.1 (xor_zero_eq e))
      have hlx : (a.getD i 0).toNat ^^^ (b.getD i 0).toNat < 256 := Nat.xor_lt_two_pow (n := 8) (a.getD i 0).toNat_lt (b.getD i 0).toNat_lt
      have hby := Ahd.of_byte hlt hp rfl hne
      generalize hX : (a.getD i 0).toNat ^^^ (b.getD i 0).toNat = X at hne hlx ⊢
      clear hx
      repeat' (first | (refine go1 ?_; intros) | (refine goCC ?_ ?_ <;> (intro hb; (try simp only [hSQ] at hb); try (exfalso; omega))) | fail)
      (refine v_draw0 [7] (by kernel_rfl) ?_ <;> (refine tA 0 ?_) <;> (refine tA 1 ?_) <;> (refine tA 2 ?_) <;> (refine tA 3 ?_) <;> (refine tA 4 ?_) <;> (refine tA 5 ?_) <;> (refine tA 6 ?_) <;> (refine va_one 7 (by kernel_rfl) rfl rfl ?_; (refine goV ?_; intros); refine ⟨.inl (by kernel_rfl), ?_⟩) <;> (refine va_done (by kernel_rfl) ?_))
      repeat' (first | (refine go1 ?_; intros) | (refine goCC ?_ ?_ <;> (intro hb; (try simp only [hSQ] at hb); try (exfalso; omega))) | fail)
      refine ⟨L, sei _ _ _, ?_, rfl⟩
      exact congrArg Value.bool (decide_eq_decide.2 (by rw [hby]; omega))
  · repeat' (first | (refine go1 ?_; intros) | (refine goCC ?_ ?_ <;> (intro hb; (try simp only [hSQ] at hb); try (exfalso; omega))) | fail)
    refine ⟨L, sei _ _ _, ?_, rfl⟩
    rw [decide_eq_false (Ahd.of_same (fun j hj => hp j (by omega)))]
theorem rahead_vc (w0 : World) (L : List Asn) (a b : List UInt8) (hla : a.length = 32) (hlb : b.length = 32) :
    VC Tryz.prog w0 80 [.agg (bvs a).toArray, .agg (bvs b).toArray] L fun v L' => v = .bool (decide (Ahd a b)) ∧ L' = L := by
  refine vc_ent ?_
  refine vc_in rfl rfl ?_
  repeat' (first | (refine go1 ?_; intros) | (refine goCC ?_ ?_ <;> (intro hb; (try simp only [hSQ] at hb); try (exfalso; omega))) | fail)
  refine clV ?_
  refine vc_mono (sh4_vc w0 _ a b hla hlb) ?_
  rintro v L' ⟨n, hn, rfl, rfl⟩
  have h256 := hn.1
  have hA := Ahd.of_sh hn
  by_cases hlt : n < 256
  · repeat' (first | (refine go1 ?_; intros) | (refine goCC ?_ ?_ <;> (intro hb; (try simp only [hSQ] at hb); try (exfalso; omega))) | fail)
    (refine v_draw0 [] (by kernel_rfl) ?_ <;> (refine tA 0 ?_) <;> (refine tA 1 ?_) <;> (refine tA 2 ?_) <;> (first | refine tG 3 ?_ | refine pG 3 ?_ | (refine va_caseG 3 rfl rfl rfl rfl rfl ?_ ?_ <;> (intro hb; (try simp only [hSQ] at hb); try (exfalso; omega)) <;> first | refine tG 3 ?_ | refine pG 3 ?_)) <;> (first | refine tG 4 ?_ | refine pG 4 ?_ | (refine va_caseG 4 rfl rfl rfl rfl rfl ?_ ?_ <;> (intro hb; (try simp only [hSQ] at hb); try (exfalso; omega)) <;> first | refine tG 4 ?_ | refine pG 4 ?_)) <;> (first | refine tG 6 ?_ | refine pG 6 ?_ | (refine va_caseG 6 rfl rfl rfl rfl rfl ?_ ?_ <;> (intro hb; (try simp only [hSQ] at hb); try (exfalso; omega)) <;> first | refine tG 6 ?_ | refine pG 6 ?_)) <;> (first | refine tG 7 ?_ | refine pG 7 ?_ | (refine va_caseG 7 rfl rfl rfl rfl rfl ?_ ?_ <;> (intro hb; (try simp only [hSQ] at hb); try (exfalso; omega)) <;> first | refine tG 7 ?_ | refine pG 7 ?_)))
    first | refine va_oneG 5 (by kernel_rfl) rfl rfl rfl rfl rfl rfl (vo_call rfl rfl ?_) | refine va_oneG 5 (by kernel_rfl) rfl rfl rfl rfl rfl rfl (vo_callV rfl rfl rfl ?_)
    refine vc_mono (at_vc w0 _ a hla n hlt) ?_
    rintro v L' ⟨rfl, rfl⟩
    refine ⟨.inr entD, ?_⟩
    skip
    first | refine va_oneG 8 (by kernel_rfl) rfl rfl rfl rfl rfl rfl (vo_call rfl rfl ?_) | refine va_oneG 8 (by kernel_rfl) rfl rfl rfl rfl rfl rfl (vo_callV rfl rfl rfl ?_)
    refine vc_mono (at_vc w0 _ b hlb n hlt) ?_
    rintro v L' ⟨rfl, rfl⟩
    refine ⟨.inr entD, ?_⟩
    ((first | refine tG 9 ?_ | refine pG 9 ?_ | (refine va_caseG 9 rfl rfl rfl rfl rfl ?_ ?_ <;> (intro hb; (try simp only [hSQ] at hb); try (exfalso; omega)) <;> first | refine tG 9 ?_ | refine pG 9 ?_)) <;> (refine tA 10 ?_) <;> (refine tA 11 ?_) <;> (refine va_done (by kernel_rfl) ?_))
    repeat' (first | (refine go1 ?_; intros) | (refine goCC ?_ ?_ <;> (intro hb; (try simp only [hSQ] at hb); try (exfalso; omega))) | fail)
    all_goals refine ⟨L, sei _ _ _, congrArg Value.bool ?_, rfl⟩
    all_goals first | exact decide_eq_decide.2 (by rw [hA]; omega) | exact (decide_eq_false (by rw [hA]; omega)).symm
  · repeat' (first | (refine go1 ?_; intros) | (refine goCC ?_ ?_ <;> (intro hb; (try simp only [hSQ] at hb); try (exfalso; omega))) | fail)
    (refine v_draw0 [] (by kernel_rfl) ?_ <;> (refine tA 0 ?_) <;> (refine tA 1 ?_) <;> (refine tA 2 ?_) <;> (first | refine tG 3 ?_ | refine pG 3 ?_ | (refine va_caseG 3 rfl rfl rfl rfl rfl ?_ ?_ <;> (intro hb; (try simp only [hSQ] at hb); try (exfalso; omega)) <;> first | refine tG 3 ?_ | refine pG 3 ?_)) <;> (first | refine tG 4 ?_ | refine pG 4 ?_ | (refine va_caseG 4 rfl rfl rfl rfl rfl ?_ ?_ <;> (intro hb; (try simp only [hSQ] at hb); try (exfalso; omega)) <;> first | refine tG 4 ?_ | refine pG 4 ?_)) <;> (first | refine tG 6 ?_ | refine pG 6 ?_ | (refine va_caseG 6 rfl rfl rfl rfl rfl ?_ ?_ <;> (intro hb; (try simp only [hSQ] at hb); try (exfalso; omega)) <;> first | refine tG 6 ?_ | refine pG 6 ?_)) <;> (first | refine tG 7 ?_ | refine pG 7 ?_ | (refine va_caseG 7 rfl rfl rfl rfl rfl ?_ ?_ <;> (intro hb; (try simp only [hSQ] at hb); try (exfalso; omega)) <;> first | refine tG 7 ?_ | refine pG 7 ?_)))
    refine pG 5 ?_
    skip
    refine pG 8 ?_
    ((first | refine tG 9 ?_ | refine pG 9 ?_ | (refine va_caseG 9 rfl rfl rfl rfl rfl ?_ ?_ <;> (intro hb; (try simp only [hSQ] at hb); try (exfalso; omega)) <;> first | refine tG 9 ?_ | refine pG 9 ?_)) <;> (refine tA 10 ?_) <;> (refine tA 11 ?_) <;> (refine va_done (by kernel_rfl) ?_))
    repeat' (first | (refine go1 ?_; intros) | (refine goCC ?_ ?_ <;> (intro hb; (try simp only [hSQ] at hb); try (exfalso; omega))) | fail)
    all_goals refine ⟨L, sei _ _ _, congrArg Value.bool ?_, rfl⟩
    all_goals exact (decide_eq_false (by rw [hA]; omega)).symm

/-! ### Whether pairs are a map -/
theorem pcheck_vc (w0 : World) (L : List Asn) (a : Option Addr) (cap : Nat) (ps : List PR) {n : Nat} (hn : n = ps.length) (h : PsOk ps) [hr : RdC w0 L a (prc ps)] :
    VC Tryz.prog w0 162 [.slice a n cap] L fun v L' => v = .int .i64 (if MapOk (kvs ps) then 0 else 8) ∧ L' = L := by
  subst hn
  have hlen := h.len
  refine vc_ent ?_
  refine vc_in rfl rfl ?_
  repeat' (first | (refine go1 ?_; intros) | (refine goCC ?_ ?_ <;> (intro hb; (try simp only [hSQ] at hb); try (exfalso; omega))) | fail)
  · refine ⟨_, Ent.refl _ _, ?_, rfl⟩
    rw [if_neg (fun hm => by have := hm.1; simp at this; omega)]
  refine v_loopF Nat [0, 8, 9] rfl (fun i => [(10, .int .i64 i)]) (fun M i => M) (fun i => i ≤ ps.length ∧ (∀ x ∈ (kvs ps).take i, okVal x.2.length = true) ∧ Srt ((kvs ps).take i)) (fun i => ps.length - i) 0 ⟨Nat.zero_le _, by simp, by simp [Srt]⟩ (by (exact sbS)) (Ent.refl _ _) ?_
  rintro i ⟨hi, hv, hs⟩
  by_cases hlt : i < ps.length
  · have hg := h.e i hlt
    have hk32 := h.k32at i hlt
    have hpos := h.pos i hlt
    have hc33 := PR.len hk32
    have f0 := PR.f0 hk32
    have f1 := PR.f1 hk32
    have hvl := h.vlat i hlt
    have hki : (kvs ps)[i]'(by simpa using hlt) = ps[i].kv := by simp
    have hnot : ∀ {φ : Prop}, ¬ φ → (if φ then (0 : Int) else 8) = 8 := fun h => if_neg h
    repeat' (first | (refine go1 ?_; intros) | (refine goCC ?_ ?_ <;> (intro hb; (try simp only [hSQ] at hb); try (exfalso; omega))) | fail)
    (refine v_draw0 [] (by kernel_rfl) ?_ <;> (refine tA 0 ?_) <;> (refine tA 1 ?_))
    first | refine va_one 2 (by kernel_rfl) rfl rfl (vo_call rfl rfl ?_) | refine va_one 2 (by kernel_rfl) rfl rfl (vo_callV rfl rfl rfl ?_)
    refine vc_mono (pval_vc w0 _ ps[i].a ps[i].v.length ps[i].c (by omega)) ?_
    rintro v L' ⟨rfl, rfl⟩
    refine ⟨.inr entD, ?_⟩
    cases hov : okVal ps[i].v.length
    · ((refine tA 3 ?_) <;> (refine tA 4 ?_) <;> (first | refine tG 5 ?_ | (first | refine pG 5 ?_ | refine pU 5 ?_) | (refine va_caseG 5 rfl rfl rfl rfl rfl ?_ ?_ <;> (intro hb; (try simp only [hSQ] at hb); try (exfalso; omega)) <;> first | refine tG 5 ?_ | (first | refine pG 5 ?_ | refine pU 5 ?_))) <;> (first | refine tG 6 ?_ | (first | refine pG 6 ?_ | refine pU 6 ?_) | (refine va_caseG 6 rfl rfl rfl rfl rfl ?_ ?_ <;> (intro hb; (try simp only [hSQ] at hb); try (exfalso; omega)) <;> first | refine tG 6 ?_ | (first | refine pG 6 ?_ | refine pU 6 ?_))) <;> (first | refine tG 7 ?_ | (first | refine pG 7 ?_ | refine pU 7 ?_) | (refine va_caseG 7 rfl rfl rfl rfl rfl ?_ ?_ <;> (intro hb; (try simp only [hSQ] at hb); try (exfalso; omega)) <;> first | refine tG 7 ?_ | (first | refine pG 7 ?_ | refine pU 7 ?_))) <;> (first | refine tG 8 ?_ | (first | refine pG 8 ?_ | refine pU 8 ?_) | (refine va_caseG 8 rfl rfl rfl rfl rfl ?_ ?_ <;> (intro hb; (try simp only [hSQ] at hb); try (exfalso; omega)) <;> first | refine tG 8 ?_ | (first | refine pG 8 ?_ | refine pU 8 ?_))) <;> (first | refine tG 9 ?_ | (first | refine pG 9 ?_ | refine pU 9 ?_) | (refine va_caseG 9 rfl rfl rfl rfl rfl ?_ ?_ <;> (intro hb; (try simp only [hSQ] at hb); try (exfalso; omega)) <;> first | refine tG 9 ?_ | (first | refine pG 9 ?_ | refine pU 9 ?_))) <;> (first | refine tG 10 ?_ | (first | refine pG 10 ?_ | refine pU 10 ?_) | (refine va_caseG 10 rfl rfl rfl rfl rfl ?_ ?_ <;> (intro hb; (try simp only [hSQ] at hb); try (exfalso; omega)) <;> first | refine tG 10 ?_ | (first | refine pG 10 ?_ | refine pU 10 ?_))) <;> (first | refine tG 11 ?_ | (first | refine pG 11 ?_ | refine pU 11 ?_) | (refine va_caseG 11 rfl rfl rfl rfl rfl ?_ ?_ <;> (intro hb; (try simp only [hSQ] at hb); try (exfalso; omega)) <;> first | refine tG 11 ?_ | (first | refine pG 11 ?_ | refine pU 11 ?_))) <;> (first | refine tG 12 ?_ | (first | refine pG 12 ?_ | refine pU 12 ?_) | (refine va_caseG 12 rfl rfl rfl rfl rfl ?_ ?_ <;> (intro hb; (try simp only [hSQ] at hb); try (exfalso; omega)) <;> first | refine tG 12 ?_ | (first | refine pG 12 ?_ | refine pU 12 ?_))) <;> (first | refine tG 13 ?_ | (first | refine pG 13 ?_ | refine pU 13 ?_) | (refine va_caseG 13 rfl rfl rfl rfl rfl ?_ ?_ <;> (intro hb; (try simp only [hSQ] at hb); try (exfalso; omega)) <;> first | refine tG 13 ?_ | (first | refine pG 13 ?_ | refine pU 13 ?_))) <;> (first | refine tG 14 ?_ | (first | refine pG 14 ?_ | refine pU 14 ?_) | (refine va_caseG 14 rfl rfl rfl rfl rfl ?_ ?_ <;> (intro hb; (try simp only [hSQ] at hb); try (exfalso; omega)) <;> first | refine tG 14 ?_ | (first | refine pG 14 ?_ | refine pU 14 ?_))) <;> (first | refine tG 15 ?_ | (first | refine pG 15 ?_ | refine pU 15 ?_) | (refine va_caseG 15 rfl rfl rfl rfl rfl ?_ ?_ <;> (intro hb; (try simp only [hSQ] at hb); try (exfalso; omega)) <;> first | refine tG 15 ?_ | (first | refine pG 15 ?_ | refine pU 15 ?_))))
      refine pU 16 ?_
      ((first | refine tG 17 ?_ | (first | refine pG 17 ?_ | refine pU 17 ?_) | (refine va_caseG 17 rfl rfl rfl rfl rfl ?_ ?_ <;> (intro hb; (try simp only [hSQ] at hb); try (exfalso; omega)) <;> first | refine tG 17 ?_ | (first | refine pG 17 ?_ | refine pU 17 ?_))) <;> (first | refine tG 18 ?_ | (first | refine pG 18 ?_ | refine pU 18 ?_) | (refine va_caseG 18 rfl rfl rfl rfl rfl ?_ ?_ <;> (intro hb; (try simp only [hSQ] at hb); try (exfalso; omega)) <;> first | refine tG 18 ?_ | (first | refine pG 18 ?_ | refine pU 18 ?_))) <;> (refine tA 19 ?_) <;> (refine va_done (by kernel_rfl) ?_))
      repeat' (first | (refine go1 ?_; intros) | (refine goCC ?_ ?_ <;> (intro hb; (try simp only [hSQ] at hb); try (exfalso; omega))) | fail)
      refine ⟨_, (se_drop _ _).ent w0, ?_, rfl⟩
      rw [hnot (MapOk.not_val (k := i) (by simpa using hlt) (by rw [hki]; simp [PR.kv, hov]))]
    · have hv' : ∀ x ∈ (kvs ps).take (i + 1), okVal x.2.length = true := by
        rw [List.take_succ_eq_append_getElem (by simpa using hlt), hki]
        intro x hx
        rcases List.mem_append.1 hx with h1 | h1
        · exact hv x h1
        · simp at h1; subst h1; exact hov
      by_cases h0 : 0 < i
      · have e0 := h.e0 (i - 1) (by omega)
        have k0 := h.k32at (i - 1) (by omega)
        have hkm : (kvs ps)[i - 1]'(by simp; omega) = (ps[i - 1]'(by omega)).kv := by simp
        ((refine tA 3 ?_) <;> (refine tA 4 ?_) <;> (first | refine tG 5 ?_ | refine pG 5 ?_ | (refine va_caseG 5 rfl rfl rfl rfl rfl ?_ ?_ <;> (intro hb; (try simp only [hSQ] at hb); try (exfalso; omega)) <;> first | refine tG 5 ?_ | refine pG 5 ?_)) <;> (first | refine tG 6 ?_ | refine pG 6 ?_ | (refine va_caseG 6 rfl rfl rfl rfl rfl ?_ ?_ <;> (intro hb; (try simp only [hSQ] at hb); try (exfalso; omega)) <;> first | refine tG 6 ?_ | refine pG 6 ?_)) <;> (first | refine tG 7 ?_ | refine pG 7 ?_ | (refine va_caseG 7 rfl rfl rfl rfl rfl ?_ ?_ <;> (intro hb; (try simp only [hSQ] at hb); try (exfalso; omega)) <;> first | refine tG 7 ?_ | refine pG 7 ?_)) <;> (first | refine tG 8 ?_ | refine pG 8 ?_ | (refine va_caseG 8 rfl rfl rfl rfl rfl ?_ ?_ <;> (intro hb; (try simp only [hSQ] at hb); try (exfalso; omega)) <;> first | refine tG 8 ?_ | refine pG 8 ?_)) <;> (first | refine tG 9 ?_ | refine pG 9 ?_ | (refine va_caseG 9 rfl rfl rfl rfl rfl ?_ ?_ <;> (intro hb; (try simp only [hSQ] at hb); try (exfalso; omega)) <;> first | refine tG 9 ?_ | refine pG 9 ?_)) <;> (first | refine tG 10 ?_ | refine pG 10 ?_ | (refine va_caseG 10 rfl rfl rfl rfl rfl ?_ ?_ <;> (intro hb; (try simp only [hSQ] at hb); try (exfalso; omega)) <;> first | refine tG 10 ?_ | refine pG 10 ?_)) <;> (first | refine tG 11 ?_ | refine pG 11 ?_ | (refine va_caseG 11 rfl rfl rfl rfl rfl ?_ ?_ <;> (intro hb; (try simp only [hSQ] at hb); try (exfalso; omega)) <;> first | refine tG 11 ?_ | refine pG 11 ?_)) <;> (first | refine tG 12 ?_ | refine pG 12 ?_ | (refine va_caseG 12 rfl rfl rfl rfl rfl ?_ ?_ <;> (intro hb; (try simp only [hSQ] at hb); try (exfalso; omega)) <;> first | refine tG 12 ?_ | refine pG 12 ?_)) <;> (first | refine tG 13 ?_ | refine pG 13 ?_ | (refine va_caseG 13 rfl rfl rfl rfl rfl ?_ ?_ <;> (intro hb; (try simp only [hSQ] at hb); try (exfalso; omega)) <;> first | refine tG 13 ?_ | refine pG 13 ?_)) <;> (first | refine tG 14 ?_ | refine pG 14 ?_ | (refine va_caseG 14 rfl rfl rfl rfl rfl ?_ ?_ <;> (intro hb; (try simp only [hSQ] at hb); try (exfalso; omega)) <;> first | refine tG 14 ?_ | refine pG 14 ?_)) <;> (first | refine tG 15 ?_ | refine pG 15 ?_ | (refine va_caseG 15 rfl rfl rfl rfl rfl ?_ ?_ <;> (intro hb; (try simp only [hSQ] at hb); try (exfalso; omega)) <;> first | refine tG 15 ?_ | refine pG 15 ?_)))
        first | refine va_oneG 16 (by kernel_rfl) rfl rfl rfl rfl rfl rfl (vo_call rfl rfl ?_) | refine va_oneG 16 (by kernel_rfl) rfl rfl rfl rfl rfl rfl (vo_callV rfl rfl rfl ?_)
        refine vc_mono (ahead_vc w0 _ (ps[i - 1]'(by omega)).key ps[i].key k0 hk32) ?_
        rintro v L' ⟨rfl, rfl⟩
        refine ⟨.inr entD, ?_⟩
        by_cases ha : Ahd (ps[i - 1]'(by omega)).key ps[i].key
        · rw [decide_eq_true ha]
          ((first | refine tG 17 ?_ | refine pG 17 ?_ | (refine va_caseG 17 rfl rfl rfl rfl rfl ?_ ?_ <;> (intro hb; (try simp only [hSQ] at hb); try (exfalso; omega)) <;> first | refine tG 17 ?_ | refine pG 17 ?_)) <;> (first | refine tG 18 ?_ | refine pG 18 ?_ | (refine va_caseG 18 rfl rfl rfl rfl rfl ?_ ?_ <;> (intro hb; (try simp only [hSQ] at hb); try (exfalso; omega)) <;> first | refine tG 18 ?_ | refine pG 18 ?_)) <;> (refine tA 19 ?_) <;> (refine va_done (by kernel_rfl) ?_))
          repeat' (first | (refine go1 ?_; intros) | (refine goCC ?_ ?_ <;> (intro hb; (try simp only [hSQ] at hb); try (exfalso; omega))) | fail)
          refine ⟨rfl, i + 1, ⟨by omega, hv', srt_step (by simpa using hlt) hs (fun _ => by rw [hki, hkm]; exact ha)⟩, by omega, ?_, (se_drop _ _).ent w0⟩
          (exact sbS)
        · rw [decide_eq_false ha]
          ((first | refine tG 17 ?_ | refine pG 17 ?_ | (refine va_caseG 17 rfl rfl rfl rfl rfl ?_ ?_ <;> (intro hb; (try simp only [hSQ] at hb); try (exfalso; omega)) <;> first | refine tG 17 ?_ | refine pG 17 ?_)) <;> (first | refine tG 18 ?_ | refine pG 18 ?_ | (refine va_caseG 18 rfl rfl rfl rfl rfl ?_ ?_ <;> (intro hb; (try simp only [hSQ] at hb); try (exfalso; omega)) <;> first | refine tG 18 ?_ | refine pG 18 ?_)) <;> (refine tA 19 ?_) <;> (refine va_done (by kernel_rfl) ?_))
          repeat' (first | (refine go1 ?_; intros) | (refine goCC ?_ ?_ <;> (intro hb; (try simp only [hSQ] at hb); try (exfalso; omega))) | fail)
          refine ⟨_, (se_drop _ _).ent w0, ?_, rfl⟩
          rw [hnot (MapOk.not_adj (k := i) (by simpa using hlt) h0 (by rw [hki, hkm]; exact ha))]
      · ((refine tA 3 ?_) <;> (refine tA 4 ?_) <;> (first | refine tG 5 ?_ | refine pG 5 ?_ | (refine va_caseG 5 rfl rfl rfl rfl rfl ?_ ?_ <;> (intro hb; (try simp only [hSQ] at hb); try (exfalso; omega)) <;> first | refine tG 5 ?_ | refine pG 5 ?_)) <;> (first | refine tG 6 ?_ | refine pG 6 ?_ | (refine va_caseG 6 rfl rfl rfl rfl rfl ?_ ?_ <;> (intro hb; (try simp only [hSQ] at hb); try (exfalso; omega)) <;> first | refine tG 6 ?_ | refine pG 6 ?_)) <;> (first | refine tG 7 ?_ | refine pG 7 ?_ | (refine va_caseG 7 rfl rfl rfl rfl rfl ?_ ?_ <;> (intro hb; (try simp only [hSQ] at hb); try (exfalso; omega)) <;> first | refine tG 7 ?_ | refine pG 7 ?_)) <;> (first | refine tG 8 ?_ | refine pG 8 ?_ | (refine va_caseG 8 rfl rfl rfl rfl rfl ?_ ?_ <;> (intro hb; (try simp only [hSQ] at hb); try (exfalso; omega)) <;> first | refine tG 8 ?_ | refine pG 8 ?_)) <;> (first | refine tG 9 ?_ | refine pG 9 ?_ | (refine va_caseG 9 rfl rfl rfl rfl rfl ?_ ?_ <;> (intro hb; (try simp only [hSQ] at hb); try (exfalso; omega)) <;> first | refine tG 9 ?_ | refine pG 9 ?_)) <;> (first | refine tG 10 ?_ | refine pG 10 ?_ | (refine va_caseG 10 rfl rfl rfl rfl rfl ?_ ?_ <;> (intro hb; (try simp only [hSQ] at hb); try (exfalso; omega)) <;> first | refine tG 10 ?_ | refine pG 10 ?_)) <;> (first | refine tG 11 ?_ | refine pG 11 ?_ | (refine va_caseG 11 rfl rfl rfl rfl rfl ?_ ?_ <;> (intro hb; (try simp only [hSQ] at hb); try (exfalso; omega)) <;> first | refine tG 11 ?_ | refine pG 11 ?_)) <;> (first | refine tG 12 ?_ | refine pG 12 ?_ | (refine va_caseG 12 rfl rfl rfl rfl rfl ?_ ?_ <;> (intro hb; (try simp only [hSQ] at hb); try (exfalso; omega)) <;> first | refine tG 12 ?_ | refine pG 12 ?_)) <;> (first | refine tG 13 ?_ | refine pG 13 ?_ | (refine va_caseG 13 rfl rfl rfl rfl rfl ?_ ?_ <;> (intro hb; (try simp only [hSQ] at hb); try (exfalso; omega)) <;> first | refine tG 13 ?_ | refine pG 13 ?_)) <;> (first | refine tG 14 ?_ | refine pG 14 ?_ | (refine va_caseG 14 rfl rfl rfl rfl rfl ?_ ?_ <;> (intro hb; (try simp only [hSQ] at hb); try (exfalso; omega)) <;> first | refine tG 14 ?_ | refine pG 14 ?_)) <;> (first | refine tG 15 ?_ | refine pG 15 ?_ | (refine va_caseG 15 rfl rfl rfl rfl rfl ?_ ?_ <;> (intro hb; (try simp only [hSQ] at hb); try (exfalso; omega)) <;> first | refine tG 15 ?_ | refine pG 15 ?_)))
        refine pG 16 ?_
        ((first | refine tG 17 ?_ | refine pG 17 ?_ | (refine va_caseG 17 rfl rfl rfl rfl rfl ?_ ?_ <;> (intro hb; (try simp only [hSQ] at hb); try (exfalso; omega)) <;> first | refine tG 17 ?_ | refine pG 17 ?_)) <;> (first | refine tG 18 ?_ | refine pG 18 ?_ | (refine va_caseG 18 rfl rfl rfl rfl rfl ?_ ?_ <;> (intro hb; (try simp only [hSQ] at hb); try (exfalso; omega)) <;> first | refine tG 18 ?_ | refine pG 18 ?_)) <;> (refine tA 19 ?_) <;> (refine va_done (by kernel_rfl) ?_))
        repeat' (first | (refine go1 ?_; intros) | (refine goCC ?_ ?_ <;> (intro hb; (try simp only [hSQ] at hb); try (exfalso; omega))) | fail)
        refine ⟨rfl, i + 1, ⟨by omega, hv', srt_step (by simpa using hlt) hs (fun h => absurd h h0)⟩, by omega, ?_, (se_drop _ _).ent w0⟩
        (exact sbS)
  · obtain rfl : i = ps.length := by omega
    repeat' (first | (refine go1 ?_; intros) | (refine goCC ?_ ?_ <;> (intro hb; (try simp only [hSQ] at hb); try (exfalso; omega))) | fail)
    refine ⟨_, Ent.refl _ _, ?_, rfl⟩
    rw [List.take_of_length_le (by simp)] at hv hs
    rw [if_pos ⟨by simp; omega, hv, hs⟩]

end Go.Proofs.YtcpndfffdbogbaaGreatDoor
namespace Go.Proofs.YtcpndfffdbogbaaGreatDoor
open Go Go.RowKit
open Classical

end Go.Proofs.YtcpndfffdbogbaaGreatDoor
namespace Go.Proofs.YtcpndfffdbogbaaGreatDoor
open Go Go.RowKit
open Classical


/-- What holds of pairs whatever their lengths. -/
structure PsOk0 (ps : List PR) : Prop where
  key : ∀ p ∈ ps, p.key.length = 32
  len : ps.length ≤ 9223372036854775807
theorem PsOk0.wide {ps : List PR} (h : PsOk0 ps) : Wide PR.cells 33 ps := fun p hp => PR.len (h.key p hp)
/-- More than statements go through. -/
def GrP (m : Nat) (ps : List PR) : Prop := m < ps.length ∨ ∃ p ∈ ps, 100 < p.v.length
theorem PsOk0.ok {m : Nat} {ps : List PR} (h : PsOk0 ps) (hm : m ≤ 1000000) (hg : ¬ GrP m ps) : PsOk ps := ⟨h.key, fun p hp => by
  rcases Nat.lt_or_ge 1000000 p.v.length with e | e
  · exact absurd (.inr ⟨p, hp, by omega⟩) hg
  · exact e, by
  rcases Nat.lt_or_ge m ps.length with e | e
  · exact absurd (.inl e) hg
  · omega⟩
end Go.Proofs.YtcpndfffdbogbaaGreatDoor

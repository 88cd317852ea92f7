/-
  Memory in the logic without worlds: variables, slices, results, calls.
-/
import Derived.Test.YtpnhgmmijkjmlaaDoorVOps
import Derived.Test.YtpnhgmmijkjmlaaDoorLawsE
namespace Go.Proofs.YtpnhgmmijkjmlaaDoor
open Go Go.RowKit
set_option linter.unusedVariables false
set_option linter.unusedSimpArgs false

/-- An address and some cells on. -/
def offA (a : Option Addr) (k : Nat) : Option Addr := a.map (·.add k)
theorem offA_some (b off k : Nat) : offA (some ⟨b, off, none⟩) k = some ⟨b, off + k, none⟩ := by simp [offA, addr_add]

/-- Cells that could be read when the call began. -/
class RdA (w0 : World) (a : Option Addr) (vs : outParam (List Value)) : Prop where
  out : Rc w0 a vs
/-- Cells that can be read. -/
class RdC (w0 : World) (L : List Asn) (a : Option Addr) (vs : outParam (List Value)) : Prop where
  out : ∀ w, St w0 w L → Rc w a vs
class HasBlk (L : List Asn) (g : Nat) (i : outParam Nat) (t : outParam TypeId) (cs : outParam (List Value)) : Prop where
  out : L[i]? = some (blk g t cs)
class HasOwn (L : List Asn) (a : Option Addr) (i : outParam Nat) (e : outParam TypeId) (size n cap : outParam Nat) (xs : outParam (List Value)) : Prop where
  out : L[i]? = some (own e size a n cap xs)
class HasRd (L : List Asn) (a : Option Addr) (i : outParam Nat) (xs : outParam (List Value)) : Prop where
  out : L[i]? = some (rd a xs)
class SetI (L : List Asn) (i : Nat) (P' : Asn) (L' : outParam (List Asn)) : Prop where
  out : L' = L.set i P'
instance setI_zero (P P' : Asn) (L : List Asn) : SetI (P :: L) 0 P' (P' :: L) := ⟨rfl⟩
instance setI_succ (P P' : Asn) (L L' : List Asn) (i : Nat) [h : SetI L i P' L'] : SetI (P :: L) (i + 1) P' (P :: L') := ⟨by rw [h.out]; rfl⟩
instance hasBlk_zero (L : List Asn) (g : Nat) (t : TypeId) (cs : List Value) : HasBlk (blk g t cs :: L) g 0 t cs := ⟨rfl⟩
instance (priority := low) hasBlk_succ (P : Asn) (L : List Asn) (g i : Nat) (t : TypeId) (cs : List Value) [h : HasBlk L g i t cs] : HasBlk (P :: L) g (i + 1) t cs := ⟨by simpa using h.out⟩
instance hasOwn_zero (L : List Asn) (a : Option Addr) (e : TypeId) (size n cap : Nat) (xs : List Value) : HasOwn (own e size a n cap xs :: L) a 0 e size n cap xs := ⟨rfl⟩
instance (priority := low) hasOwn_succ (P : Asn) (L : List Asn) (a : Option Addr) (i : Nat) (e : TypeId) (size n cap : Nat) (xs : List Value) [h : HasOwn L a i e size n cap xs] : HasOwn (P :: L) a (i + 1) e size n cap xs := ⟨by simpa using h.out⟩
instance hasRd_zero (L : List Asn) (a : Option Addr) (xs : List Value) : HasRd (rd a xs :: L) a 0 xs := ⟨rfl⟩
instance (priority := low) hasRd_succ (P : Asn) (L : List Asn) (a : Option Addr) (i : Nat) (xs : List Value) [h : HasRd L a i xs] : HasRd (P :: L) a (i + 1) xs := ⟨by simpa using h.out⟩
instance rdC_own (w0 : World) (L : List Asn) (a : Option Addr) (i : Nat) (e : TypeId) (size n cap : Nat) (xs : List Value) [h : HasOwn L a i e size n cap xs] : RdC w0 L a xs := ⟨fun w hs => hs.rcOwn i h.out⟩
instance rdC_blk (w0 : World) (L : List Asn) (g i : Nat) (t : TypeId) (cs : List Value) [h : HasBlk L g i t cs] : RdC w0 L (some ⟨g, 0, none⟩) cs := ⟨fun w hs => hs.rcBlk i h.out⟩
instance rdC_rd (w0 : World) (L : List Asn) (a : Option Addr) (i : Nat) (xs : List Value) [h : HasRd L a i xs] : RdC w0 L a xs := ⟨fun w hs => hs.rcRd i h.out⟩
instance (priority := high) rdC_arg (w0 : World) (L : List Asn) (a : Option Addr) (vs : List Value) [h : RdA w0 a vs] : RdC w0 L a vs := ⟨fun w hs => h.out.st hs⟩
instance (priority := 50) rdC_cons (w0 : World) (A : Asn) (L : List Asn) (a : Option Addr) (vs : List Value) [h : RdC w0 L a vs] : RdC w0 (A :: L) a vs := ⟨fun w hs => h.out w ⟨hs.1, SL.tail hs.2⟩⟩
instance slI_of (P : Program) (t e : TypeId) (agg : Bool) (size bytes : Nat) (z : List Value) [h : UT P t (.slice e)] [k : TyI P e agg size bytes z] : SlI P t e agg size bytes z := ⟨h.out, k⟩

/-- Values of one cell. -/
class OC (vs : List Value) : Prop where
  out : ∀ u ∈ vs, u.oneCell' = true
instance oc_nil : OC [] := ⟨by simp⟩
instance oc_int (k : IntKind) (m : Int) (vs : List Value) [h : OC vs] : OC (.int k m :: vs) := ⟨by intro u hu; rcases List.mem_cons.1 hu with rfl | hu; rfl; exact h.out u hu⟩
instance oc_bool (b : Bool) (vs : List Value) [h : OC vs] : OC (.bool b :: vs) := ⟨by intro u hu; rcases List.mem_cons.1 hu with rfl | hu; rfl; exact h.out u hu⟩
instance oc_slice (a : Option Addr) (m c : Nat) (vs : List Value) [h : OC vs] : OC (.slice a m c :: vs) := ⟨by intro u hu; rcases List.mem_cons.1 hu with rfl | hu; rfl; exact h.out u hu⟩
instance oc_pointer (a : Option Addr) (vs : List Value) [h : OC vs] : OC (.pointer a :: vs) := ⟨by intro u hu; rcases List.mem_cons.1 hu with rfl | hu; rfl; exact h.out u hu⟩
instance oc_string (s : ByteArray) (vs : List Value) [h : OC vs] : OC (.string s :: vs) := ⟨by intro u hu; rcases List.mem_cons.1 hu with rfl | hu; rfl; exact h.out u hu⟩
instance oc_func (f : Fn) (x y : Array Value) (vs : List Value) [h : OC vs] : OC (.func f x y :: vs) := ⟨by intro u hu; rcases List.mem_cons.1 hu with rfl | hu; rfl; exact h.out u hu⟩
instance oc_append (us vs : List Value) [h : OC us] [k : OC vs] : OC (us ++ vs) := ⟨by intro u hu; rcases List.mem_append.1 hu with hu | hu; exact h.out u hu; exact k.out u hu⟩
instance oc_bvs (l : List UInt8) : OC (bvs l) := ⟨bvs_one l⟩

/-- A value's cells. -/
def cellsO : Value → Option (List Value)
  | .agg ⟨l⟩ => some l
  | v => some [v]
theorem cellsO_spec {v : Value} {cs : List Value} (h : cellsO v = some cs) : v.cells.toList = cs := by
  cases v with
  | agg a => obtain ⟨l⟩ := a; simp only [cellsO, Option.some.injEq] at h; exact h
  | _ => simp only [cellsO, Option.some.injEq] at h; subst h; rfl

section
variable {P : Program} {ro : Option Nat} {w0 : World} {n : Nat} {ds : List Deferred} {fr : Fr} {L L' : List Asn} {Q : Exit → List Deferred → Fr → List Asn → Prop}
variable {ops : Array Oper} {rest : List Oper} {d : Nat} {ty : TypeId} {pos : String} {after : Array Edge} {dst : Option Nat} {gd : Option (Nat × Bool)} {K : List Deferred → Fr → List Asn → Prop}
variable {e t : TypeId} {agg : Bool} {size bytes : Nat} {z : List Value}

/-! ### Variables -/
theorem vo_alloc [ht : TyI P e agg size bytes z] (hdn : Nat.blt d n = true) (h : ∀ g, K ds ((d, .pointer (some ⟨g, 0, none⟩)) :: fr) (blk g e z :: L)) : VO P ro w0 n ⟨some d, .alloc e, ty, pos, after, gd⟩ K Q ds fr L :=
  vo_runs (fun _ => by simp) (fun a w hk hs => wp_alloc e rfl ht hs (fun g w' hs' => ⟨_, _, _, hk.put d _ hdn, hs', h g⟩))
theorem vo_box {x : Operand} {v : Value} {cs : List Value} (hx : evA fr x = some v) (hc : cellsO v = some cs) (hdn : Nat.blt d n = true) (h : ∀ g, K ds ((d, .pointer (some ⟨g, 0, none⟩)) :: fr) (blk g e cs :: L)) : VO P ro w0 n ⟨some d, .box e x, ty, pos, after, gd⟩ K Q ds fr L :=
  vo_runs (fun _ => by simp) (fun a w hk hs => wp_box e x rfl cs (by rw [hk.ev hx]; exact cellsO_spec hc) hs (fun g w' hs' => ⟨_, _, _, hk.put d _ hdn, hs', h g⟩))
theorem vq_ldB {x : Operand} {g off i : Nat} {cs : List Value} {v : Value} (hx : evA fr x = some (.pointer (some ⟨g, off, none⟩))) [ht : TyI P e false size bytes z] [hb : HasBlk L g i t cs] (hv : cs[off]? = some v) : VQ P w0 n ⟨dst, .load e x, ty, pos, after, gd⟩ (v) ds fr L :=
  vq_val (fun a w hk hs => run_load1 e x rfl g off (hk.ev hx) ht v (hs.cellBlk i hb.out off hv))
/-- A whole variable is read. -/
theorem vq_ldW {x : Operand} {g i : Nat} {cs : List Value} (hx : evA fr x = some (.pointer (some ⟨g, 0, none⟩))) [ht : TyI P e true size bytes z] [hb : HasBlk L g i t cs] (hl : cs.length = size) : VQ P w0 n ⟨dst, .load e x, ty, pos, after, gd⟩ (.agg cs.toArray) ds fr L :=
  vq_val (fun a w hk hs => run_loadAgg e x rfl g 0 (hk.ev hx) ht cs (hs.rcBlk i hb.out) hl)
/-- A part of a variable is read. -/
theorem vq_ldP {x : Operand} {g off i : Nat} {cs us : List Value} (hx : evA fr x = some (.pointer (some ⟨g, off, none⟩))) [ht : TyI P e true size bytes z] [hb : HasBlk L g i t cs] (hu : (cs.drop off).take size = us) (hl : us.length = size) : VQ P w0 n ⟨dst, .load e x, ty, pos, after, gd⟩ (.agg us.toArray) ds fr L :=
  vq_val (fun a w hk hs => run_loadAgg e x rfl g off (hk.ev hx) ht us (by
    have hr := hs.rcBlk i hb.out
    have := hr.part off us (fun j u hj => by
      subst hu
      rw [List.getElem?_take] at hj
      split at hj
      · rwa [List.getElem?_drop] at hj
      · cases hj)
    simpa using this) hl)
/-- Through an address of cells that can be read. -/
theorem vq_ld1 {x : Operand} {a0 : Option Addr} {k : Nat} {vs : List Value} {v : Value} (hx : evA fr x = some (.pointer (offA a0 k))) [ht : TyI P e false size bytes z] [hr : RdC w0 L a0 vs] (hv : vs[k]? = some v) : VQ P w0 n ⟨dst, .load e x, ty, pos, after, gd⟩ (v) ds fr L :=
  vq_val (fun a w hk hs => by
    obtain ⟨b, off, rfl, hc⟩ := (hr.out w hs).read (by rintro rfl; simp at hv)
    rw [offA_some] at hx
    exact run_load1 e x rfl b (off + k) (hk.ev hx) ht v (hc k v hv))
theorem vq_ldA {x : Operand} {a0 : Option Addr} {k : Nat} {vs us : List Value} (hx : evA fr x = some (.pointer (offA a0 k))) [ht : TyI P e true size bytes z] [hr : RdC w0 L a0 vs] (hu : (vs.drop k).take size = us) (hl : us.length = size) : VQ P w0 n ⟨dst, .load e x, ty, pos, after, gd⟩ (.agg us.toArray) ds fr L :=
  vq_val (fun a w hk hs => by
    have hp := ht.pos
    have hne : vs ≠ [] := by rintro rfl; subst hu; simp at hl; omega
    have hrw := hr.out w hs
    obtain ⟨b, off, rfl, hc⟩ := hrw.read hne
    rw [offA_some] at hx
    refine run_loadAgg e x rfl b (off + k) (hk.ev hx) ht us (hrw.part k us (fun j u hj => ?_)) hl
    subst hu
    rw [List.getElem?_take] at hj
    split at hj
    · rwa [List.getElem?_drop] at hj
    · cases hj)

/-! ### Stores -/
theorem vo_stW {p x : Operand} {g i : Nat} {cs vs : List Value} {v : Value} (hp : evA fr p = some (.pointer (some ⟨g, 0, none⟩))) (hx : evA fr x = some v) [ht : TyI P e agg size bytes z] [hb : HasBlk L g i t cs] (hv : cellsO v = some vs) (hl : vs.length = size) (hcl : cs.length = size) [oc : OC vs] [hset : SetI L i (blk g t vs) L']
    (h : K ds fr L') : VO P ro w0 n ⟨none, .store e p x, ty, pos, after, gd⟩ K Q ds fr L :=
  vo_runs (fun _ => by simp) (fun a w hk hs => wp_storeBlk e p x rfl g 0 (hk.ev hp) ht hs i hb.out vs (by rw [hk.ev hx]; exact cellsO_spec hv) hl oc.out vs (splice_all _ _ (by rw [hl, hcl])) (by omega) (fun w' hs' => ⟨_, _, _, hk.put0 _, by rw [hset.out]; exact hs', h⟩))
theorem vo_stB {p x : Operand} {g off i : Nat} {cs cs' vs : List Value} {v : Value} (hp : evA fr p = some (.pointer (some ⟨g, off, none⟩))) (hx : evA fr x = some v) [ht : TyI P e agg size bytes z] [hb : HasBlk L g i t cs] (hv : cellsO v = some vs) (hl : vs.length = size) [oc : OC vs] (hfit : off + vs.length ≤ cs.length) (hcs : splice cs off vs = cs') [hset : SetI L i (blk g t cs') L']
    (h : K ds fr L') : VO P ro w0 n ⟨none, .store e p x, ty, pos, after, gd⟩ K Q ds fr L :=
  vo_runs (fun _ => by simp) (fun a w hk hs => wp_storeBlk e p x rfl g off (hk.ev hp) ht hs i hb.out vs (by rw [hk.ev hx]; exact cellsO_spec hv) hl oc.out cs' hcs hfit (fun w' hs' => ⟨_, _, _, hk.put0 _, by rw [hset.out]; exact hs', h⟩))
theorem vo_stO {p x : Operand} {a0 : Option Addr} {k i sz m cap : Nat} {xs xs' vs : List Value} {v : Value} (hp : evA fr p = some (.pointer (offA a0 k))) (hx : evA fr x = some v) [ht : TyI P e agg size bytes z] [hb : HasOwn L a0 i t sz m cap xs] (hv : cellsO v = some vs) (hl : vs.length = size) [oc : OC vs] (hfit : k + vs.length ≤ xs.length) (hcs : splice xs k vs = xs') [hset : SetI L i (own t sz a0 m cap xs') L']
    (h : K ds fr L') : VO P ro w0 n ⟨none, .store e p x, ty, pos, after, gd⟩ K Q ds fr L :=
  vo_runs (fun _ => by simp) (fun a w hk hs => by
    have hp0 := ht.pos
    obtain ⟨b, off, rfl, _⟩ := (hs.rcOwn i hb.out).read (by rintro rfl; simp only [List.length_nil] at hfit; omega)
    rw [offA_some] at hp
    exact wp_storeOwn e p x rfl b off k (hk.ev hp) ht hs i hb.out vs (by rw [hk.ev hx]; exact cellsO_spec hv) hl oc.out xs' hcs hfit (fun w' hs' => ⟨_, _, _, hk.put0 _, by rw [hset.out]; exact hs', h⟩))

/-! ### Slices -/
theorem vq_index {x i : Operand} {a0 : Option Addr} {m c kk : Nat} {q : IntKind} {I : Int} {vs : List Value} (hx : evA fr x = some (.slice a0 m c)) (hi : evA fr i = some (.int q I)) [hu : SlI P t e agg size bytes z] [hr : RdC w0 L a0 vs] (h0 : 0 ≤ I) (h1 : I < m) (hl : 0 < vs.length) (hk : I.toNat * size = kk)
    : VQ P w0 n ⟨dst, .indexAddr t x i, ty, pos, after, gd⟩ (.pointer (offA a0 kk)) ds fr L :=
  vq_val (fun a w hkn hs => by
    obtain ⟨b, off, rfl, _⟩ := (hr.out w hs).read (by rintro rfl; simp at hl)
    subst hk
    rw [offA_some]
    exact run_indexSl t x i rfl hu (hkn.ev hx) I.toNat (hkn.ev hi) (by omega) (by omega))
def bndE (fr : Fr) (x : Option Operand) (dflt : Nat) : Option Nat := match x with
  | none => some dflt
  | some x => match evA fr x with
    | some (.int _ (.ofNat m)) => some m
    | _ => none
theorem Kn.bnd {a : Act} (h : Kn n ds a fr) {x : Option Operand} {dflt m : Nat} (hb : bndE fr x dflt = some m) : bnd a x dflt m := by
  cases x with
  | none =>
    have h1 : dflt = m := by simpa [bndE] using hb
    exact h1.symm
  | some x =>
    simp only [bndE] at hb
    split at hb
    · rename_i k m' he
      simp only [Option.some.injEq] at hb
      subst hb
      exact ⟨k, _, h.ev he, rfl⟩
    · cases hb
theorem vq_slice {x : Operand} {lo hi mx : Option Operand} {a0 : Option Addr} {m cap l r q : Nat} (hx : evA fr x = some (.slice a0 m cap)) [hu : SlI P t e agg size bytes z] (hl : bndE fr lo 0 = some l) (hh : bndE fr hi m = some r) (hm : bndE fr mx cap = some q) (hmh : (mx.isNone || hi.isSome) = true) (h1 : l ≤ r) (h2 : r ≤ q) (h3 : q ≤ cap) :
    VQ P w0 n ⟨dst, .slice t x lo hi mx, ty, pos, after, gd⟩ (.slice (subA a0 l q size) (r - l) (q - l)) ds fr L :=
  vq_val (fun a w hk hs => run_sliceSl t x lo hi mx rfl hu (hk.ev hx) l r q (hk.bnd hl) (hk.bnd hh) (hk.bnd hm) (fun h => by cases mx <;> simp_all) h1 h2 h3)
theorem vo_append {s x : Operand} {a0 ao : Option Addr} {m c m' c' i : Nat} {xs news : List Value} (hs : evA fr s = some (.slice a0 m c)) (hx : evA fr x = some (.slice ao m' c')) [hu : SlI P t e agg size bytes z] [hb : HasOwn L a0 i e size m c xs] [hr : RdC w0 L ao news] (hl : news.length = m' * size) [oc : OC news] (h63 : m + m' ≤ 140737488355328) (hby : (m + m') * bytes ≤ 140737488355328) (hdn : Nat.blt d n = true)
    {LL : Option Addr → Nat → List Asn} [hset : ∀ a' cap', SetI L i (own e size a' (m + m') cap' (xs ++ news)) (LL a' cap')]
    (h : ∀ a' cap', (m + m' = 0 ∨ a' ≠ none) → m + m' ≤ cap' → K ds ((d, .slice a' (m + m') cap') :: fr) (LL a' cap')) :
    VO P ro w0 n ⟨some d, .call { callee := .builtin .append, args := #[s, x], argTypes := #[t, t] }, ty, pos, after, gd⟩ K Q ds fr L :=
  vo_runs (fun _ => by simp) (fun a w hk hst => wp_append s x t rfl hu hst i (hk.ev hs) hb.out (hk.ev hx) news hl (hr.out w hst) oc.out (by simp only [maxLen]; omega) hby (fun a' cap' w' hs' hn => ⟨_, _, _, hk.put d _ hdn, by rw [(hset a' cap').out]; exact hs', h a' cap' hn (hs'.ownLen i (by rw [List.getElem?_set_self (List.getElem?_eq_some_iff.1 hb.out).1])).2.1⟩))
theorem vo_append0 {s x : Operand} {ao : Option Addr} {m' c' : Nat} {news : List Value} (hs : evA fr s = some (.slice none 0 0)) (hx : evA fr x = some (.slice ao m' c')) [hu : SlI P t e agg size bytes z] [hr : RdC w0 L ao news] (hl : news.length = m' * size) [oc : OC news] (h63 : m' ≤ 140737488355328) (hby : m' * bytes ≤ 140737488355328) (hdn : Nat.blt d n = true)
    (h : ∀ a' cap', (m' = 0 ∨ a' ≠ none) → m' ≤ cap' → K ds ((d, .slice a' m' cap') :: fr) (own e size a' m' cap' news :: L)) :
    VO P ro w0 n ⟨some d, .call { callee := .builtin .append, args := #[s, x], argTypes := #[t, t] }, ty, pos, after, gd⟩ K Q ds fr L :=
  vo_runs (fun _ => by simp) (fun a w hk hst => wp_append0 s x t rfl hu hst (hk.ev hs) (hk.ev hx) news hl (hr.out w hst) oc.out (by simp only [maxLen]; omega) hby (fun a' cap' w' hs' hn => ⟨_, _, _, hk.put d _ hdn, hs', h a' cap' hn (hs'.ownLen 0 rfl).2.1⟩))
theorem vq_eqNil {yt : TypeId} {x y : Operand} {a0 : Option Addr} {m c : Nat} (hx : evA fr x = some (.slice a0 m c)) (hy : evA fr y = some (.slice none 0 0)) [hu : SlI P t e agg size bytes z] : VQ P w0 n ⟨dst, .binOp .eql t x y yt, ty, pos, after, gd⟩ (.bool a0.isNone) ds fr L :=
  vq_val (fun a w hk hs => run_eqNil t yt x y rfl hu (hk.ev hx) (hk.ev hy))
theorem vo_make {l c : Operand} {k k' : IntKind} {I : Int} {m : Nat} (hl : evA fr l = some (.int k I)) (hc : evA fr c = some (.int k' I)) [hu : SlI P t e agg size bytes z] (hm : I = (m : Int)) (hb : bytes * m ≤ 281474976710656) (hmm : m ≤ 140737488355328) (hdn : Nat.blt d n = true)
    (h : ∀ g, K ds ((d, .slice (some ⟨g, 0, none⟩) m m) :: fr) (own e size (some ⟨g, 0, none⟩) m m (madeCells z.toArray (m * size)).toList :: L)) :
    VO P ro w0 n ⟨some d, .makeSlice t l c, ty, pos, after, gd⟩ K Q ds fr L :=
  vo_runs (fun _ => by simp) (fun a w hk hs => wp_make l c t rfl hu hs m (hk.ev hl) hm (hk.ev hc) hm hb (by simp only [maxLen]; omega) (fun g w' hs' => ⟨_, _, _, hk.put d _ hdn, hs', h g⟩))

/-- The cells of a literal's parts, all in their order. -/
def evCs (fr : Fr) : Nat → List (Nat × Operand) → Option (List (List Value))
  | _, [] => some []
  | k, (i, x) :: ps => match Nat.beq i k, evA fr x, evCs fr (k + 1) ps with
    | true, some (.agg ⟨l⟩), some vs => some (l :: vs)
    | true, some v, some vs => some (v.cells.toList :: vs)
    | _, _, _ => none
/-- .. as one row. -/
def evF (fr : Fr) : List (Nat × Operand) → Option (List Value)
  | [] => some []
  | (_, x) :: ps => match evA fr x, evF fr ps with
    | some (.agg ⟨l⟩), some us => some (l ++ us)
    | some v, some us => some (v :: us)
    | _, _ => none
theorem Kn.parts {a : Act} (hk : Kn n ds a fr) : ∀ (parts : List (Nat × Operand)) (k : Nat) (vs : List (List Value)), evCs fr k parts = some vs → parts.map (fun p => (p.1, (a.eval p.2).cells.toList)) = enumS k vs
  | [], k, vs, h => by simp only [evCs, Option.some.injEq] at h; subst h; rfl
  | (i, x) :: ps, k, vs, h => by
    simp only [evCs] at h
    split at h
    · rename_i l us h0 h1 h2
      simp only [Option.some.injEq] at h
      subst h
      have : i = k := Nat.eq_of_beq_eq_true h0
      subst this
      simp only [List.map_cons, enumS, hk.ev h1, hk.parts ps (i + 1) us h2]
      rfl
    · rename_i v us _ h0 h1 h2
      simp only [Option.some.injEq] at h
      subst h
      have : i = k := Nat.eq_of_beq_eq_true h0
      subst this
      simp only [List.map_cons, enumS, hk.ev h1, hk.parts ps (i + 1) us h2]
    · cases h
theorem cells_plain (v : Value) (h : ∀ l, v ≠ .agg ⟨l⟩) : v.cells.toList = [v] := by
  cases v with
  | agg cs => exact absurd rfl (h cs.toList)
  | _ => rfl
theorem evF_eq : ∀ (parts : List (Nat × Operand)) (k : Nat) (vs : List (List Value)) (us : List Value), evCs fr k parts = some vs → evF fr parts = some us → vs.flatten = us
  | [], k, vs, us, h, h' => by
    simp only [evCs, Option.some.injEq] at h
    simp only [evF, Option.some.injEq] at h'
    subst h; subst h'; rfl
  | (i, x) :: ps, k, vs, us, h, h' => by
    simp only [evCs] at h
    simp only [evF] at h'
    split at h
    · rename_i l vs' h0 h1 h2
      simp only [Option.some.injEq] at h
      subst h
      rw [h1] at h'
      cases hr : evF fr ps with
      | none => simp [hr] at h'
      | some us' =>
        rw [hr] at h'
        simp only [Option.some.injEq] at h'
        subst h'
        rw [List.flatten_cons, evF_eq ps (k + 1) vs' us' h2 hr]
    · rename_i v vs' hno h0 h1 h2
      simp only [Option.some.injEq] at h
      subst h
      rw [h1] at h'
      have hva : ∀ l, v ≠ .agg ⟨l⟩ := fun l e => hno l e
      cases hr : evF fr ps with
      | none => simp only [hr] at h'; cases h'
      | some us' =>
        rw [hr] at h'
        have hv' : some (v :: us') = some us := by
          split at h'
          · rename_i l us'' e1 e2; simp only [Option.some.injEq] at e1; exact absurd e1 (hva l)
          · rename_i v'' us'' _ e1 e2; simp only [Option.some.injEq] at e1 e2 h'; subst e1; subst e2; rw [h']
          · rename_i hh; exact absurd rfl (hh v us' rfl)
        simp only [Option.some.injEq] at hv'
        subst hv'
        rw [List.flatten_cons, evF_eq ps (k + 1) vs' us' h2 hr, cells_plain v hva]
        rfl
    · cases h
def AllLen (s : Nat) : List (List Value) → Prop
  | [] => True
  | v :: vs => v.length = s ∧ AllLen s vs
theorem AllLen.out {s : Nat} : ∀ {vs : List (List Value)}, AllLen s vs → ∀ v ∈ vs, v.length = s
  | [], _, v, h => by simp at h
  | u :: us, ⟨h1, h2⟩, v, h => by
    rcases List.mem_cons.1 h with rfl | h
    · exact h1
    · exact AllLen.out h2 v h
theorem vo_buildSlice {m : Nat} {parts : Array (Nat × Operand)} [hu : SlI P t e agg size bytes z] {vs : List (List Value)} {us : List Value} (hv : evCs fr 0 parts.toList = some vs) (hus : evF fr parts.toList = some us) (hm : m = vs.length) (h0 : 0 < m) (hl : AllLen size vs) (hsz : m * size ≤ 16777216) (hdn : Nat.blt d n = true)
    (h : ∀ g, K ds ((d, .slice (some ⟨g, 0, none⟩) m m) :: fr) (own e size (some ⟨g, 0, none⟩) m m us :: L)) : VO P ro w0 n ⟨some d, .buildSlice t m parts, ty, pos, after, gd⟩ K Q ds fr L :=
  vo_runs (fun _ => by simp) (fun a w hk hs => wp_buildSliceAll t m parts rfl hu hs vs hm h0 (hk.parts _ _ _ hv) hl.out hsz (fun g w' hs' => ⟨_, _, _, hk.put d _ hdn, by rw [evF_eq _ _ _ _ hv hus] at hs'; exact hs', h g⟩))
theorem vo_buildSlice0 [hu : SlI P t e agg size bytes z] (hdn : Nat.blt d n = true)
    (h : ∀ g, K ds ((d, .slice (some ⟨g, 0, none⟩) 0 0) :: fr) (own e size (some ⟨g, 0, none⟩) 0 0 [] :: L)) : VO P ro w0 n ⟨some d, .buildSlice t 0 #[], ty, pos, after, gd⟩ K Q ds fr L :=
  vo_runs (fun _ => by simp) (fun a w hk hs => wp_buildSlice0 t rfl hu hs (fun g w' hs' => ⟨_, _, _, hk.put d _ hdn, hs', h g⟩))
theorem vq_build {parts : Array (Nat × Operand)} [ht : TyI P t true size bytes z] {pl : List (Nat × Nat)} [hf : FlI P t pl] {vs : List (List Value)} {us : List Value} (hv : evCs fr 0 parts.toList = some vs) (hus : evF fr parts.toList = some us) (hp : plOf 0 (vs.map List.length) = pl) (hl : us.length = size) : VQ P w0 n ⟨dst, .build t parts, ty, pos, after, gd⟩ (.agg us.toArray) ds fr L :=
  vq_val (fun a w hk hs => by
    have he := evF_eq _ _ _ _ hv hus
    rw [← he]
    exact run_buildAll t parts rfl ht hf vs (hk.parts _ _ _ hv) hp (by rw [he]; exact hl) _ rfl)
theorem vq_build0 [ht : TyI P t true size bytes z] {pl : List (Nat × Nat)} [hf : FlI P t pl]
    : VQ P w0 n ⟨dst, .build t #[], ty, pos, after, gd⟩ (.agg z.toArray) ds fr L :=
  vq_val (fun a w hk hs => run_build t #[] rfl ht hf [] rfl (by simp) z rfl)
/-- Where a struct's field lies. -/
theorem run_fieldAt {t : TypeId} {pl : List (Nat × Nat)} [hf : FlI P t pl] {f k s : Nat} (hp : pl[f]? = some (k, s)) (h0 : Nat.blt 0 s = true) (b off : Nat) (w : World) : (Instr.fieldAt t (.pointer (some ⟨b, off, none⟩)) f).run P w = .ok (.pointer (some ⟨b, off + k, none⟩)) w := by
  obtain ⟨fs, hfs⟩ : ∃ fs, P.underlying t = some (.struct fs) := by
    have := hf.str
    cases hd : P.underlying t with
    | none => simp [hd] at this
    | some d => cases d <;> simp [hd] at this; exact ⟨_, rfl⟩
  have hpl := hf.places
  have hfo : P.fieldsOf t = fs := by simp [Program.fieldsOf, hfs]
  rw [hfo] at hpl
  have hlen : fs.toList.length = pl.length := by simpa using congrArg List.length hpl
  have hlt : f < pl.length := (List.getElem?_eq_some_iff.1 hp).1
  have hfd : fs.toList[f]? = some (fs.toList[f]'(by omega)) := List.getElem?_eq_getElem (by omega)
  obtain ⟨fd, hfde⟩ : ∃ fd, fd = fs.toList[f]'(by omega) := ⟨_, rfl⟩
  rw [← hfde] at hfd
  have h2 : ((P.info? fd.type).map fun i => (fd.offset, i.size)) = some (k, s) := by
    have := congrArg (fun l => l[f]?) hpl
    simpa [List.getElem?_map, hfd, hp] using this
  obtain ⟨i, hi, he⟩ := Option.map_eq_some_iff.1 h2
  simp only [Prod.mk.injEq] at he
  have hfd' : fs[f]? = some fd := by rw [← hfd]; simp
  have hne : ¬ i.size = 0 := by have := h0; rw [Nat.blt_eq] at this; omega
  simp [Instr.fieldAt, run_underlying hfs, hfd', Instr.sureAddr, fieldPlace, sizeOf, typeInfo, hi, hne, addr_add, he.1]
theorem vq_fieldAddr {x : Operand} {f g off k s : Nat} {pl : List (Nat × Nat)} (hx : evA fr x = some (.pointer (some ⟨g, off, none⟩))) [hu : FlI P t pl] (hf : pl[f]? = some (k, s)) (h0 : Nat.blt 0 s = true) : VQ P w0 n ⟨dst, .fieldAddr t x f, ty, pos, after, gd⟩ (.pointer (some ⟨g, off + k, none⟩)) ds fr L :=
  vq_val (fun a w hk hs => by
    have := run_fieldAt (P := P) (t := t) hf h0 g off w
    simp [execOp, hk.ev hx, this])
/-- The same, of a struct that an address of cells leads to. -/
theorem vq_fieldAddrO {x : Operand} {f k0 k s : Nat} {a0 : Option Addr} {vs : List Value} {pl : List (Nat × Nat)} (hx : evA fr x = some (.pointer (offA a0 k0))) [hr : RdC w0 L a0 vs] (hl : 0 < vs.length) [hu : FlI P t pl] (hf : pl[f]? = some (k, s)) (h0 : Nat.blt 0 s = true) : VQ P w0 n ⟨dst, .fieldAddr t x f, ty, pos, after, gd⟩ (.pointer (offA a0 (k0 + k))) ds fr L :=
  vq_val (fun a w hk hs => by
    obtain ⟨b, off, rfl, _⟩ := (hr.out w hs).read (by rintro rfl; simp at hl)
    rw [offA_some] at hx ⊢
    have := run_fieldAt (P := P) (t := t) hf h0 b (off + k0) w
    rw [Nat.add_assoc] at this
    simp [execOp, hk.ev hx, this])

/-! ### Calls -/
/-- A function with a body of its own. -/
class FnB (P : Program) (f : FuncId) : Prop where
  out : ∀ args w, (callFunc f args).run P w = .ok (.enter f args) w
theorem vo_call {f : FuncId} {xs : Array Operand} {ts : Array TypeId} {args : List Value} (hx : evAs fr xs.toList = some args) [hf : FnB P f] (hdn : Nat.blt d n = true)
    (h : VC P w0 f args L fun v L' => K ds ((d, v) :: fr) L') : VO P ro w0 n ⟨some d, .call { callee := .value (.func f), args := xs, argTypes := ts }, ty, pos, after, gd⟩ K Q ds fr L :=
  vo_runs (fun _ => by simp) (fun a w hk hs => by
    refine wp_call f args.toArray ?_ ((h.out w hs).mono fun e w' ⟨v, L', he, hs', hv⟩ => ⟨v, he, _, _, _, hk.put d _ hdn, hs', hv⟩)
    have e2 : xs.map a.eval = args.toArray := Array.ext' (by rw [Array.toList_map, hk.evs _ _ hx])
    show (callFunc f (#[] ++ xs.map a.eval ++ #[])).run P w = _
    rw [e2, Array.empty_append, Array.append_empty]
    exact hf.out args.toArray w)
/-- A function value is called. -/
theorem vo_callV {g : Nat} {f : FuncId} {cap : Array Value} {xs : Array Operand} {ts : Array TypeId} {args : List Value} (hg : look fr g = some (.func (.func f) #[] cap)) (hx : evAs fr xs.toList = some args) [hf : FnB P f] (hdn : Nat.blt d n = true)
    (h : VC P w0 f (args ++ cap.toList) L fun v L' => K ds ((d, v) :: fr) L') : VO P ro w0 n ⟨some d, .call { callee := .value (.tmp g), args := xs, argTypes := ts }, ty, pos, after, gd⟩ K Q ds fr L :=
  vo_runs (fun _ => by simp) (fun a w hk hs => by
    refine wp_call f (args ++ cap.toList).toArray ?_ ((h.out w hs).mono fun e w' ⟨v, L', he, hs', hv⟩ => ⟨v, he, _, _, _, hk.put d _ hdn, hs', hv⟩)
    have e2 : xs.map a.eval = args.toArray := Array.ext' (by rw [Array.toList_map, hk.evs _ _ hx])
    have e3 : a.eval (.tmp g) = .func (.func f) #[] cap := hk.ev (x := .tmp g) hg
    have e4 : (execOp a.eval ⟨some d, .call { callee := .value (.tmp g), args := xs, argTypes := ts }, ty, pos, after, gd⟩).run P w = ((do let d ← Deferred.ofValue (a.eval (.tmp g)) (xs.map a.eval); invoke d.target d.args) : Sem Next).run P w := rfl
    rw [e4, e3, e2]
    show (callFunc f (#[] ++ args.toArray ++ cap)).run P w = _
    have e5 : (#[] ++ args.toArray ++ cap) = (args ++ cap.toList).toArray := by simp
    rw [e5]
    exact hf.out _ w)

def params : Nat → List Value → Fr
  | _, [] => []
  | i, v :: vs => (i, v) :: params (i + 1) vs
theorem look_params : ∀ (vs : List Value) (i d : Nat) (v : Value), look (params i vs) d = some v → ∃ j, d = i + j ∧ vs[j]? = some v
  | [], _, _, _, h => by cases h
  | u :: vs, i, d, v, h => by
    simp only [params, look] at h
    cases hb : Nat.beq i d with
    | true =>
      have : i = d := Nat.eq_of_beq_eq_true hb
      rw [hb] at h
      exact ⟨0, by omega, by simpa using h⟩
    | false =>
      rw [hb] at h
      obtain ⟨j, h1, h2⟩ := look_params vs (i + 1) d v h
      exact ⟨j + 1, by omega, by simpa using h2⟩

/-- The deferred calls are taken: marks of ranges over functions alone. -/
def retQ (P : Program) (w0 : World) (n : Nat) (fn : Func) (R : Value → List Asn → Prop) : Exit → List Deferred → Fr → List Asn → Prop
  | .normal, ds, fr, L | .ret, ds, fr, L => ∀ a w, Kn n ds a fr → St w0 w L → LeavesInM Fence.wide 0 P fn a.tmps (fun e w' => ∃ v L', e = .returned v ∧ St w0 w' L' ∧ R v L') ds .returning w
  | _, _, _, _ => False

theorem vc_enter {f : FuncId} {fn : Func} {c : Code} {args : List Value} {R : Value → List Asn → Prop} (hf : P.funcs[f]? = some fn) (hb : fn.body = some c) (hn : fn.ntmps = n) (hargs : Nat.ble args.length n = true)
    (h : V P none w0 n c (retQ P w0 n fn R) [] (params 0 args) L) : VC P w0 f args L R :=
  ⟨fun w hs => (callsIn_wide (n := 0)).1 (callsIn_of_wp_marks hf hb trivial (by
    have hle : args.length ≤ n := Nat.le_of_ble_eq_true hargs
    have hk : Kn n [] { tmps := args.toArray ++ Array.replicate (fn.ntmps - args.toArray.size) undef, defers := [] } (params 0 args) := by
      refine ⟨by simp [hn]; omega, rfl, fun d v hv => ?_⟩
      obtain ⟨j, rfl, hj⟩ := look_params args 0 d v hv
      have hjl : j < args.length := (List.getElem?_eq_some_iff.1 hj).1
      simp only [Nat.zero_add]
      rw [Array.getElem?_append_left (by simpa using hjl)]
      simpa using hj
    refine wpIn_mono (h.out _ w hk hs) ?_
    rintro e a' w' ⟨ds', fr', L', h1, h2, h3⟩
    cases e with
    | normal => have := h3 a' w' h1 h2; rw [← h1.defers] at this; exact this
    | ret => have := h3 a' w' h1 h2; rw [← h1.defers] at this; exact this
    | _ => exact h3.elim) rfl)⟩

/-- A function of the program. -/
class FnI (P : Program) (f : FuncId) (fn : outParam Func) (n : outParam Nat) : Prop where
  fnc : P.funcs[f]? = some fn
  tmps : fn.ntmps = n
theorem vc_in {f : FuncId} {fn : Func} {c : Code} {args : List Value} {R : Value → List Asn → Prop} [h : FnI P f fn n] (hb : fn.body = some c) (hargs : Nat.ble args.length n = true)
    (hv : V P none w0 n c (retQ P w0 n fn R) [] (params 0 args) L) : VC P w0 f args L R := vc_enter h.fnc hb h.tmps hargs hv
/-- Results. -/
class RvC (P : Program) (fr : Fr) (L : List Asn) (r : ResultVar) (v : outParam Value) : Prop where
  out : ∀ {w0 : World} {n : Nat} {ds : List Deferred} (a : Act) (w : World), Kn n ds a fr → St w0 w L → rvRun P a.tmps w r v
theorem rv_tmp {p : Nat} {v : Value} (h : look fr p = some v) : RvC P fr L (.tmp p) v := ⟨fun a w hk _ => by
  have := hk.at' p v h
  show a.tmps.getD p undef = v
  simp [this]⟩
theorem rv_blk {p g i : Nat} {cs : List Value} (h : look fr p = some (.pointer (some ⟨g, 0, none⟩))) [ht : TyI P e true size bytes z] [hb : HasBlk L g i t cs] (hl : cs.length = size) : RvC P fr L (.cell p e) (.agg cs.toArray) := ⟨fun a w hk hs => by
  have := hk.at' p _ h
  exact rvBlk hs i (by simp [this]) hb.out ht hl⟩
theorem rv_blk1 {p g i : Nat} {v : Value} (h : look fr p = some (.pointer (some ⟨g, 0, none⟩))) [ht : TyI P e false size bytes z] [hb : HasBlk L g i t [v]] : RvC P fr L (.cell p e) v := ⟨fun a w hk hs => by
  have := hk.at' p _ h
  exact rvBlk1 hs i (by simp [this]) hb.out ht⟩
theorem retQ_ret {fn : Func} {R : Value → List Asn → Prop} (h : retQ P w0 n fn R .ret ds fr L) : retQ P w0 n fn R .normal ds fr L := h
theorem ret0 {fn : Func} {R : Value → List Asn → Prop} (hres : fn.results = #[]) (hR : R (.tuple #[]) L) : retQ P w0 n fn R .ret [] fr L :=
  fun a w hk hs => ⟨.tuple #[], by rw [results_eq, hres]; simp, _, L, rfl, hs, hR⟩
theorem ret1 {fn : Func} {R : Value → List Asn → Prop} {r : ResultVar} {v : Value} (hres : fn.results = #[r]) (h1 : RvC P fr L r v) (hR : R v L) : retQ P w0 n fn R .ret [] fr L :=
  fun a w hk hs => ⟨v, results1 hres (h1.out a w hk hs), v, L, rfl, hs, hR⟩
theorem ret2 {fn : Func} {R : Value → List Asn → Prop} {r r2 : ResultVar} {v v2 : Value} (hres : fn.results = #[r, r2]) (h1 : RvC P fr L r v) (h2 : RvC P fr L r2 v2) (hR : R (.tuple #[v, v2]) L) : retQ P w0 n fn R .ret [] fr L :=
  fun a w hk hs => ⟨_, results2 hres (h1.out a w hk hs) (h2.out a w hk hs), _, L, rfl, hs, hR⟩
theorem ret3 {fn : Func} {R : Value → List Asn → Prop} {r r2 r3 : ResultVar} {v v2 v3 : Value} (hres : fn.results = #[r, r2, r3]) (h1 : RvC P fr L r v) (h2 : RvC P fr L r2 v2) (h3 : RvC P fr L r3 v3) (hR : R (.tuple #[v, v2, v3]) L) : retQ P w0 n fn R .ret [] fr L :=
  fun a w hk hs => ⟨_, results3 hres (h1.out a w hk hs) (h2.out a w hk hs) (h3.out a w hk hs), _, L, rfl, hs, hR⟩

/-! ### For the driver -/
theorem vl_id {l : List Oper} (h : VL P ro w0 n ops Q l ds fr L) : VL P ro w0 n ops Q l ds fr L := h
theorem v_id {c : Code} (h : V P ro w0 n c Q ds fr L) : V P ro w0 n c Q ds fr L := h
theorem vq_isBin {op : BinOp} {t yt : TypeId} {x y : Operand} {v : Value} (h : VQ P w0 n ⟨dst, .binOp op t x y yt, ty, pos, after, gd⟩ v ds fr L) : VQ P w0 n ⟨dst, .binOp op t x y yt, ty, pos, after, gd⟩ v ds fr L := h
theorem vq_isLoad {x : Operand} {v : Value} (h : VQ P w0 n ⟨dst, .load e x, ty, pos, after, gd⟩ v ds fr L) : VQ P w0 n ⟨dst, .load e x, ty, pos, after, gd⟩ v ds fr L := h
theorem vq_isUn {op : UnOp} {x : Operand} {v : Value} (h : VQ P w0 n ⟨dst, .unOp op t x, ty, pos, after, gd⟩ v ds fr L) : VQ P w0 n ⟨dst, .unOp op t x, ty, pos, after, gd⟩ v ds fr L := h
theorem vo_isCall {c : Call} (h : VO P ro w0 n ⟨dst, .call c, ty, pos, after, gd⟩ K Q ds fr L) : VO P ro w0 n ⟨dst, .call c, ty, pos, after, gd⟩ K Q ds fr L := h
theorem vo_isStore {p x : Operand} (h : VO P ro w0 n ⟨dst, .store e p x, ty, pos, after, gd⟩ K Q ds fr L) : VO P ro w0 n ⟨dst, .store e p x, ty, pos, after, gd⟩ K Q ds fr L := h
theorem thn_n {K : List Deferred → Fr → List Asn → Prop} (h : K ds fr L) : thn K Q .normal ds fr L := h
theorem thn_r {K : List Deferred → Fr → List Asn → Prop} (h : Q .ret ds fr L) : thn K Q .ret ds fr L := h
theorem thn_e {K : List Deferred → Fr → List Asn → Prop} {id : Nat} (h : Q (.exit id) ds fr L) : thn K Q (.exit id) ds fr L := h
theorem inb_n {id : Nat} (h : Q .normal ds fr L) : inb id Q .normal ds fr L := h
theorem inb_r {id : Nat} (h : Q .ret ds fr L) : inb id Q .ret ds fr L := h
theorem inb_e {id id' : Nat} (hi : Nat.beq id' id = true) (h : Q .normal ds fr L) : inb id Q (.exit id') ds fr L := by
  simp only [inb, hi]; exact h
theorem inb_o {id id' : Nat} (hi : Nat.beq id' id = false) (h : Q (.exit id') ds fr L) : inb id Q (.exit id') ds fr L := by
  simp only [inb, hi]; exact h
/-- A test is decided. -/
theorem vl_case {l : List Oper} {dj : Nat} {b : Bool} (hv : look fr dj = some (.bool b)) (ht : b = true → VL P ro w0 n ops Q l ds ((dj, .bool true) :: fr) L) (hf : b = false → VL P ro w0 n ops Q l ds ((dj, .bool false) :: fr) L) : VL P ro w0 n ops Q l ds fr L := by
  cases b with
  | true => exact vl_sub (Sub.cons hv rfl (Sub.refl fr)) (ht rfl)
  | false => exact vl_sub (Sub.cons hv rfl (Sub.refl fr)) (hf rfl)
theorem vl_caseG {o : Oper} {j dj : Nat} {oj : Oper} {want b : Bool} (hg : o.guard = some (j, want)) (hj : ops.toList[j]? = some oj) (hdj : oj.dst = some dj) (hv : look fr dj = some (.bool b)) (ht : b = true → VL P ro w0 n ops Q (o :: rest) ds ((dj, .bool true) :: fr) L) (hf : b = false → VL P ro w0 n ops Q (o :: rest) ds ((dj, .bool false) :: fr) L) :
    VL P ro w0 n ops Q (o :: rest) ds fr L := vl_case hv ht hf
theorem v_condT {c : Operand} {x y : Code} (hc : evA fr c = some (.bool true)) (ht : V P ro w0 n x Q ds fr L) : V P ro w0 n (.cond c x y) Q ds fr L := v_cond hc (fun _ => ht) (fun e => by cases e)
theorem v_condF {c : Operand} {x y : Code} (hc : evA fr c = some (.bool false)) (hf : V P ro w0 n y Q ds fr L) : V P ro w0 n (.cond c x y) Q ds fr L := v_cond hc (fun e => by cases e) (fun _ => hf)
/-- A number that is not negative, as one. -/
class IsNat (I : Int) (m : outParam Nat) : Prop where
  out : I = (m : Int)
instance isNat_cast (m : Nat) : IsNat (m : Int) m := ⟨rfl⟩
instance (priority := low) isNat_lit (m : Nat) : IsNat (no_index (OfNat.ofNat m : Int)) (OfNat.ofNat m) := ⟨rfl⟩
theorem wr_add {x y : Int} {m p : Nat} [hx : IsNat x m] [hy : IsNat y p] (h : m + p ≤ 9223372036854775807) : IntKind.i64.wrap (x + y) = ((m + p : Nat) : Int) := by rw [hx.out, hy.out, IntKind.wrap_i64]; omega
theorem wr_sub {x y : Int} {m p : Nat} [hx : IsNat x m] [hy : IsNat y p] (h : p ≤ m) (hm : m ≤ 9223372036854775807) : IntKind.i64.wrap (x - y) = ((m - p : Nat) : Int) := by rw [hx.out, hy.out, IntKind.wrap_i64]; omega
theorem wr_mul {x y : Int} {m p : Nat} [hx : IsNat x m] [hy : IsNat y p] (h : m * p ≤ 9223372036854775807) : IntKind.i64.wrap (x * y) = ((m * p : Nat) : Int) := by
  have e : (m : Int) * (p : Int) = ((m * p : Nat) : Int) := by simp
  rw [hx.out, hy.out, e, IntKind.wrap_i64]; omega
theorem wu_add {x y : Int} {m p : Nat} [hx : IsNat x m] [hy : IsNat y p] (h : m + p ≤ 18446744073709551615) : IntKind.u64.wrap (x + y) = ((m + p : Nat) : Int) := by rw [hx.out, hy.out, IntKind.wrap_u64]; omega
theorem wu_sub {x y : Int} {m p : Nat} [hx : IsNat x m] [hy : IsNat y p] (h : p ≤ m) (hm : m ≤ 18446744073709551615) : IntKind.u64.wrap (x - y) = ((m - p : Nat) : Int) := by rw [hx.out, hy.out, IntKind.wrap_u64]; omega
theorem wu_id {x : Int} {m : Nat} [hx : IsNat x m] (h : m ≤ 18446744073709551615) : IntKind.u64.wrap x = (m : Int) := by rw [hx.out, IntKind.wrap_u64]; omega
theorem wi_id {x : Int} {m : Nat} [hx : IsNat x m] (h : m ≤ 9223372036854775807) : IntKind.i64.wrap x = (m : Int) := by rw [hx.out, IntKind.wrap_i64]; omega
theorem bnd_none {fr : Fr} {m : Nat} : bndE fr none m = some m := rfl
theorem bnd_nat {fr : Fr} {x : Operand} {k : IntKind} {I : Int} {m dflt : Nat} (h : evA fr x = some (.int k I)) [hm : IsNat I m] : bndE fr (some x) dflt = some m := by
  rw [hm.out] at h
  show (match evA fr x with | some (.int _ (.ofNat m)) => some m | _ => none) = _
  rw [h]
theorem ix_1 {I : Int} {m : Nat} [h : IsNat I m] : I.toNat * 1 = m := by rw [h.out]; simp
theorem ix_s {I : Int} {m : Nat} (s : Nat) [h : IsNat I m] : I.toNat * s = m * s := by rw [h.out]; simp
theorem wr_id {m : Int} (h : -9223372036854775808 ≤ m) (h' : m ≤ 9223372036854775807) : IntKind.i64.wrap m = m := by rw [IntKind.wrap_i64]; omega

/-! ### Contracts -/
theorem vc_mono {f : FuncId} {args : List Value} {R R' : Value → List Asn → Prop} (h : VC P w0 f args L R) (hr : ∀ v L', R v L' → R' v L') : VC P w0 f args L R' :=
  ⟨fun w hs => (h.out w hs).mono fun e w' ⟨v, L', h1, h2, h3⟩ => ⟨v, L', h1, h2, hr v L' h3⟩⟩
/-- A contract of a call that makes memory of its own, at the caller's. -/
theorem vc_fresh {f : FuncId} {args : List Value} {R : Value → List Asn → Prop} (h : ∀ w, St w0 w L → Calls P f args.toArray w fun e w' => ∃ v M, e = .returned v ∧ St w w' M ∧ R v M) : VC P w0 f args L fun v L' => ∃ M, L' = M ++ L ∧ R v M :=
  ⟨fun w hs => (h w hs).mono fun e w' ⟨v, M, h1, h2, h3⟩ => ⟨v, M ++ L, h1, hs.comp h2, M, rfl, h3⟩⟩
theorem vc_pure {f : FuncId} {args : List Value} {v : Value} (h : ∀ w, St w0 w L → Calls P f args.toArray w fun e w' => e = .returned v ∧ w = w') : VC P w0 f args L fun u L' => u = v ∧ L' = L :=
  ⟨fun w hs => (h w hs).mono fun e w' ⟨h1, h2⟩ => ⟨v, L, h1, by rw [← h2]; exact hs, rfl, rfl⟩⟩
theorem VC.calls {f : FuncId} {args : List Value} {R : Value → List Asn → Prop} (w : World) (h : VC P w f args [] R) : Calls P f args.toArray w fun e w' => ∃ v M, e = .returned v ∧ St w w' M ∧ R v M :=
  h.out w (St.start w)
end
end Go.Proofs.YtpnhgmmijkjmlaaDoor

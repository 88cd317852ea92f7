/-
  More for the logic without worlds: scopes, arrays, bundles of assertions.
-/
import Derived.Test.YtpnhgmmijkjmlaaDoorVRange
import Derived.Test.YtpnhgmmijkjmlaaDoorVData
namespace Go.Proofs.YtpnhgmmijkjmlaaDoor
open Go Go.RowKit
set_option linter.unusedVariables false
set_option linter.unusedSimpArgs false

theorem wpIn_scope {F : Fence} {n : Nat} {P : Program} {Q : Exit → Act → World → Prop} {a : Act} {w : World} {c : Code} (h : c.wpIn F n P Q a w) (hg : ∀ l a w, ¬ Q (.goto l) a w) : (Code.scope c).wpIn F n P Q a w := by
  intro b k cs hro hb hr
  have h0 : (lone (b.atR a (.code (.scope c) :: k)) cs w).fenced P F := fenced_calm hb hr rfl
  have st : step P (lone (b.atR a (.code (.scope c) :: k)) cs w) = .next (lone (b.atR a (.code c :: .inScope c :: k)) cs w) := step_lone_go (by simp [stepG, stepG.exec, Frame.atR])
  have st2 : ∀ a w, step P (lone (b.atR a (.inScope c :: k)) cs w) = .next (lone (b.atR a k) cs w) := fun a w => step_lone_go (by simp [stepG, stepG.exec, Frame.atR])
  obtain ⟨e, a₁, w₁, hq, harr⟩ := h b (.inScope c :: k) cs hro hb hr
  cases e with
  | normal => exact ⟨.normal, a₁, w₁, hq, .head h0 st (StepsIn.trans harr (.one (fenced_calm hb hr rfl) (st2 _ _)))⟩
  | exit id =>
    have hx : exitTo id (.inScope c :: k) = exitTo id k := by simp [exitTo]
    exact ⟨.exit id, a₁, w₁, hq, fun k' hk => .head h0 st (harr.1 k' (by rw [hx]; exact hk)),
      fun hr' hk => let ⟨k₁, h1, h2⟩ := harr.2 hr' (by rw [hx]; exact hk); ⟨k₁, h1, .head h0 st h2⟩⟩
  | goto l => exact absurd hq (hg l _ _)
  | ret => exact ⟨_, a₁, w₁, hq, .of_steps (.one h0 st) harr⟩
  | panic ch => exact ⟨_, a₁, w₁, hq, .of_steps (.one h0 st) harr⟩
  | outgrown => exact ⟨_, a₁, w₁, hq, .of_steps (b := b) (k := k) (cs := cs) (e := .outgrown) (.one h0 st) harr⟩

/-! ### Bundles -/
def SLs (w : World) : List Asn → (Nat → Prop) → Prop
  | [], _ => True
  | P :: M, F => ∃ G, P.holds w G ∧ (∀ k, G k → F k) ∧ SLs w M (fun k => F k ∧ ¬ G k)
theorem SLs.mono {w : World} : ∀ {M : List Asn} {F F' : Nat → Prop}, SLs w M F → (∀ k, F k → F' k) → SLs w M F'
  | [], _, _, _, _ => trivial
  | _ :: _, _, _, ⟨G, h1, h2, h3⟩, hs => ⟨G, h1, fun k hk => hs k (h2 k hk), SLs.mono h3 (fun k hk => ⟨hs k hk.1, hk.2⟩)⟩
theorem SLs.loc {w w' : World} : ∀ {M : List Asn} {F : Nat → Prop}, SLs w M F → (∀ k, F k → w'.heap[k]? = w.heap[k]?) → SLs w' M F
  | [], _, _, _ => trivial
  | P :: _, _, ⟨G, h1, h2, h3⟩, hs => ⟨G, P.loc h1 (fun k hk => hs k (h2 k hk)), h2, SLs.loc h3 (fun k hk => hs k hk.1)⟩
/-- Assertions, apart from one another, as one. -/
def bundle (M : List Asn) : Asn where
  holds w F := SLs w M F
  loc h hs := h.loc hs
  mono h hs := h.mono hs
theorem SL.split {B : Nat} {w : World} : ∀ {M L : List Asn} {A : Nat → Prop}, SL B w (M ++ L) A → ∃ F, SLs w M F ∧ (∀ k, F k → B ≤ k ∧ k < w.heap.size ∧ ¬ A k) ∧ SL B w L (fun k => A k ∨ F k)
  | [], L, A, h => ⟨fun _ => False, trivial, fun _ h => h.elim, h.sub (fun _ hk => hk.elim id (fun f => f.elim))⟩
  | P :: M, L, A, ⟨G, h1, h2, h3⟩ => by
    obtain ⟨F, f1, f2, f3⟩ := SL.split h3
    refine ⟨fun k => G k ∨ F k, ⟨G, h1, fun k hk => .inl hk, f1.mono (fun k hk => ⟨.inr hk, fun hg => (f2 k hk).2.2 (.inr hg)⟩)⟩, ?_, f3.sub (fun k hk => ?_)⟩
    · rintro k (hk | hk)
      · exact h2 k hk
      · exact ⟨(f2 k hk).1, (f2 k hk).2.1, fun a => (f2 k hk).2.2 (.inl a)⟩
    · rcases hk with a | g | f
      · exact .inl (.inl a)
      · exact .inl (.inr g)
      · exact .inr f
theorem SL.merge {B : Nat} {w : World} : ∀ {M L : List Asn} {A F : Nat → Prop}, SLs w M F → (∀ k, F k → B ≤ k ∧ k < w.heap.size ∧ ¬ A k) → SL B w L (fun k => A k ∨ F k) → SL B w (M ++ L) A
  | [], _, _, _, _, _, h => h.sub (fun _ hk => .inl hk)
  | P :: M, L, A, F, ⟨G, h1, h2, h3⟩, hF, h => by
    refine ⟨G, h1, fun k hk => hF k (h2 k hk), SL.merge h3 (fun k hk => ⟨(hF k hk.1).1, (hF k hk.1).2.1, ?_⟩) (h.sub (fun k hk => ?_))⟩
    · rintro (a | g)
      · exact (hF k hk.1).2.2 a
      · exact hk.2 g
    · rcases hk with (a | g) | f
      · exact .inl a
      · exact .inr (h2 k g)
      · exact .inr f.1
theorem ent_bundle (w0 : World) (M L : List Asn) : Ent w0 (M ++ L) (bundle M :: L) := fun w h => by
  obtain ⟨F, f1, f2, f3⟩ := SL.split h.2
  exact ⟨h.1, F, f1, f2, f3⟩
theorem ent_unbundle (w0 : World) (M L : List Asn) : Ent w0 (bundle M :: L) (M ++ L) := fun w h => by
  obtain ⟨hb, F, f1, f2, f3⟩ := h
  exact ⟨hb, SL.merge f1 f2 f3⟩
theorem ent_perm {w0 : World} {L M : List Asn} (h : L.Perm M) : Ent w0 L M := fun w hw => hw.perm h
theorem ent_erase (w0 : World) (L : List Asn) (i : Nat) : Ent w0 L (L.eraseIdx i) := fun w h => h.erase i
theorem ent_turn {w0 : World} {L : List Asn} (i : Nat) {P P' : Asn} (hi : L[i]? = some P) (h : ∀ w F, P.holds w F → P'.holds w F) : Ent w0 L (L.set i P') := fun w hw => hw.turn i hi (h w)
theorem se_perm {L M : List Asn} (h : L.Perm M) : SE L M := fun _ _ _ x => SL.perm h x
/-- One to the front. -/
theorem se_front {L : List Asn} (i : Nat) {P : Asn} (hi : L[i]? = some P) : SE L (P :: L.eraseIdx i) := se_perm (perm_pull L i P hi)
theorem se_bundle (M L : List Asn) : SE (M ++ L) (bundle M :: L) := fun _ _ _ h => by
  obtain ⟨F, f1, f2, f3⟩ := SL.split h
  exact ⟨F, f1, f2, f3⟩
theorem se_unbundle (M L : List Asn) : SE (bundle M :: L) (M ++ L) := fun _ _ _ h => by
  obtain ⟨F, f1, f2, f3⟩ := h
  exact SL.merge f1 f2 f3
theorem se_app : ∀ (M L : List Asn), SE (M ++ L) L
  | [], L => SE.refl L
  | P :: M, L => (se_drop P (M ++ L)).trans (se_app M L)
theorem se_own_nil (e : TypeId) (size : Nat) (L : List Asn) : SE L (own e size none 0 0 [] :: L) := fun _ _ _ h => ⟨fun _ => False, ⟨by simp, .inl ⟨rfl, rfl, rfl⟩⟩, fun _ hk => hk.elim, h.sub (fun _ hk => hk.elim id (fun f => f.elim))⟩
/-- What stands first stays first. -/
theorem SL.sub_of_perm_append {B : Nat} {w : World} : ∀ {L : List Asn} {A : Nat → Prop} (M : List Asn), SL B w (M ++ L) A → SL B w L A
  | _, _, [], h => h
  | _, _, _ :: M, h => SL.sub_of_perm_append M (SL.tail h)

/-- Slices of bytes of the call's own. -/
def psA (ps : List PB) : Asn := bundle (ps.map fun p => ownB p.a p.cap p.l)
theorem se_psA_pull (ps : List PB) (L : List Asn) (k : Nat) (hk : k < ps.length) : SE (psA ps :: L) (ownB (ps[k]).a (ps[k]).cap (ps[k]).l :: psA (ps.eraseIdx k) :: L) := by
  have h1 : (ps.map fun p => ownB p.a p.cap p.l).Perm (ownB (ps[k]).a (ps[k]).cap (ps[k]).l :: (ps.eraseIdx k).map fun p => ownB p.a p.cap p.l) := by
    have := (perm_pull ps k ps[k] (by simp [hk])).map (fun p => ownB p.a p.cap p.l)
    simpa using this
  exact (se_unbundle _ L).trans ((se_perm (h1.append_right L)).trans (SE.cons _ (se_bundle _ L)))
theorem se_psA_push (ps qs : List PB) (L : List Asn) (p : PB) (h : (p :: ps).Perm qs) : SE (ownB p.a p.cap p.l :: psA ps :: L) (psA qs :: L) := by
  have h1 := h.map (fun p => ownB p.a p.cap p.l)
  exact (SE.cons _ (se_unbundle _ L)).trans ((se_perm (h1.append_right L)).trans (se_bundle _ L))
theorem se_psA_snoc (ps : List PB) (L : List Asn) (a : Option Addr) (cap : Nat) (l : List UInt8) : SE (ownB a cap l :: psA ps :: L) (psA (ps ++ [⟨a, cap, l⟩]) :: L) := se_psA_push ps _ L ⟨a, cap, l⟩ (by simpa using (List.perm_append_comm (l₁ := [PB.mk a cap l]) (l₂ := ps)))
theorem se_psA_nil (L : List Asn) : SE L (psA [] :: L) := se_bundle [] L

class HasPs (L : List Asn) (ps : List PB) : Prop where
  out : ∃ i : Nat, L[i]? = some (psA ps)
instance hasPs_zero (L : List Asn) (ps : List PB) : HasPs (psA ps :: L) ps := ⟨0, rfl⟩
instance (priority := low) hasPs_succ (P : Asn) (L : List Asn) (ps : List PB) [h : HasPs L ps] : HasPs (P :: L) ps := ⟨by obtain ⟨i, hi⟩ := h.out; exact ⟨i + 1, by simpa using hi⟩⟩
theorem SLs.mem {w : World} {P : Asn} : ∀ {M : List Asn} {F : Nat → Prop}, SLs w M F → P ∈ M → ∃ G, P.holds w G
  | _ :: _, _, ⟨G, h1, _, h3⟩, hm => by
    rcases List.mem_cons.1 hm with rfl | hm
    · exact ⟨G, h1⟩
    · exact SLs.mem h3 hm
instance rdPs_own (w0 : World) (L : List Asn) (ps : List PB) [h : HasPs L ps] : RdPs w0 L ps := ⟨fun p hp => ⟨fun w hs => by
  obtain ⟨i, hi⟩ := h.out
  refine hs.know i hi (fun F hF => ?_)
  obtain ⟨G, hG⟩ := SLs.mem (P := ownB p.a p.cap p.l) hF (List.mem_map.2 ⟨p, hp, rfl⟩)
  exact own.rc hG⟩⟩

/-- A shorter slice of one's own. -/
theorem own_cut {e : TypeId} {size : Nat} {a : Option Addr} {m c : Nat} {xs : List Value} (m' c' : Nat) (hm : m' ≤ m) (hc : c' ≤ c) (hmc : m' ≤ c') : ∀ w F, (own e size a m c xs).holds w F → (own e size a m' c' (xs.take (m' * size))).holds w F := by
  rintro w F ⟨h1, ⟨rfl, rfl, rfl⟩ | ⟨g, off, cs, rfl, f, hg, q1, q2, q3, q4⟩⟩
  · obtain rfl : m' = 0 := by omega
    obtain rfl : c' = 0 := by omega
    exact ⟨by simp, .inl ⟨rfl, rfl, rfl⟩⟩
  · have hle : m' * size ≤ m * size := Nat.mul_le_mul_right _ hm
    refine ⟨by simp [h1, hle], .inr ⟨g, off, cs, rfl, f, hg, hmc, by omega, ?_, ?_⟩⟩
    · have : c' * size ≤ c * size := Nat.mul_le_mul_right _ hc
      omega
    · rw [← q4, List.take_take, Nat.min_eq_left hle]
/-- A slice of length nothing. -/
theorem own_none {e : TypeId} {size : Nat} : ∀ (w : World) (P : Asn) F, P.holds w F → (own e size none 0 0 []).holds w F := fun w P F _ => ⟨by simp, .inl ⟨rfl, rfl, rfl⟩⟩

section
variable {P : Program} {ro : Option Nat} {w0 : World} {n : Nat} {ds : List Deferred} {fr : Fr} {L : List Asn} {Q : Exit → List Deferred → Fr → List Asn → Prop} {K : List Deferred → Fr → List Asn → Prop}
variable {d : Nat} {ty : TypeId} {pos : String} {after : Array Edge} {gd : Option (Nat × Bool)} {dst : Option Nat}
variable {e t : TypeId} {agg : Bool} {size bytes : Nat} {z : List Value}
theorem v_know {c : Code} {φ : Prop} (hφ : ∀ w, St w0 w L → φ) (h : φ → V P ro w0 n c Q ds fr L) : V P ro w0 n c Q ds fr L := ⟨fun a w hk hs => (h (hφ w hs)).out a w hk hs⟩
theorem vl_know {ops : Array Oper} {l : List Oper} {φ : Prop} (hφ : ∀ w, St w0 w L → φ) (h : φ → VL P ro w0 n ops Q l ds fr L) : VL P ro w0 n ops Q l ds fr L := ⟨fun a w hk hs => (h (hφ w hs)).out a w hk hs⟩
theorem vc_know {f : FuncId} {args : List Value} {R : Value → List Asn → Prop} {φ : Prop} (hφ : ∀ w, St w0 w L → φ) (h : φ → VC P w0 f args L R) : VC P w0 f args L R := ⟨fun w hs => (h (hφ w hs)).out w hs⟩
/-- Slots that stay as they are. -/
def selE (fr : Fr) : List Nat → Option Fr
  | [] => some []
  | k :: ks => match look fr k, selE fr ks with
    | some v, some r => some ((k, v) :: r)
    | _, _ => none
theorem selE_sub : ∀ (ks : List Nat) (r : Fr), selE fr ks = some r → Sub r fr
  | [], r, h => by simp only [selE, Option.some.injEq] at h; subst h; exact Sub.nil _
  | k :: ks, r, h => by
    simp only [selE] at h
    split at h
    · rename_i v r' h1 h2
      simp only [Option.some.injEq] at h
      subst h
      exact Sub.cons h1 rfl (selE_sub ks r' h2)
    · cases h
/-- A loop, what is held said by what was held; the slots ks stay. -/
theorem v_loopF {c : Code} (X : Type) (ks : List Nat) {fr0 : Fr} (hks : selE fr ks = some fr0) (f : X → Fr) (F : List Asn → X → List Asn) (ok : X → Prop) (μ : X → Nat) (x0 : X) (h0 : ok x0) (hs0 : Sub (f x0 ++ fr0) fr) (he0 : Ent w0 L (F L x0))
    (h : ∀ x, ok x → V P ro w0 n c (thn (fun ds' fr' L' => ds' = ds ∧ ∃ y, ok y ∧ μ y < μ x ∧ Sub (f y ++ fr0) fr' ∧ Ent w0 L' (F L y)) Q) ds (f x ++ fr0) (F L x)) : V P ro w0 n (.loop c) Q ds fr L := v_loop X (fun x => f x ++ fr0) (F L) ok μ x0 h0 hs0 he0 h
/-- A loop that leaves what is held as it is. -/
theorem v_loopS {c : Code} (X : Type) (ks : List Nat) {fr0 : Fr} (hks : selE fr ks = some fr0) (f : X → Fr) (ok : X → Prop) (μ : X → Nat) (x0 : X) (h0 : ok x0) (hs0 : Sub (f x0 ++ fr0) fr)
    (h : ∀ x, ok x → V P ro w0 n c (thn (fun ds' fr' L' => ds' = ds ∧ ∃ y, ok y ∧ μ y < μ x ∧ Sub (f y ++ fr0) fr' ∧ Ent w0 L' L) Q) ds (f x ++ fr0) L) : V P ro w0 n (.loop c) Q ds fr L := v_loopF X ks hks f (fun L _ => L) ok μ x0 h0 hs0 (Ent.refl _ _) h
/-- One assertion put among others. -/
theorem se_put (P : Asn) : ∀ (k : Nat) (L : List Asn), SE (P :: L) (L.take k ++ P :: L.drop k)
  | 0, L => SE.refl _
  | k + 1, [] => SE.refl _
  | k + 1, A :: L => (se_swap P A L).trans (SE.cons A (se_put P k L))
theorem v_label {l : Nat} (h : Q .normal ds fr L) : V P ro w0 n (.label l) Q ds fr L := ⟨fun a w hk hs => wpIn_label ⟨ds, fr, L, hk, hs, h⟩⟩
theorem v_scope {c : Code} (hg : ∀ l ds fr L, ¬ Q (.goto l) ds fr L) (h : V P ro w0 n c Q ds fr L) : V P ro w0 n (.scope c) Q ds fr L :=
  ⟨fun a w hk hs => wpIn_scope (h.out a w hk hs) (fun l _ _ ⟨_, _, _, _, _, hh⟩ => hg _ _ _ _ hh)⟩
/-- The address of an array's element. -/
theorem vq_indexArr {x i : Operand} {g off m kk : Nat} {q : IntKind} {I : Int} (hx : evA fr x = some (.pointer (some ⟨g, off, none⟩))) (hi : evA fr i = some (.int q I)) [hu : ArI P t e m agg size bytes z] (h0 : 0 ≤ I) (h1 : I < m) (hk : I.toNat * size = kk) :
    VQ P w0 n ⟨dst, .indexAddr t x i, ty, pos, after, gd⟩ (.pointer (some ⟨g, off + kk, none⟩)) ds fr L :=
  vq_val (fun a w hkn hs => by
    subst hk
    have hI : I.toNat < m := by omega
    simp [execOp, hkn.ev hx, hkn.ev hi, Instr.indexAt, asIntOf, run_underlying hu.arr, hu.el.run_size, h0, h1, Instr.sureAddr, addr_add])
/-- The same contract, what is left over let go. -/
theorem vc_ent {f : FuncId} {args : List Value} {R : Value → List Asn → Prop} (h : VC P w0 f args L fun v L' => ∃ L'', Ent w0 L' L'' ∧ R v L'') : VC P w0 f args L R :=
  ⟨fun w hs => (h.out w hs).mono fun e w' ⟨v, L', h1, h2, L'', he, h3⟩ => ⟨v, L'', h1, he w' h2, h3⟩⟩
theorem vc_pre {f : FuncId} {args : List Value} {L2 : List Asn} {R : Value → List Asn → Prop} (he : Ent w0 L L2) (h : VC P w0 f args L2 R) : VC P w0 f args L R := ⟨fun w hs => h.out w (he w hs)⟩
end

/-! ### Guards: which operation it is, ahead of what costs -/
section
variable {P : Program} {ro : Option Nat} {w0 : World} {n : Nat} {ds : List Deferred} {fr : Fr} {L : List Asn} {Q : Exit → List Deferred → Fr → List Asn → Prop}
variable {d : Nat} {ty : TypeId} {pos : String} {after : Array Edge} {dst : Option Nat} {gd : Option (Nat × Bool)} {K : List Deferred → Fr → List Asn → Prop} {e t yt : TypeId} {size bytes : Nat} {z : List Value} {x y : Operand} {v : Value}
theorem vq_isOp (op : BinOp) (h : VQ P w0 n ⟨dst, .binOp op t x y yt, ty, pos, after, gd⟩ v ds fr L) : VQ P w0 n ⟨dst, .binOp op t x y yt, ty, pos, after, gd⟩ v ds fr L := h
theorem vq_isIx (h : VQ P w0 n ⟨dst, .indexAddr t x y, ty, pos, after, gd⟩ v ds fr L) : VQ P w0 n ⟨dst, .indexAddr t x y, ty, pos, after, gd⟩ v ds fr L := h
theorem vq_ixSl {a0 : Option Addr} {m c : Nat} (hx : evA fr x = some (.slice a0 m c)) (h : VQ P w0 n ⟨dst, .indexAddr t x y, ty, pos, after, gd⟩ v ds fr L) : VQ P w0 n ⟨dst, .indexAddr t x y, ty, pos, after, gd⟩ v ds fr L := h
theorem vq_ixPt {g off : Nat} (hx : evA fr x = some (.pointer (some ⟨g, off, none⟩))) (h : VQ P w0 n ⟨dst, .indexAddr t x y, ty, pos, after, gd⟩ v ds fr L) : VQ P w0 n ⟨dst, .indexAddr t x y, ty, pos, after, gd⟩ v ds fr L := h
theorem vq_isConv (h : VQ P w0 n ⟨dst, .convert e t x, ty, pos, after, gd⟩ v ds fr L) : VQ P w0 n ⟨dst, .convert e t x, ty, pos, after, gd⟩ v ds fr L := h
theorem vq_isSlice {lo hi mx : Option Operand} (h : VQ P w0 n ⟨dst, .slice t x lo hi mx, ty, pos, after, gd⟩ v ds fr L) : VQ P w0 n ⟨dst, .slice t x lo hi mx, ty, pos, after, gd⟩ v ds fr L := h
theorem vq_isBuild {parts : Array (Nat × Operand)} (h : VQ P w0 n ⟨dst, .build t parts, ty, pos, after, gd⟩ v ds fr L) : VQ P w0 n ⟨dst, .build t parts, ty, pos, after, gd⟩ v ds fr L := h
theorem vq_isPt {g off : Nat} (hx : evA fr x = some (.pointer (some ⟨g, off, none⟩))) (h : VQ P w0 n ⟨dst, .load e x, ty, pos, after, gd⟩ v ds fr L) : VQ P w0 n ⟨dst, .load e x, ty, pos, after, gd⟩ v ds fr L := h
theorem vq_isPt0 {g : Nat} (hx : evA fr x = some (.pointer (some ⟨g, 0, none⟩))) (h : VQ P w0 n ⟨dst, .load e x, ty, pos, after, gd⟩ v ds fr L) : VQ P w0 n ⟨dst, .load e x, ty, pos, after, gd⟩ v ds fr L := h
theorem vq_isPtA {a0 : Option Addr} {k : Nat} (hx : evA fr x = some (.pointer (offA a0 k))) (h : VQ P w0 n ⟨dst, .load e x, ty, pos, after, gd⟩ v ds fr L) : VQ P w0 n ⟨dst, .load e x, ty, pos, after, gd⟩ v ds fr L := h
theorem vq_isOne [ht : TyI P e false size bytes z] (h : VQ P w0 n ⟨dst, .load e x, ty, pos, after, gd⟩ v ds fr L) : VQ P w0 n ⟨dst, .load e x, ty, pos, after, gd⟩ v ds fr L := h
theorem vq_isAgg [ht : TyI P e true size bytes z] (h : VQ P w0 n ⟨dst, .load e x, ty, pos, after, gd⟩ v ds fr L) : VQ P w0 n ⟨dst, .load e x, ty, pos, after, gd⟩ v ds fr L := h
theorem vo_isPt0 {g : Nat} (hx : evA fr x = some (.pointer (some ⟨g, 0, none⟩))) (h : VO P ro w0 n ⟨none, .store e x y, ty, pos, after, gd⟩ K Q ds fr L) : VO P ro w0 n ⟨none, .store e x y, ty, pos, after, gd⟩ K Q ds fr L := h
theorem vo_isPt {g off : Nat} (hx : evA fr x = some (.pointer (some ⟨g, off, none⟩))) (h : VO P ro w0 n ⟨none, .store e x y, ty, pos, after, gd⟩ K Q ds fr L) : VO P ro w0 n ⟨none, .store e x y, ty, pos, after, gd⟩ K Q ds fr L := h
theorem vo_isBs {m : Nat} {parts : Array (Nat × Operand)} (h : VO P ro w0 n ⟨some d, .buildSlice t m parts, ty, pos, after, gd⟩ K Q ds fr L) : VO P ro w0 n ⟨some d, .buildSlice t m parts, ty, pos, after, gd⟩ K Q ds fr L := h
end

/-! ### The driver's steps, what closes their side goals laid in -/
section
variable {P : Program} {ro : Option Nat} {w0 : World} {n : Nat} {ds : List Deferred} {fr : Fr} {L L' Lf : List Asn} {Q : Exit → List Deferred → Fr → List Asn → Prop} {ops : Array Oper} {rest : List Oper} {fuel : Nat} {listed : List Bool} {E : List Nat}
variable {d : Nat} {ty : TypeId} {pos : String} {after : Array Edge} {dst : Option Nat} {gd : Option (Nat × Bool)} {K : List Deferred → Fr → List Asn → Prop} {e t : TypeId} {agg : Bool} {size bytes : Nat} {z : List Value}
theorem vl_qA {o : Oper} {v : Value} (hg : o.guard = none) (hd : notDefer o.op = true) (hdst : o.dst = some d) (hdn : Nat.blt d n = true) (h : VL P ro w0 n ops Q rest ds ((d, v) :: fr) L) (hq : VQ P w0 n o v ds fr L := by (first | exact vq_move rfl | exact vq_assign rfl | (apply vq_isBin; first | exact vq_lt rfl rfl | exact vq_eq rfl rfl | exact vq_ne rfl rfl | (apply vq_isOp .add; exact vq_add rfl rfl (by first | exact wr_add (by omega) | exact wu_add (by omega) | exact wr_id (by omega) (by omega) | rfl)) | (apply vq_isOp .sub; exact vq_minus rfl rfl (by first | exact wr_sub (by omega) (by omega) | exact wu_sub (by omega) (by omega) | exact wr_id (by omega) (by omega) | rfl)) | exact vq_gt rfl rfl | exact vq_le rfl rfl | exact vq_ge rfl rfl | (apply vq_isOp .mul; exact vq_mul rfl rfl (by first | exact wr_mul (by omega) | exact wr_id (by omega) (by omega) | rfl)) | (apply vq_isOp .or; exact vq_or rfl rfl (by rfl)) | (apply vq_isOp .and; exact vq_and rfl rfl (by rfl)) | (apply vq_isOp .xor; exact vq_xor rfl rfl (by rfl)) | (apply vq_isOp .shl; exact vq_shl rfl rfl (by omega) (by rfl)) | (apply vq_isOp .shr; exact vq_shr rfl rfl (by omega) (by rfl)) | (apply vq_isOp .quo; exact vq_quo rfl rfl (by decide) (by first | exact q8_i64 (by omega) | exact q2_u8 (by omega) | exact q4_i64 (by omega) | rfl)) | (apply vq_isOp .rem; exact vq_rem rfl rfl (by decide) (by first | exact r8 | exact r2 | exact r4 | exact r64 | rfl)) | exact vq_eqNil rfl rfl | exact vq_eqBool rfl rfl | (apply vq_isOp .eql; exact vq_eqB rfl rfl (by first | assumption | (simp; done)) (by first | assumption | (simp; done))) | (apply vq_isOp .neq; first | exact vq_neBool rfl rfl | exact vq_neB rfl rfl (by first | assumption | (simp; done)) (by first | assumption | (simp; done)))) | (apply vq_isLoad; first | (apply vq_isPt; exact rfl; first | (apply vq_isOne; exact vq_ldB rfl (by first | rfl | assumption)) | (apply vq_isPt0; exact rfl; apply vq_isAgg; exact vq_ldW rfl (by first | rfl | assumption | (simp; done) | (simp; assumption))) | (apply vq_isAgg; exact vq_ldP rfl (by assumption) (by first | assumption | (simp; done) | (simp; assumption)))) | (apply vq_isPtA; exact rfl; first | (apply vq_isOne; exact vq_ld1 rfl (by first | assumption | rfl)) | exact vq_ldA rfl (by assumption) (by first | assumption | (simp; done) | (simp; assumption))) | fail) | exact vq_lenSl rfl | (apply vq_isIx; first | (apply vq_ixSl; exact rfl; exact vq_index rfl rfl (by omega) (by omega) (by first | (simp; done) | (simp; omega) | (rw [bvs_length]; omega)) (by first | exact ix_1 | exact ix_s _ | rfl)) | (apply vq_ixPt; exact rfl; exact vq_indexArr rfl rfl (by omega) (by omega) (by first | exact ix_1 | exact ix_s _ | rfl)) | exact vq_indexArrA rfl rfl (by first | (simp; done) | (rw [bvs_length]; omega) | (simp; omega)) (by omega) (by omega) (by first | exact ix_1 | exact ix_s _ | rfl)) | exact vq_extract rfl rfl | exact vq_pickT rfl rfl | exact vq_pickF rfl rfl | exact vq_fieldAddr rfl (by rfl) rfl | exact vq_makeFunc rfl rfl | exact vq_nilCheck rfl | (apply vq_isConv; exact vq_conv rfl (by first | exact wi_id (by omega) | exact wu_id (by omega) | exact wr_id (by omega) (by omega) | rfl)) | (apply vq_isUn; first | exact vq_not rfl | exact vq_xorU rfl (by rfl) | exact vq_neg rfl (by rfl)) | (apply vq_isSlice; exact vq_slice rfl (by first | exact bnd_none | exact bnd_nat rfl) (by first | exact bnd_none | exact bnd_nat rfl) (by first | exact bnd_none | exact bnd_nat rfl) rfl (by omega) (by omega) (by omega)) | (apply vq_isBuild; first | exact vq_build0 | exact vq_buildArr0 | exact vq_build rfl rfl (by first | rfl | (simp [plOf]; done)) (by first | rfl | (simp; done)) | exact vq_buildP rfl (by first | (simp [okS, Value.cells]; done) | (simp [okS, Value.cells]; omega)) rfl) | fail)) : VL P ro w0 n ops Q (o :: rest) ds fr L := vl_q hg hd hdst hdn hq h
theorem va_takeA (i : Nat) {oi : Oper} {v : Value} (hl : ops.toList[i]? = some oi) (hg : oi.guard = none) (hd : oi.dst = some d) (hdn : Nat.blt d n = true) (h : VA P ro w0 n ops Q E Lf fuel (listed.set i true) ds ((d, v) :: fr) L) (hc : mayTakeE ops E listed i = true := by kernel_rfl) (hp : noPanic Q := by exact (fun _ _ _ _ h => h)) (he : Ent w0 L Lf := by exact (SE.ent (by repeat' (first | exact SE.refl _ | refine SE.cons _ ?_ | refine SE.trans (se_drop _ _) ?_)) _)) (hq : VQ P w0 n oi v ds fr Lf := by (first | exact vq_move rfl | exact vq_assign rfl | (apply vq_isBin; first | exact vq_lt rfl rfl | exact vq_eq rfl rfl | exact vq_ne rfl rfl | (apply vq_isOp .add; exact vq_add rfl rfl (by first | exact wr_add (by omega) | exact wu_add (by omega) | exact wr_id (by omega) (by omega) | rfl)) | (apply vq_isOp .sub; exact vq_minus rfl rfl (by first | exact wr_sub (by omega) (by omega) | exact wu_sub (by omega) (by omega) | exact wr_id (by omega) (by omega) | rfl)) | exact vq_gt rfl rfl | exact vq_le rfl rfl | exact vq_ge rfl rfl | (apply vq_isOp .mul; exact vq_mul rfl rfl (by first | exact wr_mul (by omega) | exact wr_id (by omega) (by omega) | rfl)) | (apply vq_isOp .or; exact vq_or rfl rfl (by rfl)) | (apply vq_isOp .and; exact vq_and rfl rfl (by rfl)) | (apply vq_isOp .xor; exact vq_xor rfl rfl (by rfl)) | (apply vq_isOp .shl; exact vq_shl rfl rfl (by omega) (by rfl)) | (apply vq_isOp .shr; exact vq_shr rfl rfl (by omega) (by rfl)) | (apply vq_isOp .quo; exact vq_quo rfl rfl (by decide) (by first | exact q8_i64 (by omega) | exact q2_u8 (by omega) | exact q4_i64 (by omega) | rfl)) | (apply vq_isOp .rem; exact vq_rem rfl rfl (by decide) (by first | exact r8 | exact r2 | exact r4 | exact r64 | rfl)) | exact vq_eqNil rfl rfl | exact vq_eqBool rfl rfl | (apply vq_isOp .eql; exact vq_eqB rfl rfl (by first | assumption | (simp; done)) (by first | assumption | (simp; done))) | (apply vq_isOp .neq; first | exact vq_neBool rfl rfl | exact vq_neB rfl rfl (by first | assumption | (simp; done)) (by first | assumption | (simp; done)))) | (apply vq_isLoad; first | (apply vq_isPt; exact rfl; first | (apply vq_isOne; exact vq_ldB rfl (by first | rfl | assumption)) | (apply vq_isPt0; exact rfl; apply vq_isAgg; exact vq_ldW rfl (by first | rfl | assumption | (simp; done) | (simp; assumption))) | (apply vq_isAgg; exact vq_ldP rfl (by assumption) (by first | assumption | (simp; done) | (simp; assumption)))) | (apply vq_isPtA; exact rfl; first | (apply vq_isOne; exact vq_ld1 rfl (by first | assumption | rfl)) | exact vq_ldA rfl (by assumption) (by first | assumption | (simp; done) | (simp; assumption))) | fail) | exact vq_lenSl rfl | (apply vq_isIx; first | (apply vq_ixSl; exact rfl; exact vq_index rfl rfl (by omega) (by omega) (by first | (simp; done) | (simp; omega) | (rw [bvs_length]; omega)) (by first | exact ix_1 | exact ix_s _ | rfl)) | (apply vq_ixPt; exact rfl; exact vq_indexArr rfl rfl (by omega) (by omega) (by first | exact ix_1 | exact ix_s _ | rfl)) | exact vq_indexArrA rfl rfl (by first | (simp; done) | (rw [bvs_length]; omega) | (simp; omega)) (by omega) (by omega) (by first | exact ix_1 | exact ix_s _ | rfl)) | exact vq_extract rfl rfl | exact vq_pickT rfl rfl | exact vq_pickF rfl rfl | exact vq_fieldAddr rfl (by rfl) rfl | exact vq_makeFunc rfl rfl | exact vq_nilCheck rfl | (apply vq_isConv; exact vq_conv rfl (by first | exact wi_id (by omega) | exact wu_id (by omega) | exact wr_id (by omega) (by omega) | rfl)) | (apply vq_isUn; first | exact vq_not rfl | exact vq_xorU rfl (by rfl) | exact vq_neg rfl (by rfl)) | (apply vq_isSlice; exact vq_slice rfl (by first | exact bnd_none | exact bnd_nat rfl) (by first | exact bnd_none | exact bnd_nat rfl) (by first | exact bnd_none | exact bnd_nat rfl) rfl (by omega) (by omega) (by omega)) | (apply vq_isBuild; first | exact vq_build0 | exact vq_buildArr0 | exact vq_build rfl rfl (by first | rfl | (simp [plOf]; done)) (by first | rfl | (simp; done)) | exact vq_buildP rfl (by first | (simp [okS, Value.cells]; done) | (simp [okS, Value.cells]; omega)) rfl) | fail)) : VA P ro w0 n ops Q E Lf (fuel + 1) listed ds fr L := va_take i hl hg hd hdn hc hp he hq h
theorem va_takePA (i : Nat) {oi : Oper} {v : Value} (hl : ops.toList[i]? = some oi) (hg : oi.guard = none) (hd : oi.dst = some d) (hdn : Nat.blt d n = true) (h : VA P ro w0 n ops Q E Lf fuel (listed.set i true) ds ((d, v) :: fr) L) (hc : mayTake ops E listed i = true := by kernel_rfl) (hp : noPanic Q := by exact (fun _ _ _ _ h => h)) (he : anyE E listed.toArray = true := by kernel_rfl) (hq : VQ P w0 n oi v ds fr [] := by (first | exact vq_move rfl | exact vq_assign rfl | (apply vq_isBin; first | exact vq_lt rfl rfl | exact vq_eq rfl rfl | exact vq_ne rfl rfl | (apply vq_isOp .add; exact vq_add rfl rfl (by first | exact wr_add (by omega) | exact wu_add (by omega) | exact wr_id (by omega) (by omega) | rfl)) | (apply vq_isOp .sub; exact vq_minus rfl rfl (by first | exact wr_sub (by omega) (by omega) | exact wu_sub (by omega) (by omega) | exact wr_id (by omega) (by omega) | rfl)) | exact vq_gt rfl rfl | exact vq_le rfl rfl | exact vq_ge rfl rfl | (apply vq_isOp .mul; exact vq_mul rfl rfl (by first | exact wr_mul (by omega) | exact wr_id (by omega) (by omega) | rfl)) | (apply vq_isOp .or; exact vq_or rfl rfl (by rfl)) | (apply vq_isOp .and; exact vq_and rfl rfl (by rfl)) | (apply vq_isOp .xor; exact vq_xor rfl rfl (by rfl)) | (apply vq_isOp .shl; exact vq_shl rfl rfl (by omega) (by rfl)) | (apply vq_isOp .shr; exact vq_shr rfl rfl (by omega) (by rfl)) | (apply vq_isOp .quo; exact vq_quo rfl rfl (by decide) (by first | exact q8_i64 (by omega) | exact q2_u8 (by omega) | exact q4_i64 (by omega) | rfl)) | (apply vq_isOp .rem; exact vq_rem rfl rfl (by decide) (by first | exact r8 | exact r2 | exact r4 | exact r64 | rfl)) | exact vq_eqNil rfl rfl | exact vq_eqBool rfl rfl | (apply vq_isOp .eql; exact vq_eqB rfl rfl (by first | assumption | (simp; done)) (by first | assumption | (simp; done))) | (apply vq_isOp .neq; first | exact vq_neBool rfl rfl | exact vq_neB rfl rfl (by first | assumption | (simp; done)) (by first | assumption | (simp; done)))) | (apply vq_isLoad; first | (apply vq_isPt; exact rfl; first | (apply vq_isOne; exact vq_ldB rfl (by first | rfl | assumption)) | (apply vq_isPt0; exact rfl; apply vq_isAgg; exact vq_ldW rfl (by first | rfl | assumption | (simp; done) | (simp; assumption))) | (apply vq_isAgg; exact vq_ldP rfl (by assumption) (by first | assumption | (simp; done) | (simp; assumption)))) | (apply vq_isPtA; exact rfl; first | (apply vq_isOne; exact vq_ld1 rfl (by first | assumption | rfl)) | exact vq_ldA rfl (by assumption) (by first | assumption | (simp; done) | (simp; assumption))) | fail) | exact vq_lenSl rfl | (apply vq_isIx; first | (apply vq_ixSl; exact rfl; exact vq_index rfl rfl (by omega) (by omega) (by first | (simp; done) | (simp; omega) | (rw [bvs_length]; omega)) (by first | exact ix_1 | exact ix_s _ | rfl)) | (apply vq_ixPt; exact rfl; exact vq_indexArr rfl rfl (by omega) (by omega) (by first | exact ix_1 | exact ix_s _ | rfl)) | exact vq_indexArrA rfl rfl (by first | (simp; done) | (rw [bvs_length]; omega) | (simp; omega)) (by omega) (by omega) (by first | exact ix_1 | exact ix_s _ | rfl)) | exact vq_extract rfl rfl | exact vq_pickT rfl rfl | exact vq_pickF rfl rfl | exact vq_fieldAddr rfl (by rfl) rfl | exact vq_makeFunc rfl rfl | exact vq_nilCheck rfl | (apply vq_isConv; exact vq_conv rfl (by first | exact wi_id (by omega) | exact wu_id (by omega) | exact wr_id (by omega) (by omega) | rfl)) | (apply vq_isUn; first | exact vq_not rfl | exact vq_xorU rfl (by rfl) | exact vq_neg rfl (by rfl)) | (apply vq_isSlice; exact vq_slice rfl (by first | exact bnd_none | exact bnd_nat rfl) (by first | exact bnd_none | exact bnd_nat rfl) (by first | exact bnd_none | exact bnd_nat rfl) rfl (by omega) (by omega) (by omega)) | (apply vq_isBuild; first | exact vq_build0 | exact vq_buildArr0 | exact vq_build rfl rfl (by first | rfl | (simp [plOf]; done)) (by first | rfl | (simp; done)) | exact vq_buildP rfl (by first | (simp [okS, Value.cells]; done) | (simp [okS, Value.cells]; omega)) rfl) | fail)) : VA P ro w0 n ops Q E Lf (fuel + 1) listed ds fr L := va_takeP i hl hg hd hdn hc hp (.inr he) hq h
theorem va_takeGA (i : Nat) {oi oj : Oper} {j dj : Nat} {want b : Bool} {v : Value} (hl : ops.toList[i]? = some oi) (hg : oi.guard = some (j, want)) (hj : ops.toList[j]? = some oj) (hdj : oj.dst = some dj) (hv : look fr dj = some (.bool b)) (hb : b = want) (hd : oi.dst = some d) (hdn : Nat.blt d n = true) (h : VA P ro w0 n ops Q E Lf fuel (listed.set i true) ds ((d, v) :: fr) L) (hc : mayTakeE ops E listed i = true := by kernel_rfl) (hp : noPanic Q := by exact (fun _ _ _ _ h => h)) (he : Ent w0 L Lf := by exact (SE.ent (by repeat' (first | exact SE.refl _ | refine SE.cons _ ?_ | refine SE.trans (se_drop _ _) ?_)) _))
    (hq : VQ P w0 n oi v ds fr Lf := by (first | exact vq_move rfl | exact vq_assign rfl | (apply vq_isBin; first | exact vq_lt rfl rfl | exact vq_eq rfl rfl | exact vq_ne rfl rfl | (apply vq_isOp .add; exact vq_add rfl rfl (by first | exact wr_add (by omega) | exact wu_add (by omega) | exact wr_id (by omega) (by omega) | rfl)) | (apply vq_isOp .sub; exact vq_minus rfl rfl (by first | exact wr_sub (by omega) (by omega) | exact wu_sub (by omega) (by omega) | exact wr_id (by omega) (by omega) | rfl)) | exact vq_gt rfl rfl | exact vq_le rfl rfl | exact vq_ge rfl rfl | (apply vq_isOp .mul; exact vq_mul rfl rfl (by first | exact wr_mul (by omega) | exact wr_id (by omega) (by omega) | rfl)) | (apply vq_isOp .or; exact vq_or rfl rfl (by rfl)) | (apply vq_isOp .and; exact vq_and rfl rfl (by rfl)) | (apply vq_isOp .xor; exact vq_xor rfl rfl (by rfl)) | (apply vq_isOp .shl; exact vq_shl rfl rfl (by omega) (by rfl)) | (apply vq_isOp .shr; exact vq_shr rfl rfl (by omega) (by rfl)) | (apply vq_isOp .quo; exact vq_quo rfl rfl (by decide) (by first | exact q8_i64 (by omega) | exact q2_u8 (by omega) | exact q4_i64 (by omega) | rfl)) | (apply vq_isOp .rem; exact vq_rem rfl rfl (by decide) (by first | exact r8 | exact r2 | exact r4 | exact r64 | rfl)) | exact vq_eqNil rfl rfl | exact vq_eqBool rfl rfl | (apply vq_isOp .eql; exact vq_eqB rfl rfl (by first | assumption | (simp; done)) (by first | assumption | (simp; done))) | (apply vq_isOp .neq; first | exact vq_neBool rfl rfl | exact vq_neB rfl rfl (by first | assumption | (simp; done)) (by first | assumption | (simp; done)))) | (apply vq_isLoad; first | (apply vq_isPt; exact rfl; first | (apply vq_isOne; exact vq_ldB rfl (by first | rfl | assumption)) | (apply vq_isPt0; exact rfl; apply vq_isAgg; exact vq_ldW rfl (by first | rfl | assumption | (simp; done) | (simp; assumption))) | (apply vq_isAgg; exact vq_ldP rfl (by assumption) (by first | assumption | (simp; done) | (simp; assumption)))) | (apply vq_isPtA; exact rfl; first | (apply vq_isOne; exact vq_ld1 rfl (by first | assumption | rfl)) | exact vq_ldA rfl (by assumption) (by first | assumption | (simp; done) | (simp; assumption))) | fail) | exact vq_lenSl rfl | (apply vq_isIx; first | (apply vq_ixSl; exact rfl; exact vq_index rfl rfl (by omega) (by omega) (by first | (simp; done) | (simp; omega) | (rw [bvs_length]; omega)) (by first | exact ix_1 | exact ix_s _ | rfl)) | (apply vq_ixPt; exact rfl; exact vq_indexArr rfl rfl (by omega) (by omega) (by first | exact ix_1 | exact ix_s _ | rfl)) | exact vq_indexArrA rfl rfl (by first | (simp; done) | (rw [bvs_length]; omega) | (simp; omega)) (by omega) (by omega) (by first | exact ix_1 | exact ix_s _ | rfl)) | exact vq_extract rfl rfl | exact vq_pickT rfl rfl | exact vq_pickF rfl rfl | exact vq_fieldAddr rfl (by rfl) rfl | exact vq_makeFunc rfl rfl | exact vq_nilCheck rfl | (apply vq_isConv; exact vq_conv rfl (by first | exact wi_id (by omega) | exact wu_id (by omega) | exact wr_id (by omega) (by omega) | rfl)) | (apply vq_isUn; first | exact vq_not rfl | exact vq_xorU rfl (by rfl) | exact vq_neg rfl (by rfl)) | (apply vq_isSlice; exact vq_slice rfl (by first | exact bnd_none | exact bnd_nat rfl) (by first | exact bnd_none | exact bnd_nat rfl) (by first | exact bnd_none | exact bnd_nat rfl) rfl (by omega) (by omega) (by omega)) | (apply vq_isBuild; first | exact vq_build0 | exact vq_buildArr0 | exact vq_build rfl rfl (by first | rfl | (simp [plOf]; done)) (by first | rfl | (simp; done)) | exact vq_buildP rfl (by first | (simp [okS, Value.cells]; done) | (simp [okS, Value.cells]; omega)) rfl) | fail)) : VA P ro w0 n ops Q E Lf (fuel + 1) listed ds fr L := va_takeG i hl hg hj hdj hv hb hd hdn hc hp he hq h
theorem va_passGA (i : Nat) {oi oj : Oper} {j dj : Nat} {want b : Bool} (hl : ops.toList[i]? = some oi) (hg : oi.guard = some (j, want)) (hj : ops.toList[j]? = some oj) (hdj : oj.dst = some dj) (hv : look fr dj = some (.bool b)) (hb : b = !want) (hd : oi.dst = some d) (hdn : Nat.blt d n = true) (h : VA P ro w0 n ops Q E Lf fuel (listed.set i true) ds ((d, undef) :: fr) L) (hc : mayTake ops E listed i = true := by kernel_rfl) (hp : noPanic Q := by exact (fun _ _ _ _ h => h)) (he : Ent w0 L Lf := by exact (SE.ent (by repeat' (first | exact SE.refl _ | refine SE.cons _ ?_ | refine SE.trans (se_drop _ _) ?_)) _)) : VA P ro w0 n ops Q E Lf (fuel + 1) listed ds fr L := va_passG i hl hg hj hdj hv hb hd hdn hc hp (.inl he) h
theorem va_passGB (i : Nat) {oi oj : Oper} {j dj : Nat} {want b : Bool} (hl : ops.toList[i]? = some oi) (hg : oi.guard = some (j, want)) (hj : ops.toList[j]? = some oj) (hdj : oj.dst = some dj) (hv : look fr dj = some (.bool b)) (hb : b = !want) (hd : oi.dst = some d) (hdn : Nat.blt d n = true) (h : VA P ro w0 n ops Q E Lf fuel (listed.set i true) ds ((d, undef) :: fr) L) (hc : mayTake ops E listed i = true := by kernel_rfl) (hp : noPanic Q := by exact (fun _ _ _ _ h => h)) (he : anyE E listed.toArray = true := by kernel_rfl) : VA P ro w0 n ops Q E Lf (fuel + 1) listed ds fr L := va_passG i hl hg hj hdj hv hb hd hdn hc hp (.inr he) h
theorem ret1A {fn : Func} {R : Value → List Asn → Prop} {r : ResultVar} {v : Value} (hres : fn.results = #[r]) (hR : R v L) (h1 : RvC P fr L r v := by exact (by first | exact rv_tmp rfl | exact rv_blk1 rfl | exact rv_blk rfl (by first | rfl | assumption | (simp; done) | (simp; assumption)))) : retQ P w0 n fn R .ret [] fr L := ret1 hres h1 hR
theorem ret2A {fn : Func} {R : Value → List Asn → Prop} {r r2 : ResultVar} {v v2 : Value} (hres : fn.results = #[r, r2]) (hR : R (.tuple #[v, v2]) L) (h1 : RvC P fr L r v := by exact (by first | exact rv_tmp rfl | exact rv_blk1 rfl | exact rv_blk rfl (by first | rfl | assumption | (simp; done) | (simp; assumption)))) (h2 : RvC P fr L r2 v2 := by exact (by first | exact rv_tmp rfl | exact rv_blk1 rfl | exact rv_blk rfl (by first | rfl | assumption | (simp; done) | (simp; assumption)))) : retQ P w0 n fn R .ret [] fr L := ret2 hres h1 h2 hR
theorem ret3A {fn : Func} {R : Value → List Asn → Prop} {r r2 r3 : ResultVar} {v v2 v3 : Value} (hres : fn.results = #[r, r2, r3]) (hR : R (.tuple #[v, v2, v3]) L) (h1 : RvC P fr L r v := by exact (by first | exact rv_tmp rfl | exact rv_blk1 rfl | exact rv_blk rfl (by first | rfl | assumption | (simp; done) | (simp; assumption)))) (h2 : RvC P fr L r2 v2 := by exact (by first | exact rv_tmp rfl | exact rv_blk1 rfl | exact rv_blk rfl (by first | rfl | assumption | (simp; done) | (simp; assumption)))) (h3 : RvC P fr L r3 v3 := by exact (by first | exact rv_tmp rfl | exact rv_blk1 rfl | exact rv_blk rfl (by first | rfl | assumption | (simp; done) | (simp; assumption)))) : retQ P w0 n fn R .ret [] fr L := ret3 hres h1 h2 h3 hR
theorem vo_stWA {p x : Operand} {g i : Nat} {cs vs : List Value} {v : Value} (hp : evA fr p = some (.pointer (some ⟨g, 0, none⟩))) (hx : evA fr x = some v) [ht : TyI P e agg size bytes z] [hb : HasBlk L g i t cs] [oc : OC vs] [hset : SetI L i (blk g t vs) L']
    (h : K ds fr L') (hv : cellsO v = some vs := by rfl) (hl : vs.length = size := by first | rfl | assumption | (simp; done) | (simp; assumption)) (hcl : cs.length = size := by first | rfl | assumption | (simp; done) | (simp; assumption)) : VO P ro w0 n ⟨none, .store e p x, ty, pos, after, gd⟩ K Q ds fr L := vo_stW hp hx hv hl hcl h
theorem vo_stBA {p x : Operand} {g off i : Nat} {cs cs' vs : List Value} {v : Value} (hp : evA fr p = some (.pointer (some ⟨g, off, none⟩))) (hx : evA fr x = some v) [ht : TyI P e agg size bytes z] [hb : HasBlk L g i t cs] [oc : OC vs] [hset : SetI L i (blk g t cs') L']
    (h : K ds fr L') (hv : cellsO v = some vs := by rfl) (hl : vs.length = size := by rfl) (hfit : off + vs.length ≤ cs.length := by first | decide | (simp; done) | (simp; omega) | omega | assumption) (hcs : splice cs off vs = cs' := by rfl) : VO P ro w0 n ⟨none, .store e p x, ty, pos, after, gd⟩ K Q ds fr L := vo_stB hp hx hv hl hfit hcs h
theorem vo_isApp {s x : Operand} {ts : Array TypeId} (h : VO P ro w0 n ⟨some d, .call { callee := .builtin .append, args := #[s, x], argTypes := ts }, ty, pos, after, gd⟩ K Q ds fr L) : VO P ro w0 n ⟨some d, .call { callee := .builtin .append, args := #[s, x], argTypes := ts }, ty, pos, after, gd⟩ K Q ds fr L := h
theorem vo_appendA {s x : Operand} {a0 ao : Option Addr} {m c m' c' i : Nat} {xs news : List Value} (hs : evA fr s = some (.slice a0 m c)) (hx : evA fr x = some (.slice ao m' c')) (hdn : Nat.blt d n = true) [hu : SlI P t e agg size bytes z] [hb : HasOwn L a0 i e size m c xs] [hr : RdC w0 L ao news] [oc : OC news]
    {LL : Option Addr → Nat → List Asn} [hset : ∀ a' cap', SetI L i (own e size a' (m + m') cap' (xs ++ news)) (LL a' cap')]
    (h : ∀ a' cap', (m + m' = 0 ∨ a' ≠ none) → m + m' ≤ cap' → K ds ((d, .slice a' (m + m') cap') :: fr) (LL a' cap')) (hl : news.length = m' * size := by first | (simp; done) | (rw [bvs_length]; assumption) | simp) (h63 : m + m' ≤ 140737488355328 := by omega) (hby : (m + m') * bytes ≤ 140737488355328 := by omega) :
    VO P ro w0 n ⟨some d, .call { callee := .builtin .append, args := #[s, x], argTypes := #[t, t] }, ty, pos, after, gd⟩ K Q ds fr L := vo_append hs hx hl h63 hby hdn h
theorem vo_append0A {s x : Operand} {ao : Option Addr} {m' c' : Nat} {news : List Value} (hs : evA fr s = some (.slice none 0 0)) (hx : evA fr x = some (.slice ao m' c')) (hdn : Nat.blt d n = true) [hu : SlI P t e agg size bytes z] [hr : RdC w0 L ao news] [oc : OC news]
    (h : ∀ a' cap', (m' = 0 ∨ a' ≠ none) → m' ≤ cap' → K ds ((d, .slice a' m' cap') :: fr) (own e size a' m' cap' news :: L)) (hl : news.length = m' * size := by first | (simp; done) | (rw [bvs_length]; assumption) | simp) (h63 : m' ≤ 140737488355328 := by omega) (hby : m' * bytes ≤ 140737488355328 := by omega) :
    VO P ro w0 n ⟨some d, .call { callee := .builtin .append, args := #[s, x], argTypes := #[t, t] }, ty, pos, after, gd⟩ K Q ds fr L := vo_append0 hs hx hl h63 hby hdn h
end
end Go.Proofs.YtpnhgmmijkjmlaaDoor

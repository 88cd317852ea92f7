/-
  More for the logic without worlds: scopes, arrays, bundles of assertions.
-/
import Derived.Test.YtjbjidopjhllbaaVRange
import Derived.Test.YtjbjidopjhllbaaVData
namespace Go.Proofs.Ytjbjidopjhllbaa
open Go Go.RowKit
set_option linter.unusedVariables false

theorem wpIn_scope {F : Fence} {n : Nat} {P : Program} {Q : Exit → Act → World → Prop} {a : Act} {w : World} {c : Code} (h : c.wpIn F n P Q a w) (hg : ∀ l a w, ¬ Q (.goto l) a w) : (Code.scope c).wpIn F n P Q a w := by
  intro b k cs hro hb hr
  have h0 : (lone (b.atR a (.code (.scope c) :: k)) cs w).fenced P F := fenced_calm hb hr rfl
  have st : step P (lone (b.atR a (.code (.scope c) :: k)) cs w) = .next (lone (b.atR a (.code c :: .inScope c :: k)) cs w) := step_lone_go (by simp [stepG, stepG.exec, Frame.atR])
  have st2 : ∀ a w, step P (lone (b.atR a (.inScope c :: k)) cs w) = .next (lone (b.atR a k) cs w) := fun a w => step_lone_go (by simp [stepG, stepG.exec, Frame.atR])
  obtain ⟨e, a₁, w₁, hq, harr⟩ := h b (.inScope c :: k) cs hro hb hr
  cases e with
  | normal => exact ⟨.normal, a₁, w₁, hq, .head h0 st (StepsIn.trans harr (.one (fenced_calm hb hr rfl) (st2 _ _)))⟩
  | exit id =>
    have hx : exitTo id (.inScope c :: k) = exitTo id k := by simp [exitTo]
    exact ⟨.exit id, a₁, w₁, hq, fun k' hk => .head h0 st (harr.1 k' (by rw [hx]; exact hk)),
      fun hr' hk => let ⟨k₁, h1, h2⟩ := harr.2 hr' (by rw [hx]; exact hk); ⟨k₁, h1, .head h0 st h2⟩⟩
  | goto l => exact absurd hq (hg l _ _)
  | ret => exact ⟨_, a₁, w₁, hq, .of_steps (.one h0 st) harr⟩
  | panic ch => exact ⟨_, a₁, w₁, hq, .of_steps (.one h0 st) harr⟩
  | outgrown => exact ⟨_, a₁, w₁, hq, .of_steps (b := b) (k := k) (cs := cs) (e := .outgrown) (.one h0 st) harr⟩

/-! ### Bundles -/
def SLs (w : World) : List Asn → (Nat → Prop) → Prop
  | [], _ => True
  | P :: M, F => ∃ G, P.holds w G ∧ (∀ k, G k → F k) ∧ SLs w M (fun k => F k ∧ ¬ G k)
theorem SLs.mono {w : World} : ∀ {M : List Asn} {F F' : Nat → Prop}, SLs w M F → (∀ k, F k → F' k) → SLs w M F'
  | [], _, _, _, _ => trivial
  | _ :: _, _, _, ⟨G, h1, h2, h3⟩, hs => ⟨G, h1, fun k hk => hs k (h2 k hk), SLs.mono h3 (fun k hk => ⟨hs k hk.1, hk.2⟩)⟩
theorem SLs.loc {w w' : World} : ∀ {M : List Asn} {F : Nat → Prop}, SLs w M F → (∀ k, F k → w'.heap[k]? = w.heap[k]?) → SLs w' M F
  | [], _, _, _ => trivial
  | P :: _, _, ⟨G, h1, h2, h3⟩, hs => ⟨G, P.loc h1 (fun k hk => hs k (h2 k hk)), h2, SLs.loc h3 (fun k hk => hs k hk.1)⟩
/-- Assertions, apart from one another, as one. -/
def bundle (M : List Asn) : Asn where
  holds w F := SLs w M F
  loc h hs := h.loc hs
  mono h hs := h.mono hs
theorem SL.split {B : Nat} {w : World} : ∀ {M L : List Asn} {A : Nat → Prop}, SL B w (M ++ L) A → ∃ F, SLs w M F ∧ (∀ k, F k → B ≤ k ∧ k < w.heap.size ∧ ¬ A k) ∧ SL B w L (fun k => A k ∨ F k)
  | [], L, A, h => ⟨fun _ => False, trivial, fun _ h => h.elim, h.sub (fun _ hk => hk.elim id (fun f => f.elim))⟩
  | P :: M, L, A, ⟨G, h1, h2, h3⟩ => by
    obtain ⟨F, f1, f2, f3⟩ := SL.split h3
    refine ⟨fun k => G k ∨ F k, ⟨G, h1, fun k hk => .inl hk, f1.mono (fun k hk => ⟨.inr hk, fun hg => (f2 k hk).2.2 (.inr hg)⟩)⟩, ?_, f3.sub (fun k hk => ?_)⟩
    · rintro k (hk | hk)
      · exact h2 k hk
      · exact ⟨(f2 k hk).1, (f2 k hk).2.1, fun a => (f2 k hk).2.2 (.inl a)⟩
    · rcases hk with a | g | f
      · exact .inl (.inl a)
      · exact .inl (.inr g)
      · exact .inr f
theorem SL.merge {B : Nat} {w : World} : ∀ {M L : List Asn} {A F : Nat → Prop}, SLs w M F → (∀ k, F k → B ≤ k ∧ k < w.heap.size ∧ ¬ A k) → SL B w L (fun k => A k ∨ F k) → SL B w (M ++ L) A
  | [], _, _, _, _, _, h => h.sub (fun _ hk => .inl hk)
  | P :: M, L, A, F, ⟨G, h1, h2, h3⟩, hF, h => by
    refine ⟨G, h1, fun k hk => hF k (h2 k hk), SL.merge h3 (fun k hk => ⟨(hF k hk.1).1, (hF k hk.1).2.1, ?_⟩) (h.sub (fun k hk => ?_))⟩
    · rintro (a | g)
      · exact (hF k hk.1).2.2 a
      · exact hk.2 g
    · rcases hk with (a | g) | f
      · exact .inl a
      · exact .inr (h2 k g)
      · exact .inr f.1
theorem ent_bundle (w0 : World) (M L : List Asn) : Ent w0 (M ++ L) (bundle M :: L) := fun w h => by
  obtain ⟨F, f1, f2, f3⟩ := SL.split h.2
  exact ⟨h.1, F, f1, f2, f3⟩
theorem ent_unbundle (w0 : World) (M L : List Asn) : Ent w0 (bundle M :: L) (M ++ L) := fun w h => by
  obtain ⟨hb, F, f1, f2, f3⟩ := h
  exact ⟨hb, SL.merge f1 f2 f3⟩
theorem ent_perm {w0 : World} {L M : List Asn} (h : L.Perm M) : Ent w0 L M := fun w hw => hw.perm h
theorem ent_erase (w0 : World) (L : List Asn) (i : Nat) : Ent w0 L (L.eraseIdx i) := fun w h => h.erase i
theorem ent_turn {w0 : World} {L : List Asn} (i : Nat) {P P' : Asn} (hi : L[i]? = some P) (h : ∀ w F, P.holds w F → P'.holds w F) : Ent w0 L (L.set i P') := fun w hw => hw.turn i hi (h w)
theorem se_perm {L M : List Asn} (h : L.Perm M) : SE L M := fun _ _ _ x => SL.perm h x
/-- One to the front. -/
theorem se_front {L : List Asn} (i : Nat) {P : Asn} (hi : L[i]? = some P) : SE L (P :: L.eraseIdx i) := se_perm (perm_pull L i P hi)
theorem se_bundle (M L : List Asn) : SE (M ++ L) (bundle M :: L) := fun _ _ _ h => by
  obtain ⟨F, f1, f2, f3⟩ := SL.split h
  exact ⟨F, f1, f2, f3⟩
theorem se_unbundle (M L : List Asn) : SE (bundle M :: L) (M ++ L) := fun _ _ _ h => by
  obtain ⟨F, f1, f2, f3⟩ := h
  exact SL.merge f1 f2 f3
theorem se_app : ∀ (M L : List Asn), SE (M ++ L) L
  | [], L => SE.refl L
  | P :: M, L => (se_drop P (M ++ L)).trans (se_app M L)
theorem se_own_nil (e : TypeId) (size : Nat) (L : List Asn) : SE L (own e size none 0 0 [] :: L) := fun _ _ _ h => ⟨fun _ => False, ⟨by simp, .inl ⟨rfl, rfl, rfl⟩⟩, fun _ hk => hk.elim, h.sub (fun _ hk => hk.elim id (fun f => f.elim))⟩
/-- What stands first stays first. -/
theorem SL.sub_of_perm_append {B : Nat} {w : World} : ∀ {L : List Asn} {A : Nat → Prop} (M : List Asn), SL B w (M ++ L) A → SL B w L A
  | _, _, [], h => h
  | _, _, _ :: M, h => SL.sub_of_perm_append M (SL.tail h)

/-- Slices of bytes of the call's own. -/
def psA (ps : List PB) : Asn := bundle (ps.map fun p => ownB p.a p.cap p.l)
theorem se_psA_pull (ps : List PB) (L : List Asn) (k : Nat) (hk : k < ps.length) : SE (psA ps :: L) (ownB (ps[k]).a (ps[k]).cap (ps[k]).l :: psA (ps.eraseIdx k) :: L) := by
  have h1 : (ps.map fun p => ownB p.a p.cap p.l).Perm (ownB (ps[k]).a (ps[k]).cap (ps[k]).l :: (ps.eraseIdx k).map fun p => ownB p.a p.cap p.l) := by
    have := (perm_pull ps k ps[k] (by simp [hk])).map (fun p => ownB p.a p.cap p.l)
    simpa using this
  exact (se_unbundle _ L).trans ((se_perm (h1.append_right L)).trans (SE.cons _ (se_bundle _ L)))
theorem se_psA_push (ps qs : List PB) (L : List Asn) (p : PB) (h : (p :: ps).Perm qs) : SE (ownB p.a p.cap p.l :: psA ps :: L) (psA qs :: L) := by
  have h1 := h.map (fun p => ownB p.a p.cap p.l)
  exact (SE.cons _ (se_unbundle _ L)).trans ((se_perm (h1.append_right L)).trans (se_bundle _ L))
theorem se_psA_snoc (ps : List PB) (L : List Asn) (a : Option Addr) (cap : Nat) (l : List UInt8) : SE (ownB a cap l :: psA ps :: L) (psA (ps ++ [⟨a, cap, l⟩]) :: L) := se_psA_push ps _ L ⟨a, cap, l⟩ (by simpa using (List.perm_append_comm (l₁ := [PB.mk a cap l]) (l₂ := ps)))
theorem se_psA_nil (L : List Asn) : SE L (psA [] :: L) := se_bundle [] L

class HasPs (L : List Asn) (ps : List PB) : Prop where
  out : ∃ i : Nat, L[i]? = some (psA ps)
instance hasPs_zero (L : List Asn) (ps : List PB) : HasPs (psA ps :: L) ps := ⟨0, rfl⟩
instance (priority := low) hasPs_succ (P : Asn) (L : List Asn) (ps : List PB) [h : HasPs L ps] : HasPs (P :: L) ps := ⟨by obtain ⟨i, hi⟩ := h.out; exact ⟨i + 1, by simpa using hi⟩⟩
theorem SLs.mem {w : World} {P : Asn} : ∀ {M : List Asn} {F : Nat → Prop}, SLs w M F → P ∈ M → ∃ G, P.holds w G
  | _ :: _, _, ⟨G, h1, _, h3⟩, hm => by
    rcases List.mem_cons.1 hm with rfl | hm
    · exact ⟨G, h1⟩
    · exact SLs.mem h3 hm
instance rdPs_own (w0 : World) (L : List Asn) (ps : List PB) [h : HasPs L ps] : RdPs w0 L ps := ⟨fun p hp => ⟨fun w hs => by
  obtain ⟨i, hi⟩ := h.out
  refine hs.know i hi (fun F hF => ?_)
  obtain ⟨G, hG⟩ := SLs.mem (P := ownB p.a p.cap p.l) hF (List.mem_map.2 ⟨p, hp, rfl⟩)
  exact own.rc hG⟩⟩

/-- A shorter slice of one's own. -/
theorem own_cut {e : TypeId} {size : Nat} {a : Option Addr} {m c : Nat} {xs : List Value} (m' c' : Nat) (hm : m' ≤ m) (hc : c' ≤ c) (hmc : m' ≤ c') : ∀ w F, (own e size a m c xs).holds w F → (own e size a m' c' (xs.take (m' * size))).holds w F := by
  rintro w F ⟨h1, ⟨rfl, rfl, rfl⟩ | ⟨g, off, cs, rfl, f, hg, q1, q2, q3, q4⟩⟩
  · obtain rfl : m' = 0 := by omega
    obtain rfl : c' = 0 := by omega
    exact ⟨by simp, .inl ⟨rfl, rfl, rfl⟩⟩
  · have hle : m' * size ≤ m * size := Nat.mul_le_mul_right _ hm
    refine ⟨by simp [h1, hle], .inr ⟨g, off, cs, rfl, f, hg, hmc, by omega, ?_, ?_⟩⟩
    · have : c' * size ≤ c * size := Nat.mul_le_mul_right _ hc
      omega
    · rw [← q4, List.take_take, Nat.min_eq_left hle]
/-- A slice of length nothing. -/
theorem own_none {e : TypeId} {size : Nat} : ∀ (w : World) (P : Asn) F, P.holds w F → (own e size none 0 0 []).holds w F := fun w P F _ => ⟨by simp, .inl ⟨rfl, rfl, rfl⟩⟩

section
variable {P : Program} {ro : Option Nat} {w0 : World} {n : Nat} {ds : List Deferred} {fr : Fr} {L : List Asn} {Q : Exit → List Deferred → Fr → List Asn → Prop} {K : List Deferred → Fr → List Asn → Prop}
variable {d : Nat} {ty : TypeId} {pos : String} {after : Array Edge} {gd : Option (Nat × Bool)} {dst : Option Nat}
variable {e t : TypeId} {agg : Bool} {size bytes : Nat} {z : List Value}
theorem v_know {c : Code} {φ : Prop} (hφ : ∀ w, St w0 w L → φ) (h : φ → V P ro w0 n c Q ds fr L) : V P ro w0 n c Q ds fr L := ⟨fun a w hk hs => (h (hφ w hs)).out a w hk hs⟩
theorem vl_know {ops : Array Oper} {l : List Oper} {φ : Prop} (hφ : ∀ w, St w0 w L → φ) (h : φ → VL P ro w0 n ops Q l ds fr L) : VL P ro w0 n ops Q l ds fr L := ⟨fun a w hk hs => (h (hφ w hs)).out a w hk hs⟩
theorem vc_know {f : FuncId} {args : List Value} {R : Value → List Asn → Prop} {φ : Prop} (hφ : ∀ w, St w0 w L → φ) (h : φ → VC P w0 f args L R) : VC P w0 f args L R := ⟨fun w hs => (h (hφ w hs)).out w hs⟩
/-- Slots that stay as they are. -/
def selE (fr : Fr) : List Nat → Option Fr
  | [] => some []
  | k :: ks => match look fr k, selE fr ks with
    | some v, some r => some ((k, v) :: r)
    | _, _ => none
theorem selE_sub : ∀ (ks : List Nat) (r : Fr), selE fr ks = some r → Sub r fr
  | [], r, h => by simp only [selE, Option.some.injEq] at h; subst h; exact Sub.nil _
  | k :: ks, r, h => by
    simp only [selE] at h
    split at h
    · rename_i v r' h1 h2
      simp only [Option.some.injEq] at h
      subst h
      exact Sub.cons h1 rfl (selE_sub ks r' h2)
    · cases h
/-- A loop, what is held said by what was held; the slots ks stay. -/
theorem v_loopF {c : Code} (X : Type) (ks : List Nat) {fr0 : Fr} (hks : selE fr ks = some fr0) (f : X → Fr) (F : List Asn → X → List Asn) (ok : X → Prop) (μ : X → Nat) (x0 : X) (h0 : ok x0) (hs0 : Sub (f x0 ++ fr0) fr) (he0 : Ent w0 L (F L x0))
    (h : ∀ x, ok x → V P ro w0 n c (thn (fun ds' fr' L' => ds' = ds ∧ ∃ y, ok y ∧ μ y < μ x ∧ Sub (f y ++ fr0) fr' ∧ Ent w0 L' (F L y)) Q) ds (f x ++ fr0) (F L x)) : V P ro w0 n (.loop c) Q ds fr L := v_loop X (fun x => f x ++ fr0) (F L) ok μ x0 h0 hs0 he0 h
/-- A loop that leaves what is held as it is. -/
theorem v_loopS {c : Code} (X : Type) (ks : List Nat) {fr0 : Fr} (hks : selE fr ks = some fr0) (f : X → Fr) (ok : X → Prop) (μ : X → Nat) (x0 : X) (h0 : ok x0) (hs0 : Sub (f x0 ++ fr0) fr)
    (h : ∀ x, ok x → V P ro w0 n c (thn (fun ds' fr' L' => ds' = ds ∧ ∃ y, ok y ∧ μ y < μ x ∧ Sub (f y ++ fr0) fr' ∧ Ent w0 L' L) Q) ds (f x ++ fr0) L) : V P ro w0 n (.loop c) Q ds fr L := v_loopF X ks hks f (fun L _ => L) ok μ x0 h0 hs0 (Ent.refl _ _) h
/-- One assertion put among others. -/
theorem se_put (P : Asn) : ∀ (k : Nat) (L : List Asn), SE (P :: L) (L.take k ++ P :: L.drop k)
  | 0, L => SE.refl _
  | k + 1, [] => SE.refl _
  | k + 1, A :: L => (se_swap P A L).trans (SE.cons A (se_put P k L))
theorem v_label {l : Nat} (h : Q .normal ds fr L) : V P ro w0 n (.label l) Q ds fr L := ⟨fun a w hk hs => wpIn_label ⟨ds, fr, L, hk, hs, h⟩⟩
theorem v_scope {c : Code} (hg : ∀ l ds fr L, ¬ Q (.goto l) ds fr L) (h : V P ro w0 n c Q ds fr L) : V P ro w0 n (.scope c) Q ds fr L :=
  ⟨fun a w hk hs => wpIn_scope (h.out a w hk hs) (fun l _ _ ⟨_, _, _, _, _, hh⟩ => hg _ _ _ _ hh)⟩
/-- The address of an array's element. -/
theorem vq_indexArr {x i : Operand} {g off m kk : Nat} {q : IntKind} {I : Int} (hx : evA fr x = some (.pointer (some ⟨g, off, none⟩))) (hi : evA fr i = some (.int q I)) [hu : ArI P t e m agg size bytes z] (h0 : 0 ≤ I) (h1 : I < m) (hk : I.toNat * size = kk) :
    VQ P w0 n ⟨dst, .indexAddr t x i, ty, pos, after, gd⟩ (.pointer (some ⟨g, off + kk, none⟩)) ds fr L :=
  vq_val (fun a w hkn hs => by
    subst hk
    have hI : I.toNat < m := by omega
    simp [execOp, hkn.ev hx, hkn.ev hi, Instr.indexAt, asIntOf, run_underlying hu.arr, hu.el.run_size, h0, h1, Instr.sureAddr, addr_add])
/-- The same contract, what is left over let go. -/
theorem vc_ent {f : FuncId} {args : List Value} {R : Value → List Asn → Prop} (h : VC P w0 f args L fun v L' => ∃ L'', Ent w0 L' L'' ∧ R v L'') : VC P w0 f args L R :=
  ⟨fun w hs => (h.out w hs).mono fun e w' ⟨v, L', h1, h2, L'', he, h3⟩ => ⟨v, L'', h1, he w' h2, h3⟩⟩
theorem vc_pre {f : FuncId} {args : List Value} {L2 : List Asn} {R : Value → List Asn → Prop} (he : Ent w0 L L2) (h : VC P w0 f args L2 R) : VC P w0 f args L R := ⟨fun w hs => h.out w (he w hs)⟩
end
end Go.Proofs.Ytjbjidopjhllbaa

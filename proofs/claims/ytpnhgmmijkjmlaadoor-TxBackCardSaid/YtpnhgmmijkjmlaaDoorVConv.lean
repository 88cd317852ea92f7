/-
  A row of bytes turned into its own type (the translator's form of a constant's bytes): the row is marked, and can still be read.
-/
import Derived.Test.YtpnhgmmijkjmlaaDoorVMore
namespace Go.Proofs.YtpnhgmmijkjmlaaDoor
open Go Go.RowKit
set_option linter.unusedVariables false
set_option linter.unusedSimpArgs false

section
variable {P : Program} {w0 w : World} {L : List Asn} {o : Oper} {a : Act} {K : Act → World → Prop} {Q : Exit → Act → World → Prop}
theorem wp_convRow (t : TypeId) (x : Operand) (ho : o.op = .convert t t x) {g n cap : Nat} {e e' : TypeId} (hx : a.eval x = .slice (some ⟨g, 0, none⟩) n cap) (ht : P.underlying t = some (.slice e)) (he : P.underlying e = some (.int .u8))
    (hs : St w0 w L) (i : Nat) {sz n' cap' : Nat} {xs : List Value} (hi : L[i]? = some (own e' sz (some ⟨g, 0, none⟩) n' cap' xs))
    (h : ∀ w', St w0 w' (L.set i (rd (some ⟨g, 0, none⟩) xs)) → K (a.put o.dst (.slice (some ⟨g, 0, none⟩) n cap)) w') : Runs P o a w K Q := by
  have hk : ∃ cs, w.heap[g]? = some (.cells (List.toArray cs) e' (0, 0)) ∧ cs.take (n' * sz) = xs ∧ w0.heap.size ≤ g := by
    obtain ⟨F, hF, hb⟩ := hs.get i hi
    obtain ⟨h0, hF⟩ := hF
    rcases hF with ⟨e, _⟩ | ⟨g', off', cs, e, f, hg, r1, r2, r3, r4⟩
    · cases e
    · cases e; exact ⟨cs, hg, by simpa using r4, (hb g f).1⟩
  obtain ⟨cs, hg, hxs, hge⟩ := hk
  have hsh : w.shape? g = some (e', cs.length) := by unfold World.shape?; rw [hg]; simp
  have hoth : ∀ k, k ≠ g → (w.freeze ⟨g, cs.length, none⟩ 1).heap[k]? = w.heap[k]? := by
    intro k hk
    unfold World.freeze
    rw [if_neg (by decide)]
    show (w.heap.modify g _)[k]? = _
    rw [Array.getElem?_modify, if_neg (by omega)]
  have hown : (w.freeze ⟨g, cs.length, none⟩ 1).heap[g]? = some (.cells (List.toArray cs) e' (cs.length, cs.length + 1)) := by
    unfold World.freeze
    rw [if_neg (by decide)]
    show (w.heap.modify g _)[g]? = _
    rw [Array.getElem?_modify, if_pos rfl, hg]
    rfl
  have hsz : (w.freeze ⟨g, cs.length, none⟩ 1).heap.size = w.heap.size := by
    unfold World.freeze
    rw [if_neg (by decide)]
    show (w.heap.modify g _).size = _
    simp
  refine wp_val (v := .slice (some ⟨g, 0, none⟩) n cap) (w' := w.freeze ⟨g, cs.length, none⟩ 1) ?_ (h _ (hs.upd i hi (by omega) ?_ ?_ ?_ (fun k hk => hoth k (by omega)) (fun F hF _ => ⟨fun k _ _ hn => hoth k (fun e => hn ?_), ?_⟩)))
  · simp [execOp, ho, hx, convert, run_underlying ht, run_underlying he, markStringish, hsh]
  · unfold World.freeze; rfl
  · unfold World.freeze; rfl
  · unfold World.freeze; rfl
  · subst e
    obtain ⟨h0, hF⟩ := hF
    rcases hF with ⟨e, _⟩ | ⟨g', off', cs, e, f, _⟩
    · cases e
    · cases e; exact f
  · have hFg : F g := by
      obtain ⟨_, hF⟩ := hF
      rcases hF with ⟨e, _⟩ | ⟨g', off', cs, e, f, _⟩
      · cases e
      · cases e; exact f
    refine .inr ⟨g, .inl hFg, rfl, fun j u hu => ?_⟩
    unfold World.cell?
    rw [hown]
    rw [← hxs, List.getElem?_take] at hu
    split at hu
    · simpa using hu
    · cases hu
end

section
variable {P : Program} {ro : Option Nat} {w0 : World} {n : Nat} {ds : List Deferred} {fr : Fr} {L L' : List Asn} {Q : Exit → List Deferred → Fr → List Asn → Prop} {K : List Deferred → Fr → List Asn → Prop}
variable {d : Nat} {ty : TypeId} {pos : String} {after : Array Edge} {gd : Option (Nat × Bool)}
theorem vo_convRow {t e e' : TypeId} {x : Operand} {g m c i sz n' cap' : Nat} {xs : List Value} (hx : evA fr x = some (.slice (some ⟨g, 0, none⟩) m c)) [ht : UT P t (.slice e)] [he : UT P e (.int .u8)] [hb : HasOwn L (some ⟨g, 0, none⟩) i e' sz n' cap' xs] [hset : SetI L i (rd (some ⟨g, 0, none⟩) xs) L'] (hdn : Nat.blt d n = true)
    (h : K ds ((d, .slice (some ⟨g, 0, none⟩) m c) :: fr) L') : VO P ro w0 n ⟨some d, .convert t t x, ty, pos, after, gd⟩ K Q ds fr L :=
  vo_runs (fun _ => by simp) (fun a w hk hs => wp_convRow t x rfl (hk.ev hx) ht.out he.out hs i hb.out (fun w' hs' => ⟨_, _, _, hk.put d _ hdn, by rw [hset.out]; exact hs', h⟩))
theorem vq_eqBool {dst : Option Nat} {t yt : TypeId} {x y : Operand} {b c : Bool} (hx : evA fr x = some (.bool b)) (hy : evA fr y = some (.bool c)) [hu : UT P t .bool] : VQ P w0 n ⟨dst, .binOp .eql t x y yt, ty, pos, after, gd⟩ (.bool (b == c)) ds fr L :=
  vq_val (fun a w hk _ => by
    have e : (Op.equalIn (9999 + 1) t (Value.bool b) (Value.bool c)).run P w = .ok (b == c) w := by
      rw [Op.equalIn]
      simp [Sem.run_bind, run_underlying hu.out]
    simp [execOp, hk.ev hx, hk.ev hy, Sem.run_bind, eqGuard, binOp, Op.equal, Op.maxDepth]
    rw [e]; rfl)
theorem vo_isConv {t s : TypeId} {x : Operand} (h : VO P ro w0 n ⟨some d, .convert s t x, ty, pos, after, gd⟩ K Q ds fr L) : VO P ro w0 n ⟨some d, .convert s t x, ty, pos, after, gd⟩ K Q ds fr L := h
end
end Go.Proofs.YtpnhgmmijkjmlaaDoor

/-
  A reply's kind and code are read; a reply that is not well is read whole.
-/
import Derived.Test.YtcpcbgfnglnkcaaDoorWirN
import Derived.Test.YtcpcbgfnglnkcaaDoorWirL
set_option linter.unusedVariables false
set_option linter.unusedSimpArgs false
set_option linter.unusedSectionVars false
set_option maxRecDepth 100000
set_option maxHeartbeats 4000000
namespace Go.Proofs.YtcpcbgfnglnkcaaDoor
open Go Go.RowKit
open Classical

def kcH (E : List Asn) (g5 g6 : Nat) (s : Nat × Nat) : List Asn := blk g5 3 [.int .i64 s.1] :: blk g6 3 [.int .i64 s.2] :: E
def kcP (g5 g6 : Nat) : List (PK (Nat × Nat)) := [.num g5 0 1 8 (fun s v => (v, s.2)), .num g6 0 2 999 (fun s v => (s.1, v))]
def kcOk (s : Nat × Nat) : Prop := s.1 ≤ 8 ∧ s.2 ≤ 999
theorem kcP_ok (w0 : World) (E : List Asn) (g5 g6 : Nat) : ∀ p ∈ kcP g5 g6, p.Ok w0 (kcH E g5 g6) kcOk := by
  intro p hp
  simp only [kcP, List.mem_cons, List.not_mem_nil, or_false] at hp
  rcases hp with rfl | rfl
  · exact ⟨⟨by decide, by decide, by decide⟩, fun s hs => ⟨0, 3, [.int .i64 s.1], ⟨rfl⟩, Nat.le_refl _, fun v hv => ⟨⟨hv, hs.2⟩, ⟨rfl⟩⟩⟩⟩
  · exact ⟨⟨by decide, by decide, by decide⟩, fun s hs => ⟨1, 3, [.int .i64 s.2], ⟨rfl⟩, Nat.le_refl _, fun v hv => ⟨⟨hs.1, hv⟩, ⟨rfl⟩⟩⟩⟩
/-- What is read of the first three bytes: no place is in it. -/
def kcR (B : List UInt8) : RG (Nat × Nat) := PK.fold (kcP 0 0) ⟨B, false, (0, 0)⟩
theorem kcR_eq (g5 g6 : Nat) (B : List UInt8) : PK.fold (kcP g5 g6) ⟨B, false, (0, 0)⟩ = kcR B := rfl
theorem kcR_ok (B : List UInt8) : kcOk (kcR B).a := PK.fold_ok (w0 := default) (kcP_ok _ [] 0 0) (s := ⟨B, false, (0, 0)⟩) (show kcOk (0, 0) from ⟨by decide, by decide⟩)
/-- A reply of a kind and a code alone. -/
def rpC (k c : Nat) : Rp := { rp0 with kind := UInt8.ofNat k, code := c }
theorem rpC_ok {k c : Nat} (h : c ≤ 999) : (rpC k c).ok := ⟨⟨by show (-9223372036854775808 : Int) ≤ (c : Int); omega, by show (c : Int) < 9223372036854775808; omega⟩, rp0_ok.height, rp0_ok.dig, rp0_ok.nonce, rp0_ok.bal, rp0_ok.rc, rp0_ok.recc, rp0_ok.prf, rp0_ok.sub, rp0_ok.num, rp0_ok.hd, rp0_ok.hdh, rp0_ok.hdm⟩
noncomputable def rcRead (B : List UInt8) : Rp × Int := if (kcR B).bad = false ∧ (kcR B).r = [] ∧ (rpC (kcR B).a.1 (kcR B).a.2).inR = true then (rpC (kcR B).a.1 (kcR B).a.2, 0) else (rp0, 220)
theorem rp0_cells : .int .u8 0 :: (.int .i64 0 :: (.int .i64 0 :: (bvs (List.replicate 32 0) ++ (.int .u64 0 :: (.int .u64 0 :: (bvs (List.replicate 32 0) ++ (.int .u8 0 :: (.int .i64 0 :: (bvs (List.replicate 32 0) ++ (bvs (List.replicate 32 0) ++ (.int .u8 0 :: (.slice none 0 0 :: (.slice none 0 0 :: (.int .i64 0 :: (.bool false :: (.int .i64 0 :: (.bool false :: (.int .i64 0 :: (bvs (List.replicate 32 0) ++ (bvs (List.replicate 32 0) ++ (bvs (List.replicate 32 0) ++ [.int .i64 0]))))))))))))))))))))) = rp0.cells := rfl
theorem rreadC_vc (w0 : World) (L : List Asn) (ab : Option Addr) (cb : Nat) (B : List UInt8) (hcode : (kcR B).a.2 ≠ 0) {n : Nat} (hn : n = B.length) (hc : B.length ≤ cb) (hl : B.length ≤ 100000) [hr : RdC w0 L ab (bvs B)] :
    VC Tryd.prog w0 7 [.slice ab n cb] L fun v L' => v = .tuple #[.agg (rcRead B).1.cells.toArray, .int .i64 (rcRead B).2] ∧ L' = L := by
  subst hn
  refine vc_ent ?_
  refine vc_in rfl rfl ?_
  repeat' (first | (refine go1 ?_; intros) | (refine goCC ?_ ?_ <;> (intro hb; (try simp only [hSQ] at hb); try (exfalso; omega))) | fail)
  refine clV ?_
  refine vc_mono (clone_vc w0 _ ab cb B (by omega) (by omega)) ?_
  rintro v L' ⟨a2, c2, hc2, rfl, rfl⟩
  repeat' (first | (refine goB ?_; intros) | (refine goCC ?_ ?_ <;> (intro hb; (try simp only [hSQ] at hb); try (exfalso; omega))) | fail)
  refine vl_q rfl rfl rfl rfl (vq_buildP (cs := [.slice a2 B.length c2, .bool false]) rfl (by simp [okS, Value.cells]) rfl) ?_
  rw [rp0_cells]
  repeat' (first | (refine go1 ?_; intros) | (refine goCC ?_ ?_ <;> (intro hb; (try simp only [hSQ] at hb); try (exfalso; omega))) | fail)
  refine vl_q rfl rfl rfl rfl (vq_mkIface rfl) ?_
  repeat' (first | (refine go1 ?_; intros) | (refine goCC ?_ ?_ <;> (intro hb; (try simp only [hSQ] at hb); try (exfalso; omega))) | fail)
  refine vl_q rfl rfl rfl rfl (vq_mkIface rfl) ?_
  repeat' (first | (refine go1 ?_; intros) | (refine goCC ?_ ?_ <;> (intro hb; (try simp only [hSQ] at hb); try (exfalso; omega))) | fail)
  rename_i g2 g4 g5 g6 gl
  refine clV ?_
  refine vc_pre (L2 := restB g4 a2 B.length c2 false :: ownG (some ⟨gl, 0, none⟩) 2 (kcP g5 g6) :: (kcH [blk g2 41 rp0.cells] g5 g6 (0, 0) ++ (ownB a2 c2 B :: L))) ?_ ?_
  · exact sei w0 _ (restB g4 a2 B.length c2 false :: own 82 1 (some ⟨gl, 0, none⟩) 2 2 [.iface 70 (.agg #[.pointer (some ⟨g5, 0, none⟩), .int .i64 1, .int .i64 8]), .iface 70 (.agg #[.pointer (some ⟨g6, 0, none⟩), .int .i64 2, .int .i64 999])] :: blk g5 3 [.int .i64 0] :: blk g6 3 [.int .i64 0] :: blk g2 41 rp0.cells :: ownB a2 c2 B :: L)
  refine vc_mono (gparts_vc w0 (ownB a2 c2 B :: L) (kcH [blk g2 41 rp0.cells] g5 g6) kcOk g4 a2 c2 ⟨B, false, (0, 0)⟩ (some ⟨gl, 0, none⟩) 2 (kcP g5 g6) (kcP_ok w0 _ g5 g6) (show kcOk (0, 0) from ⟨by decide, by decide⟩) hc2 (by show B.length ≤ 1000000; omega) (by show 2 ≤ 10; omega) rfl) ?_
  rintro v L' ⟨ar2, cr2, q1, q2, rfl⟩
  rw [kcR_eq] at q1 q2 ⊢
  have hok := kcR_ok B
  have hle : (kcR B).r.length ≤ B.length := PK.fold_le _ _
  unfold rcRead
  generalize kcR B = S at *
  obtain ⟨R, bad, k, c⟩ := S
  obtain ⟨hk8, hc9⟩ := hok
  dsimp only at q1 q2 hk8 hc9 hle hcode ⊢
  unfold kcH ownG
  dsimp only [List.cons_append, List.nil_append]
  generalize List.map PK.val (kcP g5 g6) = vals at *
  have hcl := Rp.len rp0_ok
  have hkn : (UInt8.ofNat k).toNat = k := by simp; omega
  have hset := Rp.set0 rp0_ok (UInt8.ofNat k)
  rw [hkn] at hset
  have hset1 := Rp.set1 (r := { rp0 with kind := UInt8.ofNat k }) ⟨rp0_ok.code, rp0_ok.height, rp0_ok.dig, rp0_ok.nonce, rp0_ok.bal, rp0_ok.rc, rp0_ok.recc, rp0_ok.prf, rp0_ok.sub, rp0_ok.num, rp0_ok.hd, rp0_ok.hdh, rp0_ok.hdm⟩ c
  rw [show ({ ({ rp0 with kind := UInt8.ofNat k } : Rp) with code := (c : Int) } : Rp) = rpC k c from rfl] at hset1
  have hro : (rpC k c).ok := rpC_ok hc9
  have f1 := Rp.f1 hro
  rw [show (rpC k c).code = (c : Int) from rfl] at f1
  have hrl := Rp.len hro
  haveI ho1 : OC ({ rp0 with kind := UInt8.ofNat k } : Rp).cells := oc_rp _
  haveI ho2 : OC (rpC k c).cells := oc_rp _
  haveI ho3 : OC rp0.cells := oc_rp _
  have hwk : IntKind.u8.wrap (k : Int) = (k : Int) := by
    show ((k : Int) % 256) = k
    omega
  have hyl := Rp.len (r := { rp0 with kind := UInt8.ofNat k }) ⟨rp0_ok.code, rp0_ok.height, rp0_ok.dig, rp0_ok.nonce, rp0_ok.bal, rp0_ok.rc, rp0_ok.recc, rp0_ok.prf, rp0_ok.sub, rp0_ok.num, rp0_ok.hd, rp0_ok.hdh, rp0_ok.hdm⟩
  generalize hzc : rp0.cells = zc at *
  generalize ({ rp0 with kind := UInt8.ofNat k } : Rp).cells = yc at *
  repeat' (first | (refine go1 ?_; intros) | (refine goCC ?_ ?_ <;> (intro hb; (try simp only [hSQ] at hb); try (exfalso; omega))) | fail)
  rw [hwk, hset]
  repeat' (first | (refine go1 ?_; intros) | (refine goCC ?_ ?_ <;> (intro hb; (try simp only [hSQ] at hb); try (exfalso; omega))) | fail)
  rw [hset1]
  obtain ⟨xc, hxc⟩ : ∃ xc, xc = (rpC k c).cells := ⟨_, rfl⟩
  rw [← hxc] at f1 hrl ho2 ⊢
  cases hbd : bad
  rotate_left
  · rw [if_neg (by simp)]
    repeat' (first | (refine go1 ?_; intros) | (refine goCC ?_ ?_ <;> (intro hb; (try simp only [hSQ] at hb); try (exfalso; omega))) | fail)
    all_goals first | (exfalso; omega) | skip
    rw [rp0_cells]
    exact ⟨L, sei _ _ _, rfl, rfl⟩
  by_cases hR : R = []
  rotate_left
  · rw [if_neg (fun e => hR e.2.1)]
    have hr1 : 0 < R.length := Nat.pos_of_ne_zero (fun h => hR (List.eq_nil_of_length_eq_zero h))
    repeat' (first | (refine go1 ?_; intros) | (refine goCC ?_ ?_ <;> (intro hb; (try simp only [hSQ] at hb); try (exfalso; omega))) | fail)
    all_goals first | (exfalso; omega) | skip
    all_goals (rw [rp0_cells]; exact ⟨L, sei _ _ _, rfl, rfl⟩)
  subst hR
  repeat' (first | (refine go1 ?_; intros) | (refine goCC ?_ ?_ <;> (intro hb; (try simp only [hSQ] at hb); try (exfalso; omega))) | fail)
  all_goals first | (exfalso; omega) | (exfalso; simp at *; done) | skip
  refine clV ?_
  rw [hxc]
  refine vc_mono (within_vc w0 _ (rpC k c) hro) ?_
  rintro v L' ⟨rfl, rfl⟩
  rw [← hxc]
  cases hin : (rpC k c).inR
  · rw [if_neg (by simp)]
    repeat' (first | (refine go1 ?_; intros) | (refine goCC ?_ ?_ <;> (intro hb; (try simp only [hSQ] at hb); try (exfalso; omega))) | fail)
    rw [rp0_cells]
    exact ⟨L, sei _ _ _, rfl, rfl⟩
  · rw [if_pos ⟨rfl, rfl, rfl⟩]
    repeat' (first | (refine go1 ?_; intros) | (refine goCC ?_ ?_ <;> (intro hb; (try simp only [hSQ] at hb); try (exfalso; omega))) | fail)
    rw [hxc]
    exact ⟨L, sei _ _ _, rfl, rfl⟩
end Go.Proofs.YtcpcbgfnglnkcaaDoor

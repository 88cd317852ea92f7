/-
  A reply is read (the program's). A reply is put into bytes (the program's). Two replies: the same or not (the document's). The chapter's law of replies: what is put is read back, what is read is put back.
-/
import Derived.Test.YtgffejpcldeklaaGRC
import Derived.Test.YtgffejpcldeklaaWirO
import Derived.Test.YtgffejpcldeklaaGN
import Derived.Test.YtgffejpcldeklaaWirR
import Derived.Test.YtgffejpcldeklaaWirS
import Derived.Test.YtgffejpcldeklaaWirT
import Derived.Test.YtgffejpcldeklaaGV
set_option linter.unusedVariables false
set_option linter.unusedSimpArgs false
set_option linter.unusedSectionVars false
set_option maxRecDepth 100000
set_option maxHeartbeats 4000000
namespace Go.Proofs.Ytgffejpcldeklaa
open Go Go.RowKit
open Classical

theorem Rp.inR_at0 (r : Rp) : r.at0.inR = r.inR := rfl
theorem rd_take {w0 : World} {L : List Asn} {a : Option Addr} {l : List UInt8} [h : RdC w0 L a (bvs l)] (n : Nat) : RdC w0 L a (bvs (l.take n)) := by
  have := rd_cut (w0 := w0) (L := L) (a := a) (l := l) 0 n n (Nat.le_refl n)
  rwa [subA_zero, List.drop_zero] at this
theorem rpP_keeps (F : RpF) (g gp ge k : Nat) (s : RG Rp) : (PK.fold (rpP F g gp ge k) s).a.kind = s.a.kind ∧ (PK.fold (rpP F g gp ge k) s).a.code = s.a.code ∧ (PK.fold (rpP F g gp ge k) s).a.prf = s.a.prf := by
  have byt : ∀ (fto fread : FuncId) (c : Value) (size : Nat) (rd : Rp → List UInt8 → Rp × Bool), (∀ s X, (rd s X).1.kind = s.kind ∧ (rd s X).1.code = s.code ∧ (rd s X).1.prf = s.prf) → ∀ s : RG Rp, ((PK.byt fto fread c size rd).step s).a.kind = s.a.kind ∧ ((PK.byt fto fread c size rd).step s).a.code = s.a.code ∧ ((PK.byt fto fread c size rd).step s).a.prf = s.a.prf := by
    intro fto fread c size rd h s
    unfold PK.step
    dsimp only
    split
    · exact ⟨rfl, rfl, rfl⟩
    · exact h _ _
  unfold rpP
  by_cases h2 : k = 2
  · rw [if_pos h2]
    exact byt F.ta F.ra (.pointer (some ⟨gp, 0, none⟩)) 16 rdAcc (fun _ _ => ⟨rfl, rfl, rfl⟩) s
  rw [if_neg h2]
  by_cases h3 : k = 3
  · rw [if_pos h3]
    exact byt F.tc F.rc (.pointer (some ⟨gp, 0, none⟩)) 35 rdRec (fun _ _ => ⟨rfl, rfl, rfl⟩) (PK.step (.num g (0 + 2) 8 1073741824 sxH) s)
  rw [if_neg h3]
  by_cases h4 : k = 4 ∨ k = 5
  · rw [if_pos h4]; exact ⟨rfl, rfl, rfl⟩
  rw [if_neg h4]
  by_cases h6 : k = 6
  · rw [if_pos h6]; exact ⟨rfl, rfl, rfl⟩
  rw [if_neg h6]
  by_cases h7 : k = 7
  · rw [if_pos h7]
    exact byt F.th F.rh (.pointer (some ⟨ge, 0, none⟩)) 108 rdHd (fun _ _ => ⟨rfl, rfl, rfl⟩) (PK.step (.flg g (0 + 139 + 1 + 1) sxL) (PK.step (.num g (0 + 139 + 1 + 0) 8 1073741823 sxN) (PK.step (.flg g (0 + 139 + 0) sxG) s)))
  rw [if_neg h7]
  exact ⟨rfl, rfl, rfl⟩
/-- A reply as it is held: its proof's value and sides have places. -/
structure HeldR (w0 : World) (R q : Rp) (av : Option Addr) (cv : Nat) (Z : List UInt8) : Prop where
  ok : q.ok
  at0 : q.at0 = R.at0
  va : q.prf.va = av
  cut : Z.take q.prf.vl.length = q.prf.vl
theorem HeldR.vl {w0 : World} {R q : Rp} {av : Option Addr} {cv : Nat} {Z : List UInt8} (h : HeldR w0 R q av cv Z) : ∀ M, RdC w0 (ownB av cv Z :: M) q.prf.va (bvs q.prf.vl) := fun M => by
  rw [h.va]
  have := rd_take (w0 := w0) (L := ownB av cv Z :: M) (a := av) (l := Z) q.prf.vl.length
  rwa [h.cut] at this
abbrev sdO (q : Rp) : Asn := own 24 32 q.prf.pa q.prf.pl.length q.prf.pc (bvs q.prf.pl.flatten)
/-- What is told of bytes that are read. -/
def RRd (w0 : World) (B : List UInt8) (L : List Asn) (v : Value) (L' : List Asn) : Prop := ∃ q av cv Z, HeldR w0 (readR rpF B).1 q av cv Z ∧ v = .tuple #[.agg q.cells.toArray, .int .i64 (readR rpF B).2] ∧ L' = sdO q :: ownB av cv Z :: L
/-- A reply without a proof holds nothing. -/
theorem HeldR.bare (w0 : World) {r : Rp} (h : r.ok) (hp : r.prf = prf0) : HeldR w0 r r none 0 [] := ⟨h, rfl, by rw [hp]; rfl, by rw [hp]; rfl⟩
theorem sdO_bare {r : Rp} (hp : r.prf = prf0) (L : List Asn) : SE L (sdO r :: ownB none 0 [] :: L) := by
  unfold sdO
  rw [hp]
  exact (se_own_nil 5 1 L).trans (se_own_nil 24 32 _)
theorem rpH_ent (w0 : World) (k ge gp g : Nat) (r : Rp) (A B : Asn) (L : List Asn) : Ent w0 (A :: B :: (rpH k ge gp g r ++ L)) (A :: blk g 41 r.cells :: L) := by
  unfold rpH
  split
  · dsimp only [List.cons_append, List.nil_append]
    exact sei w0 _ (A :: blk g 41 r.cells :: L)
  · dsimp only [List.cons_append, List.nil_append]
    exact sei w0 _ (A :: blk g 41 r.cells :: L)
theorem rread_vc (w0 : World) (L : List Asn) (ab : Option Addr) (cb : Nat) (B : List UInt8) {n : Nat} (hn : n = B.length) (hl : B.length ≤ 100000) [hr : RdC w0 L ab (bvs B)] :
    VC Try.prog w0 8 [.slice ab n cb] L (RRd w0 B L) := by
  subst hn
  refine vc_ent ?_
  refine vc_in rfl rfl ?_
  repeat' (first | (refine go1 ?_; intros) | (refine goCC ?_ ?_ <;> (intro hb; (try simp only [hSQ] at hb); try (exfalso; omega))) | fail)
  refine clV ?_
  refine vc_mono (clone_vc w0 _ ab cb B (by omega) (by omega)) ?_
  rintro v L' ⟨a2, c2, hc2, rfl, rfl⟩
  repeat' (first | (refine goB ?_; intros) | (refine goCC ?_ ?_ <;> (intro hb; (try simp only [hSQ] at hb); try (exfalso; omega))) | fail)
  refine vl_q rfl rfl rfl rfl (vq_buildP (cs := [.slice a2 B.length c2, .bool false]) rfl (by simp [okS, Value.cells]) rfl) ?_
  rw [rp0_cells]
  repeat' (first | (refine go1 ?_; intros) | (refine goCC ?_ ?_ <;> (intro hb; (try simp only [hSQ] at hb); try (exfalso; omega))) | fail)
  refine vl_q rfl rfl rfl rfl (vq_mkIface rfl) ?_
  repeat' (first | (refine go1 ?_; intros) | (refine goCC ?_ ?_ <;> (intro hb; (try simp only [hSQ] at hb); try (exfalso; omega))) | fail)
  refine vl_q rfl rfl rfl rfl (vq_mkIface rfl) ?_
  repeat' (first | (refine go1 ?_; intros) | (refine goCC ?_ ?_ <;> (intro hb; (try simp only [hSQ] at hb); try (exfalso; omega))) | fail)
  rename_i g2 g4 g5 g6 gl
  refine clV ?_
  refine vc_pre (L2 := restB g4 a2 B.length c2 false :: ownG (some ⟨gl, 0, none⟩) 2 (kcP g5 g6) :: (kcH [blk g2 41 rp0.cells] g5 g6 (0, 0) ++ (ownB a2 c2 B :: L))) ?_ ?_
  · exact sei w0 _ (restB g4 a2 B.length c2 false :: own 84 1 (some ⟨gl, 0, none⟩) 2 2 [.iface 69 (.agg #[.pointer (some ⟨g5, 0, none⟩), .int .i64 1, .int .i64 8]), .iface 69 (.agg #[.pointer (some ⟨g6, 0, none⟩), .int .i64 2, .int .i64 999])] :: blk g5 3 [.int .i64 0] :: blk g6 3 [.int .i64 0] :: blk g2 41 rp0.cells :: ownB a2 c2 B :: L)
  refine vc_mono (gparts_vc w0 (ownB a2 c2 B :: L) (kcH [blk g2 41 rp0.cells] g5 g6) kcOk g4 a2 c2 ⟨B, false, (0, 0)⟩ (some ⟨gl, 0, none⟩) 2 (kcP g5 g6) (kcP_ok w0 _ g5 g6) (show kcOk (0, 0) from ⟨by decide, by decide⟩) hc2 (by show B.length ≤ 1000000; omega) (by show 2 ≤ 10; omega) rfl) ?_
  rintro v L' ⟨ar2, cr2, q1, q2, rfl⟩
  rw [kcR_eq] at q1 q2 ⊢
  have hok := kcR_ok B
  have hle : (kcR B).r.length ≤ B.length := PK.fold_le _ _
  have hrd : rdS rpF B = (if (kcR B).a.2 = 0 then (if (kcR B).a.1 = 4 then ⟨(prfS (PK.fold (rpP rpF 0 0 0 (kcR B).a.1) ⟨(kcR B).r, (kcR B).bad, rpK (UInt8.ofNat (kcR B).a.1) 0⟩).r (PK.fold (rpP rpF 0 0 0 (kcR B).a.1) ⟨(kcR B).r, (kcR B).bad, rpK (UInt8.ofNat (kcR B).a.1) 0⟩).bad prf0).r, (prfS (PK.fold (rpP rpF 0 0 0 (kcR B).a.1) ⟨(kcR B).r, (kcR B).bad, rpK (UInt8.ofNat (kcR B).a.1) 0⟩).r (PK.fold (rpP rpF 0 0 0 (kcR B).a.1) ⟨(kcR B).r, (kcR B).bad, rpK (UInt8.ofNat (kcR B).a.1) 0⟩).bad prf0).bad || !(prfS (PK.fold (rpP rpF 0 0 0 (kcR B).a.1) ⟨(kcR B).r, (kcR B).bad, rpK (UInt8.ofNat (kcR B).a.1) 0⟩).r (PK.fold (rpP rpF 0 0 0 (kcR B).a.1) ⟨(kcR B).r, (kcR B).bad, rpK (UInt8.ofNat (kcR B).a.1) 0⟩).bad prf0).a.may, sxP (PK.fold (rpP rpF 0 0 0 (kcR B).a.1) ⟨(kcR B).r, (kcR B).bad, rpK (UInt8.ofNat (kcR B).a.1) 0⟩).a (prfS (PK.fold (rpP rpF 0 0 0 (kcR B).a.1) ⟨(kcR B).r, (kcR B).bad, rpK (UInt8.ofNat (kcR B).a.1) 0⟩).r (PK.fold (rpP rpF 0 0 0 (kcR B).a.1) ⟨(kcR B).r, (kcR B).bad, rpK (UInt8.ofNat (kcR B).a.1) 0⟩).bad prf0).a⟩ else PK.fold (rpP rpF 0 0 0 (kcR B).a.1) ⟨(kcR B).r, (kcR B).bad, rpK (UInt8.ofNat (kcR B).a.1) 0⟩) else ⟨(kcR B).r, (kcR B).bad, rpK (UInt8.ofNat (kcR B).a.1) ((kcR B).a.2 : Int)⟩) := rfl
  unfold RRd readR
  generalize rdS rpF B = S at *
  generalize kcR B = S0 at *
  obtain ⟨R, bad, k, c⟩ := S0
  obtain ⟨hk8, hc9⟩ := hok
  dsimp only at q1 q2 hk8 hc9 hle hrd ⊢
  unfold kcH ownG
  dsimp only [List.cons_append, List.nil_append]
  generalize List.map PK.val (kcP g5 g6) = vals at *
  have hcl := Rp.len rp0_ok
  have hkn : (UInt8.ofNat k).toNat = k := by simp; omega
  have hset := Rp.set0 rp0_ok (UInt8.ofNat k)
  rw [hkn] at hset
  have hset1 := Rp.set1 (r := { rp0 with kind := UInt8.ofNat k }) ⟨rp0_ok.code, rp0_ok.height, rp0_ok.dig, rp0_ok.nonce, rp0_ok.bal, rp0_ok.rc, rp0_ok.recc, rp0_ok.prf, rp0_ok.sub, rp0_ok.num, rp0_ok.hd, rp0_ok.hdh, rp0_ok.hdm⟩ c
  rw [show ({ ({ rp0 with kind := UInt8.ofNat k } : Rp) with code := (c : Int) } : Rp) = rpC k c from rfl] at hset1
  have hro : (rpC k c).ok := rpC_ok hc9
  have f1 := Rp.f1 hro
  rw [show (rpC k c).code = (c : Int) from rfl] at f1
  have hrl := Rp.len hro
  haveI ho1 : OC ({ rp0 with kind := UInt8.ofNat k } : Rp).cells := oc_rp _
  haveI ho2 : OC (rpC k c).cells := oc_rp _
  haveI ho3 : OC rp0.cells := oc_rp _
  have hwk : IntKind.u8.wrap (k : Int) = (k : Int) := by
    show ((k : Int) % 256) = k
    omega
  have hyl := Rp.len (r := { rp0 with kind := UInt8.ofNat k }) ⟨rp0_ok.code, rp0_ok.height, rp0_ok.dig, rp0_ok.nonce, rp0_ok.bal, rp0_ok.rc, rp0_ok.recc, rp0_ok.prf, rp0_ok.sub, rp0_ok.num, rp0_ok.hd, rp0_ok.hdh, rp0_ok.hdm⟩
  generalize hzc : rp0.cells = zc at *
  generalize ({ rp0 with kind := UInt8.ofNat k } : Rp).cells = yc at *
  repeat' (first | (refine vl_id ?_; first | refine vl_nil ?_ | refine vl_qA rfl rfl rfl rfl ?_ | (refine vl_o rfl ?_; (refine goV ?_; intros)) | refine vl_guard rfl rfl rfl rfl rfl ?_ | refine vl_pass rfl rfl rfl rfl rfl rfl rfl ?_) | refine thn_n ?_ | fail)
  refine v_seq ?_
  refine v_region ?_
  repeat' (first | (refine vl_id ?_; first | refine vl_nil ?_ | refine vl_qA rfl rfl rfl rfl ?_ | (refine vl_o rfl ?_; (refine goV ?_; intros)) | refine vl_guard rfl rfl rfl rfl rfl ?_ | refine vl_pass rfl rfl rfl rfl rfl rfl rfl ?_) | refine thn_n ?_ | fail)
  rw [hwk, hset]
  repeat' (first | (refine vl_id ?_; first | refine vl_nil ?_ | refine vl_qA rfl rfl rfl rfl ?_ | (refine vl_o rfl ?_; (refine goV ?_; intros)) | refine vl_guard rfl rfl rfl rfl rfl ?_ | refine vl_pass rfl rfl rfl rfl rfl rfl rfl ?_) | refine thn_n ?_ | fail)
  rw [hset1]
  rw [show rpC k c = rpK (UInt8.ofNat k) (c : Int) from rfl] at *
  clear hset hset1
  refine v_seq ?_
  refine v_cut {z : (Option Addr × Nat) × Rp × Option Addr × Nat × List UInt8 // HeldR w0 S.a z.2.1 z.2.2.1 z.2.2.2.1 z.2.2.2.2} [2, 4] rfl (fun _ => []) (fun z => restB g4 z.1.1.1 S.r.length z.1.1.2 S.bad :: blk g2 41 z.1.2.1.cells :: sdO z.1.2.1 :: ownB z.1.2.2.1 z.1.2.2.2.1 z.1.2.2.2.2 :: L) ?_ ?_
  · by_cases hc0 : c = 0
    rotate_left
    · rw [if_neg hc0] at hrd
      subst hrd
      have hcc : (rpK (UInt8.ofNat k) (c : Int)).code = (c : Int) := rfl
      repeat' (first | (refine go1 ?_; intros) | (refine goCC ?_ ?_ <;> (intro hb; (try simp only [hSQ] at hb); try (exfalso; omega))) | fail)
      all_goals first | (exfalso; omega) | skip
      exact ⟨rfl, ⟨((ar2, cr2), rpK (UInt8.ofNat k) (c : Int), none, 0, []), HeldR.bare w0 hro rfl⟩, by (exact sbS), (sei w0 _ (restB g4 ar2 R.length cr2 bad :: blk g2 41 (rpK (UInt8.ofNat k) (c : Int)).cells :: L)).trans ((SE.cons _ (SE.cons _ (sdO_bare rfl L))).ent w0)⟩
    subst hc0
    rw [if_pos rfl] at hrd
    repeat' (first | (refine go1 ?_; intros) | (refine goCC ?_ ?_ <;> (intro hb; (try simp only [hSQ] at hb); try (exfalso; omega))) | fail)
    all_goals first | (exfalso; omega) | skip
    refine clV ?_
    refine vc_pre (L2 := blk g2 41 (rpK (UInt8.ofNat k) 0).cells :: restB g4 ar2 R.length cr2 bad :: ownB a2 c2 B :: L) ?_ ?_
    · exact sei w0 _ (blk g2 41 (rpK (UInt8.ofNat k) 0).cells :: restB g4 ar2 R.length cr2 bad :: ownB a2 c2 B :: L)
    refine vc_mono (wreplies_vc w0 _ g2 (rpK (UInt8.ofNat k) 0) hro) ?_
    rintro v L' ⟨ap, cp, gp, ge, rfl, rfl⟩
    rw [show (rpK (UInt8.ofNat k) 0).kind.toNat = k from hkn]
    repeat' (first | (refine go1 ?_; intros) | (refine goCC ?_ ?_ <;> (intro hb; (try simp only [hSQ] at hb); try (exfalso; omega))) | fail)
    refine clV ?_
    refine vc_pre (L2 := restB g4 ar2 R.length cr2 bad :: ownG ap cp (rpP rpF g2 gp ge k) :: (rpH k ge gp g2 (rpK (UInt8.ofNat k) 0) ++ (ownB a2 c2 B :: L))) ?_ ?_
    · exact ((SE.cons _ (se_mid _ [restB g4 ar2 R.length cr2 bad] (ownB a2 c2 B :: L))).trans (se_swap _ _ _)).ent w0
    refine vc_mono (gparts_vc w0 (ownB a2 c2 B :: L) (rpH k ge gp g2) Rp.ok g4 ar2 cr2 ⟨R, bad, rpK (UInt8.ofNat k) 0⟩ ap cp (rpP rpF g2 gp ge k) (rpP_ok w0 k ge gp g2) hro q1 (by dsimp only; omega) (rpP_len _ _ _ _ _) rfl) ?_
    rintro v L' ⟨ar5, cr5, q3, q4, rfl⟩
    rw [rpP_fold rpF rpF g2 gp ge 0 0 0 k] at q3 q4 ⊢
    have keeps := rpP_keeps rpF 0 0 0 k ⟨R, bad, rpK (UInt8.ofNat k) 0⟩
    have ok5 : (PK.fold (rpP rpF 0 0 0 k) ⟨R, bad, rpK (UInt8.ofNat k) 0⟩).a.ok := PK.fold_ok (rpP_ok w0 k 0 0 0) (s := ⟨R, bad, rpK (UInt8.ofNat k) 0⟩) hro
    have le5 : (PK.fold (rpP rpF 0 0 0 k) ⟨R, bad, rpK (UInt8.ofNat k) 0⟩).r.length ≤ R.length := PK.fold_le _ _
    generalize PK.fold (rpP rpF 0 0 0 k) ⟨R, bad, rpK (UInt8.ofNat k) 0⟩ = s5 at *
    obtain ⟨R5, bad5, r5⟩ := s5
    obtain ⟨e1, e2, e3⟩ := keeps
    dsimp only at q3 q4 e1 e2 e3 ok5 le5 hrd ⊢
    refine vl_ent (rpH_ent w0 k ge gp g2 r5 _ _ _) ?_
    have f5 := Rp.f0 ok5
    rw [e1, show (rpK (UInt8.ofNat k) 0).kind.toNat = k from hkn] at f5
    have hcl5 := Rp.len ok5
    haveI ho5 : OC r5.cells := oc_rp _
    by_cases k4 : k = 4
    rotate_left
    · rw [if_neg k4] at hrd
      subst hrd
      generalize hr5 : r5.cells = cs5 at *
      repeat' (first | (refine go1 ?_; intros) | (refine goCC ?_ ?_ <;> (intro hb; (try simp only [hSQ] at hb); try (exfalso; omega))) | fail)
      all_goals first | (exfalso; omega) | skip
      refine ⟨rfl, ⟨((ar5, cr5), r5, none, 0, []), HeldR.bare w0 ok5 e3⟩, by (exact sbS), ?_⟩
      dsimp only
      rw [hr5]
      exact (sei w0 _ (restB g4 ar5 R5.length cr5 bad5 :: blk g2 41 cs5 :: L)).trans ((SE.cons _ (SE.cons _ (sdO_bare e3 L))).ent w0)
    subst k4
    rw [if_pos rfl] at hrd
    obtain ⟨cs5, hr5⟩ : ∃ cs5, cs5 = r5.cells := ⟨_, rfl⟩
    rw [← hr5] at f5 hcl5 ho5 ⊢
    repeat' (first | (refine go1 ?_; intros) | (refine goCC ?_ ?_ <;> (intro hb; (try simp only [hSQ] at hb); try (exfalso; omega))) | fail)
    all_goals first | (exfalso; omega) | skip
    refine clV ?_
    rw [hr5]
    refine vc_mono (wproof_vc w0 (ownB a2 c2 B :: L) g2 g4 r5 ok5 e3 ar5 cr5 R5 bad5 q3 (by omega)) ?_
    rintro v L' ⟨⟨ar6, cr6, av, cv, Z⟩, ap6, cp6, hz, o6, rfl⟩
    generalize prfS R5 bad5 prf0 = P at *
    obtain ⟨R6, bad6, p6⟩ := P
    obtain ⟨z1, z2, z3, z4⟩ := hz
    dsimp only at z1 z2 z3 z4 o6 hrd ⊢
    have oq : (p6.pv av p6.vl.length ap6 cp6).ok := ⟨o6.key, o6.kind, o6.other, o6.dg, o6.vl, o6.pl⟩
    have okq := Rp.okP ok5 oq
    have clq := Rp.len okq
    have fq := Rp.f6 okq
    rw [show (sxP r5 (p6.pv av p6.vl.length ap6 cp6)).prf = p6.pv av p6.vl.length ap6 cp6 from rfl] at fq
    haveI hoq : OC (sxP r5 (p6.pv av p6.vl.length ap6 cp6)).cells := oc_rp _
    have plq := Prf.len oq
    have hH : HeldR w0 (sxP r5 p6) (sxP r5 (p6.pv av p6.vl.length ap6 cp6)) av cv Z := ⟨okq, rfl, rfl, z3⟩
    have hE : ∀ b, Ent w0 (restB g4 ar6 R6.length cr6 b :: blk g2 41 (sxP r5 (p6.pv av p6.vl.length ap6 cp6)).cells :: own 24 32 ap6 p6.pl.length cp6 (bvs p6.pl.flatten) :: ownB av cv Z :: ownB a2 c2 B :: L) (restB g4 ar6 R6.length cr6 b :: blk g2 41 (sxP r5 (p6.pv av p6.vl.length ap6 cp6)).cells :: sdO (sxP r5 (p6.pv av p6.vl.length ap6 cp6)) :: ownB av cv Z :: L) := fun b => sei w0 _ (restB g4 ar6 R6.length cr6 b :: blk g2 41 (sxP r5 (p6.pv av p6.vl.length ap6 cp6)).cells :: own 24 32 ap6 p6.pl.length cp6 (bvs p6.pl.flatten) :: ownB av cv Z :: L)
    have hsp : ∀ x y b : Value, splice [x, y] (0 + 1) [b] = [x, b] := fun _ _ _ => rfl
    generalize hcq : (sxP r5 (p6.pv av p6.vl.length ap6 cp6)).cells = cq at *
    cases bad6
    · repeat' (first | (refine go1 ?_; intros) | (refine goCC ?_ ?_ <;> (intro hb; (try simp only [hSQ] at hb); try (exfalso; omega))) | fail)
      refine clV ?_
      refine vc_mono (check_vc w0 _ (p6.pv av p6.vl.length ap6 cp6) oq) ?_
      rintro v L' ⟨rfl, rfl⟩
      rw [show (p6.pv av p6.vl.length ap6 cp6).may = p6.may from rfl]
      cases hm : p6.may
      · rw [hm] at hrd
        repeat' (first | (refine go1 ?_; intros) | (refine goCC ?_ ?_ <;> (intro hb; (try simp only [hSQ] at hb); try (exfalso; omega))) | fail)
        rw [hsp]
        subst hrd
        refine ⟨rfl, ⟨((ar6, cr6), sxP r5 (p6.pv av p6.vl.length ap6 cp6), av, cv, Z), hH⟩, by (exact sbS), ?_⟩
        dsimp only
        rw [hcq]
        exact hE _
      · rw [hm] at hrd
        repeat' (first | (refine go1 ?_; intros) | (refine goCC ?_ ?_ <;> (intro hb; (try simp only [hSQ] at hb); try (exfalso; omega))) | fail)
        rw [hsp]
        subst hrd
        refine ⟨rfl, ⟨((ar6, cr6), sxP r5 (p6.pv av p6.vl.length ap6 cp6), av, cv, Z), hH⟩, by (exact sbS), ?_⟩
        dsimp only
        rw [hcq]
        exact hE _
    · repeat' (first | (refine go1 ?_; intros) | (refine goCC ?_ ?_ <;> (intro hb; (try simp only [hSQ] at hb); try (exfalso; omega))) | fail)
      rw [hsp]
      subst hrd
      refine ⟨rfl, ⟨((ar6, cr6), sxP r5 (p6.pv av p6.vl.length ap6 cp6), av, cv, Z), hH⟩, by (exact sbS), ?_⟩
      dsimp only
      rw [hcq, Bool.true_or]
      exact hE _
  rintro ⟨⟨⟨ar9, cr9⟩, q, av, cv, Z⟩, hq⟩
  clear hrd
  obtain ⟨RS, bS, aS⟩ := S
  dsimp only at hq ⊢
  have hql := Rp.len hq.ok
  have hin : q.inR = aS.inR := by rw [← Rp.inR_at0, hq.at0, Rp.inR_at0]
  haveI hoq : OC q.cells := oc_rp _
  have hzero : ∃ L'', Ent w0 L L'' ∧ ∃ q av cv Z, HeldR w0 rp0 q av cv Z ∧ Value.tuple #[Value.agg rp0.cells.toArray, Value.int .i64 220] = Value.tuple #[Value.agg q.cells.toArray, Value.int .i64 220] ∧ L'' = sdO q :: ownB av cv Z :: L := ⟨_, (sdO_bare rfl L).ent w0, rp0, none, 0, [], HeldR.bare w0 rp0_ok rfl, rfl, rfl⟩
  obtain ⟨qc, hqc⟩ : ∃ qc, qc = q.cells := ⟨_, rfl⟩
  rw [← hqc] at hql hoq ⊢
  cases hbd : bS
  rotate_left
  · rw [if_neg (by simp)]
    repeat' (first | (refine go1 ?_; intros) | (refine goCC ?_ ?_ <;> (intro hb; (try simp only [hSQ] at hb); try (exfalso; omega))) | fail)
    all_goals first | (exfalso; omega) | skip
    obtain ⟨L2, h1, h2⟩ := hzero
    rw [rp0_cells]
    exact ⟨L2, (sei w0 _ L).trans h1, h2⟩
  by_cases hR : RS = []
  rotate_left
  · rw [if_neg (fun e => hR e.2.1)]
    have hr1 : 0 < RS.length := Nat.pos_of_ne_zero (fun h => hR (List.eq_nil_of_length_eq_zero h))
    repeat' (first | (refine go1 ?_; intros) | (refine goCC ?_ ?_ <;> (intro hb; (try simp only [hSQ] at hb); try (exfalso; omega))) | fail)
    all_goals first | (exfalso; omega) | skip
    all_goals
      obtain ⟨L2, h1, h2⟩ := hzero
      rw [rp0_cells]
      exact ⟨L2, (sei w0 _ L).trans h1, h2⟩
  subst hR
  repeat' (first | (refine go1 ?_; intros) | (refine goCC ?_ ?_ <;> (intro hb; (try simp only [hSQ] at hb); try (exfalso; omega))) | fail)
  all_goals first | (exfalso; omega) | (exfalso; simp at *; done) | skip
  refine clV ?_
  rw [hqc]
  refine vc_mono (within_vc w0 _ q hq.ok) ?_
  rintro v L' ⟨rfl, rfl⟩
  rw [← hqc, hin]
  cases hi : aS.inR
  · rw [if_neg (by simp)]
    repeat' (first | (refine go1 ?_; intros) | (refine goCC ?_ ?_ <;> (intro hb; (try simp only [hSQ] at hb); try (exfalso; omega))) | fail)
    obtain ⟨L2, h1, h2⟩ := hzero
    rw [rp0_cells]
    exact ⟨L2, (sei w0 _ L).trans h1, h2⟩
  · rw [if_pos ⟨rfl, rfl, rfl⟩]
    repeat' (first | (refine go1 ?_; intros) | (refine goCC ?_ ?_ <;> (intro hb; (try simp only [hSQ] at hb); try (exfalso; omega))) | fail)
    rw [hqc]
    exact ⟨_, sei w0 _ (sdO q :: ownB av cv Z :: L), q, av, cv, Z, hq, rfl, rfl⟩
end Go.Proofs.Ytgffejpcldeklaa
namespace Go.Proofs.Ytgffejpcldeklaa
open Go Go.RowKit
open Classical

theorem same_at0 (r o : Rp) : r.same o ↔ r.at0 = o.at0 := by
  obtain ⟨k, c, h, d, n, b, rc, p, s, g, e⟩ := r
  obtain ⟨k', c', h', d', n', b', rc', p', s', g', e'⟩ := o
  obtain ⟨p1, p2, p3, p4, p5, p6, p7, p8, p9⟩ := p
  obtain ⟨q1, q2, q3, q4, q5, q6, q7, q8, q9⟩ := p'
  unfold Rp.same Prf.eqv Rp.at0 Prf.at0
  simp only [Rp.mk.injEq, Prf.mk.injEq]
  constructor
  · rintro ⟨⟨a1, a2, a3, a4, a5⟩, a6, a7, a8, a9, ⟨a10, a11⟩, a12, a13, a14, a15⟩
    exact ⟨a6, a7, a8, a9, a10, a11, a12, ⟨a1, a2, a3, trivial, trivial, a4, trivial, trivial, a5⟩, a13, a14, a15⟩
  · rintro ⟨a6, a7, a8, a9, a10, a11, a12, ⟨a1, a2, a3, _, _, a4, _, _, a5⟩, a13, a14, a15⟩
    exact ⟨⟨a1, a2, a3, a4, a5⟩, a6, a7, a8, a9, ⟨a10, a11⟩, a12, a13, a14, a15⟩
theorem mayR_at0 {r : Rp} : MayR r.at0 ↔ MayR r := by
  constructor
  · intro h
    exact ⟨h.kind, h.some', h.c0, h.c1, h.bare, h.h0, h.h1, h.s0, h.s1, h.rc, h.prf, h.n0, h.n1, h.hd, h.gap⟩
  · intro h
    exact ⟨h.kind, h.some', h.c0, h.c1, h.bare, h.h0, h.h1, h.s0, h.s1, h.rc, h.prf, h.n0, h.n1, h.hd, h.gap⟩
theorem reply_law (F : RpF) {r x : Rp} (h : r.ok) {T : List UInt8} (hT : MayR r → T = ofR r) (hx : readR F T = (x, 0)) : x.at0 = r.at0 ↔ MayR r := by
  constructor
  · intro e
    have := (readR_may F hx).1
    rw [← mayR_at0] at this ⊢
    rwa [← e]
  · intro hm
    rw [hT hm, readR_of F h hm] at hx
    have := (Prod.mk.inj hx).1
    rw [← this]
    rfl
theorem reply_none (F : RpF) {r : Rp} (h : r.ok) {T : List UInt8} (hT : MayR r → T = ofR r) (hx : readR F T = (rp0, 220)) : ¬ MayR r := by
  intro hm
  rw [hT hm, readR_of F h hm] at hx
  exact absurd (Prod.mk.inj hx).2 (by decide)
noncomputable def replyB (r : Rp) : List UInt8 := if MayR r then ofR r else []
noncomputable def replyT (r : Rp) : List UInt8 := (r.kind :: digs r.code.toNat 2) ++ (if r.code = 0 then (rpD r.kind.toNat r).flatten ++ (if r.kind.toNat = 4 then prfB r.prf else []) else [])
theorem replyT_of {r : Rp} (hm : MayR r) : replyT r = ofR r := by
  unfold replyT
  by_cases hc : r.code = 0
  · rw [if_pos hc, ← rpD_of hm hc, hc]
    rfl
  · rw [if_neg hc]
    unfold ofR
    rw [if_pos hc, List.append_nil, List.append_nil]
theorem flat_len {Ds : List (List UInt8)} {m : Nat} (h : ∀ D ∈ Ds, D.length ≤ m) : Ds.flatten.length ≤ Ds.length * m := by
  induction Ds with
  | nil => simp
  | cons D Ds ih =>
    have h1 := h D List.mem_cons_self
    have h2 := ih (fun x hx => h x (List.mem_cons_of_mem _ hx))
    rw [List.flatten_cons, List.length_append, List.length_cons, Nat.add_mul]
    omega
theorem rpD_flat {r : Rp} (h : r.ok) (h0 : 0 ≤ r.height) (s0 : 0 ≤ r.sub) (n0 : 0 ≤ r.ev.num) (k : Nat) : (rpD k r).flatten.length ≤ 10000 := by
  have hl := rpD_len rpF 0 0 0 k r
  have hl2 := rpP_len rpF 0 0 0 k
  have hp := rpP_put default k 0 0 0 h h0 s0 n0
  have := flat_len (Ds := rpD k r) (m := 1000) (fun D hD => by
    obtain ⟨i, hi, rfl⟩ := List.getElem_of_mem hD
    exact (hp i (by omega) hi).len)
  have : (rpD k r).length * 1000 ≤ 10 * 1000 := Nat.mul_le_mul_right _ (by omega)
  omega
theorem wreply_vc (w0 : World) (L : List Asn) (r : Rp) (h : r.ok) (hvl : r.prf.vl.length ≤ 4096) (hpl : r.prf.pl.length ≤ 300) [hr : RdC w0 L r.prf.va (bvs r.prf.vl)] [hr2 : RdC w0 L r.prf.pa (bvs r.prf.pl.flatten)] :
    VC Try.prog w0 6 [.agg r.cells.toArray] L fun v L' => ∃ a' c', v = .tuple #[.slice a' (replyB r).length c', .int .i64 (if MayR r then 0 else 8)] ∧ L' = ownB a' c' (replyB r) :: L := by
  have hcl := Rp.len h
  have f0 := Rp.f0 h
  have f1 := Rp.f1 h
  have f6 := Rp.f6 h
  refine vc_ent ?_
  refine vc_in rfl rfl ?_
  have hoc : OC r.cells := oc_rp r
  obtain ⟨rcs, hrcs⟩ : ∃ rcs, rcs = r.cells := ⟨_, rfl⟩
  rw [← hrcs] at hcl f0 f1 f6 hoc ⊢
  repeat' (first | (refine go1 ?_; intros) | (refine goCC ?_ ?_ <;> (intro hb; (try simp only [hSQ] at hb); try (exfalso; omega))) | fail)
  refine clV ?_
  rw [hrcs]
  refine vc_mono (within_vc w0 _ r h) ?_
  rintro v L' ⟨rfl, rfl⟩
  rw [← hrcs]
  cases hin : r.inR
  · have hno : ¬ MayR r := fun hm => by rw [hm.inR] at hin; cases hin
    have e : replyB r = [] := if_neg hno
    rw [e, if_neg hno]
    repeat' (first | (refine go1 ?_; intros) | (refine goCC ?_ ?_ <;> (intro hb; (try simp only [hSQ] at hb); try (exfalso; omega))) | fail)
    exact ⟨_, (SE.trans (sei_drop _ _ L).out (se_own_nil 5 1 _)).ent w0, none, 0, rfl, rfl⟩
  have hh := inR_of hin
  obtain ⟨C, hC⟩ : ∃ C : Nat, r.code = C := ⟨r.code.toNat, by omega⟩
  rw [hC] at f1
  repeat' (first | (refine go1 ?_; intros) | (refine goCC ?_ ?_ <;> (intro hb; (try simp only [hSQ] at hb); try (exfalso; omega))) | fail)
  refine clV ?_
  refine vc_mono (put_vc w0 _ C 2 (by decide) (by decide) (by omega)) ?_
  rintro v L' ⟨a2, c2, rfl, rfl⟩
  have hdl := digs_length C 2
  have hT0 : replyT r = (r.kind :: digs C 2) ++ (if r.code = 0 then (rpD r.kind.toNat r).flatten ++ (if r.kind.toNat = 4 then prfB r.prf else []) else []) := by
    unfold replyT
    rw [show r.code.toNat = C by omega]
  have hTm : MayR r → replyT r = ofR r := replyT_of
  generalize replyT r = T at *
  obtain ⟨D, hD⟩ : ∃ D, D = digs C 2 := ⟨_, rfl⟩
  rw [← hD] at hdl hT0 ⊢
  repeat' (first | (refine vl_id ?_; first | refine vl_nil ?_ | refine vl_qA rfl rfl rfl rfl ?_ | (refine vl_o rfl ?_; (refine goV ?_; intros)) | refine vl_guard rfl rfl rfl rfl rfl ?_ | refine vl_pass rfl rfl rfl rfl rfl rfl rfl ?_) | refine thn_n ?_ | fail)
  refine v_seq ?_
  refine v_region ?_
  repeat' (first | (refine vl_id ?_; first | refine vl_nil ?_ | refine vl_qA rfl rfl rfl rfl ?_ | (refine vl_o rfl ?_; (refine goV ?_; intros)) | refine vl_guard rfl rfl rfl rfl rfl ?_ | refine vl_pass rfl rfl rfl rfl rfl rfl rfl ?_) | refine thn_n ?_ | fail)
  rename_i g1 g3 a3 c3 _ _
  have e3 : own 5 1 a3 (1 + 2) c3 ([.int .u8 (r.kind.toNat : Nat)] ++ bvs D) = ownB a3 c3 (r.kind :: D) := by
    unfold ownB
    rw [List.length_cons, hdl]
    rfl
  rw [e3]
  have hl0 : (r.kind :: D).length = 1 + 2 := by rw [List.length_cons, hdl]
  rw [← hl0]
  generalize r.kind :: D = T0 at *
  have hTl : T.length ≤ 40000 := by
    rw [hT0, List.length_append, hl0]
    split
    · rw [List.length_append]
      have h1 : (rpD r.kind.toNat r).flatten.length ≤ 10000 := rpD_flat h hh.2.2.2.2.1 hh.2.2.2.2.2.1 hh.2.2.2.2.2.2 _
      have h2 : (if r.kind.toNat = 4 then prfB r.prf else []).length ≤ 20000 := by
        split
        · rw [prfB_A, List.length_append, List.length_append, digs_length, Dg.len h.prf.dg]
          have := prfA_len h.prf hvl
          omega
        · simp
      omega
    · simp
  refine v_seq ?_
  refine v_cut (Option Addr × Nat) [1] rfl (fun z => [(6, .slice z.1 T.length z.2)]) (fun z => ownB z.1 z.2 T :: blk g1 41 rcs :: L) ?_ ?_
  · by_cases hc0 : r.code = 0
    rotate_left
    · rw [if_neg hc0, List.append_nil] at hT0
      subst hT0
      repeat' (first | (refine go1 ?_; intros) | (refine goCC ?_ ?_ <;> (intro hb; (try simp only [hSQ] at hb); try (exfalso; omega))) | fail)
      all_goals first | (exfalso; omega) | skip
      exact ⟨rfl, (a3, c3), by (exact sbS), sei _ _ _⟩
    rw [if_pos hc0] at hT0
    obtain rfl : C = 0 := by omega
    repeat' (first | (refine go1 ?_; intros) | (refine goCC ?_ ?_ <;> (intro hb; (try simp only [hSQ] at hb); try (exfalso; omega))) | fail)
    all_goals first | (exfalso; omega) | skip
    rename_i g7
    refine clV ?_
    rw [hrcs]
    refine vc_pre (L2 := blk g7 41 r.cells :: ownB a3 c3 T0 :: blk g1 41 r.cells :: L) ?_ ?_
    · exact sei w0 _ (blk g7 41 r.cells :: ownB a3 c3 T0 :: blk g1 41 r.cells :: L)
    refine vc_mono (wreplies_vc w0 _ g7 r h) ?_
    rintro v L' ⟨ap, cp, gp, ge, rfl, rfl⟩
    repeat' (first | (refine go1 ?_; intros) | (refine goCC ?_ ?_ <;> (intro hb; (try simp only [hSQ] at hb); try (exfalso; omega))) | fail)
    refine clV ?_
    refine vc_pre (L2 := ownB a3 c3 T0 :: ownG ap cp (rpP rpF g7 gp ge r.kind.toNat) :: (rpH r.kind.toNat ge gp g7 r ++ (blk g1 41 r.cells :: L))) ?_ ?_
    · exact ((SE.cons _ (se_mid _ [ownB a3 c3 T0] (blk g1 41 r.cells :: L))).trans (se_swap _ _ _)).ent w0
    refine vc_mono (kput_vc w0 (blk g1 41 r.cells :: L) (rpH r.kind.toNat ge gp g7 r) a3 c3 T0 ap cp (rpP rpF g7 gp ge r.kind.toNat) (rpD r.kind.toNat r) (rpD_len _ _ _ _ _ _) (rpP_put w0 _ ge gp g7 h hh.2.2.2.2.1 hh.2.2.2.2.2.1 hh.2.2.2.2.2.2) (by omega) (rpP_len _ _ _ _ _) rfl rfl) ?_
    rintro v L' ⟨a4, c4, rfl, rfl⟩
    rw [← List.append_assoc] at hT0
    generalize T0 ++ (rpD r.kind.toNat r).flatten = T1 at *
    refine vl_ent (L' := ownB a4 c4 T1 :: blk g1 41 r.cells :: L) ((SE.cons _ (SE.trans (se_drop _ _) (se_app _ _))).ent w0) ?_
    rw [← hrcs]
    by_cases k4 : r.kind.toNat = 4
    rotate_left
    · rw [if_neg k4, List.append_nil] at hT0
      subst hT0
      repeat' (first | (refine go1 ?_; intros) | (refine goCC ?_ ?_ <;> (intro hb; (try simp only [hSQ] at hb); try (exfalso; omega))) | fail)
      all_goals first | (exfalso; omega) | skip
      exact ⟨rfl, (a4, c4), by (exact sbS), sei _ _ _⟩
    rw [if_pos k4] at hT0
    have plq := Prf.len h.prf
    repeat' (first | (refine go1 ?_; intros) | (refine goCC ?_ ?_ <;> (intro hb; (try simp only [hSQ] at hb); try (exfalso; omega))) | fail)
    all_goals first | (exfalso; omega) | skip
    refine clV ?_
    refine vc_mono (wputProof_vc w0 _ r.prf h.prf hvl (by omega)) ?_
    rintro v L' ⟨a5, c5, rfl, rfl⟩
    generalize hX : prfB r.prf = X at *
    have hl1 : T.length = T1.length + X.length := by rw [hT0, List.length_append]
    repeat' (first | (refine go1 ?_; intros) | (refine goCC ?_ ?_ <;> (intro hb; (try simp only [hSQ] at hb); try (exfalso; omega))) | fail)
    rename_i a6 c6 _ _
    rw [← own_app a6 c6 T1 X X.length rfl, ← hT0, ← hl1]
    exact ⟨rfl, (a6, c6), by (exact sbS), sei _ _ _⟩
  rintro ⟨a7, c7⟩
  dsimp only
  repeat' (first | (refine go1 ?_; intros) | (refine goCC ?_ ?_ <;> (intro hb; (try simp only [hSQ] at hb); try (exfalso; omega))) | fail)
  refine clV ?_
  refine vc_mono (rread_vc w0 _ a7 c7 T rfl (by omega)) ?_
  rintro v L' ⟨q, av, cv, Z, hq, rfl, rfl⟩
  have hql := Rp.len hq.ok
  have hocq : OC q.cells := oc_rp _
  obtain ⟨qc, hqc⟩ : ∃ qc, qc = q.cells := ⟨_, rfl⟩
  rw [← hqc] at hql hocq ⊢
  rcases readR_cases rpF T with ⟨x, hx⟩ | hx
  rotate_left
  · have hno := reply_none rpF h hTm hx
    rw [hx, show replyB r = [] from if_neg hno, if_neg hno]
    repeat' (first | (refine go1 ?_; intros) | (refine goCC ?_ ?_ <;> (intro hb; (try simp only [hSQ] at hb); try (exfalso; omega))) | fail)
    all_goals first | (exfalso; omega) | skip
    exact ⟨_, (sei w0 _ L).trans ((se_own_nil 5 1 L).ent w0), none, 0, rfl, rfl⟩
  have hlaw := reply_law rpF h hTm hx
  rw [hx] at hq ⊢
  dsimp only at hq ⊢
  haveI := hq.vl
  repeat' (first | (refine go1 ?_; intros) | (refine goCC ?_ ?_ <;> (intro hb; (try simp only [hSQ] at hb); try (exfalso; omega))) | fail)
  refine clV ?_
  rw [hqc, hrcs]
  refine vc_mono (wsame_vc w0 _ q r hq.ok h) ?_
  rintro v L' ⟨rfl, rfl⟩
  rw [← hqc, ← hrcs]
  have hs : q.same r ↔ MayR r := by rw [same_at0, hq.at0, hlaw]
  by_cases hm : MayR r
  · rw [decide_eq_true (hs.2 hm), show replyB r = T from by rw [hTm hm]; exact if_pos hm, if_pos hm]
    repeat' (first | (refine go1 ?_; intros) | (refine goCC ?_ ?_ <;> (intro hb; (try simp only [hSQ] at hb); try (exfalso; omega))) | fail)
    exact ⟨_, sei w0 _ (ownB a7 c7 T :: L), a7, c7, rfl, rfl⟩
  · rw [decide_eq_false (fun e => hm (hs.1 e)), show replyB r = [] from if_neg hm, if_neg hm]
    repeat' (first | (refine go1 ?_; intros) | (refine goCC ?_ ?_ <;> (intro hb; (try simp only [hSQ] at hb); try (exfalso; omega))) | fail)
    exact ⟨_, (sei w0 _ L).trans ((se_own_nil 5 1 L).ent w0), none, 0, rfl, rfl⟩
end Go.Proofs.Ytgffejpcldeklaa
namespace Go.Proofs.Ytgffejpcldeklaa
open Go Go.RowKit
open Classical

theorem rsame22_vc (w0 : World) (L : List Asn) (r o : Rp) (h : r.ok) (k : o.ok) [hr : RdC w0 L r.prf.va (bvs r.prf.vl)] [hq : RdC w0 L o.prf.va (bvs o.prf.vl)] [hr2 : RdC w0 L r.prf.pa (bvs r.prf.pl.flatten)] [hq2 : RdC w0 L o.prf.pa (bvs o.prf.pl.flatten)] :
    VC Try.prog w0 11 [.agg r.cells.toArray, .agg o.cells.toArray] L fun v L' => v = .bool (decide (r.same o)) ∧ L' = L := by
  have hcl := Rp.len h
  have f0 := Rp.f0 h
  have f1 := Rp.f1 h
  have f2 := Rp.f2 h
  have f3 := Rp.f3 h
  have f4 := Rp.f4 h
  have f5 := Rp.f5 h
  have f6 := Rp.f6 h
  have f7 := Rp.f7 h
  have f8 := Rp.f8 h
  have kcl := Rp.len k
  have k0 := Rp.f0 k
  have k1 := Rp.f1 k
  have k2 := Rp.f2 k
  have k3 := Rp.f3 k
  have k4 := Rp.f4 k
  have k5 := Rp.f5 k
  have k6 := Rp.f6 k
  have k7 := Rp.f7 k
  have k8 := Rp.f8 k
  have hpl := Prf.len h.prf
  have kpl := Prf.len k.prf
  have hrl := Rec.len h.rc
  have krl := Rec.len k.rc
  have hdl := h.dig
  have kdl := k.dig
  have hil : (Value.bool r.gap :: r.ev.cells).length = 101 := by simp [Evt.len h.hd]
  have kil : (Value.bool o.gap :: o.ev.cells).length = 101 := by simp [Evt.len k.hd]
  haveI hoc : OC r.cells := oc_rp r
  haveI koc : OC o.cells := oc_rp o
  have hitf := it_fits r.gap h.hd
  have kitf := it_fits o.gap k.hd
  have hrcf := Rec.fitsR h.rc
  have krcf := Rec.fitsR k.rc
  have hiti : Value.bool r.gap :: r.ev.cells = Value.bool o.gap :: o.ev.cells ↔ r.gap = o.gap ∧ r.ev = o.ev := by
    rw [List.cons.injEq, Evt.inj h.hd k.hd]
    simp
  have hrci := Rec.injR h.rc k.rc
  have haci : ([.int .u64 r.nonce, .int .u64 r.bal] : List Value) = [.int .u64 o.nonce, .int .u64 o.bal] ↔ r.nonce = o.nonce ∧ r.bal = o.bal := by
    simp only [List.cons.injEq, Value.int.injEq, true_and, and_true]
    omega
  refine vc_ent ?_
  refine vc_in rfl rfl ?_
  generalize r.cells = rcs at *
  generalize o.cells = ocs at *
  generalize hri : Value.bool r.gap :: r.ev.cells = ri at *
  generalize hoi : Value.bool o.gap :: o.ev.cells = oi at *
  repeat' (first | (refine go1 ?_; intros) | (refine goCC ?_ ?_ <;> (intro hb; (try simp only [hSQ] at hb); try (exfalso; omega))) | fail)
  all_goals first | (refine ⟨_, sei _ _ L, congrArg Value.bool (decide_eq_false (p := Rp.same r o) (fun e => ?_)).symm, rfl⟩; obtain ⟨e1, e2, e3, e4, e5, e6, e7, e8, e9⟩ := e; first | exact hb (by rw [e2]) | exact hb e3 | exact hb e4 | exact hb e5 | exact hb e6 | exact hb e7 | exact hb e8 | exact hb e9) | skip
  refine vl_q rfl rfl rfl rfl (vq_eqCells rfl rfl (acc_fits _ _) (acc_fits _ _) haci) ?_
  repeat' (first | (refine go1 ?_; intros) | (refine goCC ?_ ?_ <;> (intro hb; (try simp only [hSQ] at hb); try (exfalso; omega))) | fail)
  all_goals first | (refine ⟨_, sei _ _ L, congrArg Value.bool (decide_eq_false (p := Rp.same r o) (fun e => ?_)).symm, rfl⟩; obtain ⟨e1, e2, e3, e4, e5, e6, e7, e8, e9⟩ := e; first | exact hb (by rw [e2]) | exact hb e3 | exact hb e4 | exact hb e5 | exact hb e6 | exact hb e7 | exact hb e8 | exact hb e9) | skip
  refine vl_q rfl rfl rfl rfl (vq_eqCells rfl rfl hrcf krcf hrci) ?_
  repeat' (first | (refine go1 ?_; intros) | (refine goCC ?_ ?_ <;> (intro hb; (try simp only [hSQ] at hb); try (exfalso; omega))) | fail)
  all_goals first | (refine ⟨_, sei _ _ L, congrArg Value.bool (decide_eq_false (p := Rp.same r o) (fun e => ?_)).symm, rfl⟩; obtain ⟨e1, e2, e3, e4, e5, e6, e7, e8, e9⟩ := e; first | exact hb (by rw [e2]) | exact hb e3 | exact hb e4 | exact hb e5 | exact hb e6 | exact hb e7 | exact hb e8 | exact hb e9) | skip
  refine clV ?_
  refine vc_mono (same7_vc w0 _ r.prf o.prf h.prf k.prf) ?_
  rintro v L' ⟨rfl, rfl⟩
  by_cases hp : r.prf.key = o.prf.key ∧ r.prf.kind = o.prf.kind ∧ r.prf.other = o.prf.other ∧ r.prf.vl = o.prf.vl ∧ r.prf.pl = o.prf.pl
  rotate_left
  · rw [decide_eq_false hp]
    repeat' (first | (refine go1 ?_; intros) | (refine goCC ?_ ?_ <;> (intro hb; (try simp only [hSQ] at hb); try (exfalso; omega))) | fail)
    exact ⟨_, sei _ _ L, by rw [decide_eq_false (fun e => hp e.1)], rfl⟩
  rw [decide_eq_true hp]
  repeat' (first | (refine go1 ?_; intros) | (refine goCC ?_ ?_ <;> (intro hb; (try simp only [hSQ] at hb); try (exfalso; omega))) | fail)
  all_goals first | (refine ⟨_, sei _ _ L, congrArg Value.bool (decide_eq_false (p := Rp.same r o) (fun e => ?_)).symm, rfl⟩; obtain ⟨e1, e2, e3, e4, e5, e6, e7, e8, e9⟩ := e; first | exact hb (by rw [e2]) | exact hb e3 | exact hb e4 | exact hb e5 | exact hb e6 | exact hb e7 | exact hb e8 | exact hb e9) | skip
  refine vl_q rfl rfl rfl rfl (vq_eqCells rfl rfl hitf kitf hiti) ?_
  repeat' (first | (refine go1 ?_; intros) | (refine goCC ?_ ?_ <;> (intro hb; (try simp only [hSQ] at hb); try (exfalso; omega))) | fail)
  rename_i b1 b2 b3 b4 b5 b6
  have c1 : r.kind = o.kind := UInt8.toNat_inj.1 (by omega)
  exact ⟨_, sei _ _ L, congrArg Value.bool (decide_eq_decide.2 ⟨fun e => ⟨hp, c1, b2, b3, b4, b5, b6, hb, e⟩, fun e => e.2.2.2.2.2.2.2.2⟩), rfl⟩
end Go.Proofs.Ytgffejpcldeklaa
namespace Go.Proofs.Ytgffejpcldeklaa
open Go Go.RowKit
open Classical

/-- A reply of whatever length. -/
structure Rp.ok0 (r : Rp) : Prop where
  code : I64 r.code
  height : I64 r.height
  dig : r.dig.length = 32
  nonce : r.nonce < 18446744073709551616
  bal : r.bal < 18446744073709551616
  rc : r.rc.ok
  recc : I64 r.rc.code
  prf : r.prf.ok0
  sub : I64 r.sub
  num : I64 r.ev.num
  hd : r.ev.hd.ok
  hdh : I64 r.ev.hd.height
  hdm : I64 r.ev.hd.many
theorem Rp.ok0.len {r : Rp} (h : r.ok0) : r.cells.length = 240 := by simp [Rp.cells, Evt.len h.hd, Rec.len h.rc, h.prf.len, h.dig]
theorem Rp.ok0.f6 {r : Rp} (h : r.ok0) : (r.cells.drop (0 + 71)).take 67 = r.prf.cells := cutL (post := .int .i64 r.sub :: .bool r.gap :: r.ev.cells) (pre := .int .u8 (r.kind.toNat : Nat) :: .int .i64 r.code :: .int .i64 r.height :: (bvs r.dig ++ (.int .u64 r.nonce :: .int .u64 r.bal :: r.rc.cells))) (by simp [Rp.cells]) (by simp [h.dig, Rec.len h.rc]) h.prf.len
theorem Rp.ok0.ok {r : Rp} (h : r.ok0) (hv : r.prf.vl.length ≤ 100) (hp : r.prf.pl.length ≤ 300) : r.ok := ⟨h.code, h.height, h.dig, h.nonce, h.bal, h.rc, h.recc, ⟨h.prf.key, h.prf.kind, h.prf.other, h.prf.dg, by omega, by omega⟩, h.sub, h.num, h.hd, h.hdh, h.hdm⟩
end Go.Proofs.Ytgffejpcldeklaa

/-
  The header of bytes (the program's), whatever they are. Parts of any kind, of any thing that is held: they are put behind each other. A reply's parts, as the program makes them. A reply's parts, as the program lists them; each is well. A reply's parts are well: read, and put.
-/
import Derived.Test.YtgffejpcldeklaaGRA
import Derived.Test.YtgffejpcldeklaaGHA
import Derived.Test.YtgffejpcldeklaaWirM
import Derived.Test.YtgffejpcldeklaaWirI
import Derived.Test.YtgffejpcldeklaaGP
import Derived.Test.YtgffejpcldeklaaGHB
set_option linter.unusedVariables false
set_option linter.unusedSimpArgs false
set_option linter.unusedSectionVars false
set_option maxRecDepth 100000
set_option maxHeartbeats 4000000
namespace Go.Proofs.Ytgffejpcldeklaa
open Go Go.RowKit
open Classical

section
variable {h : Hd} (o : h.ok)
include o
theorem Hd.sp0 (v : Int) : splice h.cells (0 + 0) [.int .i64 v] = (Hd.mk v h.parent h.state h.rows h.many).cells := setL (pre := []) (xs := [_]) rfl rfl rfl rfl
theorem Hd.sp1 {d : List UInt8} (hd : d.length = 32) : splice h.cells (0 + 1) (bvs d) = (Hd.mk h.height d h.state h.rows h.many).cells := setL (pre := [_]) (xs := bvs h.parent) (post := bvs h.state ++ (bvs h.rows ++ [.int .i64 h.many])) rfl rfl (by simp [hd, o.parent]) rfl
theorem Hd.sp2 {d : List UInt8} (hd : d.length = 32) : splice h.cells (0 + 33) (bvs d) = (Hd.mk h.height h.parent d h.rows h.many).cells := setL (pre := .int .i64 h.height :: bvs h.parent) (xs := bvs h.state) (post := bvs h.rows ++ [.int .i64 h.many]) rfl (by simp [o.parent]) (by simp [hd, o.state]) rfl
theorem Hd.sp3 {d : List UInt8} (hd : d.length = 32) : splice h.cells (0 + 65) (bvs d) = (Hd.mk h.height h.parent h.state d h.many).cells := setL (pre := .int .i64 h.height :: (bvs h.parent ++ bvs h.state)) (xs := bvs h.rows) (post := [.int .i64 h.many]) (by simp [Hd.cells]) (by simp [o.parent, o.state]) (by simp [hd, o.rows]) (by simp [Hd.cells])
theorem Hd.sp4 (v : Int) : splice h.cells (0 + 97) [.int .i64 v] = (Hd.mk h.height h.parent h.state h.rows v).cells := setL (pre := .int .i64 h.height :: (bvs h.parent ++ (bvs h.state ++ bvs h.rows))) (xs := [.int .i64 h.many]) (post := []) (by simp [Hd.cells]) (by simp [o.parent, o.state, o.rows]) rfl (by simp [Hd.cells])
end
theorem zeroHd_eq : zeroHd = hd0 := rfl
/-- A header so far as it is read. -/
def hdAt (l : List UInt8) (i : Nat) : Hd := ⟨0, if 1 ≤ i then (l.drop 8).take 32 else List.replicate 32 0, if 2 ≤ i then (l.drop 40).take 32 else List.replicate 32 0, if 3 ≤ i then (l.drop 72).take 32 else List.replicate 32 0, 0⟩
theorem hdAt_ok {l : List UInt8} (h : l.length = 108) (i : Nat) : (hdAt l i).ok := by
  unfold hdAt
  refine ⟨?_, ?_, ?_⟩
  all_goals
    dsimp only
    split <;> simp [h]
theorem hread_vc (w0 : World) (L : List Asn) (a : Option Addr) (cap : Nat) (l : List UInt8) {n : Nat} (hn : n = l.length) (h : l.length = 108) (hcap : l.length ≤ cap) [hr : RdC w0 L a (bvs l)] :
    VC Try.prog w0 44 [.slice a n cap] L fun v L' => v = .tuple #[.agg (hdRead l).1.cells.toArray, .int .i64 (hdRead l).2] ∧ L' = L := by
  subst hn
  have hlen := Hd.len zeroHd_ok
  have hq : hdRead l = if numOf (l.take 8) ≤ 1073741824 ∧ numOf (l.drop 104) ≤ 256 then (hdOf l, 0) else (hd0, 8) := by
    unfold hdRead
    rw [if_neg (by omega), if_neg (by omega)]
    by_cases hc : numOf (l.take 8) ≤ 1073741824 ∧ numOf (l.drop 104) ≤ 256
    · rw [if_pos hc, if_pos]
      exact decide_eq_true ⟨by show (0 : Int) ≤ (numOf (l.take 8) : Int); omega, by show (numOf (l.take 8) : Int) ≤ _; omega, by show (0 : Int) ≤ (numOf (l.drop 104) : Int); omega, by show (numOf (l.drop 104) : Int) ≤ _; omega⟩
    · rw [if_neg hc, if_neg]
      intro hm
      have hm := of_decide_eq_true hm
      have q1 : (numOf (l.take 8) : Int) ≤ 1073741824 := hm.2.1
      have q2 : (numOf (l.drop 104) : Int) ≤ 256 := hm.2.2.2
      exact hc ⟨by omega, by omega⟩
  refine vc_ent ?_
  refine vc_in rfl rfl ?_
  repeat' (first | (refine go1 ?_; intros) | (refine goCC ?_ ?_ <;> (intro hb; (try simp only [hSQ] at hb); try (exfalso; omega))) | fail)
  refine clV ?_
  refine vc_mono (take_vc w0 _ a cap l 8 rfl (by decide) (by decide) (by omega) hcap (by omega)) ?_
  rintro v L' ⟨a1, c1, hc1, rfl, rfl⟩
  have hN64 : numOf (l.take 8) < 18446744073709551616 := numOf_lt _
  obtain ⟨N, hN⟩ : ∃ N, N = numOf (l.take 8) := ⟨_, rfl⟩
  rw [← hN] at hN64 ⊢
  repeat' (first | (refine goW ?_; intros) | (refine goCC ?_ ?_ <;> (intro hb; (try simp only [hSQ] at hb); try (exfalso; omega))) | fail)
  rename_i g2 _ g7
  have hdl : (l.drop 8).length = 100 := by simp; omega
  refine v_loopF (Nat × Option Addr × Nat) [2, 4, 7] rfl (fun x => [(33, .int .i64 x.1), (5, .slice x.2.1 (l.drop (8 + 32 * x.1)).length x.2.2)]) (fun _ x => blk g7 125 [.pointer (some ⟨g2, 0 + 1, none⟩), .pointer (some ⟨g2, 0 + 33, none⟩), .pointer (some ⟨g2, 0 + 65, none⟩)] :: blk g2 35 (hdAt l x.1).cells :: ownB a1 c1 (l.drop 8) :: L)
    (fun x => x.1 ≤ 3 ∧ (l.drop (8 + 32 * x.1)).length ≤ x.2.2 ∧ RdC w0 (ownB a1 c1 (l.drop 8) :: L) x.2.1 (bvs (l.drop (8 + 32 * x.1)))) (fun x => 3 - x.1)
    (0, a1, c1) ⟨Nat.zero_le _, by dsimp only; rw [show 8 + 32 * 0 = 8 from rfl]; omega, by dsimp only; exact inferInstance⟩ (by dsimp only; rw [show 8 + 32 * 0 = 8 from rfl, hdl, show (100 : Nat) = l.length - 8 by omega]; (exact sbS)) ((SE.cons _ (se_swap _ _ _)).ent w0) ?_
  rintro ⟨i, a', c'⟩ ⟨hi, hyc, hry⟩
  dsimp only at hi hyc hry ⊢
  have hyl : (l.drop (8 + 32 * i)).length = 100 - 32 * i := by rw [List.length_drop]; omega
  have hnext : (l.drop (8 + 32 * i)).drop 32 = l.drop (8 + 32 * (i + 1)) := by rw [List.drop_drop]; congr 1
  obtain ⟨ys, hys⟩ : ∃ ys, ys = l.drop (8 + 32 * i) := ⟨_, rfl⟩
  rw [← hys] at hyl hyc hry hnext ⊢
  obtain ⟨zs, hzs⟩ : ∃ zs, ys.take (min ys.length 32) = zs := ⟨_, rfl⟩
  have hm : min ys.length 32 = 32 ∨ i = 3 := by omega
  rcases (show i = 0 ∨ i = 1 ∨ i = 2 ∨ i = 3 by omega) with rfl | rfl | rfl | rfl
  · obtain ⟨J, hJ⟩ : ∃ J, J = 0 := ⟨_, rfl⟩
    obtain ⟨O, hO⟩ : ∃ O, O = 0 + 1 := ⟨_, rfl⟩
    have hsp : splice (hdAt l J).cells O (bvs zs) = (hdAt l (J + 1)).cells := by
      subst hJ hO
      rw [Hd.sp1 (hdAt_ok h 0) (by rw [← hzs, List.length_take]; omega), ← hzs, show min ys.length 32 = 32 by omega, hys]
      rfl
    rw [show hdAt l 0 = hdAt l J by rw [hJ]]
    have hm32 : min ys.length 32 = 32 := by omega
    have hok := hdAt_ok h J
    have hln := Hd.len hok
    have hln2 := Hd.len (hdAt_ok h (J + 1))
    obtain ⟨cs, hcs⟩ : ∃ cs, cs = (hdAt l J).cells := ⟨_, rfl⟩
    obtain ⟨cs', hcs2⟩ : ∃ cs', cs' = (hdAt l (J + 1)).cells := ⟨_, rfl⟩
    rw [← hcs] at hln ⊢
    rw [← hcs2] at hln2
    have hzl : zs.length = min ys.length 32 := by rw [← hzs, List.length_take]; omega
    have hcs' : splice cs O (bvs zs) = cs' := by rw [hcs, hcs2]; exact hsp
    have hfit : O + zs.length ≤ cs.length := by omega
    haveI hrd : RdC w0 (ownB a1 c1 (l.drop 8) :: L) (subA a' 32 c' 1) (bvs (ys.drop 32)) := rd_drop 32 c' hyc
    subst hO
    repeat' (first | (refine go1 ?_; intros) | (refine goCC ?_ ?_ <;> (intro hb; (try simp only [hSQ] at hb); try (exfalso; omega))) | fail)
    rw [hm32]
    refine ⟨rfl, (1, subA a' 32 c' 1, c' - 32), ⟨by dsimp only; omega, by dsimp only; rw [← hnext, List.length_drop]; omega, by dsimp only; rw [← hnext]; exact hrd⟩, by dsimp only; omega, ?_, ?_⟩
    · dsimp only
      rw [← hnext, List.length_drop]
      (exact sbS)
    · dsimp only
      rw [hcs2, hJ]
      exact Ent.refl _ _
  · obtain ⟨J, hJ⟩ : ∃ J, J = 1 := ⟨_, rfl⟩
    obtain ⟨O, hO⟩ : ∃ O, O = 0 + 33 := ⟨_, rfl⟩
    have hsp : splice (hdAt l J).cells O (bvs zs) = (hdAt l (J + 1)).cells := by
      subst hJ hO
      rw [Hd.sp2 (hdAt_ok h 1) (by rw [← hzs, List.length_take]; omega), ← hzs, show min ys.length 32 = 32 by omega, hys]
      rfl
    rw [show hdAt l 1 = hdAt l J by rw [hJ]]
    have hm32 : min ys.length 32 = 32 := by omega
    have hok := hdAt_ok h J
    have hln := Hd.len hok
    have hln2 := Hd.len (hdAt_ok h (J + 1))
    obtain ⟨cs, hcs⟩ : ∃ cs, cs = (hdAt l J).cells := ⟨_, rfl⟩
    obtain ⟨cs', hcs2⟩ : ∃ cs', cs' = (hdAt l (J + 1)).cells := ⟨_, rfl⟩
    rw [← hcs] at hln ⊢
    rw [← hcs2] at hln2
    have hzl : zs.length = min ys.length 32 := by rw [← hzs, List.length_take]; omega
    have hcs' : splice cs O (bvs zs) = cs' := by rw [hcs, hcs2]; exact hsp
    have hfit : O + zs.length ≤ cs.length := by omega
    haveI hrd : RdC w0 (ownB a1 c1 (l.drop 8) :: L) (subA a' 32 c' 1) (bvs (ys.drop 32)) := rd_drop 32 c' hyc
    subst hO
    repeat' (first | (refine go1 ?_; intros) | (refine goCC ?_ ?_ <;> (intro hb; (try simp only [hSQ] at hb); try (exfalso; omega))) | fail)
    rw [hm32]
    refine ⟨rfl, (2, subA a' 32 c' 1, c' - 32), ⟨by dsimp only; omega, by dsimp only; rw [← hnext, List.length_drop]; omega, by dsimp only; rw [← hnext]; exact hrd⟩, by dsimp only; omega, ?_, ?_⟩
    · dsimp only
      rw [← hnext, List.length_drop]
      (exact sbS)
    · dsimp only
      rw [hcs2, hJ]
      exact Ent.refl _ _
  · obtain ⟨J, hJ⟩ : ∃ J, J = 2 := ⟨_, rfl⟩
    obtain ⟨O, hO⟩ : ∃ O, O = 0 + 65 := ⟨_, rfl⟩
    have hsp : splice (hdAt l J).cells O (bvs zs) = (hdAt l (J + 1)).cells := by
      subst hJ hO
      rw [Hd.sp3 (hdAt_ok h 2) (by rw [← hzs, List.length_take]; omega), ← hzs, show min ys.length 32 = 32 by omega, hys]
      rfl
    rw [show hdAt l 2 = hdAt l J by rw [hJ]]
    have hm32 : min ys.length 32 = 32 := by omega
    have hok := hdAt_ok h J
    have hln := Hd.len hok
    have hln2 := Hd.len (hdAt_ok h (J + 1))
    obtain ⟨cs, hcs⟩ : ∃ cs, cs = (hdAt l J).cells := ⟨_, rfl⟩
    obtain ⟨cs', hcs2⟩ : ∃ cs', cs' = (hdAt l (J + 1)).cells := ⟨_, rfl⟩
    rw [← hcs] at hln ⊢
    rw [← hcs2] at hln2
    have hzl : zs.length = min ys.length 32 := by rw [← hzs, List.length_take]; omega
    have hcs' : splice cs O (bvs zs) = cs' := by rw [hcs, hcs2]; exact hsp
    have hfit : O + zs.length ≤ cs.length := by omega
    haveI hrd : RdC w0 (ownB a1 c1 (l.drop 8) :: L) (subA a' 32 c' 1) (bvs (ys.drop 32)) := rd_drop 32 c' hyc
    subst hO
    repeat' (first | (refine go1 ?_; intros) | (refine goCC ?_ ?_ <;> (intro hb; (try simp only [hSQ] at hb); try (exfalso; omega))) | fail)
    rw [hm32]
    refine ⟨rfl, (3, subA a' 32 c' 1, c' - 32), ⟨by dsimp only; omega, by dsimp only; rw [← hnext, List.length_drop]; omega, by dsimp only; rw [← hnext]; exact hrd⟩, by dsimp only; omega, ?_, ?_⟩
    · dsimp only
      rw [← hnext, List.length_drop]
      (exact sbS)
    · dsimp only
      rw [hcs2, hJ]
      exact Ent.refl _ _
  · haveI := hry
    have hok := hdAt_ok h 3
    have hln := Hd.len hok
    have e0 := fun v => Hd.sp0 hok v
    have e4 := fun v m => Hd.sp4 (h := Hd.mk v (hdAt l 3).parent (hdAt l 3).state (hdAt l 3).rows (hdAt l 3).many) ⟨hok.parent, hok.state, hok.rows⟩ m
    have hf0 : ∀ v m, (Hd.mk v (hdAt l 3).parent (hdAt l 3).state (hdAt l 3).rows m).cells.length = 98 := fun v m => Hd.len (h := Hd.mk v (hdAt l 3).parent (hdAt l 3).state (hdAt l 3).rows m) ⟨hok.parent, hok.state, hok.rows⟩
    obtain ⟨cs, hcs⟩ : ∃ cs, cs = (hdAt l 3).cells := ⟨_, rfl⟩
    rw [← hcs] at hln e0 ⊢
    repeat' (first | (refine go1 ?_; intros) | (refine goCC ?_ ?_ <;> (intro hb; (try simp only [hSQ] at hb); try (exfalso; omega))) | fail)
    refine clV ?_
    refine vc_mono (take_vc w0 _ a' c' ys 4 rfl (by decide) (by decide) (by omega) hyc (by omega)) ?_
    rintro v L' ⟨a9, c9, hc9, rfl, rfl⟩
    rw [show ys.take 4 = l.drop 104 by rw [List.take_of_length_le (by omega), hys]]
    have hM64 : numOf (l.drop 104) < 18446744073709551616 := numOf_lt _
    obtain ⟨M, hM⟩ : ∃ M, M = numOf (l.drop 104) := ⟨_, rfl⟩
    rw [← hN, ← hM] at hq
    rw [← hM] at hM64 ⊢
    rw [hq]
    by_cases hc : N ≤ 1073741824 ∧ M ≤ 256
    · rw [if_pos hc]
      obtain ⟨hc1, hc2⟩ := hc
      have hH : hdOf l = Hd.mk (N : Int) (hdAt l 3).parent (hdAt l 3).state (hdAt l 3).rows (M : Int) := by
        rw [hN, hM]
        rfl
      rw [hH]
      have hsl : (splice cs (0 + 0) [.int .i64 (N : Int)]).length = 98 := by rw [e0]; exact hf0 _ _
      have hsl2 : 0 + 97 + [Value.int .i64 (M : Int)].length ≤ (splice cs (0 + 0) [.int .i64 (N : Int)]).length := by
        rw [hsl]
        show 0 + 97 + 1 ≤ 98
        omega
      repeat' (first | (refine go1 ?_; intros) | (refine goCC ?_ ?_ <;> (intro hb; (try simp only [hSQ] at hb); try (exfalso; omega))) | fail)
      all_goals first | (exfalso; omega) | skip
      rw [e0, e4]
      have hl9 := hf0 (N : Int) (M : Int)
      repeat' (first | (refine go1 ?_; intros) | (refine goCC ?_ ?_ <;> (intro hb; (try simp only [hSQ] at hb); try (exfalso; omega))) | fail)
      exact ⟨L, sei _ _ _, rfl, rfl⟩
    · rw [if_neg hc, ← zeroHd_eq]
      repeat' (first | (refine go1 ?_; intros) | (refine goCC ?_ ?_ <;> (intro hb; (try simp only [hSQ] at hb); try (exfalso; omega))) | fail)
      all_goals first | (exfalso; omega) | exact ⟨L, sei _ _ _, rfl, rfl⟩
end Go.Proofs.Ytgffejpcldeklaa
namespace Go.Proofs.Ytgffejpcldeklaa
open Go Go.RowKit
open Classical

/-- Bytes that a closure tells. -/
def RTell (w0 : World) (D : List UInt8) (L : List Asn) (v : Value) (L' : List Asn) : Prop := ∃ a' c' P, v = .slice a' D.length c' ∧ (∀ M, RdC w0 (P :: M) a' (bvs D)) ∧ L' = P :: L
theorem RTell.none' (w0 : World) (L : List Asn) {M : List Asn} (h : Ent w0 M L) : ∃ L', Ent w0 M L' ∧ RTell w0 [] L (.slice none 0 0) L' :=
  ⟨_, h.trans ((se_own_nil 5 1 L).ent w0), none, 0, _, rfl, fun M => rdC_nil _ _ _, rfl⟩
/-- What a part's bytes are, by what is held. -/
def PK.PutOk {S : Type} (w0 : World) (Hs : List Asn) (D : List UInt8) : PK S → Prop
  | .num g off size most set => ∃ i T cs, ∃ n : Nat, HasBlk Hs g i T cs ∧ cs[off]? = some (.int .i64 (n : Int)) ∧ n < 9223372036854775808 ∧ ((0 < size ∧ size ≤ 8 ∧ n < 256 ^ size ∧ D = digs n size) ∨ (size = 4 ∧ 4294967296 ≤ n ∧ D = []))
  | .dig g off set => ∃ i T cs, HasBlk Hs g i T cs ∧ (cs.drop off).take 32 = bvs D ∧ D.length = 32
  | .flg g off set => ∃ i T cs, ∃ b : Bool, HasBlk Hs g i T cs ∧ cs[off]? = some (.bool b) ∧ D = [if b = true then 1 else 0]
  | .byt fto fread c size rd => FnB Try.prog fto ∧ D.length ≤ 1000 ∧ ∀ L : List Asn, VC Try.prog w0 fto [c] (Hs ++ L) (RTell w0 D (Hs ++ L))
theorem flat_take {Ds : List (List UInt8)} {i : Nat} (hi : i < Ds.length) : (Ds.take (i + 1)).flatten = (Ds.take i).flatten ++ Ds[i] := by
  rw [List.take_succ_eq_append_getElem hi, List.flatten_append]
  simp
theorem PK.PutOk.len {S : Type} {w0 : World} {Hs : List Asn} {D : List UInt8} {p : PK S} (h : p.PutOk w0 Hs D) : D.length ≤ 1000 := by
  cases p with
  | num g off size most set =>
    obtain ⟨_, _, _, n, _, _, _, ⟨_, h8, _, rfl⟩ | ⟨_, _, rfl⟩⟩ := h
    · rw [digs_length]; omega
    · exact Nat.zero_le _
  | dig g off set =>
    obtain ⟨_, _, _, _, _, h⟩ := h
    omega
  | flg g off set =>
    obtain ⟨_, _, _, b, _, _, rfl⟩ := h
    simp
  | byt fto fread c size rd => exact h.2.1
theorem kput_vc {S : Type} (w0 : World) (L Hs : List Asn) (ab : Option Addr) (cb : Nat) (B : List UInt8) (ap : Option Addr) (cp : Nat) (ps : List (PK S)) (Ds : List (List UInt8)) (hlen : Ds.length = ps.length) (hok : ∀ i (h1 : i < ps.length) (h2 : i < Ds.length), ps[i].PutOk w0 Hs Ds[i]) (hl : B.length ≤ 1000) (hpl : ps.length ≤ 10) {nb m : Nat} (hnb : nb = B.length) (hm : m = ps.length) :
    VC Try.prog w0 15 [.slice ab nb cb, .slice ap m cp] (ownB ab cb B :: ownG ap cp ps :: (Hs ++ L)) fun v L' => ∃ a' c', v = .slice a' (B ++ Ds.flatten).length c' ∧ L' = ownB a' c' (B ++ Ds.flatten) :: ownG ap cp ps :: (Hs ++ L) := by
  subst hnb
  subst hm
  have hbn : ∀ i, i ≤ ps.length → ((Ds.take i).flatten).length ≤ i * 1000 := by
    intro i
    induction i with
    | zero => intro _; simp
    | succ i ih =>
      intro hi
      have := ih (by omega)
      rw [flat_take (by omega), List.length_append]
      have := (hok i (by omega) (by omega)).len
      omega
  refine vc_ent ?_
  refine vc_in rfl rfl ?_
  repeat' (first | (refine go1 ?_; intros) | (refine goCC ?_ ?_ <;> (intro hb; (try simp only [hSQ] at hb); try (exfalso; omega))) | fail)
  refine v_loopF (Nat × Option Addr × Nat) [14, 15] rfl (fun x => [(16, .int .i64 x.1), (0, .slice x.2.1 (B ++ (Ds.take x.1).flatten).length x.2.2)]) (fun _ x => ownB x.2.1 x.2.2 (B ++ (Ds.take x.1).flatten) :: ownG ap cp ps :: (Hs ++ L)) (fun x => x.1 ≤ ps.length) (fun x => ps.length - x.1) (0, ab, cb) (Nat.zero_le _) ?_ ?_ ?_
  · simp only [List.take_zero, List.flatten_nil, List.append_nil]
    (exact sbS)
  · simp only [List.take_zero, List.flatten_nil, List.append_nil]
    exact Ent.refl _ _
  rintro ⟨i, a1, c1⟩ hi
  dsimp only at hi ⊢
  by_cases hlt : i < ps.length
  rotate_left
  · obtain rfl : i = ps.length := by omega
    rw [List.take_of_length_le (by omega)]
    repeat' (first | (refine go1 ?_; intros) | (refine goCC ?_ ?_ <;> (intro hb; (try simp only [hSQ] at hb); try (exfalso; omega))) | fail)
    exact ⟨_, Ent.refl _ _, a1, c1, rfl, rfl⟩
  have hlt2 : i < Ds.length := by omega
  have hst : B ++ (Ds.take (i + 1)).flatten = (B ++ (Ds.take i).flatten) ++ Ds[i] := by rw [flat_take hlt2, List.append_assoc]
  have hbi := hbn i hi
  have hTl : (B ++ (Ds.take i).flatten).length ≤ 12000 := by
    rw [List.length_append]
    omega
  have hv : (ps.map PK.val)[i]? = some (PK.val ps[i]) := by simp [hlt]
  have hvp : 0 < (ps.map PK.val).length := by simp; omega
  have hpo := hok i hlt hlt2
  have hDl := hpo.len
  generalize B ++ (Ds.take i).flatten = T at *
  generalize hp : ps[i] = p at *
  generalize Ds[i] = D at *
  unfold ownG
  cases p with
  | num g off size most set =>
    obtain ⟨ib, Tb, cs, n, hb1, hb2, hb3, hb4⟩ := hpo
    rw [show PK.val (PK.num g off size most set) = .iface 69 (.agg #[.pointer (some ⟨g, off, none⟩), .int .i64 size, .int .i64 most]) from rfl] at hv
    generalize (ps.map PK.val) = vals at *
    haveI hbI : HasBlk (Hs ++ L) g ib Tb cs := hasBlk_app hb1
    rcases hb4 with ⟨z1, z2, z3, rfl⟩ | ⟨rfl, z2, rfl⟩
    · have hD := digs_length n size
      repeat' (first | (refine go1 ?_; intros) | (refine goCC ?_ ?_ <;> (intro hb; (try simp only [hSQ] at hb); try (exfalso; omega))) | fail)
      refine vl_q rfl rfl rfl rfl (vq_asT rfl) ?_
      repeat' (first | (refine go1 ?_; intros) | (refine goCC ?_ ?_ <;> (intro hb; (try simp only [hSQ] at hb); try (exfalso; omega))) | fail)
      (refine v_draw0 [] (by kernel_rfl) ?_ <;> (refine tA 0 ?_) <;> (refine tA 1 ?_) <;> (refine tA 2 ?_) <;> (refine tA 3 ?_) <;> (refine tA 4 ?_) <;> (refine tA 5 ?_) <;> (refine tA 6 ?_))
      first | refine va_one 7 (by kernel_rfl) rfl rfl (vo_call rfl rfl ?_) | refine va_one 7 (by kernel_rfl) rfl rfl (vo_callV rfl rfl rfl ?_)
      refine vc_mono (put_vc w0 _ n size z1 z2 z3) ?_
      rintro v L' ⟨a2, c2, rfl, rfl⟩
      generalize digs n size = D at *
      refine ⟨.inr entD, ?_⟩
      ((refine tA 8 ?_) <;> (refine tA 9 ?_) <;> (refine tA 10 ?_) <;> (refine tA 11 ?_) <;> (refine tA 12 ?_) <;> (refine va_done (by kernel_rfl) ?_))
      repeat' (first | (refine go1 ?_; intros) | (refine goCC ?_ ?_ <;> (intro hb; (try simp only [hSQ] at hb); try (exfalso; omega))) | fail)
      rename_i a3 c3 _ _
      refine ⟨rfl, (i + 1, a3, c3), by dsimp only; omega, by dsimp only; omega, ?_, ?_⟩
      · dsimp only
        rw [hst, List.length_append, hD]
        (exact sbS)
      · dsimp only
        rw [hst, own_app a3 c3 T _ _ hD]
        exact sei _ _ _
    · have hD : ([] : List UInt8).length = 0 := rfl
      repeat' (first | (refine go1 ?_; intros) | (refine goCC ?_ ?_ <;> (intro hb; (try simp only [hSQ] at hb); try (exfalso; omega))) | fail)
      refine vl_q rfl rfl rfl rfl (vq_asT rfl) ?_
      repeat' (first | (refine go1 ?_; intros) | (refine goCC ?_ ?_ <;> (intro hb; (try simp only [hSQ] at hb); try (exfalso; omega))) | fail)
      (refine v_draw0 [] (by kernel_rfl) ?_ <;> (refine tA 0 ?_) <;> (refine tA 1 ?_) <;> (refine tA 2 ?_) <;> (refine tA 3 ?_) <;> (refine tA 4 ?_) <;> (refine tA 5 ?_) <;> (refine tA 6 ?_))
      first | refine va_one 7 (by kernel_rfl) rfl rfl (vo_call rfl rfl ?_) | refine va_one 7 (by kernel_rfl) rfl rfl (vo_callV rfl rfl rfl ?_)
      refine vc_mono (putBig_vc w0 _ n z2 (by omega)) ?_
      rintro v L' ⟨rfl, rfl⟩
      refine ⟨.inr entD, ?_⟩
      ((refine tA 8 ?_) <;> (refine tA 9 ?_) <;> (refine tA 10 ?_) <;> (refine tA 11 ?_) <;> (refine tA 12 ?_) <;> (refine va_done (by kernel_rfl) ?_))
      haveI rn : ∀ M, RdC w0 M none (bvs ([] : List UInt8)) := fun M => rdC_nil _ _ _
      repeat' (first | (refine go1 ?_; intros) | (refine goCC ?_ ?_ <;> (intro hb; (try simp only [hSQ] at hb); try (exfalso; omega))) | fail)
      rename_i a3 c3 _ _
      refine ⟨rfl, (i + 1, a3, c3), by dsimp only; omega, by dsimp only; omega, ?_, ?_⟩
      · dsimp only
        rw [hst, List.length_append, hD]
        (exact sbS)
      · dsimp only
        rw [hst, own_app a3 c3 T _ _ hD]
        exact sei _ _ _
  | dig g off set =>
    obtain ⟨ib, Tb, cs, hb1, hb2, hD⟩ := hpo
    rw [show PK.val (PK.dig g off set) = .iface 87 (.agg #[.pointer (some ⟨g, off, none⟩)]) from rfl] at hv
    generalize (ps.map PK.val) = vals at *
    haveI hbI : HasBlk (Hs ++ L) g ib Tb cs := hasBlk_app hb1
    haveI r2' : RdC w0 (Hs ++ L) (some ⟨g, off, none⟩) (bvs D) := rdC_part off 32 hb2
    have hD1 : D.length = 32 * 1 := hD
    repeat' (first | (refine go1 ?_; intros) | (refine goCC ?_ ?_ <;> (intro hb; (try simp only [hSQ] at hb); try (exfalso; omega))) | fail)
    refine vl_q rfl rfl rfl rfl (vq_asF rfl (by decide)) ?_
    repeat' (first | (refine go1 ?_; intros) | (refine goCC ?_ ?_ <;> (intro hb; (try simp only [hSQ] at hb); try (exfalso; omega))) | fail)
    refine vl_q rfl rfl rfl rfl (vq_asT rfl) ?_
    repeat' (first | (refine go1 ?_; intros) | (refine goCC ?_ ?_ <;> (intro hb; (try simp only [hSQ] at hb); try (exfalso; omega))) | fail)
    rename_i a3 c3 _ _
    refine ⟨rfl, (i + 1, a3, c3), by dsimp only; omega, by dsimp only; omega, ?_, ?_⟩
    · dsimp only
      rw [hst, List.length_append, hD]
      (exact sbS)
    · dsimp only
      rw [hst, own_app a3 c3 T _ _ hD]
      exact sei _ _ _
  | flg g off set =>
    obtain ⟨ib, Tb, cs, b, hb1, hb2, rfl⟩ := hpo
    rw [show PK.val (PK.flg g off set) = .iface 90 (.agg #[.pointer (some ⟨g, off, none⟩)]) from rfl] at hv
    generalize (ps.map PK.val) = vals at *
    haveI hbI : HasBlk (Hs ++ L) g ib Tb cs := hasBlk_app hb1
    cases b
    · have hD : ([0] : List UInt8).length = 1 := rfl
      have hst : _ = T ++ [0] := hst
      repeat' (first | (refine go1 ?_; intros) | (refine goCC ?_ ?_ <;> (intro hb; (try simp only [hSQ] at hb); try (exfalso; omega))) | fail)
      refine vl_q rfl rfl rfl rfl (vq_asF rfl (by decide)) ?_
      repeat' (first | (refine go1 ?_; intros) | (refine goCC ?_ ?_ <;> (intro hb; (try simp only [hSQ] at hb); try (exfalso; omega))) | fail)
      refine vl_q rfl rfl rfl rfl (vq_asF rfl (by decide)) ?_
      repeat' (first | (refine go1 ?_; intros) | (refine goCC ?_ ?_ <;> (intro hb; (try simp only [hSQ] at hb); try (exfalso; omega))) | fail)
      refine vl_q rfl rfl rfl rfl (vq_asT rfl) ?_
      repeat' (first | (refine go1 ?_; intros) | (refine goCC ?_ ?_ <;> (intro hb; (try simp only [hSQ] at hb); try (exfalso; omega))) | fail)
      rename_i a3 c3 _ _
      refine ⟨rfl, (i + 1, a3, c3), by dsimp only; omega, by dsimp only; omega, ?_, ?_⟩
      · dsimp only
        rw [hst, List.length_append, hD]
        (exact sbS)
      · dsimp only
        rw [hst, own_app a3 c3 T _ _ hD, show bvs ([0] : List UInt8) = [.int .u8 0] from rfl]
        exact sei _ _ _
    · have hD : ([1] : List UInt8).length = 1 := rfl
      have hst : _ = T ++ [1] := hst
      repeat' (first | (refine go1 ?_; intros) | (refine goCC ?_ ?_ <;> (intro hb; (try simp only [hSQ] at hb); try (exfalso; omega))) | fail)
      refine vl_q rfl rfl rfl rfl (vq_asF rfl (by decide)) ?_
      repeat' (first | (refine go1 ?_; intros) | (refine goCC ?_ ?_ <;> (intro hb; (try simp only [hSQ] at hb); try (exfalso; omega))) | fail)
      refine vl_q rfl rfl rfl rfl (vq_asF rfl (by decide)) ?_
      repeat' (first | (refine go1 ?_; intros) | (refine goCC ?_ ?_ <;> (intro hb; (try simp only [hSQ] at hb); try (exfalso; omega))) | fail)
      refine vl_q rfl rfl rfl rfl (vq_asT rfl) ?_
      repeat' (first | (refine go1 ?_; intros) | (refine goCC ?_ ?_ <;> (intro hb; (try simp only [hSQ] at hb); try (exfalso; omega))) | fail)
      rename_i a3 c3 _ _
      refine ⟨rfl, (i + 1, a3, c3), by dsimp only; omega, by dsimp only; omega, ?_, ?_⟩
      · dsimp only
        rw [hst, List.length_append, hD]
        (exact sbS)
      · dsimp only
        rw [hst, own_app a3 c3 T _ _ hD, show bvs ([1] : List UInt8) = [.int .u8 1] from rfl]
        exact sei _ _ _
  | byt fto fread c size rd =>
    obtain ⟨hfb, hDb, hto⟩ := hpo
    haveI := hfb
    have hD : D.length = D.length := rfl
    rw [show PK.val (PK.byt fto fread c size rd) = .iface 94 (.agg #[.func (.func fto) #[] #[c], .func (.func fread) #[] #[c], .int .i64 size]) from rfl] at hv
    generalize (ps.map PK.val) = vals at *
    repeat' (first | (refine go1 ?_; intros) | (refine goCC ?_ ?_ <;> (intro hb; (try simp only [hSQ] at hb); try (exfalso; omega))) | fail)
    refine vl_q rfl rfl rfl rfl (vq_asF rfl (by decide)) ?_
    repeat' (first | (refine go1 ?_; intros) | (refine goCC ?_ ?_ <;> (intro hb; (try simp only [hSQ] at hb); try (exfalso; omega))) | fail)
    refine vl_q rfl rfl rfl rfl (vq_asF rfl (by decide)) ?_
    repeat' (first | (refine go1 ?_; intros) | (refine goCC ?_ ?_ <;> (intro hb; (try simp only [hSQ] at hb); try (exfalso; omega))) | fail)
    refine vl_q rfl rfl rfl rfl (vq_asF rfl (by decide)) ?_
    repeat' (first | (refine go1 ?_; intros) | (refine goCC ?_ ?_ <;> (intro hb; (try simp only [hSQ] at hb); try (exfalso; omega))) | fail)
    refine vl_q rfl rfl rfl rfl (vq_asT rfl) ?_
    repeat' (first | (refine goN ?_; intros) | (refine goCC ?_ ?_ <;> (intro hb; (try simp only [hSQ] at hb); try (exfalso; omega))) | fail)
    refine vl_o rfl (vo_callM rfl rfl rfl ?_)
    rename_i g14
    obtain ⟨A, hA⟩ : ∃ A, A = [ownB a1 c1 T, blk g14 94 [.func (.func fto) #[] #[c], .func (.func fread) #[] #[c], .int .i64 size], own 84 1 ap ps.length cp vals] := ⟨_, rfl⟩
    refine vc_pre (L2 := Hs ++ (A ++ L)) ?_ ?_
    · rw [hA]
      exact (sei w0 _ (ownB a1 c1 T :: blk g14 94 [.func (.func fto) #[] #[c], .func (.func fread) #[] #[c], .int .i64 size] :: own 84 1 ap ps.length cp vals :: (Hs ++ L))).trans ((se_mid [_, _, _] Hs L).ent w0)
    refine vc_mono (hto (A ++ L)) ?_
    rintro v L' ⟨a2, c2, P, rfl, hPr, rfl⟩
    haveI := hPr
    refine vl_ent (L' := P :: ownB a1 c1 T :: blk g14 94 [.func (.func fto) #[] #[c], .func (.func fread) #[] #[c], .int .i64 size] :: own 84 1 ap ps.length cp vals :: (Hs ++ L)) ?_ ?_
    · rw [hA]
      exact (SE.cons _ (se_mid Hs [_, _, _] L)).ent w0
    repeat' (first | (refine go1 ?_; intros) | (refine goCC ?_ ?_ <;> (intro hb; (try simp only [hSQ] at hb); try (exfalso; omega))) | fail)
    rename_i a3 c3 _ _
    refine ⟨rfl, (i + 1, a3, c3), by dsimp only; omega, by dsimp only; omega, ?_, ?_⟩
    · dsimp only
      rw [hst, List.length_append, hD]
      (exact sbS)
    · dsimp only
      rw [hst, own_app a3 c3 T _ _ hD]
      exact sei _ _ _
end Go.Proofs.Ytgffejpcldeklaa
namespace Go.Proofs.Ytgffejpcldeklaa
open Go Go.RowKit
open Classical

section
variable {r : Rp} (h : r.ok)
include h
theorem Rp.sH (v : Nat) : splice r.cells (0 + 2) [.int .i64 (v : Int)] = (sxH r v).cells := setL (pre := [_, _]) (xs := [_]) rfl rfl rfl rfl
theorem Rp.sD {d : List UInt8} (hd : d.length = 32) : splice r.cells (0 + 3) (bvs d) = (sxD r d).cells := setL (pre := [_, _, _]) (xs := bvs r.dig) rfl rfl (by simp [hd, h.dig]) rfl
theorem Rp.sA (n b : Nat) : splice r.cells (0 + 35) [.int .u64 (n : Int), .int .u64 (b : Int)] = (sxA r n b).cells := setL (pre := .int .u8 (r.kind.toNat : Nat) :: .int .i64 r.code :: .int .i64 r.height :: bvs r.dig) (xs := [.int .u64 r.nonce, .int .u64 r.bal]) rfl (by simp [h.dig]) rfl rfl
theorem Rp.sR {x : Rec} (hx : x.ok) : splice r.cells (0 + 37) x.cells = (sxR r x).cells := setL (pre := .int .u8 (r.kind.toNat : Nat) :: .int .i64 r.code :: .int .i64 r.height :: (bvs r.dig ++ [.int .u64 r.nonce, .int .u64 r.bal])) (xs := r.rc.cells) (post := r.prf.cells ++ (.int .i64 r.sub :: .bool r.gap :: r.ev.cells)) (by simp [Rp.cells]) (by simp [h.dig]) (by rw [Rec.len h.rc, Rec.len hx]) (by simp [Rp.cells, sxR])
theorem Rp.sP {q : Prf} (hq : q.ok) : splice r.cells (0 + 71) q.cells = (sxP r q).cells := setL (pre := .int .u8 (r.kind.toNat : Nat) :: .int .i64 r.code :: .int .i64 r.height :: (bvs r.dig ++ (.int .u64 r.nonce :: .int .u64 r.bal :: r.rc.cells))) (xs := r.prf.cells) (post := .int .i64 r.sub :: .bool r.gap :: r.ev.cells) (by simp [Rp.cells]) (by simp [h.dig, Rec.len h.rc]) (by rw [Prf.len h.prf, Prf.len hq]) (by simp [Rp.cells, sxP])
theorem Rp.sS (v : Nat) : splice r.cells (0 + 138) [.int .i64 (v : Int)] = (sxS r v).cells := setL (xs := [.int .i64 r.sub]) (post := .bool r.gap :: r.ev.cells) (Rp.e7 h) (Rp.l7 h) rfl (by simp [Rp.cells, sxS])
theorem Rp.sG (b : Bool) : splice r.cells (0 + 139 + 0) [.bool b] = (sxG r b).cells := setL (pre := (.int .u8 (r.kind.toNat : Nat) :: .int .i64 r.code :: .int .i64 r.height :: (bvs r.dig ++ (.int .u64 r.nonce :: .int .u64 r.bal :: (r.rc.cells ++ r.prf.cells)))) ++ [.int .i64 r.sub]) (xs := [.bool r.gap]) (post := r.ev.cells) (by rw [Rp.e7 h]; simp) (by rw [List.length_append, Rp.l7 h]; rfl) rfl (by simp [Rp.cells, sxG])
theorem Rp.e9 : r.cells = ((.int .u8 (r.kind.toNat : Nat) :: .int .i64 r.code :: .int .i64 r.height :: (bvs r.dig ++ (.int .u64 r.nonce :: .int .u64 r.bal :: (r.rc.cells ++ r.prf.cells)))) ++ [.int .i64 r.sub, .bool r.gap]) ++ (.int .i64 r.ev.num :: .bool r.ev.roll :: r.ev.hd.cells) := by rw [Rp.e7 h]; simp [Evt.cells]
theorem Rp.l9 : ((.int .u8 (r.kind.toNat : Nat) :: .int .i64 r.code :: .int .i64 r.height :: (bvs r.dig ++ (.int .u64 r.nonce :: .int .u64 r.bal :: (r.rc.cells ++ r.prf.cells)))) ++ [.int .i64 r.sub, .bool r.gap] : List Value).length = 140 := by rw [List.length_append, Rp.l7 h]; rfl
theorem Rp.sN (v : Nat) : splice r.cells (0 + 139 + 1 + 0) [.int .i64 (v : Int)] = (sxN r v).cells := setL (xs := [.int .i64 r.ev.num]) (post := .bool r.ev.roll :: r.ev.hd.cells) (Rp.e9 h) (Rp.l9 h) rfl (by simp [Rp.cells, sxN, sxE, Evt.cells])
theorem Rp.sL (b : Bool) : splice r.cells (0 + 139 + 1 + 1) [.bool b] = (sxL r b).cells := setL (pre := ((.int .u8 (r.kind.toNat : Nat) :: .int .i64 r.code :: .int .i64 r.height :: (bvs r.dig ++ (.int .u64 r.nonce :: .int .u64 r.bal :: (r.rc.cells ++ r.prf.cells)))) ++ [.int .i64 r.sub, .bool r.gap]) ++ [.int .i64 r.ev.num]) (xs := [.bool r.ev.roll]) (post := r.ev.hd.cells) (by rw [Rp.e9 h]; simp) (by rw [List.length_append, Rp.l9 h]; rfl) rfl (by simp [Rp.cells, sxL, sxE, Evt.cells])
theorem Rp.lh : (((.int .u8 (r.kind.toNat : Nat) :: .int .i64 r.code :: .int .i64 r.height :: (bvs r.dig ++ (.int .u64 r.nonce :: .int .u64 r.bal :: (r.rc.cells ++ r.prf.cells)))) ++ [.int .i64 r.sub, .bool r.gap]) ++ [.int .i64 r.ev.num, .bool r.ev.roll] : List Value).length = 142 := by rw [List.length_append, Rp.l9 h]; rfl
theorem Rp.eh : r.cells = (((.int .u8 (r.kind.toNat : Nat) :: .int .i64 r.code :: .int .i64 r.height :: (bvs r.dig ++ (.int .u64 r.nonce :: .int .u64 r.bal :: (r.rc.cells ++ r.prf.cells)))) ++ [.int .i64 r.sub, .bool r.gap]) ++ [.int .i64 r.ev.num, .bool r.ev.roll]) ++ (r.ev.hd.cells ++ []) := by rw [Rp.e9 h]; simp
theorem Rp.sHd {x : Hd} (hx : x.ok) : splice r.cells (0 + 139 + 1 + 2) x.cells = (sxHd r x).cells := setL (xs := r.ev.hd.cells) (post := []) (Rp.eh h) (Rp.lh h) (by rw [Hd.len h.hd, Hd.len hx]) (by simp [Rp.cells, sxHd, sxE, Evt.cells])
theorem Rp.fN : r.cells[0 + 139 + 1 + 0]? = some (.int .i64 r.ev.num) := atL (Rp.e9 h) (Rp.l9 h)
theorem Rp.fL : r.cells[0 + 139 + 1 + 1]? = some (.bool r.ev.roll) := atL (pre := ((.int .u8 (r.kind.toNat : Nat) :: .int .i64 r.code :: .int .i64 r.height :: (bvs r.dig ++ (.int .u64 r.nonce :: .int .u64 r.bal :: (r.rc.cells ++ r.prf.cells)))) ++ [.int .i64 r.sub, .bool r.gap]) ++ [.int .i64 r.ev.num]) (post := r.ev.hd.cells) (by rw [Rp.e9 h]; simp) (by rw [List.length_append, Rp.l9 h]; rfl)
theorem Rp.fHd : (r.cells.drop (0 + 139 + 1 + 2)).take 98 = r.ev.hd.cells := cutL (Rp.eh h) (Rp.lh h) (Hd.len h.hd)
theorem Rp.okA {n b : Nat} (hn : n < 18446744073709551616) (hb : b < 18446744073709551616) : (sxA r n b).ok := ⟨h.code, h.height, h.dig, hn, hb, h.rc, h.recc, h.prf, h.sub, h.num, h.hd, h.hdh, h.hdm⟩
theorem Rp.okH {v : Nat} (hv : v ≤ 1073741824) : (sxH r v).ok := ⟨h.code, ⟨by show _ ≤ (v : Int); omega, by show (v : Int) < _; omega⟩, h.dig, h.nonce, h.bal, h.rc, h.recc, h.prf, h.sub, h.num, h.hd, h.hdh, h.hdm⟩
theorem Rp.okD {d : List UInt8} (hd : d.length = 32) : (sxD r d).ok := ⟨h.code, h.height, hd, h.nonce, h.bal, h.rc, h.recc, h.prf, h.sub, h.num, h.hd, h.hdh, h.hdm⟩
theorem Rp.okR {x : Rec} (hx : x.ok) (hc : I64 x.code) : (sxR r x).ok := ⟨h.code, h.height, h.dig, h.nonce, h.bal, hx, hc, h.prf, h.sub, h.num, h.hd, h.hdh, h.hdm⟩
theorem Rp.okP {q : Prf} (hq : q.ok) : (sxP r q).ok := ⟨h.code, h.height, h.dig, h.nonce, h.bal, h.rc, h.recc, hq, h.sub, h.num, h.hd, h.hdh, h.hdm⟩
theorem Rp.okS {v : Nat} (hv : v ≤ 1073741823) : (sxS r v).ok := ⟨h.code, h.height, h.dig, h.nonce, h.bal, h.rc, h.recc, h.prf, ⟨by show _ ≤ (v : Int); omega, by show (v : Int) < _; omega⟩, h.num, h.hd, h.hdh, h.hdm⟩
theorem Rp.okG (b : Bool) : (sxG r b).ok := ⟨h.code, h.height, h.dig, h.nonce, h.bal, h.rc, h.recc, h.prf, h.sub, h.num, h.hd, h.hdh, h.hdm⟩
theorem Rp.okN {v : Nat} (hv : v ≤ 1073741823) : (sxN r v).ok := ⟨h.code, h.height, h.dig, h.nonce, h.bal, h.rc, h.recc, h.prf, h.sub, ⟨by show _ ≤ (v : Int); omega, by show (v : Int) < _; omega⟩, h.hd, h.hdh, h.hdm⟩
theorem Rp.okL (b : Bool) : (sxL r b).ok := ⟨h.code, h.height, h.dig, h.nonce, h.bal, h.rc, h.recc, h.prf, h.sub, h.num, h.hd, h.hdh, h.hdm⟩
theorem Rp.okHd {x : Hd} (hx : x.ok) (h1 : I64 x.height) (h2 : I64 x.many) : (sxHd r x).ok := ⟨h.code, h.height, h.dig, h.nonce, h.bal, h.rc, h.recc, h.prf, h.sub, h.num, hx, h1, h2⟩
end
abbrev rpM (gp g : Nat) (r : Rp) (L : List Asn) : List Asn := blk gp 60 [.pointer (some ⟨g, 0, none⟩)] :: blk g 41 r.cells :: L
abbrev evM (ge gp g : Nat) (r : Rp) (L : List Asn) : List Asn := blk ge 102 [.pointer (some ⟨g, 0 + 139 + 1, none⟩)] :: rpM gp g r L
theorem abytes_vc (w0 : World) (L : List Asn) (n b : Nat) (hn : n < 18446744073709551616) (hb : b < 18446744073709551616) :
    VC Try.prog w0 36 [.agg #[.int .u64 n, .int .u64 b]] L fun v L' => ∃ a c, v = .slice a 16 c ∧ L' = ownB a c (accB n b) :: L := by
  have hp : (256 : Nat) ^ 8 = 18446744073709551616 := by decide
  have h1 := digs_length n 8
  have h2 := digs_length b 8
  refine vc_ent ?_
  refine vc_in rfl rfl ?_
  repeat' (first | (refine go1 ?_; intros) | (refine goCC ?_ ?_ <;> (intro hb; (try simp only [hSQ] at hb); try (exfalso; omega))) | fail)
  refine clV ?_
  refine vc_mono (put_vc w0 _ n 8 (by decide) (by decide) (by omega)) ?_
  rintro v L' ⟨a1, c1, rfl, rfl⟩
  repeat' (first | (refine go1 ?_; intros) | (refine goCC ?_ ?_ <;> (intro hb; (try simp only [hSQ] at hb); try (exfalso; omega))) | fail)
  refine clV ?_
  refine vc_mono (put_vc w0 _ b 8 (by decide) (by decide) (by omega)) ?_
  rintro v L' ⟨a2, c2, rfl, rfl⟩
  have e : bvs (digs n 8) ++ bvs (digs b 8) = bvs (accB n b) := by rw [← bvs_append]; rfl
  have hl := accB_len n b
  rw [show ownB a1 c1 (digs n 8) = own 5 1 a1 8 c1 (bvs (digs n 8)) by unfold ownB; rw [h1], show ownB a2 c2 (digs b 8) = own 5 1 a2 8 c2 (bvs (digs b 8)) by unfold ownB; rw [h2]]
  generalize digs n 8 = D1 at *
  generalize digs b 8 = D2 at *
  have h2' : (bvs D2).length = 8 * 1 := by rw [bvs_length, h2]
  repeat' (first | (refine go1 ?_; intros) | (refine goCC ?_ ?_ <;> (intro hb; (try simp only [hSQ] at hb); try (exfalso; omega))) | fail)
  rename_i a3 c3 _ _
  refine ⟨ownB a3 c3 (accB n b) :: L, ?_, a3, c3, rfl, rfl⟩
  unfold ownB
  rw [hl, ← e]
  exact sei _ _ _
theorem wrep1_vc (w0 : World) (L : List Asn) (gp g : Nat) (r : Rp) (h : r.ok) (ab : Option Addr) (cb : Nat) (X : List UInt8) {n : Nat} (hn : n = X.length) (hX : X.length = 16) (hc : X.length ≤ cb) [hr : RdC w0 (rpM gp g r L) ab (bvs X)] :
    VC Try.prog w0 33 [.slice ab n cb, .pointer (some ⟨gp, 0, none⟩)] (rpM gp g r L) fun v L' => v = .bool (rdAcc r X).2 ∧ L' = rpM gp g (rdAcc r X).1 L := by
  subst hn
  have hcl := Rp.len h
  obtain ⟨e1, e2, e3⟩ := accR_16 hX
  have hset := Rp.sA h (accR X).1 (accR X).2.1
  haveI hoc : OC r.cells := oc_rp _
  refine vc_ent ?_
  refine vc_in rfl rfl ?_
  unfold rdAcc
  dsimp only
  unfold rpM at *
  generalize (sxA r (accR X).1 (accR X).2.1).cells = ds at *
  generalize r.cells = cs at *
  repeat' (first | (refine go1 ?_; intros) | (refine goCC ?_ ?_ <;> (intro hb; (try simp only [hSQ] at hb); try (exfalso; omega))) | fail)
  refine clV ?_
  refine vc_mono (aread_vc w0 _ ab cb X rfl hc (by omega)) ?_
  rintro v L' ⟨rfl, rfl⟩
  generalize (accR X).1 = N at *
  generalize (accR X).2.1 = M at *
  generalize (accR X).2.2 = E at *
  rcases e3 with rfl | rfl
  · repeat' (first | (refine go1 ?_; intros) | (refine goCC ?_ ?_ <;> (intro hb; (try simp only [hSQ] at hb); try (exfalso; omega))) | fail)
    rw [hset]
    exact ⟨_, sei _ _ (blk gp 60 [.pointer (some ⟨g, 0, none⟩)] :: blk g 41 ds :: L), by simp, rfl⟩
  · repeat' (first | (refine go1 ?_; intros) | (refine goCC ?_ ?_ <;> (intro hb; (try simp only [hSQ] at hb); try (exfalso; omega))) | fail)
    rw [hset]
    exact ⟨_, sei _ _ (blk gp 60 [.pointer (some ⟨g, 0, none⟩)] :: blk g 41 ds :: L), by simp, rfl⟩
theorem wrep2_vc (w0 : World) (L : List Asn) (gp g : Nat) (r : Rp) (h : r.ok) :
    VC Try.prog w0 35 [.pointer (some ⟨gp, 0, none⟩)] (rpM gp g r L) fun v L' => ∃ a' c', v = .slice a' 16 c' ∧ L' = ownB a' c' (accB r.nonce r.bal) :: rpM gp g r L := by
  have f4 := Rp.f4 h
  have hcl := Rp.len h
  have hn := h.nonce
  have hb := h.bal
  refine vc_ent ?_
  refine vc_in rfl rfl ?_
  unfold rpM
  generalize r.cells = cs at *
  repeat' (first | (refine go1 ?_; intros) | (refine goCC ?_ ?_ <;> (intro hb; (try simp only [hSQ] at hb); try (exfalso; omega))) | fail)
  refine clV ?_
  refine vc_mono (abytes_vc w0 _ r.nonce r.bal hn hb) ?_
  rintro v L' ⟨a2, c2, rfl, rfl⟩
  repeat' (first | (refine go1 ?_; intros) | (refine goCC ?_ ?_ <;> (intro hb; (try simp only [hSQ] at hb); try (exfalso; omega))) | fail)
  exact ⟨_, Ent.refl _ _, a2, c2, rfl, rfl⟩
theorem wrep3_vc (w0 : World) (L : List Asn) (gp g : Nat) (r : Rp) (h : r.ok) (ab : Option Addr) (cb : Nat) (X : List UInt8) {n : Nat} (hn : n = X.length) (hX : X.length = 35) (hc : X.length ≤ cb) [hr : RdC w0 (rpM gp g r L) ab (bvs X)] :
    VC Try.prog w0 37 [.slice ab n cb, .pointer (some ⟨gp, 0, none⟩)] (rpM gp g r L) fun v L' => v = .bool (rdRec r X).2 ∧ L' = rpM gp g (rdRec r X).1 L := by
  subst hn
  have hcl := Rp.len h
  have hro := recRead_ok X
  have hrl := Rec.len hro
  have hset := Rp.sR h hro
  haveI hoc : OC r.cells := oc_rp _
  refine vc_ent ?_
  refine vc_in rfl rfl ?_
  unfold rdRec
  dsimp only
  unfold rpM at *
  generalize (sxR r (recRead X).1).cells = ds at *
  generalize r.cells = cs at *
  repeat' (first | (refine go1 ?_; intros) | (refine goCC ?_ ?_ <;> (intro hb; (try simp only [hSQ] at hb); try (exfalso; omega))) | fail)
  refine clV ?_
  refine vc_mono (rcRead_vc w0 _ ab cb X rfl hc (by omega)) ?_
  rintro v L' ⟨rfl, rfl⟩
  generalize (recRead X).1 = x at *
  generalize (recRead X).2 = E at *
  haveI hox : OC x.cells := oc_rec x
  generalize x.cells = xcs at *
  repeat' (first | (refine go1 ?_; intros) | (refine goCC ?_ ?_ <;> (intro hb; (try simp only [hSQ] at hb); try (exfalso; omega))) | fail)
  refine vl_o rfl (vo_stB rfl rfl rfl hrl (by rw [hcl, hrl]; decide) hset ?_)
  repeat' (first | (refine go1 ?_; intros) | (refine goCC ?_ ?_ <;> (intro hb; (try simp only [hSQ] at hb); try (exfalso; omega))) | fail)
  exact ⟨_, sei _ _ (blk gp 60 [.pointer (some ⟨g, 0, none⟩)] :: blk g 41 ds :: L), rfl, rfl⟩
/-- What is put of a receipt; of a header. -/
def recB (x : Rec) : List UInt8 := if x.may = true then recBytes x else []
def hdB (x : Hd) : List UInt8 := if x.may = true then hBytes x else []
theorem wrep4_vc (w0 : World) (L : List Asn) (gp g : Nat) (r : Rp) (h : r.ok) :
    VC Try.prog w0 40 [.pointer (some ⟨gp, 0, none⟩)] (rpM gp g r L) (RTell w0 (recB r.rc) (rpM gp g r L)) := by
  have f5 := Rp.f5 h
  have hcl := Rp.len h
  have hro := h.rc
  have hrl := Rec.len hro
  refine vc_ent ?_
  refine vc_in rfl rfl ?_
  unfold recB
  unfold rpM
  generalize r.cells = cs at *
  generalize r.rc = x at *
  haveI hox : OC x.cells := oc_rec x
  obtain ⟨xc, hxc⟩ : ∃ xc, xc = x.cells := ⟨_, rfl⟩
  rw [← hxc] at f5 hrl hox
  repeat' (first | (refine go1 ?_; intros) | (refine goCC ?_ ?_ <;> (intro hb; (try simp only [hSQ] at hb); try (exfalso; omega))) | fail)
  refine clV ?_
  rw [hxc]
  cases hm : x.may
  · refine vc_mono (rcBytes_err_vc w0 _ x hro hm) ?_
    rintro v L' ⟨rfl, rfl⟩
    rw [if_neg (by decide)]
    repeat' (first | (refine go1 ?_; intros) | (refine goCC ?_ ?_ <;> (intro hb; (try simp only [hSQ] at hb); try (exfalso; omega))) | fail)
    exact RTell.none' w0 _ (sei _ _ _)
  · refine vc_mono (rcBytes_vc w0 _ x hro hm) ?_
    rintro v L' ⟨a2, c2, rfl, _, rfl⟩
    rw [if_pos rfl]
    repeat' (first | (refine go1 ?_; intros) | (refine goCC ?_ ?_ <;> (intro hb; (try simp only [hSQ] at hb); try (exfalso; omega))) | fail)
    exact ⟨_, Ent.refl _ _, a2, c2, _, rfl, fun M => inferInstance, rfl⟩
theorem wrep5_vc (w0 : World) (L : List Asn) (ge gp g : Nat) (r : Rp) (h : r.ok) (ab : Option Addr) (cb : Nat) (X : List UInt8) {n : Nat} (hn : n = X.length) (hX : X.length = 108) (hc : X.length ≤ cb) [hr : RdC w0 (evM ge gp g r L) ab (bvs X)] :
    VC Try.prog w0 43 [.slice ab n cb, .pointer (some ⟨ge, 0, none⟩)] (evM ge gp g r L) fun v L' => v = .bool (rdHd r X).2 ∧ L' = evM ge gp g (rdHd r X).1 L := by
  subst hn
  have hcl := Rp.len h
  have hro := hdRead_ok X
  have hrl := Hd.len hro
  have hset := Rp.sHd h hro
  haveI hoc : OC r.cells := oc_rp _
  refine vc_ent ?_
  refine vc_in rfl rfl ?_
  unfold rdHd
  dsimp only
  unfold evM rpM at *
  generalize (sxHd r (hdRead X).1).cells = ds at *
  generalize r.cells = cs at *
  repeat' (first | (refine go1 ?_; intros) | (refine goCC ?_ ?_ <;> (intro hb; (try simp only [hSQ] at hb); try (exfalso; omega))) | fail)
  refine clV ?_
  refine vc_mono (hread_vc w0 _ ab cb X rfl hX hc) ?_
  rintro v L' ⟨rfl, rfl⟩
  generalize (hdRead X).1 = x at *
  generalize (hdRead X).2 = E at *
  haveI hox : OC x.cells := oc_hd x
  generalize x.cells = xcs at *
  repeat' (first | (refine go1 ?_; intros) | (refine goCC ?_ ?_ <;> (intro hb; (try simp only [hSQ] at hb); try (exfalso; omega))) | fail)
  refine vl_o rfl (vo_stB rfl rfl rfl hrl (by rw [hcl, hrl]; decide) hset ?_)
  repeat' (first | (refine go1 ?_; intros) | (refine goCC ?_ ?_ <;> (intro hb; (try simp only [hSQ] at hb); try (exfalso; omega))) | fail)
  exact ⟨_, sei _ _ (blk ge 102 [.pointer (some ⟨g, 0 + 139 + 1, none⟩)] :: blk gp 60 [.pointer (some ⟨g, 0, none⟩)] :: blk g 41 ds :: L), rfl, rfl⟩
theorem wrep6_vc (w0 : World) (L : List Asn) (ge gp g : Nat) (r : Rp) (h : r.ok) :
    VC Try.prog w0 45 [.pointer (some ⟨ge, 0, none⟩)] (evM ge gp g r L) (RTell w0 (hdB r.ev.hd) (evM ge gp g r L)) := by
  have fh := Rp.fHd h
  have hcl := Rp.len h
  have hro := h.hd
  have hrl := Hd.len hro
  refine vc_ent ?_
  refine vc_in rfl rfl ?_
  unfold hdB
  unfold evM rpM
  generalize r.cells = cs at *
  generalize r.ev.hd = x at *
  haveI hox : OC x.cells := oc_hd x
  obtain ⟨xc, hxc⟩ : ∃ xc, xc = x.cells := ⟨_, rfl⟩
  rw [← hxc] at fh hrl hox
  repeat' (first | (refine go1 ?_; intros) | (refine goCC ?_ ?_ <;> (intro hb; (try simp only [hSQ] at hb); try (exfalso; omega))) | fail)
  refine clV ?_
  rw [hxc]
  cases hm : x.may
  · refine vc_mono (hbytes_err_vc w0 _ x hro hm) ?_
    rintro v L' ⟨rfl, rfl⟩
    rw [if_neg (by decide)]
    repeat' (first | (refine go1 ?_; intros) | (refine goCC ?_ ?_ <;> (intro hb; (try simp only [hSQ] at hb); try (exfalso; omega))) | fail)
    exact RTell.none' w0 _ (sei _ _ _)
  · refine vc_mono (hbytes_vc w0 _ x hro hm) ?_
    rintro v L' ⟨a2, c2, rfl, rfl⟩
    rw [if_pos rfl]
    repeat' (first | (refine go1 ?_; intros) | (refine goCC ?_ ?_ <;> (intro hb; (try simp only [hSQ] at hb); try (exfalso; omega))) | fail)
    exact ⟨_, Ent.refl _ _, a2, c2, _, rfl, fun M => inferInstance, rfl⟩
end Go.Proofs.Ytgffejpcldeklaa
namespace Go.Proofs.Ytgffejpcldeklaa
open Go Go.RowKit
open Classical

def rpF : RpF := ⟨35, 33, 40, 37, 45, 43⟩
/-- What is held of a reply while its parts are read. -/
def rpH (k ge gp g : Nat) (r : Rp) : List Asn := if k = 7 then [blk ge 102 [.pointer (some ⟨g, 0 + 139 + 1, none⟩)], blk gp 60 [.pointer (some ⟨g, 0, none⟩)], blk g 41 r.cells] else [blk gp 60 [.pointer (some ⟨g, 0, none⟩)], blk g 41 r.cells]
def RReps (L : List Asn) (g : Nat) (r : Rp) (v : Value) (L' : List Asn) : Prop := ∃ ap cp gp ge, v = .slice ap (rpP rpF g gp ge r.kind.toNat).length cp ∧ L' = ownG ap cp (rpP rpF g gp ge r.kind.toNat) :: (rpH r.kind.toNat ge gp g r ++ L)
theorem wreplies_vc (w0 : World) (L : List Asn) (g : Nat) (r : Rp) (h : r.ok) :
    VC Try.prog w0 16 [.pointer (some ⟨g, 0, none⟩)] (blk g 41 r.cells :: L) (RReps L g r) := by
  have f0 := Rp.f0 h
  have hcl := Rp.len h
  have hkb := r.kind.toNat_lt
  refine vc_ent ?_
  refine vc_in rfl rfl ?_
  unfold RReps rpH rpP
  generalize r.cells = cs at *
  by_cases k2 : r.kind.toNat = 2
  · simp only [if_pos k2, if_neg (show ¬ r.kind.toNat = 7 by omega)]
    repeat' (first | (refine go1 ?_; intros) | (refine goCC ?_ ?_ <;> (intro hb; (try simp only [hSQ] at hb); try (exfalso; omega))) | fail)
    refine vl_q rfl rfl rfl rfl (vq_mkIface rfl) ?_
    repeat' (first | (refine go1 ?_; intros) | (refine goCC ?_ ?_ <;> (intro hb; (try simp only [hSQ] at hb); try (exfalso; omega))) | fail)
    exact ⟨_, Ent.refl _ _, _, _, _, 0, rfl, rfl⟩
  simp only [if_neg k2]
  by_cases k3 : r.kind.toNat = 3
  · simp only [if_pos k3, if_neg (show ¬ r.kind.toNat = 7 by omega)]
    repeat' (first | (refine go1 ?_; intros) | (refine goCC ?_ ?_ <;> (intro hb; (try simp only [hSQ] at hb); try (exfalso; omega))) | fail)
    refine clV ?_
    refine vc_mono (wheight_vc w0 _ _) ?_
    rintro v L' ⟨rfl, rfl⟩
    repeat' (first | (refine go1 ?_; intros) | (refine goCC ?_ ?_ <;> (intro hb; (try simp only [hSQ] at hb); try (exfalso; omega))) | fail)
    refine vl_q rfl rfl rfl rfl (vq_mkIface rfl) ?_
    repeat' (first | (refine go1 ?_; intros) | (refine goCC ?_ ?_ <;> (intro hb; (try simp only [hSQ] at hb); try (exfalso; omega))) | fail)
    exact ⟨_, Ent.refl _ _, _, _, _, 0, rfl, rfl⟩
  simp only [if_neg k3]
  by_cases k4 : r.kind.toNat = 4 ∨ r.kind.toNat = 5
  · simp only [if_pos k4, if_neg (show ¬ r.kind.toNat = 7 by omega)]
    repeat' (first | (refine go1 ?_; intros) | (refine goCC ?_ ?_ <;> (intro hb; (try simp only [hSQ] at hb); try (exfalso; omega))) | fail)
    all_goals first | (exfalso; omega) | skip
    all_goals
      refine v_id ?_
      refine v_draw0 [] (by kernel_rfl) ?_
      refine tA 0 ?_
      refine tA 1 ?_
      refine tA 2 ?_
      refine tA 4 ?_
      refine tA 5 ?_
      refine tA 6 ?_
      refine tA 7 ?_
      refine va_take 8 rfl rfl rfl rfl (by kernel_rfl) (fun _ _ _ _ h => h) entD (by exact vq_mkIface rfl) ?_
      refine va_one 3 (by kernel_rfl) rfl rfl ?_
      first | refine vo_call rfl rfl ?_ | refine vo_callV rfl rfl rfl ?_
      refine vc_mono (wheight_vc w0 _ _) ?_
      rintro v L' ⟨rfl, rfl⟩
      refine ⟨.inr (sei _ _ _), ?_⟩
      refine va_one 9 (by kernel_rfl) rfl rfl ?_
      (refine goV ?_; intros)
      refine ⟨.inr (sei _ _ _), ?_⟩
      refine tA 10 ?_
      refine va_done (by kernel_rfl) ?_
      repeat' (first | (refine go1 ?_; intros) | (refine goCC ?_ ?_ <;> (intro hb; (try simp only [hSQ] at hb); try (exfalso; omega))) | fail)
      exact ⟨_, Ent.refl _ _, _, _, _, 0, rfl, rfl⟩
  simp only [if_neg k4]
  by_cases k6 : r.kind.toNat = 6
  · simp only [if_pos k6, if_neg (show ¬ r.kind.toNat = 7 by omega)]
    repeat' (first | (refine go1 ?_; intros) | (refine goCC ?_ ?_ <;> (intro hb; (try simp only [hSQ] at hb); try (exfalso; omega))) | fail)
    all_goals first | (exfalso; omega) | skip
    refine clV ?_
    refine vc_mono (wsub_vc w0 _ _) ?_
    rintro v L' ⟨rfl, rfl⟩
    repeat' (first | (refine go1 ?_; intros) | (refine goCC ?_ ?_ <;> (intro hb; (try simp only [hSQ] at hb); try (exfalso; omega))) | fail)
    exact ⟨_, Ent.refl _ _, _, _, _, 0, rfl, rfl⟩
  simp only [if_neg k6]
  by_cases k7 : r.kind.toNat = 7
  · simp only [if_pos k7]
    repeat' (first | (refine go1 ?_; intros) | (refine goCC ?_ ?_ <;> (intro hb; (try simp only [hSQ] at hb); try (exfalso; omega))) | fail)
    all_goals first | (exfalso; omega) | skip
    refine vl_q rfl rfl rfl rfl (vq_mkIface rfl) ?_
    repeat' (first | (refine go1 ?_; intros) | (refine goCC ?_ ?_ <;> (intro hb; (try simp only [hSQ] at hb); try (exfalso; omega))) | fail)
    refine v_id ?_
    refine v_drawX [] 1 (by kernel_rfl) ?_
    refine tA 0 ?_
    refine tA 1 ?_
    refine tA 2 ?_
    refine tA 3 ?_
    refine tA 4 ?_
    refine va_take 5 rfl rfl rfl rfl (by kernel_rfl) (fun _ _ _ _ h => h) entD (by exact vq_mkIface rfl) ?_
    refine tA 6 ?_
    refine tA 7 ?_
    refine tA 8 ?_
    refine tA 9 ?_
    refine va_take 10 rfl rfl rfl rfl (by kernel_rfl) (fun _ _ _ _ h => h) entD (by exact vq_mkIface rfl) ?_
    refine tA 11 ?_
    refine tA 12 ?_
    refine tA 13 ?_
    refine va_take 14 rfl rfl rfl rfl (by kernel_rfl) (fun _ _ _ _ h => h) entD (by exact vq_mkIface rfl) ?_
    refine va_one 15 (by kernel_rfl) rfl rfl ?_
    (refine goV ?_; intros)
    refine ⟨.inr (sei _ _ _), ?_⟩
    refine va_one 16 (by kernel_rfl) rfl rfl ?_
    (refine goV ?_; intros)
    refine ⟨.inr (sei _ _ _), ?_⟩
    refine tA 17 ?_
    refine va_done (by kernel_rfl) ?_
    skip
    repeat' (first | (refine go1 ?_; intros) | (refine goCC ?_ ?_ <;> (intro hb; (try simp only [hSQ] at hb); try (exfalso; omega))) | fail)
    rename_i gp _ _ _ _ _ g1 ge g3 a' c' _ _
    exact ⟨_, ((se_drop _ _).trans (se_swap _ _ _)).ent w0, a', c', gp, ge, rfl, rfl⟩
  simp only [if_neg k7]
  repeat' (first | (refine go1 ?_; intros) | (refine goCC ?_ ?_ <;> (intro hb; (try simp only [hSQ] at hb); try (exfalso; omega))) | fail)
  all_goals first | (exfalso; omega) | exact ⟨_, (se_own_nil 84 1 _).ent w0, none, 0, _, 0, rfl, rfl⟩
end Go.Proofs.Ytgffejpcldeklaa
namespace Go.Proofs.Ytgffejpcldeklaa
open Go Go.RowKit
open Classical

theorem rdAcc_ok {s : Rp} (hs : s.ok) {X : List UInt8} (hX : X.length = 16) : (rdAcc s X).1.ok := by
  obtain ⟨e1, e2, _⟩ := accR_16 hX
  have l1 := numOf_lt (X.take 8)
  have l2 := numOf_lt (X.drop 8)
  exact Rp.okA hs (by omega) (by omega)
theorem rdRec_ok {s : Rp} (hs : s.ok) (X : List UInt8) : (rdRec s X).1.ok := Rp.okR hs (recRead_ok X) (recRead_i64 X)
theorem rdHd_ok {s : Rp} (hs : s.ok) (X : List UInt8) : (rdHd s X).1.ok := Rp.okHd hs (hdRead_ok X) (hdRead_i64 X).1 (hdRead_i64 X).2
/-- A number's part within the reply. -/
theorem num_ok (w0 : World) {k ge gp g off size most : Nat} {set : Rp → Nat → Rp} (h1 : 0 < size ∧ size ≤ 8 ∧ most < 9000000000000000000) (hoff : off + 1 ≤ 240) (hs : ∀ s : Rp, s.ok → ∀ v : Nat, v ≤ most → (set s v).ok ∧ splice s.cells off [.int .i64 (v : Int)] = (set s v).cells) : (PK.num g off size most set).Ok w0 (rpH k ge gp g) Rp.ok := by
  refine ⟨h1, fun s hk => ?_⟩
  unfold rpH
  by_cases k7 : k = 7
  · refine ⟨2, 41, s.cells, ⟨by rw [if_pos k7]; rfl⟩, by rw [Rp.len hk]; exact hoff, fun v hv => ⟨(hs s hk v hv).1, ⟨?_⟩⟩⟩
    rw [if_pos k7, if_pos k7, (hs s hk v hv).2]
    rfl
  · refine ⟨1, 41, s.cells, ⟨by rw [if_neg k7]; rfl⟩, by rw [Rp.len hk]; exact hoff, fun v hv => ⟨(hs s hk v hv).1, ⟨?_⟩⟩⟩
    rw [if_neg k7, if_neg k7, (hs s hk v hv).2]
    rfl
theorem dig_ok (w0 : World) {k ge gp g off : Nat} {set : Rp → List UInt8 → Rp} (hoff : off + 32 ≤ 240) (hs : ∀ s : Rp, s.ok → ∀ d : List UInt8, d.length = 32 → (set s d).ok ∧ splice s.cells off (bvs d) = (set s d).cells) : (PK.dig g off set).Ok w0 (rpH k ge gp g) Rp.ok := by
  intro s hk
  unfold rpH
  by_cases k7 : k = 7
  · refine ⟨2, 41, s.cells, ⟨by rw [if_pos k7]; rfl⟩, by rw [Rp.len hk]; exact hoff, fun v hv => ⟨(hs s hk v hv).1, ⟨?_⟩⟩⟩
    rw [if_pos k7, if_pos k7, (hs s hk v hv).2]
    rfl
  · refine ⟨1, 41, s.cells, ⟨by rw [if_neg k7]; rfl⟩, by rw [Rp.len hk]; exact hoff, fun v hv => ⟨(hs s hk v hv).1, ⟨?_⟩⟩⟩
    rw [if_neg k7, if_neg k7, (hs s hk v hv).2]
    rfl
theorem flg_ok (w0 : World) {k ge gp g off : Nat} {set : Rp → Bool → Rp} (hoff : off + 1 ≤ 240) (hs : ∀ s : Rp, s.ok → ∀ b : Bool, (set s b).ok ∧ splice s.cells off [.bool b] = (set s b).cells) : (PK.flg g off set).Ok w0 (rpH k ge gp g) Rp.ok := by
  intro s hk
  unfold rpH
  by_cases k7 : k = 7
  · refine ⟨2, 41, s.cells, ⟨by rw [if_pos k7]; rfl⟩, by rw [Rp.len hk]; exact hoff, fun v => ⟨(hs s hk v).1, ⟨?_⟩⟩⟩
    rw [if_pos k7, if_pos k7, (hs s hk v).2]
    rfl
  · refine ⟨1, 41, s.cells, ⟨by rw [if_neg k7]; rfl⟩, by rw [Rp.len hk]; exact hoff, fun v => ⟨(hs s hk v).1, ⟨?_⟩⟩⟩
    rw [if_neg k7, if_neg k7, (hs s hk v).2]
    rfl
theorem rpH_no {k : Nat} (h : ¬ k = 7) (ge gp g : Nat) (r : Rp) (L : List Asn) : rpH k ge gp g r ++ L = rpM gp g r L := by
  unfold rpH
  rw [if_neg h]
  rfl
theorem rpH_ev {k : Nat} (h : k = 7) (ge gp g : Nat) (r : Rp) (L : List Asn) : rpH k ge gp g r ++ L = evM ge gp g r L := by
  unfold rpH
  rw [if_pos h]
  rfl
theorem rpP_ok (w0 : World) (k ge gp g : Nat) : ∀ p ∈ rpP rpF g gp ge k, p.Ok w0 (rpH k ge gp g) Rp.ok := by
  have nH : (PK.num g (0 + 2) 8 1073741824 sxH).Ok w0 (rpH k ge gp g) Rp.ok := num_ok w0 ⟨by decide, by decide, by decide⟩ (by decide) (fun s hs v hv => ⟨Rp.okH hs hv, Rp.sH hs v⟩)
  intro p hp
  unfold rpP at hp
  by_cases k2 : k = 2
  · rw [if_pos k2, List.mem_singleton] at hp
    subst hp
    refine ⟨⟨by decide, by decide, (inferInstance : FnB Try.prog 33)⟩, fun s hs X hX => ⟨rdAcc_ok hs hX, fun L a cb hc hr => ?_⟩⟩
    rw [rpH_no (by omega)] at hr ⊢
    rw [rpH_no (by omega)]
    exact wrep1_vc w0 L gp g s hs a cb X hX.symm hX (by omega)
  rw [if_neg k2] at hp
  by_cases k3 : k = 3
  · rw [if_pos k3, List.mem_cons, List.mem_singleton] at hp
    rcases hp with rfl | rfl
    · exact nH
    refine ⟨⟨by decide, by decide, (inferInstance : FnB Try.prog 37)⟩, fun s hs X hX => ⟨rdRec_ok hs X, fun L a cb hc hr => ?_⟩⟩
    rw [rpH_no (by omega)] at hr ⊢
    rw [rpH_no (by omega)]
    exact wrep3_vc w0 L gp g s hs a cb X hX.symm hX (by omega)
  rw [if_neg k3] at hp
  by_cases k4 : k = 4 ∨ k = 5
  · rw [if_pos k4, List.mem_cons, List.mem_singleton] at hp
    rcases hp with rfl | rfl
    · exact nH
    exact dig_ok w0 (by decide) (fun s hs d hd => ⟨Rp.okD hs hd, Rp.sD hs hd⟩)
  rw [if_neg k4] at hp
  by_cases k6 : k = 6
  · rw [if_pos k6, List.mem_singleton] at hp
    subst hp
    exact num_ok w0 ⟨by decide, by decide, by decide⟩ (by decide) (fun s hs v hv => ⟨Rp.okS hs hv, Rp.sS hs v⟩)
  rw [if_neg k6] at hp
  by_cases k7 : k = 7
  · rw [if_pos k7] at hp
    simp only [List.mem_cons, List.not_mem_nil, or_false] at hp
    rcases hp with rfl | rfl | rfl | rfl
    · exact flg_ok w0 (by decide) (fun s hs b => ⟨Rp.okG hs b, Rp.sG hs b⟩)
    · exact num_ok w0 ⟨by decide, by decide, by decide⟩ (by decide) (fun s hs v hv => ⟨Rp.okN hs hv, Rp.sN hs v⟩)
    · exact flg_ok w0 (by decide) (fun s hs b => ⟨Rp.okL hs b, Rp.sL hs b⟩)
    refine ⟨⟨by decide, by decide, (inferInstance : FnB Try.prog 43)⟩, fun s hs X hX => ⟨rdHd_ok hs X, fun L a cb hc hr => ?_⟩⟩
    rw [rpH_ev k7] at hr ⊢
    rw [rpH_ev k7]
    exact wrep5_vc w0 L ge gp g s hs a cb X hX.symm hX (by omega)
  rw [if_neg k7] at hp
  exact absurd hp List.not_mem_nil
theorem rpP_len (F : RpF) (g gp ge k : Nat) : (rpP F g gp ge k).length ≤ 10 := by
  unfold rpP
  split
  · simp
  split
  · simp
  split
  · simp
  split
  · simp
  split
  · simp
  · simp
/-- The parts' bytes. -/
def subB (S : Nat) : List UInt8 := if S < 4294967296 then digs S 4 else []
def rpD (k : Nat) (r : Rp) : List (List UInt8) :=
  if k = 2 then [accB r.nonce r.bal]
  else if k = 3 then [digs r.height.toNat 8, recB r.rc]
  else if k = 4 ∨ k = 5 then [digs r.height.toNat 8, r.dig]
  else if k = 6 then [subB r.sub.toNat]
  else if k = 7 then [[fl r.gap], digs r.ev.num.toNat 8, [fl r.ev.roll], hdB r.ev.hd]
  else []
theorem rpD_len (F : RpF) (g gp ge k : Nat) (r : Rp) : (rpD k r).length = (rpP F g gp ge k).length := by
  unfold rpD rpP
  by_cases k2 : k = 2
  · rw [if_pos k2, if_pos k2]; rfl
  rw [if_neg k2, if_neg k2]
  by_cases k3 : k = 3
  · rw [if_pos k3, if_pos k3]; rfl
  rw [if_neg k3, if_neg k3]
  by_cases k4 : k = 4 ∨ k = 5
  · rw [if_pos k4, if_pos k4]; rfl
  rw [if_neg k4, if_neg k4]
  by_cases k6 : k = 6
  · rw [if_pos k6, if_pos k6]; rfl
  rw [if_neg k6, if_neg k6]
  by_cases k7 : k = 7
  · rw [if_pos k7, if_pos k7]; rfl
  rw [if_neg k7, if_neg k7]; rfl
theorem num_put (w0 : World) {k ge gp g off size most : Nat} {set : Rp → Nat → Rp} {r : Rp} {D : List UInt8} {n : Nat} (h0 : r.cells[off]? = some (.int .i64 (n : Int))) (hn : n < 9223372036854775808) (hD : (0 < size ∧ size ≤ 8 ∧ n < 256 ^ size ∧ D = digs n size) ∨ (size = 4 ∧ 4294967296 ≤ n ∧ D = [])) : (PK.num g off size most set).PutOk w0 (rpH k ge gp g r) D := by
  unfold rpH
  by_cases k7 : k = 7
  · exact ⟨2, _, r.cells, n, ⟨by rw [if_pos k7]; rfl⟩, h0, hn, hD⟩
  · exact ⟨1, _, r.cells, n, ⟨by rw [if_neg k7]; rfl⟩, h0, hn, hD⟩
theorem dig_put (w0 : World) {k ge gp g off : Nat} {set : Rp → List UInt8 → Rp} {r : Rp} {D : List UInt8} (h0 : (r.cells.drop off).take 32 = bvs D) (hD : D.length = 32) : (PK.dig g off set).PutOk w0 (rpH k ge gp g r) D := by
  unfold rpH
  by_cases k7 : k = 7
  · exact ⟨2, _, r.cells, ⟨by rw [if_pos k7]; rfl⟩, h0, hD⟩
  · exact ⟨1, _, r.cells, ⟨by rw [if_neg k7]; rfl⟩, h0, hD⟩
theorem flg_put (w0 : World) {k ge gp g off : Nat} {set : Rp → Bool → Rp} {r : Rp} {b : Bool} (h0 : r.cells[off]? = some (.bool b)) : (PK.flg g off set).PutOk w0 (rpH k ge gp g r) [fl b] := by
  unfold rpH
  by_cases k7 : k = 7
  · exact ⟨2, _, r.cells, b, ⟨by rw [if_pos k7]; rfl⟩, h0, rfl⟩
  · exact ⟨1, _, r.cells, b, ⟨by rw [if_neg k7]; rfl⟩, h0, rfl⟩
theorem RTell.of_own (w0 : World) (D : List UInt8) (n : Nat) (hn : n = D.length) {f : FuncId} {args : List Value} {L : List Asn} (h : VC Try.prog w0 f args L fun v L' => ∃ a' c', v = .slice a' n c' ∧ L' = ownB a' c' D :: L) : VC Try.prog w0 f args L (RTell w0 D L) := by
  refine vc_mono h ?_
  rintro v L' ⟨a', c', rfl, rfl⟩
  exact ⟨a', c', _, by rw [hn], fun M => inferInstance, rfl⟩
/-- What is put of a reply's parts. -/
theorem rpP_put (w0 : World) (k ge gp g : Nat) {r : Rp} (h : r.ok) (h0 : 0 ≤ r.height) (s0 : 0 ≤ r.sub) (n0 : 0 ≤ r.ev.num) : ∀ i (h1 : i < (rpP rpF g gp ge k).length) (h2 : i < (rpD k r).length), ((rpP rpF g gp ge k)[i]).PutOk w0 (rpH k ge gp g r) (rpD k r)[i] := by
  obtain ⟨H, hH⟩ : ∃ H : Nat, r.height = H := ⟨r.height.toNat, by omega⟩
  obtain ⟨S, hS⟩ : ∃ S : Nat, r.sub = S := ⟨r.sub.toNat, by omega⟩
  obtain ⟨M, hM⟩ : ∃ M : Nat, r.ev.num = M := ⟨r.ev.num.toNat, by omega⟩
  have q1 := h.height.2
  have q2 := h.sub.2
  have q3 := h.num.2
  have f2 := Rp.f2 h
  have f7 := Rp.f7 h
  have fN := Rp.fN h
  rw [hH] at q1 f2
  rw [hS] at q2 f7
  rw [hM] at q3 fN
  have nH : (PK.num g (0 + 2) 8 1073741824 sxH).PutOk w0 (rpH k ge gp g r) (digs r.height.toNat 8) := num_put w0 f2 (by omega) (.inl ⟨by decide, by decide, by rw [p8]; omega, by rw [hH, Int.toNat_natCast]⟩)
  unfold rpP rpD
  by_cases k2 : k = 2
  · simp only [if_pos k2]
    intro i h1 h2
    obtain rfl : i = 0 := by simp at h1; omega
    refine ⟨(inferInstance : FnB Try.prog 35), by show (accB _ _).length ≤ 1000; rw [accB_len]; omega, fun L => ?_⟩
    rw [rpH_no (by omega)]
    exact RTell.of_own w0 (accB r.nonce r.bal) 16 (accB_len _ _).symm (wrep2_vc w0 L gp g r h)
  simp only [if_neg k2]
  by_cases k3 : k = 3
  · simp only [if_pos k3]
    intro i h1 h2
    have hi : i = 0 ∨ i = 1 := by simp at h1; omega
    rcases hi with rfl | rfl
    · exact nH
    refine ⟨(inferInstance : FnB Try.prog 40), ?_, fun L => ?_⟩
    · show (recB r.rc).length ≤ 1000
      unfold recB
      split
      · rw [recBytes_len h.rc]; omega
      · simp
    rw [rpH_no (by omega)]
    exact wrep4_vc w0 L gp g r h
  simp only [if_neg k3]
  by_cases k4 : k = 4 ∨ k = 5
  · simp only [if_pos k4]
    intro i h1 h2
    have hi : i = 0 ∨ i = 1 := by simp at h1; omega
    rcases hi with rfl | rfl
    · exact nH
    exact dig_put w0 (Rp.f3 h) h.dig
  simp only [if_neg k4]
  by_cases k6 : k = 6
  · simp only [if_pos k6]
    intro i h1 h2
    obtain rfl : i = 0 := by simp at h1; omega
    refine num_put w0 f7 (by omega) ?_
    show _ ∨ (_ ∧ _ ∧ subB r.sub.toNat = [])
    rw [hS, Int.toNat_natCast]
    by_cases hS4 : S < 4294967296
    · exact .inl ⟨by decide, by decide, by rw [p4]; exact hS4, by show subB S = _; exact if_pos hS4⟩
    · exact .inr ⟨rfl, by omega, if_neg hS4⟩
  simp only [if_neg k6]
  by_cases k7 : k = 7
  · simp only [if_pos k7]
    intro i h1 h2
    have hi : i = 0 ∨ i = 1 ∨ i = 2 ∨ i = 3 := by simp at h1; omega
    rcases hi with rfl | rfl | rfl | rfl
    · exact flg_put w0 (Rp.fg h)
    · exact num_put w0 fN (by omega) (.inl ⟨by decide, by decide, by rw [p8]; omega, by show digs r.ev.num.toNat 8 = _; rw [hM, Int.toNat_natCast]⟩)
    · exact flg_put w0 (Rp.fL h)
    refine ⟨(inferInstance : FnB Try.prog 45), ?_, fun L => ?_⟩
    · show (hdB r.ev.hd).length ≤ 1000
      unfold hdB
      split
      · rw [hBytes_len h.hd]; omega
      · simp
    rw [rpH_ev k7]
    exact wrep6_vc w0 L ge gp g r h
  simp only [if_neg k7]
  intro i h1
  exact absurd h1 (by simp)
/-- What may be: its parts' bytes are its bytes. -/
theorem rpD_of {r : Rp} (hm : MayR r) (hc : r.code = 0) : r.kind :: (digs 0 2 ++ ((rpD r.kind.toNat r).flatten ++ (if r.kind.toNat = 4 then prfB r.prf else []))) = ofR r := by
  have hz : ¬ r.code ≠ 0 := fun e => e hc
  unfold ofR restR rpD
  rw [if_neg hz, hc, show (0 : Int).toNat = 0 from rfl]
  congr 2
  by_cases k2 : r.kind.toNat = 2
  · simp only [if_pos k2, if_neg (show ¬ r.kind.toNat = 4 by omega)]
    simp
  simp only [if_neg k2]
  by_cases k3 : r.kind.toNat = 3
  · simp only [if_pos k3, if_neg (show ¬ r.kind.toNat = 4 by omega)]
    rw [show recB r.rc = recBytes r.rc from if_pos (hm.rc hc k3)]
    simp
  simp only [if_neg k3]
  by_cases k4 : r.kind.toNat = 4
  · simp only [if_pos k4, if_pos (show r.kind.toNat = 4 ∨ r.kind.toNat = 5 from .inl k4)]
    simp
  simp only [if_neg k4]
  by_cases k5 : r.kind.toNat = 5
  · simp only [if_pos k5, if_pos (show r.kind.toNat = 4 ∨ r.kind.toNat = 5 from .inr k5)]
    simp
  simp only [if_neg k5, if_neg (show ¬ (r.kind.toNat = 4 ∨ r.kind.toNat = 5) by omega)]
  by_cases k6 : r.kind.toNat = 6
  · simp only [if_pos k6]
    have h0 := hm.s0
    have h1 := hm.s1
    rw [show subB r.sub.toNat = digs r.sub.toNat 4 from if_pos (by omega)]
    simp
  simp only [if_neg k6]
  by_cases k7 : r.kind.toNat = 7
  · simp only [if_pos k7]
    rw [show hdB r.ev.hd = hBytes r.ev.hd from if_pos hm.hd]
    simp
  simp only [if_neg k7]
  rfl
end Go.Proofs.Ytgffejpcldeklaa

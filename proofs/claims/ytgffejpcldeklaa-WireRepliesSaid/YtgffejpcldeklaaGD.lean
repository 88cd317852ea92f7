/-
  Digests, as plain functions of bytes. Words turned; rounds; words of a block: the walks. The words of a block: the two walks. A block turns the state: the program's walk.
-/
import Derived.Test.YtgffejpcldeklaaGC
set_option linter.unusedVariables false
set_option linter.unusedSimpArgs false
set_option linter.unusedSectionVars false

namespace Go.Proofs.Ytgffejpcldeklaa
open Go Go.RowKit

/-- Eight words. -/
structure S8 where
  a : UInt32
  b : UInt32
  c : UInt32
  d : UInt32
  e : UInt32
  f : UInt32
  g : UInt32
  h : UInt32
@[reducible] def S8.l (s : S8) : List UInt32 := [s.a, s.b, s.c, s.d, s.e, s.f, s.g, s.h]
@[reducible] def S8.cells (s : S8) : List Value := [.int .u32 (s.a.toNat : Int), .int .u32 (s.b.toNat : Int), .int .u32 (s.c.toNat : Int), .int .u32 (s.d.toNat : Int), .int .u32 (s.e.toNat : Int), .int .u32 (s.f.toNat : Int), .int .u32 (s.g.toNat : Int), .int .u32 (s.h.toNat : Int)]
theorem S8.wds (s : S8) : wds s.l = s.cells := rfl
def w8 (c : UInt8) : UInt32 := UInt32.ofNat c.toNat
/-- The words of a block. -/
def word (b : List UInt8) (t : Nat) : UInt32 := shlN (w8 (b.getD (4 * t) 0)) 24 ||| shlN (w8 (b.getD (4 * t + 1) 0)) 16 ||| shlN (w8 (b.getD (4 * t + 2) 0)) 8 ||| w8 (b.getD (4 * t + 3) 0)
def nextW (l : List UInt32) (n : Nat) : UInt32 := l.getD (n - 16) 0 + (rot (l.getD (n - 15) 0) 7 ^^^ rot (l.getD (n - 15) 0) 18 ^^^ shrN (l.getD (n - 15) 0) 3) + l.getD (n - 7) 0 + (rot (l.getD (n - 2) 0) 17 ^^^ rot (l.getD (n - 2) 0) 19 ^^^ shrN (l.getD (n - 2) 0) 10)
def sched (b : List UInt8) : Nat → List UInt32
  | 0 => []
  | n + 1 => sched b n ++ [if n < 16 then word b n else nextW (sched b n) n]
@[simp] theorem sched_length (b : List UInt8) : ∀ n, (sched b n).length = n
  | 0 => rfl
  | n + 1 => by simp [sched, sched_length b n]
/-- What memory holds of it when n are done. -/
def schedM (b : List UInt8) (n : Nat) : List UInt32 := sched b n ++ List.replicate (64 - n) 0
@[simp] theorem schedM_length (b : List UInt8) {n : Nat} (h : n ≤ 64) : (schedM b n).length = 64 := by simp [schedM]; omega
/-- One round. -/
def rT1 (s : S8) (k w : UInt32) : UInt32 := s.h + (rot s.e 6 ^^^ rot s.e 11 ^^^ rot s.e 25) + (s.e &&& s.f ^^^ ~~~s.e &&& s.g) + k + w
def rT2 (s : S8) : UInt32 := (rot s.a 2 ^^^ rot s.a 13 ^^^ rot s.a 22) + (s.a &&& s.b ^^^ s.a &&& s.c ^^^ s.b &&& s.c)
def rnd (s : S8) (k w : UInt32) : S8 := ⟨rT1 s k w + rT2 s, s.a, s.b, s.c, s.d + rT1 s k w, s.e, s.f, s.g⟩
def K64 : List UInt32 := [1116352408, 1899447441, 3049323471, 3921009573, 961987163, 1508970993, 2453635748, 2870763221, 3624381080, 310598401, 607225278, 1426881987, 1925078388, 2162078206, 2614888103, 3248222580, 3835390401, 4022224774, 264347078, 604807628, 770255983, 1249150122, 1555081692, 1996064986, 2554220882, 2821834349, 2952996808, 3210313671, 3336571891, 3584528711, 113926993, 338241895, 666307205, 773529912, 1294757372, 1396182291, 1695183700, 1986661051, 2177026350, 2456956037, 2730485921, 2820302411, 3259730800, 3345764771, 3516065817, 3600352804, 4094571909, 275423344, 430227734, 506948616, 659060556, 883997877, 958139571, 1322822218, 1537002063, 1747873779, 1955562222, 2024104815, 2227730452, 2361852424, 2428436474, 2756734187, 3204031479, 3329325298]
def rnds (w : List UInt32) : Nat → S8 → S8
  | 0, s => s
  | n + 1, s => rnd (rnds w n s) (K64.getD n 0) (w.getD n 0)
def S8.add (s v : S8) : S8 := ⟨s.a + v.a, s.b + v.b, s.c + v.c, s.d + v.d, s.e + v.e, s.f + v.f, s.g + v.g, s.h + v.h⟩
/-- .. when i of the eight are done. -/
def addM (s v : S8) (i : Nat) : List UInt32 := (s.add v).l.take i ++ s.l.drop i
@[simp] theorem addM_length (s v : S8) {i : Nat} (h : i ≤ 8) : (addM s v i).length = 8 := by simp [addM]; omega
/-- A block turns the state. -/
def comp (s : S8) (b : List UInt8) : S8 := s.add (rnds (sched b 64) 64 s)
def blocks (p : List UInt8) : Nat → S8 → S8
  | 0, s => s
  | n + 1, s => comp (blocks p n s) ((p.drop (64 * n)).take 64)
def init8 : S8 := ⟨1779033703, 3144134277, 1013904242, 2773480762, 1359893119, 2600822924, 528734635, 1541459225⟩
/-- How many zeroes fill. -/
def fill (n : Nat) : Nat := (119 - n % 64) % 64
def tail8 (l : List UInt8) : List UInt8 := digs (8 * l.length) 8
def padTail (l : List UInt8) : List UInt8 := 128 :: List.replicate (fill l.length) 0 ++ tail8 l
def pad (l : List UInt8) : List UInt8 := l ++ padTail l
/-- The digest of a state. -/
def outB (s : S8) : List UInt8 := (List.range 32).map fun i => UInt8.ofNat (shrN (s.l.getD (i / 4) 0) (24 - 8 * (i % 4))).toNat
@[simp] theorem outB_length (s : S8) : (outB s).length = 32 := by simp [outB]
def sha (l : List UInt8) : List UInt8 := outB (blocks (pad l) ((pad l).length / 64) init8)
@[simp] theorem sha_length (l : List UInt8) : (sha l).length = 32 := by simp [sha]
/-- .. when i bytes are done. -/
def outM (s : S8) (i : Nat) : List UInt8 := (outB s).take i ++ List.replicate (32 - i) 0
@[simp] theorem outM_length (s : S8) {i : Nat} (h : i ≤ 32) : (outM s i).length = 32 := by simp [outM]; omega
end Go.Proofs.Ytgffejpcldeklaa
namespace Go.Proofs.Ytgffejpcldeklaa
open Go Go.RowKit

end Go.Proofs.Ytgffejpcldeklaa
namespace Go.Proofs.Ytgffejpcldeklaa
open Go Go.RowKit

/-- Words of bytes, summed up. -/
def acc (b : List UInt8) (t : Nat) : Nat → UInt32
  | 0 => 0
  | j + 1 => 256 * acc b t j + w8 (b.getD (4 * t + j) 0)
end Go.Proofs.Ytgffejpcldeklaa
namespace Go.Proofs.Ytgffejpcldeklaa
open Go Go.RowKit

end Go.Proofs.Ytgffejpcldeklaa

/-
  The types and functions of the program, as the logic takes them (written by a program).
-/
import Derived.Test.YtjbjidopjhllbaaVMem
import Derived.Test.YtjbjidopjhllbaaProg
namespace Go.Proofs.Ytjbjidopjhllbaa
open Go Go.RowKit

instance ty1 : TyI Try.prog 1 false 1 8 [.nilFunc] := TyI.of (zv := .nilFunc) (by kernel_rfl) (by kernel_rfl) rfl rfl (by decide)
instance ut2 : UT Try.prog 2 (.int .i64) := ⟨by kernel_rfl⟩
instance ty2 : TyI Try.prog 2 false 1 8 [.int .i64 0] := TyI.of (zv := .int .i64 0) (by kernel_rfl) (by kernel_rfl) rfl rfl (by decide)
instance ut3 : UT Try.prog 3 (.int .i64) := ⟨by kernel_rfl⟩
instance ty3 : TyI Try.prog 3 false 1 8 [.int .i64 0] := TyI.of (zv := .int .i64 0) (by kernel_rfl) (by kernel_rfl) rfl rfl (by decide)
instance ut4 : UT Try.prog 4 (.bool) := ⟨by kernel_rfl⟩
instance ty4 : TyI Try.prog 4 false 1 1 [.bool false] := TyI.of (zv := .bool false) (by kernel_rfl) (by kernel_rfl) rfl rfl (by decide)
instance ut5 : UT Try.prog 5 (.int .u8) := ⟨by kernel_rfl⟩
instance ty5 : TyI Try.prog 5 false 1 1 [.int .u8 0] := TyI.of (zv := .int .u8 0) (by kernel_rfl) (by kernel_rfl) rfl rfl (by decide)
instance ut6 : UT Try.prog 6 (.int .u8) := ⟨by kernel_rfl⟩
instance ty6 : TyI Try.prog 6 false 1 1 [.int .u8 0] := TyI.of (zv := .int .u8 0) (by kernel_rfl) (by kernel_rfl) rfl rfl (by decide)
instance ty7 : TyI Try.prog 7 true 4 24 (.int .i64 0 :: (.int .i64 0 :: (.bool false :: [.int .u8 0]))) := TyI.of (zv := .agg (List.toArray (α := Value) ((.int .i64 0 :: (.int .i64 0 :: (.bool false :: [.int .u8 0])))))) (by kernel_rfl) (by kernel_rfl) rfl rfl (by decide)
instance fl7 : FlI Try.prog 7 [(0, 1), (1, 1), (2, 1), (3, 1)] := ⟨by kernel_rfl, by kernel_rfl⟩
instance ty8 : TyI Try.prog 8 true 4 24 (.int .i64 0 :: (.int .i64 0 :: (.bool false :: [.int .u8 0]))) := TyI.of (zv := .agg (List.toArray (α := Value) ((.int .i64 0 :: (.int .i64 0 :: (.bool false :: [.int .u8 0])))))) (by kernel_rfl) (by kernel_rfl) rfl rfl (by decide)
instance fl8 : FlI Try.prog 8 [(0, 1), (1, 1), (2, 1), (3, 1)] := ⟨by kernel_rfl, by kernel_rfl⟩
instance ut9 : UT Try.prog 9 (.string) := ⟨by kernel_rfl⟩
instance ty9 : TyI Try.prog 9 false 1 16 [.string ⟨#[]⟩] := TyI.of (zv := .string ⟨#[]⟩) (by kernel_rfl) (by kernel_rfl) rfl rfl (by decide)
instance ut10 : UT Try.prog 10 (.string) := ⟨by kernel_rfl⟩
instance ty10 : TyI Try.prog 10 false 1 16 [.string ⟨#[]⟩] := TyI.of (zv := .string ⟨#[]⟩) (by kernel_rfl) (by kernel_rfl) rfl rfl (by decide)
instance ut11 : UT Try.prog 11 (.string) := ⟨by kernel_rfl⟩
instance ty11 : TyI Try.prog 11 false 1 16 [.string ⟨#[]⟩] := TyI.of (zv := .string ⟨#[]⟩) (by kernel_rfl) (by kernel_rfl) rfl rfl (by decide)
instance ut12 : UT Try.prog 12 (.int .u64) := ⟨by kernel_rfl⟩
instance ty12 : TyI Try.prog 12 false 1 8 [.int .u64 0] := TyI.of (zv := .int .u64 0) (by kernel_rfl) (by kernel_rfl) rfl rfl (by decide)
instance ty13 : TyI Try.prog 13 true 2 24 (.string ⟨#[]⟩ :: [.int .u64 0]) := TyI.of (zv := .agg (List.toArray (α := Value) ((.string ⟨#[]⟩ :: [.int .u64 0])))) (by kernel_rfl) (by kernel_rfl) rfl rfl (by decide)
instance fl13 : FlI Try.prog 13 [(0, 1), (1, 1)] := ⟨by kernel_rfl, by kernel_rfl⟩
instance ty14 : TyI Try.prog 14 true 2 24 (.string ⟨#[]⟩ :: [.int .u64 0]) := TyI.of (zv := .agg (List.toArray (α := Value) ((.string ⟨#[]⟩ :: [.int .u64 0])))) (by kernel_rfl) (by kernel_rfl) rfl rfl (by decide)
instance fl14 : FlI Try.prog 14 [(0, 1), (1, 1)] := ⟨by kernel_rfl, by kernel_rfl⟩
instance ut15 : UT Try.prog 15 (.pointer 102) := ⟨by kernel_rfl⟩
instance ty15 : TyI Try.prog 15 false 1 8 [.pointer none] := TyI.of (zv := .pointer none) (by kernel_rfl) (by kernel_rfl) rfl rfl (by decide)
instance ut16 : UT Try.prog 16 (.pointer 105) := ⟨by kernel_rfl⟩
instance ty16 : TyI Try.prog 16 false 1 8 [.pointer none] := TyI.of (zv := .pointer none) (by kernel_rfl) (by kernel_rfl) rfl rfl (by decide)
instance ut17 : UT Try.prog 17 (.pointer 114) := ⟨by kernel_rfl⟩
instance ty17 : TyI Try.prog 17 false 1 8 [.pointer none] := TyI.of (zv := .pointer none) (by kernel_rfl) (by kernel_rfl) rfl rfl (by decide)
instance ty18 : TyI Try.prog 18 true 1 8 [.pointer none] := TyI.of (zv := .agg (List.toArray (α := Value) ([.pointer none]))) (by kernel_rfl) (by kernel_rfl) rfl rfl (by decide)
instance fl18 : FlI Try.prog 18 [(0, 1)] := ⟨by kernel_rfl, by kernel_rfl⟩
instance ty19 : TyI Try.prog 19 true 1 8 [.pointer none] := TyI.of (zv := .agg (List.toArray (α := Value) ([.pointer none]))) (by kernel_rfl) (by kernel_rfl) rfl rfl (by decide)
instance fl19 : FlI Try.prog 19 [(0, 1)] := ⟨by kernel_rfl, by kernel_rfl⟩
instance ut21 : UT Try.prog 21 (.int .i32) := ⟨by kernel_rfl⟩
instance ty21 : TyI Try.prog 21 false 1 4 [.int .i32 0] := TyI.of (zv := .int .i32 0) (by kernel_rfl) (by kernel_rfl) rfl rfl (by decide)
instance ut22 : UT Try.prog 22 (.slice 5) := ⟨by kernel_rfl⟩
instance ty22 : TyI Try.prog 22 false 1 24 [.slice none 0 0] := TyI.of (zv := .slice none 0 0) (by kernel_rfl) (by kernel_rfl) rfl rfl (by decide)
instance ty23 : TyI Try.prog 23 false 1 8 [.nilFunc] := TyI.of (zv := .nilFunc) (by kernel_rfl) (by kernel_rfl) rfl rfl (by decide)
instance ut24 : UT Try.prog 24 (.array 32 5) := ⟨by kernel_rfl⟩
instance ty24 : TyI Try.prog 24 true 32 32 (bvs (List.replicate 32 0)) := TyI.of (zv := .agg (List.toArray (α := Value) (bvs (List.replicate 32 0)))) (by kernel_rfl) (by kernel_rfl) rfl rfl (by decide)
instance ar24 : ArI Try.prog 24 5 32 false 1 1 [.int .u8 0] := ⟨by kernel_rfl, inferInstance⟩
instance eq24 : EqI Try.prog 24 (List.replicate 32 (some .u8)) := ⟨⟨9, by decide, by kernel_rfl⟩, by kernel_rfl, by kernel_rfl⟩
instance ut25 : UT Try.prog 25 (.array 32 5) := ⟨by kernel_rfl⟩
instance ty25 : TyI Try.prog 25 true 32 32 (bvs (List.replicate 32 0)) := TyI.of (zv := .agg (List.toArray (α := Value) (bvs (List.replicate 32 0)))) (by kernel_rfl) (by kernel_rfl) rfl rfl (by decide)
instance ar25 : ArI Try.prog 25 5 32 false 1 1 [.int .u8 0] := ⟨by kernel_rfl, inferInstance⟩
instance eq25 : EqI Try.prog 25 (List.replicate 32 (some .u8)) := ⟨⟨9, by decide, by kernel_rfl⟩, by kernel_rfl, by kernel_rfl⟩
instance ty26 : TyI Try.prog 26 true 98 112 (.int .i64 0 :: (bvs (List.replicate 32 0) ++ (bvs (List.replicate 32 0) ++ (bvs (List.replicate 32 0) ++ [.int .i64 0])))) := TyI.of (zv := .agg (List.toArray (α := Value) ((.int .i64 0 :: (bvs (List.replicate 32 0) ++ (bvs (List.replicate 32 0) ++ (bvs (List.replicate 32 0) ++ [.int .i64 0]))))))) (by kernel_rfl) (by kernel_rfl) rfl rfl (by decide)
instance fl26 : FlI Try.prog 26 [(0, 1), (1, 32), (33, 32), (65, 32), (97, 1)] := ⟨by kernel_rfl, by kernel_rfl⟩
instance eq26 : EqI Try.prog 26 (some .i64 :: (List.replicate 32 (some .u8) ++ (List.replicate 32 (some .u8) ++ (List.replicate 32 (some .u8) ++ [some .i64])))) := ⟨⟨9, by decide, by kernel_rfl⟩, by kernel_rfl, by kernel_rfl⟩
instance ty27 : TyI Try.prog 27 true 98 112 (.int .i64 0 :: (bvs (List.replicate 32 0) ++ (bvs (List.replicate 32 0) ++ (bvs (List.replicate 32 0) ++ [.int .i64 0])))) := TyI.of (zv := .agg (List.toArray (α := Value) ((.int .i64 0 :: (bvs (List.replicate 32 0) ++ (bvs (List.replicate 32 0) ++ (bvs (List.replicate 32 0) ++ [.int .i64 0]))))))) (by kernel_rfl) (by kernel_rfl) rfl rfl (by decide)
instance fl27 : FlI Try.prog 27 [(0, 1), (1, 32), (33, 32), (65, 32), (97, 1)] := ⟨by kernel_rfl, by kernel_rfl⟩
instance eq27 : EqI Try.prog 27 (some .i64 :: (List.replicate 32 (some .u8) ++ (List.replicate 32 (some .u8) ++ (List.replicate 32 (some .u8) ++ [some .i64])))) := ⟨⟨9, by decide, by kernel_rfl⟩, by kernel_rfl, by kernel_rfl⟩
instance ut28 : UT Try.prog 28 (.int .i64) := ⟨by kernel_rfl⟩
instance ty28 : TyI Try.prog 28 false 1 8 [.int .i64 0] := TyI.of (zv := .int .i64 0) (by kernel_rfl) (by kernel_rfl) rfl rfl (by decide)
instance ty30 : TyI Try.prog 30 false 1 8 [.nilFunc] := TyI.of (zv := .nilFunc) (by kernel_rfl) (by kernel_rfl) rfl rfl (by decide)
instance ty32 : TyI Try.prog 32 false 1 8 [.nilFunc] := TyI.of (zv := .nilFunc) (by kernel_rfl) (by kernel_rfl) rfl rfl (by decide)
instance ty33 : TyI Try.prog 33 false 1 8 [.nilFunc] := TyI.of (zv := .nilFunc) (by kernel_rfl) (by kernel_rfl) rfl rfl (by decide)
instance ty34 : TyI Try.prog 34 false 1 8 [.nilFunc] := TyI.of (zv := .nilFunc) (by kernel_rfl) (by kernel_rfl) rfl rfl (by decide)
instance ut35 : UT Try.prog 35 (.slice 22) := ⟨by kernel_rfl⟩
instance ty35 : TyI Try.prog 35 false 1 24 [.slice none 0 0] := TyI.of (zv := .slice none 0 0) (by kernel_rfl) (by kernel_rfl) rfl rfl (by decide)
instance ty37 : TyI Try.prog 37 false 1 8 [.nilFunc] := TyI.of (zv := .nilFunc) (by kernel_rfl) (by kernel_rfl) rfl rfl (by decide)
instance ty39 : TyI Try.prog 39 false 1 8 [.nilFunc] := TyI.of (zv := .nilFunc) (by kernel_rfl) (by kernel_rfl) rfl rfl (by decide)
instance ty40 : TyI Try.prog 40 false 1 8 [.nilFunc] := TyI.of (zv := .nilFunc) (by kernel_rfl) (by kernel_rfl) rfl rfl (by decide)
instance ty41 : TyI Try.prog 41 false 1 8 [.nilFunc] := TyI.of (zv := .nilFunc) (by kernel_rfl) (by kernel_rfl) rfl rfl (by decide)
instance ty42 : TyI Try.prog 42 true 34 48 (bvs (List.replicate 32 0) ++ (.int .u8 0 :: [.int .i64 0])) := TyI.of (zv := .agg (List.toArray (α := Value) ((bvs (List.replicate 32 0) ++ (.int .u8 0 :: [.int .i64 0]))))) (by kernel_rfl) (by kernel_rfl) rfl rfl (by decide)
instance fl42 : FlI Try.prog 42 [(0, 1), (1, 32), (33, 1)] := ⟨by kernel_rfl, by kernel_rfl⟩
instance eq42 : EqI Try.prog 42 (List.replicate 32 (some .u8) ++ (some .u8 :: [some .i64])) := ⟨⟨9, by decide, by kernel_rfl⟩, by kernel_rfl, by kernel_rfl⟩
instance ty43 : TyI Try.prog 43 true 34 48 (bvs (List.replicate 32 0) ++ (.int .u8 0 :: [.int .i64 0])) := TyI.of (zv := .agg (List.toArray (α := Value) ((bvs (List.replicate 32 0) ++ (.int .u8 0 :: [.int .i64 0]))))) (by kernel_rfl) (by kernel_rfl) rfl rfl (by decide)
instance fl43 : FlI Try.prog 43 [(0, 1), (1, 32), (33, 1)] := ⟨by kernel_rfl, by kernel_rfl⟩
instance eq43 : EqI Try.prog 43 (List.replicate 32 (some .u8) ++ (some .u8 :: [some .i64])) := ⟨⟨9, by decide, by kernel_rfl⟩, by kernel_rfl, by kernel_rfl⟩
instance ty44 : TyI Try.prog 44 false 1 8 [.nilFunc] := TyI.of (zv := .nilFunc) (by kernel_rfl) (by kernel_rfl) rfl rfl (by decide)
instance ty46 : TyI Try.prog 46 false 1 8 [.nilFunc] := TyI.of (zv := .nilFunc) (by kernel_rfl) (by kernel_rfl) rfl rfl (by decide)
instance ty48 : TyI Try.prog 48 false 1 8 [.nilFunc] := TyI.of (zv := .nilFunc) (by kernel_rfl) (by kernel_rfl) rfl rfl (by decide)
instance ty49 : TyI Try.prog 49 false 1 8 [.nilFunc] := TyI.of (zv := .nilFunc) (by kernel_rfl) (by kernel_rfl) rfl rfl (by decide)
instance ty50 : TyI Try.prog 50 false 1 8 [.nilFunc] := TyI.of (zv := .nilFunc) (by kernel_rfl) (by kernel_rfl) rfl rfl (by decide)
instance ty51 : TyI Try.prog 51 false 1 8 [.nilFunc] := TyI.of (zv := .nilFunc) (by kernel_rfl) (by kernel_rfl) rfl rfl (by decide)
instance ty52 : TyI Try.prog 52 false 1 8 [.nilFunc] := TyI.of (zv := .nilFunc) (by kernel_rfl) (by kernel_rfl) rfl rfl (by decide)
instance ty53 : TyI Try.prog 53 false 1 8 [.nilFunc] := TyI.of (zv := .nilFunc) (by kernel_rfl) (by kernel_rfl) rfl rfl (by decide)
instance ut54 : UT Try.prog 54 (.slice 25) := ⟨by kernel_rfl⟩
instance ty54 : TyI Try.prog 54 false 1 24 [.slice none 0 0] := TyI.of (zv := .slice none 0 0) (by kernel_rfl) (by kernel_rfl) rfl rfl (by decide)
instance ty55 : TyI Try.prog 55 true 67 120 (bvs (List.replicate 32 0) ++ (bvs (List.replicate 32 0) ++ (.int .u8 0 :: (.slice none 0 0 :: [.slice none 0 0])))) := TyI.of (zv := .agg (List.toArray (α := Value) ((bvs (List.replicate 32 0) ++ (bvs (List.replicate 32 0) ++ (.int .u8 0 :: (.slice none 0 0 :: [.slice none 0 0]))))))) (by kernel_rfl) (by kernel_rfl) rfl rfl (by decide)
instance fl55 : FlI Try.prog 55 [(0, 32), (32, 1), (33, 32), (65, 1), (66, 1)] := ⟨by kernel_rfl, by kernel_rfl⟩
instance ty56 : TyI Try.prog 56 true 67 120 (bvs (List.replicate 32 0) ++ (bvs (List.replicate 32 0) ++ (.int .u8 0 :: (.slice none 0 0 :: [.slice none 0 0])))) := TyI.of (zv := .agg (List.toArray (α := Value) ((bvs (List.replicate 32 0) ++ (bvs (List.replicate 32 0) ++ (.int .u8 0 :: (.slice none 0 0 :: [.slice none 0 0]))))))) (by kernel_rfl) (by kernel_rfl) rfl rfl (by decide)
instance fl56 : FlI Try.prog 56 [(0, 32), (32, 1), (33, 32), (65, 1), (66, 1)] := ⟨by kernel_rfl, by kernel_rfl⟩
instance ty57 : TyI Try.prog 57 false 1 8 [.nilFunc] := TyI.of (zv := .nilFunc) (by kernel_rfl) (by kernel_rfl) rfl rfl (by decide)
instance ty58 : TyI Try.prog 58 false 1 8 [.nilFunc] := TyI.of (zv := .nilFunc) (by kernel_rfl) (by kernel_rfl) rfl rfl (by decide)
instance ty60 : TyI Try.prog 60 false 1 8 [.nilFunc] := TyI.of (zv := .nilFunc) (by kernel_rfl) (by kernel_rfl) rfl rfl (by decide)
instance ty61 : TyI Try.prog 61 false 1 8 [.nilFunc] := TyI.of (zv := .nilFunc) (by kernel_rfl) (by kernel_rfl) rfl rfl (by decide)
instance ty62 : TyI Try.prog 62 false 1 8 [.nilFunc] := TyI.of (zv := .nilFunc) (by kernel_rfl) (by kernel_rfl) rfl rfl (by decide)
instance ty63 : TyI Try.prog 63 false 1 8 [.nilFunc] := TyI.of (zv := .nilFunc) (by kernel_rfl) (by kernel_rfl) rfl rfl (by decide)
instance ty64 : TyI Try.prog 64 false 1 8 [.nilFunc] := TyI.of (zv := .nilFunc) (by kernel_rfl) (by kernel_rfl) rfl rfl (by decide)
instance ty65 : TyI Try.prog 65 false 1 8 [.nilFunc] := TyI.of (zv := .nilFunc) (by kernel_rfl) (by kernel_rfl) rfl rfl (by decide)
instance ty66 : TyI Try.prog 66 false 1 8 [.nilFunc] := TyI.of (zv := .nilFunc) (by kernel_rfl) (by kernel_rfl) rfl rfl (by decide)
instance ut67 : UT Try.prog 67 (.int .u64) := ⟨by kernel_rfl⟩
instance ty67 : TyI Try.prog 67 false 1 8 [.int .u64 0] := TyI.of (zv := .int .u64 0) (by kernel_rfl) (by kernel_rfl) rfl rfl (by decide)
instance ty69 : TyI Try.prog 69 false 1 8 [.nilFunc] := TyI.of (zv := .nilFunc) (by kernel_rfl) (by kernel_rfl) rfl rfl (by decide)
instance ut70 : UT Try.prog 70 (.pointer 25) := ⟨by kernel_rfl⟩
instance ty70 : TyI Try.prog 70 false 1 8 [.pointer none] := TyI.of (zv := .pointer none) (by kernel_rfl) (by kernel_rfl) rfl rfl (by decide)
instance ut71 : UT Try.prog 71 (.array 3 70) := ⟨by kernel_rfl⟩
instance ty71 : TyI Try.prog 71 true 3 24 (.pointer none :: (.pointer none :: [.pointer none])) := TyI.of (zv := .agg (List.toArray (α := Value) ((.pointer none :: (.pointer none :: [.pointer none]))))) (by kernel_rfl) (by kernel_rfl) rfl rfl (by decide)
instance ar71 : ArI Try.prog 71 70 3 false 1 8 [.pointer none] := ⟨by kernel_rfl, inferInstance⟩
instance ty72 : TyI Try.prog 72 false 1 8 [.nilFunc] := TyI.of (zv := .nilFunc) (by kernel_rfl) (by kernel_rfl) rfl rfl (by decide)
instance ty73 : TyI Try.prog 73 false 1 8 [.nilFunc] := TyI.of (zv := .nilFunc) (by kernel_rfl) (by kernel_rfl) rfl rfl (by decide)
instance ty74 : TyI Try.prog 74 false 1 8 [.nilFunc] := TyI.of (zv := .nilFunc) (by kernel_rfl) (by kernel_rfl) rfl rfl (by decide)
instance ty75 : TyI Try.prog 75 false 1 8 [.nilFunc] := TyI.of (zv := .nilFunc) (by kernel_rfl) (by kernel_rfl) rfl rfl (by decide)
instance ty76 : TyI Try.prog 76 false 1 8 [.nilFunc] := TyI.of (zv := .nilFunc) (by kernel_rfl) (by kernel_rfl) rfl rfl (by decide)
instance ty77 : TyI Try.prog 77 false 1 8 [.nilFunc] := TyI.of (zv := .nilFunc) (by kernel_rfl) (by kernel_rfl) rfl rfl (by decide)
instance ut78 : UT Try.prog 78 (.int .u32) := ⟨by kernel_rfl⟩
instance ty78 : TyI Try.prog 78 false 1 4 [.int .u32 0] := TyI.of (zv := .int .u32 0) (by kernel_rfl) (by kernel_rfl) rfl rfl (by decide)
instance ty79 : TyI Try.prog 79 false 1 8 [.nilFunc] := TyI.of (zv := .nilFunc) (by kernel_rfl) (by kernel_rfl) rfl rfl (by decide)
instance ty80 : TyI Try.prog 80 false 1 8 [.nilFunc] := TyI.of (zv := .nilFunc) (by kernel_rfl) (by kernel_rfl) rfl rfl (by decide)
instance ty81 : TyI Try.prog 81 false 1 8 [.nilFunc] := TyI.of (zv := .nilFunc) (by kernel_rfl) (by kernel_rfl) rfl rfl (by decide)
instance ty82 : TyI Try.prog 82 false 1 8 [.nilFunc] := TyI.of (zv := .nilFunc) (by kernel_rfl) (by kernel_rfl) rfl rfl (by decide)
instance ty83 : TyI Try.prog 83 false 1 8 [.nilFunc] := TyI.of (zv := .nilFunc) (by kernel_rfl) (by kernel_rfl) rfl rfl (by decide)
instance ut84 : UT Try.prog 84 (.int .u64) := ⟨by kernel_rfl⟩
instance ty84 : TyI Try.prog 84 false 1 8 [.int .u64 0] := TyI.of (zv := .int .u64 0) (by kernel_rfl) (by kernel_rfl) rfl rfl (by decide)
instance ty85 : TyI Try.prog 85 false 1 8 [.nilFunc] := TyI.of (zv := .nilFunc) (by kernel_rfl) (by kernel_rfl) rfl rfl (by decide)
instance ty86 : TyI Try.prog 86 false 1 8 [.nilFunc] := TyI.of (zv := .nilFunc) (by kernel_rfl) (by kernel_rfl) rfl rfl (by decide)
instance ty87 : TyI Try.prog 87 false 1 8 [.nilFunc] := TyI.of (zv := .nilFunc) (by kernel_rfl) (by kernel_rfl) rfl rfl (by decide)
instance ty88 : TyI Try.prog 88 true 33 56 (bvs (List.replicate 32 0) ++ [.slice none 0 0]) := TyI.of (zv := .agg (List.toArray (α := Value) ((bvs (List.replicate 32 0) ++ [.slice none 0 0])))) (by kernel_rfl) (by kernel_rfl) rfl rfl (by decide)
instance fl88 : FlI Try.prog 88 [(0, 32), (32, 1)] := ⟨by kernel_rfl, by kernel_rfl⟩
instance ty89 : TyI Try.prog 89 true 33 56 (bvs (List.replicate 32 0) ++ [.slice none 0 0]) := TyI.of (zv := .agg (List.toArray (α := Value) ((bvs (List.replicate 32 0) ++ [.slice none 0 0])))) (by kernel_rfl) (by kernel_rfl) rfl rfl (by decide)
instance fl89 : FlI Try.prog 89 [(0, 32), (32, 1)] := ⟨by kernel_rfl, by kernel_rfl⟩
instance ut90 : UT Try.prog 90 (.slice 89) := ⟨by kernel_rfl⟩
instance ty90 : TyI Try.prog 90 false 1 24 [.slice none 0 0] := TyI.of (zv := .slice none 0 0) (by kernel_rfl) (by kernel_rfl) rfl rfl (by decide)
instance ty91 : TyI Try.prog 91 false 1 8 [.nilFunc] := TyI.of (zv := .nilFunc) (by kernel_rfl) (by kernel_rfl) rfl rfl (by decide)
instance ty92 : TyI Try.prog 92 false 1 8 [.nilFunc] := TyI.of (zv := .nilFunc) (by kernel_rfl) (by kernel_rfl) rfl rfl (by decide)
instance ty93 : TyI Try.prog 93 false 1 8 [.nilFunc] := TyI.of (zv := .nilFunc) (by kernel_rfl) (by kernel_rfl) rfl rfl (by decide)
instance ty94 : TyI Try.prog 94 false 1 8 [.nilFunc] := TyI.of (zv := .nilFunc) (by kernel_rfl) (by kernel_rfl) rfl rfl (by decide)
instance ty95 : TyI Try.prog 95 false 1 8 [.nilFunc] := TyI.of (zv := .nilFunc) (by kernel_rfl) (by kernel_rfl) rfl rfl (by decide)
instance ty96 : TyI Try.prog 96 false 1 8 [.nilFunc] := TyI.of (zv := .nilFunc) (by kernel_rfl) (by kernel_rfl) rfl rfl (by decide)
instance ty97 : TyI Try.prog 97 false 1 8 [.nilFunc] := TyI.of (zv := .nilFunc) (by kernel_rfl) (by kernel_rfl) rfl rfl (by decide)
instance ty98 : TyI Try.prog 98 false 1 8 [.nilFunc] := TyI.of (zv := .nilFunc) (by kernel_rfl) (by kernel_rfl) rfl rfl (by decide)
instance ty99 : TyI Try.prog 99 false 1 8 [.nilFunc] := TyI.of (zv := .nilFunc) (by kernel_rfl) (by kernel_rfl) rfl rfl (by decide)
instance ty100 : TyI Try.prog 100 false 1 8 [.nilFunc] := TyI.of (zv := .nilFunc) (by kernel_rfl) (by kernel_rfl) rfl rfl (by decide)
instance ty101 : TyI Try.prog 101 true 4 40 (.pointer none :: (.pointer none :: (.pointer none :: [.string ⟨#[]⟩]))) := TyI.of (zv := .agg (List.toArray (α := Value) ((.pointer none :: (.pointer none :: (.pointer none :: [.string ⟨#[]⟩])))))) (by kernel_rfl) (by kernel_rfl) rfl rfl (by decide)
instance fl101 : FlI Try.prog 101 [(0, 1), (1, 1), (2, 1), (3, 1)] := ⟨by kernel_rfl, by kernel_rfl⟩
instance ty102 : TyI Try.prog 102 true 4 40 (.pointer none :: (.pointer none :: (.pointer none :: [.string ⟨#[]⟩]))) := TyI.of (zv := .agg (List.toArray (α := Value) ((.pointer none :: (.pointer none :: (.pointer none :: [.string ⟨#[]⟩])))))) (by kernel_rfl) (by kernel_rfl) rfl rfl (by decide)
instance fl102 : FlI Try.prog 102 [(0, 1), (1, 1), (2, 1), (3, 1)] := ⟨by kernel_rfl, by kernel_rfl⟩
instance ty106 : TyI Try.prog 106 false 1 8 [.nilFunc] := TyI.of (zv := .nilFunc) (by kernel_rfl) (by kernel_rfl) rfl rfl (by decide)
instance ut107 : UT Try.prog 107 (.int .u8) := ⟨by kernel_rfl⟩
instance ty107 : TyI Try.prog 107 false 1 1 [.int .u8 0] := TyI.of (zv := .int .u8 0) (by kernel_rfl) (by kernel_rfl) rfl rfl (by decide)
instance ut108 : UT Try.prog 108 (.int .u8) := ⟨by kernel_rfl⟩
instance ty108 : TyI Try.prog 108 false 1 1 [.int .u8 0] := TyI.of (zv := .int .u8 0) (by kernel_rfl) (by kernel_rfl) rfl rfl (by decide)
instance ty109 : TyI Try.prog 109 false 1 8 [.nilFunc] := TyI.of (zv := .nilFunc) (by kernel_rfl) (by kernel_rfl) rfl rfl (by decide)
instance ut110 : UT Try.prog 110 (.pointer 5) := ⟨by kernel_rfl⟩
instance ty110 : TyI Try.prog 110 false 1 8 [.pointer none] := TyI.of (zv := .pointer none) (by kernel_rfl) (by kernel_rfl) rfl rfl (by decide)
instance ut111 : UT Try.prog 111 (.int .i32) := ⟨by kernel_rfl⟩
instance ty111 : TyI Try.prog 111 false 1 4 [.int .i32 0] := TyI.of (zv := .int .i32 0) (by kernel_rfl) (by kernel_rfl) rfl rfl (by decide)
instance ut112 : UT Try.prog 112 (.int .i32) := ⟨by kernel_rfl⟩
instance ty112 : TyI Try.prog 112 false 1 4 [.int .i32 0] := TyI.of (zv := .int .i32 0) (by kernel_rfl) (by kernel_rfl) rfl rfl (by decide)
instance ty113 : TyI Try.prog 113 true 11 48 (.int .u64 0 :: (.int .u64 0 :: (.int .u32 0 :: (.int .u8 0 :: (.int .u8 0 :: (.int .u8 0 :: (.int .u8 0 :: (.nilFunc :: (.pointer none :: (.int .i32 0 :: [.int .i32 0])))))))))) := TyI.of (zv := .agg (List.toArray (α := Value) ((.int .u64 0 :: (.int .u64 0 :: (.int .u32 0 :: (.int .u8 0 :: (.int .u8 0 :: (.int .u8 0 :: (.int .u8 0 :: (.nilFunc :: (.pointer none :: (.int .i32 0 :: [.int .i32 0]))))))))))))) (by kernel_rfl) (by kernel_rfl) rfl rfl (by decide)
instance fl113 : FlI Try.prog 113 [(0, 1), (1, 1), (2, 1), (3, 1), (4, 1), (5, 1), (6, 1), (7, 1), (8, 1), (9, 1), (10, 1)] := ⟨by kernel_rfl, by kernel_rfl⟩
instance ty114 : TyI Try.prog 114 true 11 48 (.int .u64 0 :: (.int .u64 0 :: (.int .u32 0 :: (.int .u8 0 :: (.int .u8 0 :: (.int .u8 0 :: (.int .u8 0 :: (.nilFunc :: (.pointer none :: (.int .i32 0 :: [.int .i32 0])))))))))) := TyI.of (zv := .agg (List.toArray (α := Value) ((.int .u64 0 :: (.int .u64 0 :: (.int .u32 0 :: (.int .u8 0 :: (.int .u8 0 :: (.int .u8 0 :: (.int .u8 0 :: (.nilFunc :: (.pointer none :: (.int .i32 0 :: [.int .i32 0]))))))))))))) (by kernel_rfl) (by kernel_rfl) rfl rfl (by decide)
instance fl114 : FlI Try.prog 114 [(0, 1), (1, 1), (2, 1), (3, 1), (4, 1), (5, 1), (6, 1), (7, 1), (8, 1), (9, 1), (10, 1)] := ⟨by kernel_rfl, by kernel_rfl⟩
instance ty115 : TyI Try.prog 115 false 1 8 [.pointer none] := TyI.of (zv := .pointer none) (by kernel_rfl) (by kernel_rfl) rfl rfl (by decide)
instance fn3 : FnB Try.prog 3 := ⟨run_enter Try.func3 (by kernel_rfl) (by kernel_rfl)⟩
instance fi3 : FnI Try.prog 3 Try.f3 36 := ⟨Try.func3, Try.ntmps3⟩
instance fn4 : FnB Try.prog 4 := ⟨run_enter Try.func4 (by kernel_rfl) (by kernel_rfl)⟩
instance fi4 : FnI Try.prog 4 Try.f4 59 := ⟨Try.func4, Try.ntmps4⟩
instance fn5 : FnB Try.prog 5 := ⟨run_enter Try.func5 (by kernel_rfl) (by kernel_rfl)⟩
instance fi5 : FnI Try.prog 5 Try.f5 92 := ⟨Try.func5, Try.ntmps5⟩
instance fn6 : FnB Try.prog 6 := ⟨run_enter Try.func6 (by kernel_rfl) (by kernel_rfl)⟩
instance fi6 : FnI Try.prog 6 Try.f6 70 := ⟨Try.func6, Try.ntmps6⟩
instance fn7 : FnB Try.prog 7 := ⟨run_enter Try.func7 (by kernel_rfl) (by kernel_rfl)⟩
instance fi7 : FnI Try.prog 7 Try.f7 124 := ⟨Try.func7, Try.ntmps7⟩
instance fn8 : FnB Try.prog 8 := ⟨run_enter Try.func8 (by kernel_rfl) (by kernel_rfl)⟩
instance fi8 : FnI Try.prog 8 Try.f8 92 := ⟨Try.func8, Try.ntmps8⟩
instance fn9 : FnB Try.prog 9 := ⟨run_enter Try.func9 (by kernel_rfl) (by kernel_rfl)⟩
instance fi9 : FnI Try.prog 9 Try.f9 7 := ⟨Try.func9, Try.ntmps9⟩
instance fn10 : FnB Try.prog 10 := ⟨run_enter Try.func10 (by kernel_rfl) (by kernel_rfl)⟩
instance fi10 : FnI Try.prog 10 Try.f10 67 := ⟨Try.func10, Try.ntmps10⟩
instance fn11 : FnB Try.prog 11 := ⟨run_enter Try.func11 (by kernel_rfl) (by kernel_rfl)⟩
instance fi11 : FnI Try.prog 11 Try.f11 38 := ⟨Try.func11, Try.ntmps11⟩
instance fn12 : FnB Try.prog 12 := ⟨run_enter Try.func12 (by kernel_rfl) (by kernel_rfl)⟩
instance fi12 : FnI Try.prog 12 Try.f12 10 := ⟨Try.func12, Try.ntmps12⟩
instance fn13 : FnB Try.prog 13 := ⟨run_enter Try.func13 (by kernel_rfl) (by kernel_rfl)⟩
instance fi13 : FnI Try.prog 13 Try.f13 26 := ⟨Try.func13, Try.ntmps13⟩
instance fn14 : FnB Try.prog 14 := ⟨run_enter Try.func14 (by kernel_rfl) (by kernel_rfl)⟩
instance fi14 : FnI Try.prog 14 Try.f14 56 := ⟨Try.func14, Try.ntmps14⟩
instance fn15 : FnB Try.prog 15 := ⟨run_enter Try.func15 (by kernel_rfl) (by kernel_rfl)⟩
instance fi15 : FnI Try.prog 15 Try.f15 27 := ⟨Try.func15, Try.ntmps15⟩
instance fn16 : FnB Try.prog 16 := ⟨run_enter Try.func16 (by kernel_rfl) (by kernel_rfl)⟩
instance fi16 : FnI Try.prog 16 Try.f16 17 := ⟨Try.func16, Try.ntmps16⟩
instance fn17 : FnB Try.prog 17 := ⟨run_enter Try.func17 (by kernel_rfl) (by kernel_rfl)⟩
instance fi17 : FnI Try.prog 17 Try.f17 21 := ⟨Try.func17, Try.ntmps17⟩
instance fn18 : FnB Try.prog 18 := ⟨run_enter Try.func18 (by kernel_rfl) (by kernel_rfl)⟩
instance fi18 : FnI Try.prog 18 Try.f18 27 := ⟨Try.func18, Try.ntmps18⟩
instance fn19 : FnB Try.prog 19 := ⟨run_enter Try.func19 (by kernel_rfl) (by kernel_rfl)⟩
instance fi19 : FnI Try.prog 19 Try.f19 41 := ⟨Try.func19, Try.ntmps19⟩
instance fn20 : FnB Try.prog 20 := ⟨run_enter Try.func20 (by kernel_rfl) (by kernel_rfl)⟩
instance fi20 : FnI Try.prog 20 Try.f20 26 := ⟨Try.func20, Try.ntmps20⟩
instance fn21 : FnB Try.prog 21 := ⟨run_enter Try.func21 (by kernel_rfl) (by kernel_rfl)⟩
instance fi21 : FnI Try.prog 21 Try.f21 33 := ⟨Try.func21, Try.ntmps21⟩
instance fn22 : FnB Try.prog 22 := ⟨run_enter Try.func22 (by kernel_rfl) (by kernel_rfl)⟩
instance fi22 : FnI Try.prog 22 Try.f22 19 := ⟨Try.func22, Try.ntmps22⟩
instance fn23 : FnB Try.prog 23 := ⟨run_enter Try.func23 (by kernel_rfl) (by kernel_rfl)⟩
instance fi23 : FnI Try.prog 23 Try.f23 33 := ⟨Try.func23, Try.ntmps23⟩
instance fn24 : FnB Try.prog 24 := ⟨run_enter Try.func24 (by kernel_rfl) (by kernel_rfl)⟩
instance fi24 : FnI Try.prog 24 Try.f24 13 := ⟨Try.func24, Try.ntmps24⟩
instance fn25 : FnB Try.prog 25 := ⟨run_enter Try.func25 (by kernel_rfl) (by kernel_rfl)⟩
instance fi25 : FnI Try.prog 25 Try.f25 14 := ⟨Try.func25, Try.ntmps25⟩
instance fn26 : FnB Try.prog 26 := ⟨run_enter Try.func26 (by kernel_rfl) (by kernel_rfl)⟩
instance fi26 : FnI Try.prog 26 Try.f26 15 := ⟨Try.func26, Try.ntmps26⟩
instance fn27 : FnB Try.prog 27 := ⟨run_enter Try.func27 (by kernel_rfl) (by kernel_rfl)⟩
instance fi27 : FnI Try.prog 27 Try.f27 15 := ⟨Try.func27, Try.ntmps27⟩
instance fn28 : FnB Try.prog 28 := ⟨run_enter Try.func28 (by kernel_rfl) (by kernel_rfl)⟩
instance fi28 : FnI Try.prog 28 Try.f28 12 := ⟨Try.func28, Try.ntmps28⟩
instance fn29 : FnB Try.prog 29 := ⟨run_enter Try.func29 (by kernel_rfl) (by kernel_rfl)⟩
instance fi29 : FnI Try.prog 29 Try.f29 14 := ⟨Try.func29, Try.ntmps29⟩
instance fn30 : FnB Try.prog 30 := ⟨run_enter Try.func30 (by kernel_rfl) (by kernel_rfl)⟩
instance fi30 : FnI Try.prog 30 Try.f30 6 := ⟨Try.func30, Try.ntmps30⟩
instance fn31 : FnB Try.prog 31 := ⟨run_enter Try.func31 (by kernel_rfl) (by kernel_rfl)⟩
instance fi31 : FnI Try.prog 31 Try.f31 38 := ⟨Try.func31, Try.ntmps31⟩
instance fn32 : FnB Try.prog 32 := ⟨run_enter Try.func32 (by kernel_rfl) (by kernel_rfl)⟩
instance fi32 : FnI Try.prog 32 Try.f32 38 := ⟨Try.func32, Try.ntmps32⟩
instance fn33 : FnB Try.prog 33 := ⟨run_enter Try.func33 (by kernel_rfl) (by kernel_rfl)⟩
instance fi33 : FnI Try.prog 33 Try.f33 23 := ⟨Try.func33, Try.ntmps33⟩
instance fn34 : FnB Try.prog 34 := ⟨run_enter Try.func34 (by kernel_rfl) (by kernel_rfl)⟩
instance fi34 : FnI Try.prog 34 Try.f34 24 := ⟨Try.func34, Try.ntmps34⟩
instance fn35 : FnB Try.prog 35 := ⟨run_enter Try.func35 (by kernel_rfl) (by kernel_rfl)⟩
instance fi35 : FnI Try.prog 35 Try.f35 21 := ⟨Try.func35, Try.ntmps35⟩
instance fn36 : FnB Try.prog 36 := ⟨run_enter Try.func36 (by kernel_rfl) (by kernel_rfl)⟩
instance fi36 : FnI Try.prog 36 Try.f36 41 := ⟨Try.func36, Try.ntmps36⟩
instance fn37 : FnB Try.prog 37 := ⟨run_enter Try.func37 (by kernel_rfl) (by kernel_rfl)⟩
instance fi37 : FnI Try.prog 37 Try.f37 20 := ⟨Try.func37, Try.ntmps37⟩
instance fn38 : FnB Try.prog 38 := ⟨run_enter Try.func38 (by kernel_rfl) (by kernel_rfl)⟩
instance fi38 : FnI Try.prog 38 Try.f38 20 := ⟨Try.func38, Try.ntmps38⟩
instance fn39 : FnB Try.prog 39 := ⟨run_enter Try.func39 (by kernel_rfl) (by kernel_rfl)⟩
instance fi39 : FnI Try.prog 39 Try.f39 4 := ⟨Try.func39, Try.ntmps39⟩
instance fn40 : FnB Try.prog 40 := ⟨run_enter Try.func40 (by kernel_rfl) (by kernel_rfl)⟩
instance fi40 : FnI Try.prog 40 Try.f40 44 := ⟨Try.func40, Try.ntmps40⟩
instance fn41 : FnB Try.prog 41 := ⟨run_enter Try.func41 (by kernel_rfl) (by kernel_rfl)⟩
instance fi41 : FnI Try.prog 41 Try.f41 8 := ⟨Try.func41, Try.ntmps41⟩
instance fn42 : FnB Try.prog 42 := ⟨run_enter Try.func42 (by kernel_rfl) (by kernel_rfl)⟩
instance fi42 : FnI Try.prog 42 Try.f42 55 := ⟨Try.func42, Try.ntmps42⟩
instance fn43 : FnB Try.prog 43 := ⟨run_enter Try.func43 (by kernel_rfl) (by kernel_rfl)⟩
instance fi43 : FnI Try.prog 43 Try.f43 8 := ⟨Try.func43, Try.ntmps43⟩
instance fn44 : FnB Try.prog 44 := ⟨run_enter Try.func44 (by kernel_rfl) (by kernel_rfl)⟩
instance fi44 : FnI Try.prog 44 Try.f44 50 := ⟨Try.func44, Try.ntmps44⟩
instance fn45 : FnB Try.prog 45 := ⟨run_enter Try.func45 (by kernel_rfl) (by kernel_rfl)⟩
instance fi45 : FnI Try.prog 45 Try.f45 8 := ⟨Try.func45, Try.ntmps45⟩
instance fn46 : FnB Try.prog 46 := ⟨run_enter Try.func46 (by kernel_rfl) (by kernel_rfl)⟩
instance fi46 : FnI Try.prog 46 Try.f46 17 := ⟨Try.func46, Try.ntmps46⟩
instance fn47 : FnB Try.prog 47 := ⟨run_enter Try.func47 (by kernel_rfl) (by kernel_rfl)⟩
instance fi47 : FnI Try.prog 47 Try.f47 26 := ⟨Try.func47, Try.ntmps47⟩
instance fn48 : FnB Try.prog 48 := ⟨run_enter Try.func48 (by kernel_rfl) (by kernel_rfl)⟩
instance fi48 : FnI Try.prog 48 Try.f48 26 := ⟨Try.func48, Try.ntmps48⟩
instance fn49 : FnB Try.prog 49 := ⟨run_enter Try.func49 (by kernel_rfl) (by kernel_rfl)⟩
instance fi49 : FnI Try.prog 49 Try.f49 26 := ⟨Try.func49, Try.ntmps49⟩
instance fn50 : FnB Try.prog 50 := ⟨run_enter Try.func50 (by kernel_rfl) (by kernel_rfl)⟩
instance fi50 : FnI Try.prog 50 Try.f50 5 := ⟨Try.func50, Try.ntmps50⟩
instance fn51 : FnB Try.prog 51 := ⟨run_enter Try.func51 (by kernel_rfl) (by kernel_rfl)⟩
instance fi51 : FnI Try.prog 51 Try.f51 15 := ⟨Try.func51, Try.ntmps51⟩
instance fn52 : FnB Try.prog 52 := ⟨run_enter Try.func52 (by kernel_rfl) (by kernel_rfl)⟩
instance fi52 : FnI Try.prog 52 Try.f52 46 := ⟨Try.func52, Try.ntmps52⟩
instance fn53 : FnB Try.prog 53 := ⟨run_enter Try.func53 (by kernel_rfl) (by kernel_rfl)⟩
instance fi53 : FnI Try.prog 53 Try.f53 6 := ⟨Try.func53, Try.ntmps53⟩
instance fn54 : FnB Try.prog 54 := ⟨run_enter Try.func54 (by kernel_rfl) (by kernel_rfl)⟩
instance fi54 : FnI Try.prog 54 Try.f54 11 := ⟨Try.func54, Try.ntmps54⟩
instance fn55 : FnB Try.prog 55 := ⟨run_enter Try.func55 (by kernel_rfl) (by kernel_rfl)⟩
instance fi55 : FnI Try.prog 55 Try.f55 20 := ⟨Try.func55, Try.ntmps55⟩
instance fn56 : FnB Try.prog 56 := ⟨run_enter Try.func56 (by kernel_rfl) (by kernel_rfl)⟩
instance fi56 : FnI Try.prog 56 Try.f56 36 := ⟨Try.func56, Try.ntmps56⟩
instance fn57 : FnB Try.prog 57 := ⟨run_enter Try.func57 (by kernel_rfl) (by kernel_rfl)⟩
instance fi57 : FnI Try.prog 57 Try.f57 6 := ⟨Try.func57, Try.ntmps57⟩
instance fn58 : FnB Try.prog 58 := ⟨run_enter Try.func58 (by kernel_rfl) (by kernel_rfl)⟩
instance fi58 : FnI Try.prog 58 Try.f58 6 := ⟨Try.func58, Try.ntmps58⟩
instance fn59 : FnB Try.prog 59 := ⟨run_enter Try.func59 (by kernel_rfl) (by kernel_rfl)⟩
instance fi59 : FnI Try.prog 59 Try.f59 92 := ⟨Try.func59, Try.ntmps59⟩
instance fn60 : FnB Try.prog 60 := ⟨run_enter Try.func60 (by kernel_rfl) (by kernel_rfl)⟩
instance fi60 : FnI Try.prog 60 Try.f60 21 := ⟨Try.func60, Try.ntmps60⟩
instance fn61 : FnB Try.prog 61 := ⟨run_enter Try.func61 (by kernel_rfl) (by kernel_rfl)⟩
instance fi61 : FnI Try.prog 61 Try.f61 11 := ⟨Try.func61, Try.ntmps61⟩
instance fn62 : FnB Try.prog 62 := ⟨run_enter Try.func62 (by kernel_rfl) (by kernel_rfl)⟩
instance fi62 : FnI Try.prog 62 Try.f62 18 := ⟨Try.func62, Try.ntmps62⟩
instance fn63 : FnB Try.prog 63 := ⟨run_enter Try.func63 (by kernel_rfl) (by kernel_rfl)⟩
instance fi63 : FnI Try.prog 63 Try.f63 26 := ⟨Try.func63, Try.ntmps63⟩
instance fn64 : FnB Try.prog 64 := ⟨run_enter Try.func64 (by kernel_rfl) (by kernel_rfl)⟩
instance fi64 : FnI Try.prog 64 Try.f64 6 := ⟨Try.func64, Try.ntmps64⟩
end Go.Proofs.Ytjbjidopjhllbaa

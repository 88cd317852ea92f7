/-
  The types and functions of the program, as the logic takes them (written by a program).
-/
import Derived.Test.YtpnhgmmijkjmlaaDoorVMem
import Derived.Test.YtpnhgmmijkjmlaaDoorProg
namespace Go.Proofs.YtpnhgmmijkjmlaaDoor
open Go Go.RowKit

instance ty1 : TyI Tryd.prog 1 false 1 8 [.nilFunc] := TyI.of (zv := .nilFunc) (by kernel_rfl) (by kernel_rfl) rfl rfl (by decide)
instance ut2 : UT Tryd.prog 2 (.int .i64) := ⟨by kernel_rfl⟩
instance ty2 : TyI Tryd.prog 2 false 1 8 [.int .i64 0] := TyI.of (zv := .int .i64 0) (by kernel_rfl) (by kernel_rfl) rfl rfl (by decide)
instance ut3 : UT Tryd.prog 3 (.int .i64) := ⟨by kernel_rfl⟩
instance ty3 : TyI Tryd.prog 3 false 1 8 [.int .i64 0] := TyI.of (zv := .int .i64 0) (by kernel_rfl) (by kernel_rfl) rfl rfl (by decide)
instance ut4 : UT Tryd.prog 4 (.bool) := ⟨by kernel_rfl⟩
instance ty4 : TyI Tryd.prog 4 false 1 1 [.bool false] := TyI.of (zv := .bool false) (by kernel_rfl) (by kernel_rfl) rfl rfl (by decide)
instance ut5 : UT Tryd.prog 5 (.int .u8) := ⟨by kernel_rfl⟩
instance ty5 : TyI Tryd.prog 5 false 1 1 [.int .u8 0] := TyI.of (zv := .int .u8 0) (by kernel_rfl) (by kernel_rfl) rfl rfl (by decide)
instance ut6 : UT Tryd.prog 6 (.int .u8) := ⟨by kernel_rfl⟩
instance ty6 : TyI Tryd.prog 6 false 1 1 [.int .u8 0] := TyI.of (zv := .int .u8 0) (by kernel_rfl) (by kernel_rfl) rfl rfl (by decide)
instance ty7 : TyI Tryd.prog 7 true 4 24 (.int .i64 0 :: (.int .i64 0 :: (.bool false :: [.int .u8 0]))) := TyI.of (zv := .agg (List.toArray (α := Value) ((.int .i64 0 :: (.int .i64 0 :: (.bool false :: [.int .u8 0])))))) (by kernel_rfl) (by kernel_rfl) rfl rfl (by decide)
instance fl7 : FlI Tryd.prog 7 [(0, 1), (1, 1), (2, 1), (3, 1)] := ⟨by kernel_rfl, by kernel_rfl⟩
instance ty8 : TyI Tryd.prog 8 true 4 24 (.int .i64 0 :: (.int .i64 0 :: (.bool false :: [.int .u8 0]))) := TyI.of (zv := .agg (List.toArray (α := Value) ((.int .i64 0 :: (.int .i64 0 :: (.bool false :: [.int .u8 0])))))) (by kernel_rfl) (by kernel_rfl) rfl rfl (by decide)
instance fl8 : FlI Tryd.prog 8 [(0, 1), (1, 1), (2, 1), (3, 1)] := ⟨by kernel_rfl, by kernel_rfl⟩
instance ut9 : UT Tryd.prog 9 (.string) := ⟨by kernel_rfl⟩
instance ty9 : TyI Tryd.prog 9 false 1 16 [.string ⟨#[]⟩] := TyI.of (zv := .string ⟨#[]⟩) (by kernel_rfl) (by kernel_rfl) rfl rfl (by decide)
instance ut10 : UT Tryd.prog 10 (.string) := ⟨by kernel_rfl⟩
instance ty10 : TyI Tryd.prog 10 false 1 16 [.string ⟨#[]⟩] := TyI.of (zv := .string ⟨#[]⟩) (by kernel_rfl) (by kernel_rfl) rfl rfl (by decide)
instance ut11 : UT Tryd.prog 11 (.string) := ⟨by kernel_rfl⟩
instance ty11 : TyI Tryd.prog 11 false 1 16 [.string ⟨#[]⟩] := TyI.of (zv := .string ⟨#[]⟩) (by kernel_rfl) (by kernel_rfl) rfl rfl (by decide)
instance ut12 : UT Tryd.prog 12 (.int .u64) := ⟨by kernel_rfl⟩
instance ty12 : TyI Tryd.prog 12 false 1 8 [.int .u64 0] := TyI.of (zv := .int .u64 0) (by kernel_rfl) (by kernel_rfl) rfl rfl (by decide)
instance ty13 : TyI Tryd.prog 13 true 2 24 (.string ⟨#[]⟩ :: [.int .u64 0]) := TyI.of (zv := .agg (List.toArray (α := Value) ((.string ⟨#[]⟩ :: [.int .u64 0])))) (by kernel_rfl) (by kernel_rfl) rfl rfl (by decide)
instance fl13 : FlI Tryd.prog 13 [(0, 1), (1, 1)] := ⟨by kernel_rfl, by kernel_rfl⟩
instance ty14 : TyI Tryd.prog 14 true 2 24 (.string ⟨#[]⟩ :: [.int .u64 0]) := TyI.of (zv := .agg (List.toArray (α := Value) ((.string ⟨#[]⟩ :: [.int .u64 0])))) (by kernel_rfl) (by kernel_rfl) rfl rfl (by decide)
instance fl14 : FlI Tryd.prog 14 [(0, 1), (1, 1)] := ⟨by kernel_rfl, by kernel_rfl⟩
instance ut15 : UT Tryd.prog 15 (.pointer 146) := ⟨by kernel_rfl⟩
instance ty15 : TyI Tryd.prog 15 false 1 8 [.pointer none] := TyI.of (zv := .pointer none) (by kernel_rfl) (by kernel_rfl) rfl rfl (by decide)
instance ut16 : UT Tryd.prog 16 (.pointer 149) := ⟨by kernel_rfl⟩
instance ty16 : TyI Tryd.prog 16 false 1 8 [.pointer none] := TyI.of (zv := .pointer none) (by kernel_rfl) (by kernel_rfl) rfl rfl (by decide)
instance ut17 : UT Tryd.prog 17 (.pointer 158) := ⟨by kernel_rfl⟩
instance ty17 : TyI Tryd.prog 17 false 1 8 [.pointer none] := TyI.of (zv := .pointer none) (by kernel_rfl) (by kernel_rfl) rfl rfl (by decide)
instance ty18 : TyI Tryd.prog 18 true 1 8 [.pointer none] := TyI.of (zv := .agg (List.toArray (α := Value) ([.pointer none]))) (by kernel_rfl) (by kernel_rfl) rfl rfl (by decide)
instance fl18 : FlI Tryd.prog 18 [(0, 1)] := ⟨by kernel_rfl, by kernel_rfl⟩
instance ty19 : TyI Tryd.prog 19 true 1 8 [.pointer none] := TyI.of (zv := .agg (List.toArray (α := Value) ([.pointer none]))) (by kernel_rfl) (by kernel_rfl) rfl rfl (by decide)
instance fl19 : FlI Tryd.prog 19 [(0, 1)] := ⟨by kernel_rfl, by kernel_rfl⟩
instance ut21 : UT Tryd.prog 21 (.int .i32) := ⟨by kernel_rfl⟩
instance ty21 : TyI Tryd.prog 21 false 1 4 [.int .i32 0] := TyI.of (zv := .int .i32 0) (by kernel_rfl) (by kernel_rfl) rfl rfl (by decide)
instance ut22 : UT Tryd.prog 22 (.array 32 5) := ⟨by kernel_rfl⟩
instance ty22 : TyI Tryd.prog 22 true 32 32 (bvs (List.replicate 32 0)) := TyI.of (zv := .agg (List.toArray (α := Value) (bvs (List.replicate 32 0)))) (by kernel_rfl) (by kernel_rfl) rfl rfl (by decide)
instance ar22 : ArI Tryd.prog 22 5 32 false 1 1 [.int .u8 0] := ⟨by kernel_rfl, inferInstance⟩
instance eq22 : EqI Tryd.prog 22 (List.replicate 32 (some .u8)) := ⟨⟨9, by decide, by kernel_rfl⟩, by kernel_rfl, by kernel_rfl⟩
instance ut23 : UT Tryd.prog 23 (.array 32 5) := ⟨by kernel_rfl⟩
instance ty23 : TyI Tryd.prog 23 true 32 32 (bvs (List.replicate 32 0)) := TyI.of (zv := .agg (List.toArray (α := Value) (bvs (List.replicate 32 0)))) (by kernel_rfl) (by kernel_rfl) rfl rfl (by decide)
instance ar23 : ArI Tryd.prog 23 5 32 false 1 1 [.int .u8 0] := ⟨by kernel_rfl, inferInstance⟩
instance eq23 : EqI Tryd.prog 23 (List.replicate 32 (some .u8)) := ⟨⟨9, by decide, by kernel_rfl⟩, by kernel_rfl, by kernel_rfl⟩
instance ty24 : TyI Tryd.prog 24 true 98 112 (.int .i64 0 :: (bvs (List.replicate 32 0) ++ (bvs (List.replicate 32 0) ++ (bvs (List.replicate 32 0) ++ [.int .i64 0])))) := TyI.of (zv := .agg (List.toArray (α := Value) ((.int .i64 0 :: (bvs (List.replicate 32 0) ++ (bvs (List.replicate 32 0) ++ (bvs (List.replicate 32 0) ++ [.int .i64 0]))))))) (by kernel_rfl) (by kernel_rfl) rfl rfl (by decide)
instance fl24 : FlI Tryd.prog 24 [(0, 1), (1, 32), (33, 32), (65, 32), (97, 1)] := ⟨by kernel_rfl, by kernel_rfl⟩
instance eq24 : EqI Tryd.prog 24 (some .i64 :: (List.replicate 32 (some .u8) ++ (List.replicate 32 (some .u8) ++ (List.replicate 32 (some .u8) ++ [some .i64])))) := ⟨⟨9, by decide, by kernel_rfl⟩, by kernel_rfl, by kernel_rfl⟩
instance ty25 : TyI Tryd.prog 25 true 98 112 (.int .i64 0 :: (bvs (List.replicate 32 0) ++ (bvs (List.replicate 32 0) ++ (bvs (List.replicate 32 0) ++ [.int .i64 0])))) := TyI.of (zv := .agg (List.toArray (α := Value) ((.int .i64 0 :: (bvs (List.replicate 32 0) ++ (bvs (List.replicate 32 0) ++ (bvs (List.replicate 32 0) ++ [.int .i64 0]))))))) (by kernel_rfl) (by kernel_rfl) rfl rfl (by decide)
instance fl25 : FlI Tryd.prog 25 [(0, 1), (1, 32), (33, 32), (65, 32), (97, 1)] := ⟨by kernel_rfl, by kernel_rfl⟩
instance eq25 : EqI Tryd.prog 25 (some .i64 :: (List.replicate 32 (some .u8) ++ (List.replicate 32 (some .u8) ++ (List.replicate 32 (some .u8) ++ [some .i64])))) := ⟨⟨9, by decide, by kernel_rfl⟩, by kernel_rfl, by kernel_rfl⟩
instance ty26 : TyI Tryd.prog 26 false 1 8 [.nilFunc] := TyI.of (zv := .nilFunc) (by kernel_rfl) (by kernel_rfl) rfl rfl (by decide)
instance ty27 : TyI Tryd.prog 27 false 1 8 [.nilFunc] := TyI.of (zv := .nilFunc) (by kernel_rfl) (by kernel_rfl) rfl rfl (by decide)
instance ut28 : UT Tryd.prog 28 (.slice 5) := ⟨by kernel_rfl⟩
instance ty28 : TyI Tryd.prog 28 false 1 24 [.slice none 0 0] := TyI.of (zv := .slice none 0 0) (by kernel_rfl) (by kernel_rfl) rfl rfl (by decide)
instance ut29 : UT Tryd.prog 29 (.int .i64) := ⟨by kernel_rfl⟩
instance ty29 : TyI Tryd.prog 29 false 1 8 [.int .i64 0] := TyI.of (zv := .int .i64 0) (by kernel_rfl) (by kernel_rfl) rfl rfl (by decide)
instance ty31 : TyI Tryd.prog 31 false 1 8 [.nilFunc] := TyI.of (zv := .nilFunc) (by kernel_rfl) (by kernel_rfl) rfl rfl (by decide)
instance ty32 : TyI Tryd.prog 32 false 1 8 [.nilFunc] := TyI.of (zv := .nilFunc) (by kernel_rfl) (by kernel_rfl) rfl rfl (by decide)
instance ty33 : TyI Tryd.prog 33 false 1 8 [.nilFunc] := TyI.of (zv := .nilFunc) (by kernel_rfl) (by kernel_rfl) rfl rfl (by decide)
instance ty34 : TyI Tryd.prog 34 false 1 8 [.nilFunc] := TyI.of (zv := .nilFunc) (by kernel_rfl) (by kernel_rfl) rfl rfl (by decide)
instance ty35 : TyI Tryd.prog 35 false 1 8 [.nilFunc] := TyI.of (zv := .nilFunc) (by kernel_rfl) (by kernel_rfl) rfl rfl (by decide)
instance ty37 : TyI Tryd.prog 37 false 1 8 [.nilFunc] := TyI.of (zv := .nilFunc) (by kernel_rfl) (by kernel_rfl) rfl rfl (by decide)
instance ty39 : TyI Tryd.prog 39 false 1 8 [.nilFunc] := TyI.of (zv := .nilFunc) (by kernel_rfl) (by kernel_rfl) rfl rfl (by decide)
instance ty40 : TyI Tryd.prog 40 false 1 8 [.nilFunc] := TyI.of (zv := .nilFunc) (by kernel_rfl) (by kernel_rfl) rfl rfl (by decide)
instance ty41 : TyI Tryd.prog 41 false 1 8 [.nilFunc] := TyI.of (zv := .nilFunc) (by kernel_rfl) (by kernel_rfl) rfl rfl (by decide)
instance ty42 : TyI Tryd.prog 42 true 34 48 (bvs (List.replicate 32 0) ++ (.int .u8 0 :: [.int .i64 0])) := TyI.of (zv := .agg (List.toArray (α := Value) ((bvs (List.replicate 32 0) ++ (.int .u8 0 :: [.int .i64 0]))))) (by kernel_rfl) (by kernel_rfl) rfl rfl (by decide)
instance fl42 : FlI Tryd.prog 42 [(0, 1), (1, 32), (33, 1)] := ⟨by kernel_rfl, by kernel_rfl⟩
instance eq42 : EqI Tryd.prog 42 (List.replicate 32 (some .u8) ++ (some .u8 :: [some .i64])) := ⟨⟨9, by decide, by kernel_rfl⟩, by kernel_rfl, by kernel_rfl⟩
instance ty43 : TyI Tryd.prog 43 true 34 48 (bvs (List.replicate 32 0) ++ (.int .u8 0 :: [.int .i64 0])) := TyI.of (zv := .agg (List.toArray (α := Value) ((bvs (List.replicate 32 0) ++ (.int .u8 0 :: [.int .i64 0]))))) (by kernel_rfl) (by kernel_rfl) rfl rfl (by decide)
instance fl43 : FlI Tryd.prog 43 [(0, 1), (1, 32), (33, 1)] := ⟨by kernel_rfl, by kernel_rfl⟩
instance eq43 : EqI Tryd.prog 43 (List.replicate 32 (some .u8) ++ (some .u8 :: [some .i64])) := ⟨⟨9, by decide, by kernel_rfl⟩, by kernel_rfl, by kernel_rfl⟩
instance ty45 : TyI Tryd.prog 45 false 1 8 [.nilFunc] := TyI.of (zv := .nilFunc) (by kernel_rfl) (by kernel_rfl) rfl rfl (by decide)
instance ty46 : TyI Tryd.prog 46 false 1 8 [.nilFunc] := TyI.of (zv := .nilFunc) (by kernel_rfl) (by kernel_rfl) rfl rfl (by decide)
instance ty47 : TyI Tryd.prog 47 false 1 8 [.nilFunc] := TyI.of (zv := .nilFunc) (by kernel_rfl) (by kernel_rfl) rfl rfl (by decide)
instance ut48 : UT Tryd.prog 48 (.int .u64) := ⟨by kernel_rfl⟩
instance ty48 : TyI Tryd.prog 48 false 1 8 [.int .u64 0] := TyI.of (zv := .int .u64 0) (by kernel_rfl) (by kernel_rfl) rfl rfl (by decide)
instance ty49 : TyI Tryd.prog 49 true 34 48 (.int .u64 0 :: (bvs (List.replicate 32 0) ++ [.int .u64 0])) := TyI.of (zv := .agg (List.toArray (α := Value) ((.int .u64 0 :: (bvs (List.replicate 32 0) ++ [.int .u64 0]))))) (by kernel_rfl) (by kernel_rfl) rfl rfl (by decide)
instance fl49 : FlI Tryd.prog 49 [(0, 1), (1, 32), (33, 1)] := ⟨by kernel_rfl, by kernel_rfl⟩
instance eq49 : EqI Tryd.prog 49 (some .u64 :: (List.replicate 32 (some .u8) ++ [some .u64])) := ⟨⟨9, by decide, by kernel_rfl⟩, by kernel_rfl, by kernel_rfl⟩
instance ty50 : TyI Tryd.prog 50 true 34 48 (.int .u64 0 :: (bvs (List.replicate 32 0) ++ [.int .u64 0])) := TyI.of (zv := .agg (List.toArray (α := Value) ((.int .u64 0 :: (bvs (List.replicate 32 0) ++ [.int .u64 0]))))) (by kernel_rfl) (by kernel_rfl) rfl rfl (by decide)
instance fl50 : FlI Tryd.prog 50 [(0, 1), (1, 32), (33, 1)] := ⟨by kernel_rfl, by kernel_rfl⟩
instance eq50 : EqI Tryd.prog 50 (some .u64 :: (List.replicate 32 (some .u8) ++ [some .u64])) := ⟨⟨9, by decide, by kernel_rfl⟩, by kernel_rfl, by kernel_rfl⟩
instance ty51 : TyI Tryd.prog 51 false 1 8 [.nilFunc] := TyI.of (zv := .nilFunc) (by kernel_rfl) (by kernel_rfl) rfl rfl (by decide)
instance ty52 : TyI Tryd.prog 52 false 1 8 [.nilFunc] := TyI.of (zv := .nilFunc) (by kernel_rfl) (by kernel_rfl) rfl rfl (by decide)
instance ty54 : TyI Tryd.prog 54 false 1 8 [.nilFunc] := TyI.of (zv := .nilFunc) (by kernel_rfl) (by kernel_rfl) rfl rfl (by decide)
instance ty56 : TyI Tryd.prog 56 false 1 8 [.nilFunc] := TyI.of (zv := .nilFunc) (by kernel_rfl) (by kernel_rfl) rfl rfl (by decide)
instance ty57 : TyI Tryd.prog 57 false 1 8 [.nilFunc] := TyI.of (zv := .nilFunc) (by kernel_rfl) (by kernel_rfl) rfl rfl (by decide)
instance ty58 : TyI Tryd.prog 58 false 1 8 [.nilFunc] := TyI.of (zv := .nilFunc) (by kernel_rfl) (by kernel_rfl) rfl rfl (by decide)
instance ty59 : TyI Tryd.prog 59 true 99 120 (bvs (List.replicate 32 0) ++ (bvs (List.replicate 32 0) ++ (.int .u64 0 :: (.int .u64 0 :: (.int .u64 0 :: bvs (List.replicate 32 0)))))) := TyI.of (zv := .agg (List.toArray (α := Value) ((bvs (List.replicate 32 0) ++ (bvs (List.replicate 32 0) ++ (.int .u64 0 :: (.int .u64 0 :: (.int .u64 0 :: bvs (List.replicate 32 0))))))))) (by kernel_rfl) (by kernel_rfl) rfl rfl (by decide)
instance fl59 : FlI Tryd.prog 59 [(0, 32), (32, 32), (64, 1), (65, 1), (66, 1), (67, 32)] := ⟨by kernel_rfl, by kernel_rfl⟩
instance eq59 : EqI Tryd.prog 59 (List.replicate 32 (some .u8) ++ (List.replicate 32 (some .u8) ++ (some .u64 :: (some .u64 :: (some .u64 :: List.replicate 32 (some .u8)))))) := ⟨⟨9, by decide, by kernel_rfl⟩, by kernel_rfl, by kernel_rfl⟩
instance ty60 : TyI Tryd.prog 60 true 99 120 (bvs (List.replicate 32 0) ++ (bvs (List.replicate 32 0) ++ (.int .u64 0 :: (.int .u64 0 :: (.int .u64 0 :: bvs (List.replicate 32 0)))))) := TyI.of (zv := .agg (List.toArray (α := Value) ((bvs (List.replicate 32 0) ++ (bvs (List.replicate 32 0) ++ (.int .u64 0 :: (.int .u64 0 :: (.int .u64 0 :: bvs (List.replicate 32 0))))))))) (by kernel_rfl) (by kernel_rfl) rfl rfl (by decide)
instance fl60 : FlI Tryd.prog 60 [(0, 32), (32, 32), (64, 1), (65, 1), (66, 1), (67, 32)] := ⟨by kernel_rfl, by kernel_rfl⟩
instance eq60 : EqI Tryd.prog 60 (List.replicate 32 (some .u8) ++ (List.replicate 32 (some .u8) ++ (some .u64 :: (some .u64 :: (some .u64 :: List.replicate 32 (some .u8)))))) := ⟨⟨9, by decide, by kernel_rfl⟩, by kernel_rfl, by kernel_rfl⟩
instance ty62 : TyI Tryd.prog 62 false 1 8 [.nilFunc] := TyI.of (zv := .nilFunc) (by kernel_rfl) (by kernel_rfl) rfl rfl (by decide)
instance ty64 : TyI Tryd.prog 64 false 1 8 [.nilFunc] := TyI.of (zv := .nilFunc) (by kernel_rfl) (by kernel_rfl) rfl rfl (by decide)
instance ty65 : TyI Tryd.prog 65 false 1 8 [.nilFunc] := TyI.of (zv := .nilFunc) (by kernel_rfl) (by kernel_rfl) rfl rfl (by decide)
instance ty66 : TyI Tryd.prog 66 false 1 8 [.nilFunc] := TyI.of (zv := .nilFunc) (by kernel_rfl) (by kernel_rfl) rfl rfl (by decide)
instance ty67 : TyI Tryd.prog 67 false 1 8 [.nilFunc] := TyI.of (zv := .nilFunc) (by kernel_rfl) (by kernel_rfl) rfl rfl (by decide)
instance ty68 : TyI Tryd.prog 68 false 1 8 [.nilFunc] := TyI.of (zv := .nilFunc) (by kernel_rfl) (by kernel_rfl) rfl rfl (by decide)
instance ty69 : TyI Tryd.prog 69 false 1 8 [.nilFunc] := TyI.of (zv := .nilFunc) (by kernel_rfl) (by kernel_rfl) rfl rfl (by decide)
instance ty70 : TyI Tryd.prog 70 false 1 8 [.nilFunc] := TyI.of (zv := .nilFunc) (by kernel_rfl) (by kernel_rfl) rfl rfl (by decide)
instance ut71 : UT Tryd.prog 71 (.slice 114) := ⟨by kernel_rfl⟩
instance ty71 : TyI Tryd.prog 71 false 1 24 [.slice none 0 0] := TyI.of (zv := .slice none 0 0) (by kernel_rfl) (by kernel_rfl) rfl rfl (by decide)
instance ty72 : TyI Tryd.prog 72 false 1 8 [.nilFunc] := TyI.of (zv := .nilFunc) (by kernel_rfl) (by kernel_rfl) rfl rfl (by decide)
instance ty73 : TyI Tryd.prog 73 false 1 8 [.nilFunc] := TyI.of (zv := .nilFunc) (by kernel_rfl) (by kernel_rfl) rfl rfl (by decide)
instance ty75 : TyI Tryd.prog 75 false 1 8 [.nilFunc] := TyI.of (zv := .nilFunc) (by kernel_rfl) (by kernel_rfl) rfl rfl (by decide)
instance ty76 : TyI Tryd.prog 76 false 1 8 [.nilFunc] := TyI.of (zv := .nilFunc) (by kernel_rfl) (by kernel_rfl) rfl rfl (by decide)
instance ty77 : TyI Tryd.prog 77 false 1 8 [.nilFunc] := TyI.of (zv := .nilFunc) (by kernel_rfl) (by kernel_rfl) rfl rfl (by decide)
instance ty78 : TyI Tryd.prog 78 false 1 8 [.nilFunc] := TyI.of (zv := .nilFunc) (by kernel_rfl) (by kernel_rfl) rfl rfl (by decide)
instance ut79 : UT Tryd.prog 79 (.slice 28) := ⟨by kernel_rfl⟩
instance ty79 : TyI Tryd.prog 79 false 1 24 [.slice none 0 0] := TyI.of (zv := .slice none 0 0) (by kernel_rfl) (by kernel_rfl) rfl rfl (by decide)
instance ty80 : TyI Tryd.prog 80 false 1 8 [.nilFunc] := TyI.of (zv := .nilFunc) (by kernel_rfl) (by kernel_rfl) rfl rfl (by decide)
instance ut81 : UT Tryd.prog 81 (.int .u32) := ⟨by kernel_rfl⟩
instance ty81 : TyI Tryd.prog 81 false 1 4 [.int .u32 0] := TyI.of (zv := .int .u32 0) (by kernel_rfl) (by kernel_rfl) rfl rfl (by decide)
instance ut82 : UT Tryd.prog 82 (.array 8 81) := ⟨by kernel_rfl⟩
instance ty82 : TyI Tryd.prog 82 true 8 32 (.int .u32 0 :: (.int .u32 0 :: (.int .u32 0 :: (.int .u32 0 :: (.int .u32 0 :: (.int .u32 0 :: (.int .u32 0 :: [.int .u32 0]))))))) := TyI.of (zv := .agg (List.toArray (α := Value) ((.int .u32 0 :: (.int .u32 0 :: (.int .u32 0 :: (.int .u32 0 :: (.int .u32 0 :: (.int .u32 0 :: (.int .u32 0 :: [.int .u32 0])))))))))) (by kernel_rfl) (by kernel_rfl) rfl rfl (by decide)
instance ar82 : ArI Tryd.prog 82 81 8 false 1 4 [.int .u32 0] := ⟨by kernel_rfl, inferInstance⟩
instance eq82 : EqI Tryd.prog 82 (some .u32 :: (some .u32 :: (some .u32 :: (some .u32 :: (some .u32 :: (some .u32 :: (some .u32 :: [some .u32]))))))) := ⟨⟨9, by decide, by kernel_rfl⟩, by kernel_rfl, by kernel_rfl⟩
instance ut83 : UT Tryd.prog 83 (.array 8 81) := ⟨by kernel_rfl⟩
instance ty83 : TyI Tryd.prog 83 true 8 32 (.int .u32 0 :: (.int .u32 0 :: (.int .u32 0 :: (.int .u32 0 :: (.int .u32 0 :: (.int .u32 0 :: (.int .u32 0 :: [.int .u32 0]))))))) := TyI.of (zv := .agg (List.toArray (α := Value) ((.int .u32 0 :: (.int .u32 0 :: (.int .u32 0 :: (.int .u32 0 :: (.int .u32 0 :: (.int .u32 0 :: (.int .u32 0 :: [.int .u32 0])))))))))) (by kernel_rfl) (by kernel_rfl) rfl rfl (by decide)
instance ar83 : ArI Tryd.prog 83 81 8 false 1 4 [.int .u32 0] := ⟨by kernel_rfl, inferInstance⟩
instance eq83 : EqI Tryd.prog 83 (some .u32 :: (some .u32 :: (some .u32 :: (some .u32 :: (some .u32 :: (some .u32 :: (some .u32 :: [some .u32]))))))) := ⟨⟨9, by decide, by kernel_rfl⟩, by kernel_rfl, by kernel_rfl⟩
instance ty84 : TyI Tryd.prog 84 false 1 8 [.nilFunc] := TyI.of (zv := .nilFunc) (by kernel_rfl) (by kernel_rfl) rfl rfl (by decide)
instance ty86 : TyI Tryd.prog 86 false 1 8 [.nilFunc] := TyI.of (zv := .nilFunc) (by kernel_rfl) (by kernel_rfl) rfl rfl (by decide)
instance ut87 : UT Tryd.prog 87 (.pointer 23) := ⟨by kernel_rfl⟩
instance ty87 : TyI Tryd.prog 87 false 1 8 [.pointer none] := TyI.of (zv := .pointer none) (by kernel_rfl) (by kernel_rfl) rfl rfl (by decide)
instance ut88 : UT Tryd.prog 88 (.array 3 87) := ⟨by kernel_rfl⟩
instance ty88 : TyI Tryd.prog 88 true 3 24 (.pointer none :: (.pointer none :: [.pointer none])) := TyI.of (zv := .agg (List.toArray (α := Value) ((.pointer none :: (.pointer none :: [.pointer none]))))) (by kernel_rfl) (by kernel_rfl) rfl rfl (by decide)
instance ar88 : ArI Tryd.prog 88 87 3 false 1 8 [.pointer none] := ⟨by kernel_rfl, inferInstance⟩
instance ty89 : TyI Tryd.prog 89 false 1 8 [.nilFunc] := TyI.of (zv := .nilFunc) (by kernel_rfl) (by kernel_rfl) rfl rfl (by decide)
instance ty90 : TyI Tryd.prog 90 false 1 8 [.nilFunc] := TyI.of (zv := .nilFunc) (by kernel_rfl) (by kernel_rfl) rfl rfl (by decide)
instance ty91 : TyI Tryd.prog 91 false 1 8 [.nilFunc] := TyI.of (zv := .nilFunc) (by kernel_rfl) (by kernel_rfl) rfl rfl (by decide)
instance ty93 : TyI Tryd.prog 93 false 1 8 [.nilFunc] := TyI.of (zv := .nilFunc) (by kernel_rfl) (by kernel_rfl) rfl rfl (by decide)
instance ty94 : TyI Tryd.prog 94 false 1 8 [.nilFunc] := TyI.of (zv := .nilFunc) (by kernel_rfl) (by kernel_rfl) rfl rfl (by decide)
instance ut95 : UT Tryd.prog 95 (.pointer 99) := ⟨by kernel_rfl⟩
instance ty95 : TyI Tryd.prog 95 false 1 8 [.pointer none] := TyI.of (zv := .pointer none) (by kernel_rfl) (by kernel_rfl) rfl rfl (by decide)
instance ty96 : TyI Tryd.prog 96 true 1 24 [.slice none 0 0] := TyI.of (zv := .agg (List.toArray (α := Value) ([.slice none 0 0]))) (by kernel_rfl) (by kernel_rfl) rfl rfl (by decide)
instance fl96 : FlI Tryd.prog 96 [(0, 1)] := ⟨by kernel_rfl, by kernel_rfl⟩
instance ty97 : TyI Tryd.prog 97 true 1 24 [.slice none 0 0] := TyI.of (zv := .agg (List.toArray (α := Value) ([.slice none 0 0]))) (by kernel_rfl) (by kernel_rfl) rfl rfl (by decide)
instance fl97 : FlI Tryd.prog 97 [(0, 1)] := ⟨by kernel_rfl, by kernel_rfl⟩
instance ty98 : TyI Tryd.prog 98 true 100 144 (.slice none 0 0 :: (bvs (List.replicate 32 0) ++ (bvs (List.replicate 32 0) ++ (.int .u64 0 :: (.int .u64 0 :: (.int .u64 0 :: bvs (List.replicate 32 0))))))) := TyI.of (zv := .agg (List.toArray (α := Value) ((.slice none 0 0 :: (bvs (List.replicate 32 0) ++ (bvs (List.replicate 32 0) ++ (.int .u64 0 :: (.int .u64 0 :: (.int .u64 0 :: bvs (List.replicate 32 0)))))))))) (by kernel_rfl) (by kernel_rfl) rfl rfl (by decide)
instance fl98 : FlI Tryd.prog 98 [(0, 1), (1, 99)] := ⟨by kernel_rfl, by kernel_rfl⟩
instance ty99 : TyI Tryd.prog 99 true 100 144 (.slice none 0 0 :: (bvs (List.replicate 32 0) ++ (bvs (List.replicate 32 0) ++ (.int .u64 0 :: (.int .u64 0 :: (.int .u64 0 :: bvs (List.replicate 32 0))))))) := TyI.of (zv := .agg (List.toArray (α := Value) ((.slice none 0 0 :: (bvs (List.replicate 32 0) ++ (bvs (List.replicate 32 0) ++ (.int .u64 0 :: (.int .u64 0 :: (.int .u64 0 :: bvs (List.replicate 32 0)))))))))) (by kernel_rfl) (by kernel_rfl) rfl rfl (by decide)
instance fl99 : FlI Tryd.prog 99 [(0, 1), (1, 99)] := ⟨by kernel_rfl, by kernel_rfl⟩
instance ty100 : TyI Tryd.prog 100 false 1 8 [.nilFunc] := TyI.of (zv := .nilFunc) (by kernel_rfl) (by kernel_rfl) rfl rfl (by decide)
instance ut101 : UT Tryd.prog 101 (.pointer 48) := ⟨by kernel_rfl⟩
instance ty101 : TyI Tryd.prog 101 false 1 8 [.pointer none] := TyI.of (zv := .pointer none) (by kernel_rfl) (by kernel_rfl) rfl rfl (by decide)
instance ut102 : UT Tryd.prog 102 (.slice 101) := ⟨by kernel_rfl⟩
instance ty102 : TyI Tryd.prog 102 false 1 24 [.slice none 0 0] := TyI.of (zv := .slice none 0 0) (by kernel_rfl) (by kernel_rfl) rfl rfl (by decide)
instance ty103 : TyI Tryd.prog 103 false 1 8 [.nilFunc] := TyI.of (zv := .nilFunc) (by kernel_rfl) (by kernel_rfl) rfl rfl (by decide)
instance ty104 : TyI Tryd.prog 104 false 1 8 [.nilFunc] := TyI.of (zv := .nilFunc) (by kernel_rfl) (by kernel_rfl) rfl rfl (by decide)
instance ty105 : TyI Tryd.prog 105 false 1 8 [.nilFunc] := TyI.of (zv := .nilFunc) (by kernel_rfl) (by kernel_rfl) rfl rfl (by decide)
instance ty106 : TyI Tryd.prog 106 false 1 8 [.nilFunc] := TyI.of (zv := .nilFunc) (by kernel_rfl) (by kernel_rfl) rfl rfl (by decide)
instance ty107 : TyI Tryd.prog 107 false 1 8 [.nilFunc] := TyI.of (zv := .nilFunc) (by kernel_rfl) (by kernel_rfl) rfl rfl (by decide)
instance ut108 : UT Tryd.prog 108 (.slice 23) := ⟨by kernel_rfl⟩
instance ty108 : TyI Tryd.prog 108 false 1 24 [.slice none 0 0] := TyI.of (zv := .slice none 0 0) (by kernel_rfl) (by kernel_rfl) rfl rfl (by decide)
instance ty109 : TyI Tryd.prog 109 false 1 8 [.nilFunc] := TyI.of (zv := .nilFunc) (by kernel_rfl) (by kernel_rfl) rfl rfl (by decide)
instance ty110 : TyI Tryd.prog 110 false 1 8 [.nilFunc] := TyI.of (zv := .nilFunc) (by kernel_rfl) (by kernel_rfl) rfl rfl (by decide)
instance ut111 : UT Tryd.prog 111 (.slice 48) := ⟨by kernel_rfl⟩
instance ty111 : TyI Tryd.prog 111 false 1 24 [.slice none 0 0] := TyI.of (zv := .slice none 0 0) (by kernel_rfl) (by kernel_rfl) rfl rfl (by decide)
instance ty112 : TyI Tryd.prog 112 false 1 8 [.nilFunc] := TyI.of (zv := .nilFunc) (by kernel_rfl) (by kernel_rfl) rfl rfl (by decide)
instance ty113 : TyI Tryd.prog 113 true 33 56 (bvs (List.replicate 32 0) ++ [.slice none 0 0]) := TyI.of (zv := .agg (List.toArray (α := Value) ((bvs (List.replicate 32 0) ++ [.slice none 0 0])))) (by kernel_rfl) (by kernel_rfl) rfl rfl (by decide)
instance fl113 : FlI Tryd.prog 113 [(0, 32), (32, 1)] := ⟨by kernel_rfl, by kernel_rfl⟩
instance ty114 : TyI Tryd.prog 114 true 33 56 (bvs (List.replicate 32 0) ++ [.slice none 0 0]) := TyI.of (zv := .agg (List.toArray (α := Value) ((bvs (List.replicate 32 0) ++ [.slice none 0 0])))) (by kernel_rfl) (by kernel_rfl) rfl rfl (by decide)
instance fl114 : FlI Tryd.prog 114 [(0, 32), (32, 1)] := ⟨by kernel_rfl, by kernel_rfl⟩
instance ty115 : TyI Tryd.prog 115 false 1 8 [.nilFunc] := TyI.of (zv := .nilFunc) (by kernel_rfl) (by kernel_rfl) rfl rfl (by decide)
instance ty116 : TyI Tryd.prog 116 false 1 8 [.nilFunc] := TyI.of (zv := .nilFunc) (by kernel_rfl) (by kernel_rfl) rfl rfl (by decide)
instance ty117 : TyI Tryd.prog 117 false 1 8 [.nilFunc] := TyI.of (zv := .nilFunc) (by kernel_rfl) (by kernel_rfl) rfl rfl (by decide)
instance ut118 : UT Tryd.prog 118 (.pointer 83) := ⟨by kernel_rfl⟩
instance ty118 : TyI Tryd.prog 118 false 1 8 [.pointer none] := TyI.of (zv := .pointer none) (by kernel_rfl) (by kernel_rfl) rfl rfl (by decide)
instance ut119 : UT Tryd.prog 119 (.array 64 81) := ⟨by kernel_rfl⟩
instance ty119 : TyI Tryd.prog 119 true 64 256 (.int .u32 0 :: (.int .u32 0 :: (.int .u32 0 :: (.int .u32 0 :: (.int .u32 0 :: (.int .u32 0 :: (.int .u32 0 :: (.int .u32 0 :: (.int .u32 0 :: (.int .u32 0 :: (.int .u32 0 :: (.int .u32 0 :: (.int .u32 0 :: (.int .u32 0 :: (.int .u32 0 :: (.int .u32 0 :: (.int .u32 0 :: (.int .u32 0 :: (.int .u32 0 :: (.int .u32 0 :: (.int .u32 0 :: (.int .u32 0 :: (.int .u32 0 :: (.int .u32 0 :: (.int .u32 0 :: (.int .u32 0 :: (.int .u32 0 :: (.int .u32 0 :: (.int .u32 0 :: (.int .u32 0 :: (.int .u32 0 :: (.int .u32 0 :: (.int .u32 0 :: (.int .u32 0 :: (.int .u32 0 :: (.int .u32 0 :: (.int .u32 0 :: (.int .u32 0 :: (.int .u32 0 :: (.int .u32 0 :: (.int .u32 0 :: (.int .u32 0 :: (.int .u32 0 :: (.int .u32 0 :: (.int .u32 0 :: (.int .u32 0 :: (.int .u32 0 :: (.int .u32 0 :: (.int .u32 0 :: (.int .u32 0 :: (.int .u32 0 :: (.int .u32 0 :: (.int .u32 0 :: (.int .u32 0 :: (.int .u32 0 :: (.int .u32 0 :: (.int .u32 0 :: (.int .u32 0 :: (.int .u32 0 :: (.int .u32 0 :: (.int .u32 0 :: (.int .u32 0 :: (.int .u32 0 :: [.int .u32 0]))))))))))))))))))))))))))))))))))))))))))))))))))))))))))))))) := TyI.of (zv := .agg (List.toArray (α := Value) ((.int .u32 0 :: (.int .u32 0 :: (.int .u32 0 :: (.int .u32 0 :: (.int .u32 0 :: (.int .u32 0 :: (.int .u32 0 :: (.int .u32 0 :: (.int .u32 0 :: (.int .u32 0 :: (.int .u32 0 :: (.int .u32 0 :: (.int .u32 0 :: (.int .u32 0 :: (.int .u32 0 :: (.int .u32 0 :: (.int .u32 0 :: (.int .u32 0 :: (.int .u32 0 :: (.int .u32 0 :: (.int .u32 0 :: (.int .u32 0 :: (.int .u32 0 :: (.int .u32 0 :: (.int .u32 0 :: (.int .u32 0 :: (.int .u32 0 :: (.int .u32 0 :: (.int .u32 0 :: (.int .u32 0 :: (.int .u32 0 :: (.int .u32 0 :: (.int .u32 0 :: (.int .u32 0 :: (.int .u32 0 :: (.int .u32 0 :: (.int .u32 0 :: (.int .u32 0 :: (.int .u32 0 :: (.int .u32 0 :: (.int .u32 0 :: (.int .u32 0 :: (.int .u32 0 :: (.int .u32 0 :: (.int .u32 0 :: (.int .u32 0 :: (.int .u32 0 :: (.int .u32 0 :: (.int .u32 0 :: (.int .u32 0 :: (.int .u32 0 :: (.int .u32 0 :: (.int .u32 0 :: (.int .u32 0 :: (.int .u32 0 :: (.int .u32 0 :: (.int .u32 0 :: (.int .u32 0 :: (.int .u32 0 :: (.int .u32 0 :: (.int .u32 0 :: (.int .u32 0 :: (.int .u32 0 :: [.int .u32 0])))))))))))))))))))))))))))))))))))))))))))))))))))))))))))))))))) (by kernel_rfl) (by kernel_rfl) rfl rfl (by decide)
instance ar119 : ArI Tryd.prog 119 81 64 false 1 4 [.int .u32 0] := ⟨by kernel_rfl, inferInstance⟩
instance eq119 : EqI Tryd.prog 119 (some .u32 :: (some .u32 :: (some .u32 :: (some .u32 :: (some .u32 :: (some .u32 :: (some .u32 :: (some .u32 :: (some .u32 :: (some .u32 :: (some .u32 :: (some .u32 :: (some .u32 :: (some .u32 :: (some .u32 :: (some .u32 :: (some .u32 :: (some .u32 :: (some .u32 :: (some .u32 :: (some .u32 :: (some .u32 :: (some .u32 :: (some .u32 :: (some .u32 :: (some .u32 :: (some .u32 :: (some .u32 :: (some .u32 :: (some .u32 :: (some .u32 :: (some .u32 :: (some .u32 :: (some .u32 :: (some .u32 :: (some .u32 :: (some .u32 :: (some .u32 :: (some .u32 :: (some .u32 :: (some .u32 :: (some .u32 :: (some .u32 :: (some .u32 :: (some .u32 :: (some .u32 :: (some .u32 :: (some .u32 :: (some .u32 :: (some .u32 :: (some .u32 :: (some .u32 :: (some .u32 :: (some .u32 :: (some .u32 :: (some .u32 :: (some .u32 :: (some .u32 :: (some .u32 :: (some .u32 :: (some .u32 :: (some .u32 :: (some .u32 :: [some .u32]))))))))))))))))))))))))))))))))))))))))))))))))))))))))))))))) := ⟨⟨9, by decide, by kernel_rfl⟩, by kernel_rfl, by kernel_rfl⟩
instance ut120 : UT Tryd.prog 120 (.int .u64) := ⟨by kernel_rfl⟩
instance ty120 : TyI Tryd.prog 120 false 1 8 [.int .u64 0] := TyI.of (zv := .int .u64 0) (by kernel_rfl) (by kernel_rfl) rfl rfl (by decide)
instance ty121 : TyI Tryd.prog 121 false 1 8 [.nilFunc] := TyI.of (zv := .nilFunc) (by kernel_rfl) (by kernel_rfl) rfl rfl (by decide)
instance ty122 : TyI Tryd.prog 122 false 1 8 [.nilFunc] := TyI.of (zv := .nilFunc) (by kernel_rfl) (by kernel_rfl) rfl rfl (by decide)
instance ut123 : UT Tryd.prog 123 (.pointer 97) := ⟨by kernel_rfl⟩
instance ty123 : TyI Tryd.prog 123 false 1 8 [.pointer none] := TyI.of (zv := .pointer none) (by kernel_rfl) (by kernel_rfl) rfl rfl (by decide)
instance ty124 : TyI Tryd.prog 124 false 1 8 [.nilFunc] := TyI.of (zv := .nilFunc) (by kernel_rfl) (by kernel_rfl) rfl rfl (by decide)
instance ty125 : TyI Tryd.prog 125 false 1 8 [.nilFunc] := TyI.of (zv := .nilFunc) (by kernel_rfl) (by kernel_rfl) rfl rfl (by decide)
instance ty127 : TyI Tryd.prog 127 false 1 8 [.nilFunc] := TyI.of (zv := .nilFunc) (by kernel_rfl) (by kernel_rfl) rfl rfl (by decide)
instance ty128 : TyI Tryd.prog 128 false 1 8 [.nilFunc] := TyI.of (zv := .nilFunc) (by kernel_rfl) (by kernel_rfl) rfl rfl (by decide)
instance ty129 : TyI Tryd.prog 129 false 1 8 [.nilFunc] := TyI.of (zv := .nilFunc) (by kernel_rfl) (by kernel_rfl) rfl rfl (by decide)
instance ty130 : TyI Tryd.prog 130 false 1 8 [.nilFunc] := TyI.of (zv := .nilFunc) (by kernel_rfl) (by kernel_rfl) rfl rfl (by decide)
instance ty131 : TyI Tryd.prog 131 false 1 8 [.nilFunc] := TyI.of (zv := .nilFunc) (by kernel_rfl) (by kernel_rfl) rfl rfl (by decide)
instance ty132 : TyI Tryd.prog 132 false 1 8 [.nilFunc] := TyI.of (zv := .nilFunc) (by kernel_rfl) (by kernel_rfl) rfl rfl (by decide)
instance ty133 : TyI Tryd.prog 133 false 1 8 [.nilFunc] := TyI.of (zv := .nilFunc) (by kernel_rfl) (by kernel_rfl) rfl rfl (by decide)
instance ty134 : TyI Tryd.prog 134 false 1 8 [.nilFunc] := TyI.of (zv := .nilFunc) (by kernel_rfl) (by kernel_rfl) rfl rfl (by decide)
instance ty135 : TyI Tryd.prog 135 false 1 8 [.nilFunc] := TyI.of (zv := .nilFunc) (by kernel_rfl) (by kernel_rfl) rfl rfl (by decide)
instance ty136 : TyI Tryd.prog 136 false 1 8 [.nilFunc] := TyI.of (zv := .nilFunc) (by kernel_rfl) (by kernel_rfl) rfl rfl (by decide)
instance ty137 : TyI Tryd.prog 137 false 1 8 [.nilFunc] := TyI.of (zv := .nilFunc) (by kernel_rfl) (by kernel_rfl) rfl rfl (by decide)
instance ty138 : TyI Tryd.prog 138 false 1 8 [.nilFunc] := TyI.of (zv := .nilFunc) (by kernel_rfl) (by kernel_rfl) rfl rfl (by decide)
instance ty139 : TyI Tryd.prog 139 false 1 8 [.nilFunc] := TyI.of (zv := .nilFunc) (by kernel_rfl) (by kernel_rfl) rfl rfl (by decide)
instance ty140 : TyI Tryd.prog 140 false 1 8 [.nilFunc] := TyI.of (zv := .nilFunc) (by kernel_rfl) (by kernel_rfl) rfl rfl (by decide)
instance ty141 : TyI Tryd.prog 141 false 1 8 [.nilFunc] := TyI.of (zv := .nilFunc) (by kernel_rfl) (by kernel_rfl) rfl rfl (by decide)
instance ut142 : UT Tryd.prog 142 (.array 8 5) := ⟨by kernel_rfl⟩
instance ty142 : TyI Tryd.prog 142 true 8 8 (.int .u8 0 :: (.int .u8 0 :: (.int .u8 0 :: (.int .u8 0 :: (.int .u8 0 :: (.int .u8 0 :: (.int .u8 0 :: [.int .u8 0]))))))) := TyI.of (zv := .agg (List.toArray (α := Value) ((.int .u8 0 :: (.int .u8 0 :: (.int .u8 0 :: (.int .u8 0 :: (.int .u8 0 :: (.int .u8 0 :: (.int .u8 0 :: [.int .u8 0])))))))))) (by kernel_rfl) (by kernel_rfl) rfl rfl (by decide)
instance ar142 : ArI Tryd.prog 142 5 8 false 1 1 [.int .u8 0] := ⟨by kernel_rfl, inferInstance⟩
instance eq142 : EqI Tryd.prog 142 (some .u8 :: (some .u8 :: (some .u8 :: (some .u8 :: (some .u8 :: (some .u8 :: (some .u8 :: [some .u8]))))))) := ⟨⟨9, by decide, by kernel_rfl⟩, by kernel_rfl, by kernel_rfl⟩
instance ty143 : TyI Tryd.prog 143 false 1 8 [.nilFunc] := TyI.of (zv := .nilFunc) (by kernel_rfl) (by kernel_rfl) rfl rfl (by decide)
instance ty144 : TyI Tryd.prog 144 false 1 8 [.nilFunc] := TyI.of (zv := .nilFunc) (by kernel_rfl) (by kernel_rfl) rfl rfl (by decide)
instance ty145 : TyI Tryd.prog 145 true 4 40 (.pointer none :: (.pointer none :: (.pointer none :: [.string ⟨#[]⟩]))) := TyI.of (zv := .agg (List.toArray (α := Value) ((.pointer none :: (.pointer none :: (.pointer none :: [.string ⟨#[]⟩])))))) (by kernel_rfl) (by kernel_rfl) rfl rfl (by decide)
instance fl145 : FlI Tryd.prog 145 [(0, 1), (1, 1), (2, 1), (3, 1)] := ⟨by kernel_rfl, by kernel_rfl⟩
instance ty146 : TyI Tryd.prog 146 true 4 40 (.pointer none :: (.pointer none :: (.pointer none :: [.string ⟨#[]⟩]))) := TyI.of (zv := .agg (List.toArray (α := Value) ((.pointer none :: (.pointer none :: (.pointer none :: [.string ⟨#[]⟩])))))) (by kernel_rfl) (by kernel_rfl) rfl rfl (by decide)
instance fl146 : FlI Tryd.prog 146 [(0, 1), (1, 1), (2, 1), (3, 1)] := ⟨by kernel_rfl, by kernel_rfl⟩
instance ty150 : TyI Tryd.prog 150 false 1 8 [.nilFunc] := TyI.of (zv := .nilFunc) (by kernel_rfl) (by kernel_rfl) rfl rfl (by decide)
instance ut151 : UT Tryd.prog 151 (.int .u8) := ⟨by kernel_rfl⟩
instance ty151 : TyI Tryd.prog 151 false 1 1 [.int .u8 0] := TyI.of (zv := .int .u8 0) (by kernel_rfl) (by kernel_rfl) rfl rfl (by decide)
instance ut152 : UT Tryd.prog 152 (.int .u8) := ⟨by kernel_rfl⟩
instance ty152 : TyI Tryd.prog 152 false 1 1 [.int .u8 0] := TyI.of (zv := .int .u8 0) (by kernel_rfl) (by kernel_rfl) rfl rfl (by decide)
instance ty153 : TyI Tryd.prog 153 false 1 8 [.nilFunc] := TyI.of (zv := .nilFunc) (by kernel_rfl) (by kernel_rfl) rfl rfl (by decide)
instance ut154 : UT Tryd.prog 154 (.pointer 5) := ⟨by kernel_rfl⟩
instance ty154 : TyI Tryd.prog 154 false 1 8 [.pointer none] := TyI.of (zv := .pointer none) (by kernel_rfl) (by kernel_rfl) rfl rfl (by decide)
instance ut155 : UT Tryd.prog 155 (.int .i32) := ⟨by kernel_rfl⟩
instance ty155 : TyI Tryd.prog 155 false 1 4 [.int .i32 0] := TyI.of (zv := .int .i32 0) (by kernel_rfl) (by kernel_rfl) rfl rfl (by decide)
instance ut156 : UT Tryd.prog 156 (.int .i32) := ⟨by kernel_rfl⟩
instance ty156 : TyI Tryd.prog 156 false 1 4 [.int .i32 0] := TyI.of (zv := .int .i32 0) (by kernel_rfl) (by kernel_rfl) rfl rfl (by decide)
instance ty157 : TyI Tryd.prog 157 true 11 48 (.int .u64 0 :: (.int .u64 0 :: (.int .u32 0 :: (.int .u8 0 :: (.int .u8 0 :: (.int .u8 0 :: (.int .u8 0 :: (.nilFunc :: (.pointer none :: (.int .i32 0 :: [.int .i32 0])))))))))) := TyI.of (zv := .agg (List.toArray (α := Value) ((.int .u64 0 :: (.int .u64 0 :: (.int .u32 0 :: (.int .u8 0 :: (.int .u8 0 :: (.int .u8 0 :: (.int .u8 0 :: (.nilFunc :: (.pointer none :: (.int .i32 0 :: [.int .i32 0]))))))))))))) (by kernel_rfl) (by kernel_rfl) rfl rfl (by decide)
instance fl157 : FlI Tryd.prog 157 [(0, 1), (1, 1), (2, 1), (3, 1), (4, 1), (5, 1), (6, 1), (7, 1), (8, 1), (9, 1), (10, 1)] := ⟨by kernel_rfl, by kernel_rfl⟩
instance ty158 : TyI Tryd.prog 158 true 11 48 (.int .u64 0 :: (.int .u64 0 :: (.int .u32 0 :: (.int .u8 0 :: (.int .u8 0 :: (.int .u8 0 :: (.int .u8 0 :: (.nilFunc :: (.pointer none :: (.int .i32 0 :: [.int .i32 0])))))))))) := TyI.of (zv := .agg (List.toArray (α := Value) ((.int .u64 0 :: (.int .u64 0 :: (.int .u32 0 :: (.int .u8 0 :: (.int .u8 0 :: (.int .u8 0 :: (.int .u8 0 :: (.nilFunc :: (.pointer none :: (.int .i32 0 :: [.int .i32 0]))))))))))))) (by kernel_rfl) (by kernel_rfl) rfl rfl (by decide)
instance fl158 : FlI Tryd.prog 158 [(0, 1), (1, 1), (2, 1), (3, 1), (4, 1), (5, 1), (6, 1), (7, 1), (8, 1), (9, 1), (10, 1)] := ⟨by kernel_rfl, by kernel_rfl⟩
instance ty159 : TyI Tryd.prog 159 false 1 8 [.pointer none] := TyI.of (zv := .pointer none) (by kernel_rfl) (by kernel_rfl) rfl rfl (by decide)
instance fn3 : FnB Tryd.prog 3 := ⟨run_enter Tryd.func3 (by kernel_rfl) (by kernel_rfl)⟩
instance fi3 : FnI Tryd.prog 3 Tryd.f3 71 := ⟨Tryd.func3, Tryd.ntmps3⟩
instance fn4 : FnB Tryd.prog 4 := ⟨run_enter Tryd.func4 (by kernel_rfl) (by kernel_rfl)⟩
instance fi4 : FnI Tryd.prog 4 Tryd.f4 91 := ⟨Tryd.func4, Tryd.ntmps4⟩
instance fn5 : FnB Tryd.prog 5 := ⟨run_enter Tryd.func5 (by kernel_rfl) (by kernel_rfl)⟩
instance fi5 : FnI Tryd.prog 5 Tryd.f5 62 := ⟨Tryd.func5, Tryd.ntmps5⟩
instance fn6 : FnB Tryd.prog 6 := ⟨run_enter Tryd.func6 (by kernel_rfl) (by kernel_rfl)⟩
instance fi6 : FnI Tryd.prog 6 Tryd.f6 80 := ⟨Tryd.func6, Tryd.ntmps6⟩
instance fn7 : FnB Tryd.prog 7 := ⟨run_enter Tryd.func7 (by kernel_rfl) (by kernel_rfl)⟩
instance fi7 : FnI Tryd.prog 7 Tryd.f7 36 := ⟨Tryd.func7, Tryd.ntmps7⟩
instance fn8 : FnB Tryd.prog 8 := ⟨run_enter Tryd.func8 (by kernel_rfl) (by kernel_rfl)⟩
instance fi8 : FnI Tryd.prog 8 Tryd.f8 90 := ⟨Tryd.func8, Tryd.ntmps8⟩
instance fn9 : FnB Tryd.prog 9 := ⟨run_enter Tryd.func9 (by kernel_rfl) (by kernel_rfl)⟩
instance fi9 : FnI Tryd.prog 9 Tryd.f9 67 := ⟨Tryd.func9, Tryd.ntmps9⟩
instance fn10 : FnB Tryd.prog 10 := ⟨run_enter Tryd.func10 (by kernel_rfl) (by kernel_rfl)⟩
instance fi10 : FnI Tryd.prog 10 Tryd.f10 27 := ⟨Tryd.func10, Tryd.ntmps10⟩
instance fn11 : FnB Tryd.prog 11 := ⟨run_enter Tryd.func11 (by kernel_rfl) (by kernel_rfl)⟩
instance fi11 : FnI Tryd.prog 11 Tryd.f11 23 := ⟨Tryd.func11, Tryd.ntmps11⟩
instance fn12 : FnB Tryd.prog 12 := ⟨run_enter Tryd.func12 (by kernel_rfl) (by kernel_rfl)⟩
instance fi12 : FnI Tryd.prog 12 Tryd.f12 33 := ⟨Tryd.func12, Tryd.ntmps12⟩
instance fn13 : FnB Tryd.prog 13 := ⟨run_enter Tryd.func13 (by kernel_rfl) (by kernel_rfl)⟩
instance fi13 : FnI Tryd.prog 13 Tryd.f13 24 := ⟨Tryd.func13, Tryd.ntmps13⟩
instance fn14 : FnB Tryd.prog 14 := ⟨run_enter Tryd.func14 (by kernel_rfl) (by kernel_rfl)⟩
instance fi14 : FnI Tryd.prog 14 Tryd.f14 33 := ⟨Tryd.func14, Tryd.ntmps14⟩
instance fn15 : FnB Tryd.prog 15 := ⟨run_enter Tryd.func15 (by kernel_rfl) (by kernel_rfl)⟩
instance fi15 : FnI Tryd.prog 15 Tryd.f15 10 := ⟨Tryd.func15, Tryd.ntmps15⟩
instance fn16 : FnB Tryd.prog 16 := ⟨run_enter Tryd.func16 (by kernel_rfl) (by kernel_rfl)⟩
instance fi16 : FnI Tryd.prog 16 Tryd.f16 81 := ⟨Tryd.func16, Tryd.ntmps16⟩
instance fn17 : FnB Tryd.prog 17 := ⟨run_enter Tryd.func17 (by kernel_rfl) (by kernel_rfl)⟩
instance fi17 : FnI Tryd.prog 17 Tryd.f17 67 := ⟨Tryd.func17, Tryd.ntmps17⟩
instance fn18 : FnB Tryd.prog 18 := ⟨run_enter Tryd.func18 (by kernel_rfl) (by kernel_rfl)⟩
instance fi18 : FnI Tryd.prog 18 Tryd.f18 18 := ⟨Tryd.func18, Tryd.ntmps18⟩
instance fn19 : FnB Tryd.prog 19 := ⟨run_enter Tryd.func19 (by kernel_rfl) (by kernel_rfl)⟩
instance fi19 : FnI Tryd.prog 19 Tryd.f19 21 := ⟨Tryd.func19, Tryd.ntmps19⟩
instance fn20 : FnB Tryd.prog 20 := ⟨run_enter Tryd.func20 (by kernel_rfl) (by kernel_rfl)⟩
instance fi20 : FnI Tryd.prog 20 Tryd.f20 10 := ⟨Tryd.func20, Tryd.ntmps20⟩
instance fn21 : FnB Tryd.prog 21 := ⟨run_enter Tryd.func21 (by kernel_rfl) (by kernel_rfl)⟩
instance fi21 : FnI Tryd.prog 21 Tryd.f21 41 := ⟨Tryd.func21, Tryd.ntmps21⟩
instance fn22 : FnB Tryd.prog 22 := ⟨run_enter Tryd.func22 (by kernel_rfl) (by kernel_rfl)⟩
instance fi22 : FnI Tryd.prog 22 Tryd.f22 26 := ⟨Tryd.func22, Tryd.ntmps22⟩
instance fn23 : FnB Tryd.prog 23 := ⟨run_enter Tryd.func23 (by kernel_rfl) (by kernel_rfl)⟩
instance fi23 : FnI Tryd.prog 23 Tryd.f23 21 := ⟨Tryd.func23, Tryd.ntmps23⟩
instance fn24 : FnB Tryd.prog 24 := ⟨run_enter Tryd.func24 (by kernel_rfl) (by kernel_rfl)⟩
instance fi24 : FnI Tryd.prog 24 Tryd.f24 27 := ⟨Tryd.func24, Tryd.ntmps24⟩
instance fn25 : FnB Tryd.prog 25 := ⟨run_enter Tryd.func25 (by kernel_rfl) (by kernel_rfl)⟩
instance fi25 : FnI Tryd.prog 25 Tryd.f25 7 := ⟨Tryd.func25, Tryd.ntmps25⟩
instance fn26 : FnB Tryd.prog 26 := ⟨run_enter Tryd.func26 (by kernel_rfl) (by kernel_rfl)⟩
instance fi26 : FnI Tryd.prog 26 Tryd.f26 27 := ⟨Tryd.func26, Tryd.ntmps26⟩
instance fn27 : FnB Tryd.prog 27 := ⟨run_enter Tryd.func27 (by kernel_rfl) (by kernel_rfl)⟩
instance fi27 : FnI Tryd.prog 27 Tryd.f27 9 := ⟨Tryd.func27, Tryd.ntmps27⟩
instance fn28 : FnB Tryd.prog 28 := ⟨run_enter Tryd.func28 (by kernel_rfl) (by kernel_rfl)⟩
instance fi28 : FnI Tryd.prog 28 Tryd.f28 39 := ⟨Tryd.func28, Tryd.ntmps28⟩
instance fn29 : FnB Tryd.prog 29 := ⟨run_enter Tryd.func29 (by kernel_rfl) (by kernel_rfl)⟩
instance fi29 : FnI Tryd.prog 29 Tryd.f29 27 := ⟨Tryd.func29, Tryd.ntmps29⟩
instance fn30 : FnB Tryd.prog 30 := ⟨run_enter Tryd.func30 (by kernel_rfl) (by kernel_rfl)⟩
instance fi30 : FnI Tryd.prog 30 Tryd.f30 6 := ⟨Tryd.func30, Tryd.ntmps30⟩
instance fn31 : FnB Tryd.prog 31 := ⟨run_enter Tryd.func31 (by kernel_rfl) (by kernel_rfl)⟩
instance fi31 : FnI Tryd.prog 31 Tryd.f31 84 := ⟨Tryd.func31, Tryd.ntmps31⟩
instance fn32 : FnB Tryd.prog 32 := ⟨run_enter Tryd.func32 (by kernel_rfl) (by kernel_rfl)⟩
instance fi32 : FnI Tryd.prog 32 Tryd.f32 34 := ⟨Tryd.func32, Tryd.ntmps32⟩
instance fn33 : FnB Tryd.prog 33 := ⟨run_enter Tryd.func33 (by kernel_rfl) (by kernel_rfl)⟩
instance fi33 : FnI Tryd.prog 33 Tryd.f33 17 := ⟨Tryd.func33, Tryd.ntmps33⟩
instance fn34 : FnB Tryd.prog 34 := ⟨run_enter Tryd.func34 (by kernel_rfl) (by kernel_rfl)⟩
instance fi34 : FnI Tryd.prog 34 Tryd.f34 7 := ⟨Tryd.func34, Tryd.ntmps34⟩
instance fn35 : FnB Tryd.prog 35 := ⟨run_enter Tryd.func35 (by kernel_rfl) (by kernel_rfl)⟩
instance fi35 : FnI Tryd.prog 35 Tryd.f35 8 := ⟨Tryd.func35, Tryd.ntmps35⟩
instance fn36 : FnB Tryd.prog 36 := ⟨run_enter Tryd.func36 (by kernel_rfl) (by kernel_rfl)⟩
instance fi36 : FnI Tryd.prog 36 Tryd.f36 8 := ⟨Tryd.func36, Tryd.ntmps36⟩
instance fn37 : FnB Tryd.prog 37 := ⟨run_enter Tryd.func37 (by kernel_rfl) (by kernel_rfl)⟩
instance fi37 : FnI Tryd.prog 37 Tryd.f37 6 := ⟨Tryd.func37, Tryd.ntmps37⟩
instance fn38 : FnB Tryd.prog 38 := ⟨run_enter Tryd.func38 (by kernel_rfl) (by kernel_rfl)⟩
instance fi38 : FnI Tryd.prog 38 Tryd.f38 7 := ⟨Tryd.func38, Tryd.ntmps38⟩
instance fn39 : FnB Tryd.prog 39 := ⟨run_enter Tryd.func39 (by kernel_rfl) (by kernel_rfl)⟩
instance fi39 : FnI Tryd.prog 39 Tryd.f39 19 := ⟨Tryd.func39, Tryd.ntmps39⟩
instance fn40 : FnB Tryd.prog 40 := ⟨run_enter Tryd.func40 (by kernel_rfl) (by kernel_rfl)⟩
instance fi40 : FnI Tryd.prog 40 Tryd.f40 23 := ⟨Tryd.func40, Tryd.ntmps40⟩
instance fn41 : FnB Tryd.prog 41 := ⟨run_enter Tryd.func41 (by kernel_rfl) (by kernel_rfl)⟩
instance fi41 : FnI Tryd.prog 41 Tryd.f41 13 := ⟨Tryd.func41, Tryd.ntmps41⟩
instance fn42 : FnB Tryd.prog 42 := ⟨run_enter Tryd.func42 (by kernel_rfl) (by kernel_rfl)⟩
instance fi42 : FnI Tryd.prog 42 Tryd.f42 10 := ⟨Tryd.func42, Tryd.ntmps42⟩
instance fn43 : FnB Tryd.prog 43 := ⟨run_enter Tryd.func43 (by kernel_rfl) (by kernel_rfl)⟩
instance fi43 : FnI Tryd.prog 43 Tryd.f43 5 := ⟨Tryd.func43, Tryd.ntmps43⟩
instance fn44 : FnB Tryd.prog 44 := ⟨run_enter Tryd.func44 (by kernel_rfl) (by kernel_rfl)⟩
instance fi44 : FnI Tryd.prog 44 Tryd.f44 15 := ⟨Tryd.func44, Tryd.ntmps44⟩
instance fn45 : FnB Tryd.prog 45 := ⟨run_enter Tryd.func45 (by kernel_rfl) (by kernel_rfl)⟩
instance fi45 : FnI Tryd.prog 45 Tryd.f45 44 := ⟨Tryd.func45, Tryd.ntmps45⟩
instance fn46 : FnB Tryd.prog 46 := ⟨run_enter Tryd.func46 (by kernel_rfl) (by kernel_rfl)⟩
instance fi46 : FnI Tryd.prog 46 Tryd.f46 193 := ⟨Tryd.func46, Tryd.ntmps46⟩
instance fn47 : FnB Tryd.prog 47 := ⟨run_enter Tryd.func47 (by kernel_rfl) (by kernel_rfl)⟩
instance fi47 : FnI Tryd.prog 47 Tryd.f47 41 := ⟨Tryd.func47, Tryd.ntmps47⟩
instance fn48 : FnB Tryd.prog 48 := ⟨run_enter Tryd.func48 (by kernel_rfl) (by kernel_rfl)⟩
instance fi48 : FnI Tryd.prog 48 Tryd.f48 30 := ⟨Tryd.func48, Tryd.ntmps48⟩
instance fn49 : FnB Tryd.prog 49 := ⟨run_enter Tryd.func49 (by kernel_rfl) (by kernel_rfl)⟩
instance fi49 : FnI Tryd.prog 49 Tryd.f49 22 := ⟨Tryd.func49, Tryd.ntmps49⟩
instance fn50 : FnB Tryd.prog 50 := ⟨run_enter Tryd.func50 (by kernel_rfl) (by kernel_rfl)⟩
instance fi50 : FnI Tryd.prog 50 Tryd.f50 20 := ⟨Tryd.func50, Tryd.ntmps50⟩
instance fn51 : FnB Tryd.prog 51 := ⟨run_enter Tryd.func51 (by kernel_rfl) (by kernel_rfl)⟩
instance fi51 : FnI Tryd.prog 51 Tryd.f51 27 := ⟨Tryd.func51, Tryd.ntmps51⟩
instance fn52 : FnB Tryd.prog 52 := ⟨run_enter Tryd.func52 (by kernel_rfl) (by kernel_rfl)⟩
instance fi52 : FnI Tryd.prog 52 Tryd.f52 9 := ⟨Tryd.func52, Tryd.ntmps52⟩
instance fn53 : FnB Tryd.prog 53 := ⟨run_enter Tryd.func53 (by kernel_rfl) (by kernel_rfl)⟩
instance fi53 : FnI Tryd.prog 53 Tryd.f53 20 := ⟨Tryd.func53, Tryd.ntmps53⟩
instance fn54 : FnB Tryd.prog 54 := ⟨run_enter Tryd.func54 (by kernel_rfl) (by kernel_rfl)⟩
instance fi54 : FnI Tryd.prog 54 Tryd.f54 20 := ⟨Tryd.func54, Tryd.ntmps54⟩
instance fn55 : FnB Tryd.prog 55 := ⟨run_enter Tryd.func55 (by kernel_rfl) (by kernel_rfl)⟩
instance fi55 : FnI Tryd.prog 55 Tryd.f55 20 := ⟨Tryd.func55, Tryd.ntmps55⟩
instance fn56 : FnB Tryd.prog 56 := ⟨run_enter Tryd.func56 (by kernel_rfl) (by kernel_rfl)⟩
instance fi56 : FnI Tryd.prog 56 Tryd.f56 9 := ⟨Tryd.func56, Tryd.ntmps56⟩
instance fn57 : FnB Tryd.prog 57 := ⟨run_enter Tryd.func57 (by kernel_rfl) (by kernel_rfl)⟩
instance fi57 : FnI Tryd.prog 57 Tryd.f57 7 := ⟨Tryd.func57, Tryd.ntmps57⟩
instance fn58 : FnB Tryd.prog 58 := ⟨run_enter Tryd.func58 (by kernel_rfl) (by kernel_rfl)⟩
instance fi58 : FnI Tryd.prog 58 Tryd.f58 6 := ⟨Tryd.func58, Tryd.ntmps58⟩
instance fn59 : FnB Tryd.prog 59 := ⟨run_enter Tryd.func59 (by kernel_rfl) (by kernel_rfl)⟩
instance fi59 : FnI Tryd.prog 59 Tryd.f59 22 := ⟨Tryd.func59, Tryd.ntmps59⟩
instance fn60 : FnB Tryd.prog 60 := ⟨run_enter Tryd.func60 (by kernel_rfl) (by kernel_rfl)⟩
instance fi60 : FnI Tryd.prog 60 Tryd.f60 4 := ⟨Tryd.func60, Tryd.ntmps60⟩
instance fn61 : FnB Tryd.prog 61 := ⟨run_enter Tryd.func61 (by kernel_rfl) (by kernel_rfl)⟩
instance fi61 : FnI Tryd.prog 61 Tryd.f61 22 := ⟨Tryd.func61, Tryd.ntmps61⟩
instance fn62 : FnB Tryd.prog 62 := ⟨run_enter Tryd.func62 (by kernel_rfl) (by kernel_rfl)⟩
instance fi62 : FnI Tryd.prog 62 Tryd.f62 11 := ⟨Tryd.func62, Tryd.ntmps62⟩
instance fn63 : FnB Tryd.prog 63 := ⟨run_enter Tryd.func63 (by kernel_rfl) (by kernel_rfl)⟩
instance fi63 : FnI Tryd.prog 63 Tryd.f63 36 := ⟨Tryd.func63, Tryd.ntmps63⟩
instance fn64 : FnB Tryd.prog 64 := ⟨run_enter Tryd.func64 (by kernel_rfl) (by kernel_rfl)⟩
instance fi64 : FnI Tryd.prog 64 Tryd.f64 44 := ⟨Tryd.func64, Tryd.ntmps64⟩
instance fn65 : FnB Tryd.prog 65 := ⟨run_enter Tryd.func65 (by kernel_rfl) (by kernel_rfl)⟩
instance fi65 : FnI Tryd.prog 65 Tryd.f65 39 := ⟨Tryd.func65, Tryd.ntmps65⟩
instance fn66 : FnB Tryd.prog 66 := ⟨run_enter Tryd.func66 (by kernel_rfl) (by kernel_rfl)⟩
instance fi66 : FnI Tryd.prog 66 Tryd.f66 65 := ⟨Tryd.func66, Tryd.ntmps66⟩
instance fn67 : FnB Tryd.prog 67 := ⟨run_enter Tryd.func67 (by kernel_rfl) (by kernel_rfl)⟩
instance fi67 : FnI Tryd.prog 67 Tryd.f67 92 := ⟨Tryd.func67, Tryd.ntmps67⟩
instance fn68 : FnB Tryd.prog 68 := ⟨run_enter Tryd.func68 (by kernel_rfl) (by kernel_rfl)⟩
instance fi68 : FnI Tryd.prog 68 Tryd.f68 9 := ⟨Tryd.func68, Tryd.ntmps68⟩
instance fn69 : FnB Tryd.prog 69 := ⟨run_enter Tryd.func69 (by kernel_rfl) (by kernel_rfl)⟩
instance fi69 : FnI Tryd.prog 69 Tryd.f69 8 := ⟨Tryd.func69, Tryd.ntmps69⟩
instance fn70 : FnB Tryd.prog 70 := ⟨run_enter Tryd.func70 (by kernel_rfl) (by kernel_rfl)⟩
instance fi70 : FnI Tryd.prog 70 Tryd.f70 9 := ⟨Tryd.func70, Tryd.ntmps70⟩
instance fn71 : FnB Tryd.prog 71 := ⟨run_enter Tryd.func71 (by kernel_rfl) (by kernel_rfl)⟩
instance fi71 : FnI Tryd.prog 71 Tryd.f71 45 := ⟨Tryd.func71, Tryd.ntmps71⟩
instance fn72 : FnB Tryd.prog 72 := ⟨run_enter Tryd.func72 (by kernel_rfl) (by kernel_rfl)⟩
instance fi72 : FnI Tryd.prog 72 Tryd.f72 11 := ⟨Tryd.func72, Tryd.ntmps72⟩
instance fn73 : FnB Tryd.prog 73 := ⟨run_enter Tryd.func73 (by kernel_rfl) (by kernel_rfl)⟩
instance fi73 : FnI Tryd.prog 73 Tryd.f73 18 := ⟨Tryd.func73, Tryd.ntmps73⟩
instance fn74 : FnB Tryd.prog 74 := ⟨run_enter Tryd.func74 (by kernel_rfl) (by kernel_rfl)⟩
instance fi74 : FnI Tryd.prog 74 Tryd.f74 2 := ⟨Tryd.func74, Tryd.ntmps74⟩
instance fn75 : FnB Tryd.prog 75 := ⟨run_enter Tryd.func75 (by kernel_rfl) (by kernel_rfl)⟩
instance fi75 : FnI Tryd.prog 75 Tryd.f75 27 := ⟨Tryd.func75, Tryd.ntmps75⟩
instance fn76 : FnB Tryd.prog 76 := ⟨run_enter Tryd.func76 (by kernel_rfl) (by kernel_rfl)⟩
instance fi76 : FnI Tryd.prog 76 Tryd.f76 15 := ⟨Tryd.func76, Tryd.ntmps76⟩
instance fn77 : FnB Tryd.prog 77 := ⟨run_enter Tryd.func77 (by kernel_rfl) (by kernel_rfl)⟩
instance fi77 : FnI Tryd.prog 77 Tryd.f77 21 := ⟨Tryd.func77, Tryd.ntmps77⟩
instance fn78 : FnB Tryd.prog 78 := ⟨run_enter Tryd.func78 (by kernel_rfl) (by kernel_rfl)⟩
instance fi78 : FnI Tryd.prog 78 Tryd.f78 11 := ⟨Tryd.func78, Tryd.ntmps78⟩
instance fn79 : FnB Tryd.prog 79 := ⟨run_enter Tryd.func79 (by kernel_rfl) (by kernel_rfl)⟩
instance fi79 : FnI Tryd.prog 79 Tryd.f79 20 := ⟨Tryd.func79, Tryd.ntmps79⟩
instance fn80 : FnB Tryd.prog 80 := ⟨run_enter Tryd.func80 (by kernel_rfl) (by kernel_rfl)⟩
instance fi80 : FnI Tryd.prog 80 Tryd.f80 2 := ⟨Tryd.func80, Tryd.ntmps80⟩
instance fn81 : FnB Tryd.prog 81 := ⟨run_enter Tryd.func81 (by kernel_rfl) (by kernel_rfl)⟩
instance fi81 : FnI Tryd.prog 81 Tryd.f81 12 := ⟨Tryd.func81, Tryd.ntmps81⟩
instance fn82 : FnB Tryd.prog 82 := ⟨run_enter Tryd.func82 (by kernel_rfl) (by kernel_rfl)⟩
instance fi82 : FnI Tryd.prog 82 Tryd.f82 21 := ⟨Tryd.func82, Tryd.ntmps82⟩
instance fn84 : FnB Tryd.prog 84 := ⟨run_enter Tryd.func84 (by kernel_rfl) (by kernel_rfl)⟩
instance fi84 : FnI Tryd.prog 84 Tryd.f84 17 := ⟨Tryd.func84, Tryd.ntmps84⟩
instance fn85 : FnB Tryd.prog 85 := ⟨run_enter Tryd.func85 (by kernel_rfl) (by kernel_rfl)⟩
instance fi85 : FnI Tryd.prog 85 Tryd.f85 78 := ⟨Tryd.func85, Tryd.ntmps85⟩
instance fn86 : FnB Tryd.prog 86 := ⟨run_enter Tryd.func86 (by kernel_rfl) (by kernel_rfl)⟩
instance fi86 : FnI Tryd.prog 86 Tryd.f86 38 := ⟨Tryd.func86, Tryd.ntmps86⟩
instance fn87 : FnB Tryd.prog 87 := ⟨run_enter Tryd.func87 (by kernel_rfl) (by kernel_rfl)⟩
instance fi87 : FnI Tryd.prog 87 Tryd.f87 6 := ⟨Tryd.func87, Tryd.ntmps87⟩
instance fn88 : FnB Tryd.prog 88 := ⟨run_enter Tryd.func88 (by kernel_rfl) (by kernel_rfl)⟩
instance fi88 : FnI Tryd.prog 88 Tryd.f88 20 := ⟨Tryd.func88, Tryd.ntmps88⟩
instance fn89 : FnB Tryd.prog 89 := ⟨run_enter Tryd.func89 (by kernel_rfl) (by kernel_rfl)⟩
instance fi89 : FnI Tryd.prog 89 Tryd.f89 38 := ⟨Tryd.func89, Tryd.ntmps89⟩
instance fn90 : FnB Tryd.prog 90 := ⟨run_enter Tryd.func90 (by kernel_rfl) (by kernel_rfl)⟩
instance fi90 : FnI Tryd.prog 90 Tryd.f90 2 := ⟨Tryd.func90, Tryd.ntmps90⟩
instance fn91 : FnB Tryd.prog 91 := ⟨run_enter Tryd.func91 (by kernel_rfl) (by kernel_rfl)⟩
instance fi91 : FnI Tryd.prog 91 Tryd.f91 74 := ⟨Tryd.func91, Tryd.ntmps91⟩
instance fn92 : FnB Tryd.prog 92 := ⟨run_enter Tryd.func92 (by kernel_rfl) (by kernel_rfl)⟩
instance fi92 : FnI Tryd.prog 92 Tryd.f92 89 := ⟨Tryd.func92, Tryd.ntmps92⟩
instance fn93 : FnB Tryd.prog 93 := ⟨run_enter Tryd.func93 (by kernel_rfl) (by kernel_rfl)⟩
instance fi93 : FnI Tryd.prog 93 Tryd.f93 26 := ⟨Tryd.func93, Tryd.ntmps93⟩
instance fn94 : FnB Tryd.prog 94 := ⟨run_enter Tryd.func94 (by kernel_rfl) (by kernel_rfl)⟩
instance fi94 : FnI Tryd.prog 94 Tryd.f94 13 := ⟨Tryd.func94, Tryd.ntmps94⟩
end Go.Proofs.YtpnhgmmijkjmlaaDoor

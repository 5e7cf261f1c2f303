/- What the law 'CoreReplays' uses of this prover's engine, facts and walks. No condition. -/
import Derived.Test.YtkagfkbkpiebjaaGreatDoorChecked
import Derived.Test.YtkagfkbkpiebjaaGreatDoorKCoreReplaysB
set_option linter.unusedVariables false
namespace Go.Proofs.YtkagfkbkpiebjaaGreatDoor
theorem fU2 : Und Tryz.prog 2 (.int .i64) := ⟨Tryz.underlying2⟩
theorem fA2 : Agg Tryz.prog 2 false := ⟨Tryz.isAgg2⟩
theorem fS2 : Sz Tryz.prog 2 1 := ⟨Tryz.sizeOf2⟩
theorem fU3 : Und Tryz.prog 3 (.int .i64) := ⟨Tryz.underlying3⟩
theorem fA3 : Agg Tryz.prog 3 false := ⟨Tryz.isAgg3⟩
theorem fS3 : Sz Tryz.prog 3 1 := ⟨Tryz.sizeOf3⟩
theorem fZ3 : Zr Tryz.prog 3 (.int .i64 0) := ⟨Tryz.zeroValue3⟩
theorem fA4 : Agg Tryz.prog 4 false := ⟨Tryz.isAgg4⟩
theorem fS4 : Sz Tryz.prog 4 1 := ⟨Tryz.sizeOf4⟩
theorem fU5 : Und Tryz.prog 5 (.int .u8) := ⟨Tryz.underlying5⟩
theorem fA5 : Agg Tryz.prog 5 false := ⟨Tryz.isAgg5⟩
theorem fS5 : Sz Tryz.prog 5 1 := ⟨Tryz.sizeOf5⟩
theorem fB5 : By Tryz.prog 5 1 := ⟨fun w => ⟨_, Tryz.typeInfo5 w, rfl⟩⟩
theorem fZ5 : Zr Tryz.prog 5 (.int .u8 0) := ⟨Tryz.zeroValue5⟩
theorem fU9 : Und Tryz.prog 9 (.string) := ⟨Tryz.underlying9⟩
theorem fA9 : Agg Tryz.prog 9 false := ⟨Tryz.isAgg9⟩
theorem fS9 : Sz Tryz.prog 9 1 := ⟨Tryz.sizeOf9⟩
theorem fB9 : By Tryz.prog 9 16 := ⟨fun w => ⟨_, Tryz.typeInfo9 w, rfl⟩⟩
theorem fZ9 : Zr Tryz.prog 9 (.string { data := #[] }) := ⟨Tryz.zeroValue9⟩
theorem fU22 : Und Tryz.prog 22 (.slice 34) := ⟨Tryz.underlying22⟩
theorem fU23 : Und Tryz.prog 23 (.pointer 63) := ⟨Tryz.underlying23⟩
theorem fU28 : Und Tryz.prog 28 (.slice 9) := ⟨Tryz.underlying28⟩
theorem fA28 : Agg Tryz.prog 28 false := ⟨Tryz.isAgg28⟩
theorem fS28 : Sz Tryz.prog 28 1 := ⟨Tryz.sizeOf28⟩
theorem fZ28 : Zr Tryz.prog 28 (.slice none 0 0) := ⟨Tryz.zeroValue28⟩
theorem fA30 : Agg Tryz.prog 30 true := ⟨Tryz.isAgg30⟩
theorem fS30 : Sz Tryz.prog 30 4 := ⟨Tryz.sizeOf30⟩
theorem fZ30 : Zr Tryz.prog 30 (.agg [.string { data := #[] }, .string { data := #[] }, .slice none 0 0, .slice none 0 0].toArray) := ⟨Tryz.zeroValue30⟩
theorem fF30_0 : Fld Tryz.prog 30 0 0 := Fld.of Tryz.underlying30 rfl Tryz.sizeOf9 rfl rfl
theorem fF30_1 : Fld Tryz.prog 30 1 1 := Fld.of Tryz.underlying30 rfl Tryz.sizeOf9 rfl rfl
theorem fF30_2 : Fld Tryz.prog 30 2 2 := Fld.of Tryz.underlying30 rfl Tryz.sizeOf28 rfl rfl
theorem fF30_3 : Fld Tryz.prog 30 3 3 := Fld.of Tryz.underlying30 rfl Tryz.sizeOf28 rfl rfl
theorem fL30 : Bld Tryz.prog 30 [(0, 1), (1, 1), (2, 1), (3, 1)] [.string { data := #[] }, .string { data := #[] }, .slice none 0 0, .slice none 0 0] := ⟨_, Tryz.underlying30, Tryz.zeroValue30, fun w => by simp [Tryz.sizeOf28, Tryz.sizeOf9]⟩
theorem fU31 : Und Tryz.prog 31 (.slice 5) := ⟨Tryz.underlying31⟩
theorem fA31 : Agg Tryz.prog 31 false := ⟨Tryz.isAgg31⟩
theorem fS31 : Sz Tryz.prog 31 1 := ⟨Tryz.sizeOf31⟩
theorem fU32 : Und Tryz.prog 32 (.int .u64) := ⟨Tryz.underlying32⟩
theorem fA32 : Agg Tryz.prog 32 false := ⟨Tryz.isAgg32⟩
theorem fA34 : Agg Tryz.prog 34 true := ⟨Tryz.isAgg34⟩
theorem fS34 : Sz Tryz.prog 34 16 := ⟨Tryz.sizeOf34⟩
theorem fB34 : By Tryz.prog 34 272 := ⟨fun w => ⟨_, Tryz.typeInfo34 w, rfl⟩⟩
theorem fZ34 : Zr Tryz.prog 34 (.agg [.int .i64 0, .int .i64 0, .string { data := #[] }, .string { data := #[] }, .slice none 0 0, .slice none 0 0, .string { data := #[] }, .string { data := #[] }, .string { data := #[] }, .string { data := #[] }, .slice none 0 0, .string { data := #[] }, .string { data := #[] }, .slice none 0 0, .slice none 0 0, .int .u64 0].toArray) := ⟨Tryz.zeroValue34⟩
theorem fF34_0 : Fld Tryz.prog 34 0 0 := Fld.of Tryz.underlying34 rfl Tryz.sizeOf3 rfl rfl
theorem fF34_1 : Fld Tryz.prog 34 1 1 := Fld.of Tryz.underlying34 rfl Tryz.sizeOf2 rfl rfl
theorem fF34_2 : Fld Tryz.prog 34 2 2 := Fld.of Tryz.underlying34 rfl Tryz.sizeOf30 rfl rfl
theorem fF34_3 : Fld Tryz.prog 34 3 6 := Fld.of Tryz.underlying34 rfl Tryz.sizeOf9 rfl rfl
theorem fF34_4 : Fld Tryz.prog 34 4 7 := Fld.of Tryz.underlying34 rfl Tryz.sizeOf9 rfl rfl
theorem fF34_5 : Fld Tryz.prog 34 5 8 := Fld.of Tryz.underlying34 rfl Tryz.sizeOf9 rfl rfl
theorem fF34_6 : Fld Tryz.prog 34 6 9 := Fld.of Tryz.underlying34 rfl Tryz.sizeOf9 rfl rfl
theorem fF34_7 : Fld Tryz.prog 34 7 10 := Fld.of Tryz.underlying34 rfl Tryz.sizeOf28 rfl rfl
theorem fF34_8 : Fld Tryz.prog 34 8 11 := Fld.of Tryz.underlying34 rfl Tryz.sizeOf9 rfl rfl
theorem fF34_9 : Fld Tryz.prog 34 9 12 := Fld.of Tryz.underlying34 rfl Tryz.sizeOf9 rfl rfl
theorem fF34_10 : Fld Tryz.prog 34 10 13 := Fld.of Tryz.underlying34 rfl Tryz.sizeOf31 rfl rfl
theorem fF34_11 : Fld Tryz.prog 34 11 14 := Fld.of Tryz.underlying34 rfl Tryz.sizeOf31 rfl rfl
theorem fF34_12 : Fld Tryz.prog 34 12 15 := Fld.of Tryz.underlying34 rfl Tryz.sizeOf32 rfl rfl
theorem fU35 : Und Tryz.prog 35 (.slice 48) := ⟨Tryz.underlying35⟩
theorem fU36 : Und Tryz.prog 36 (.pointer 102) := ⟨Tryz.underlying36⟩
theorem fA36 : Agg Tryz.prog 36 false := ⟨Tryz.isAgg36⟩
theorem fU39 : Und Tryz.prog 39 (.slice 53) := ⟨Tryz.underlying39⟩
theorem fU40 : Und Tryz.prog 40 (.pointer 110) := ⟨Tryz.underlying40⟩
theorem fA40 : Agg Tryz.prog 40 false := ⟨Tryz.isAgg40⟩
theorem fU44 : Und Tryz.prog 44 (.pointer 116) := ⟨Tryz.underlying44⟩
theorem fA44 : Agg Tryz.prog 44 false := ⟨Tryz.isAgg44⟩
theorem fA48 : Agg Tryz.prog 48 true := ⟨Tryz.isAgg48⟩
theorem fS48 : Sz Tryz.prog 48 9 := ⟨Tryz.sizeOf48⟩
theorem fB48 : By Tryz.prog 48 112 := ⟨fun w => ⟨_, Tryz.typeInfo48 w, rfl⟩⟩
theorem fZ48 : Zr Tryz.prog 48 (.agg [.string { data := #[] }, .int .i64 0, .string { data := #[] }, .string { data := #[] }, .slice none 0 0, .int .i64 0, .int .i64 0, .int .u64 0, .bool false].toArray) := ⟨Tryz.zeroValue48⟩
theorem fF48_0 : Fld Tryz.prog 48 0 0 := Fld.of Tryz.underlying48 rfl Tryz.sizeOf9 rfl rfl
theorem fF48_1 : Fld Tryz.prog 48 1 1 := Fld.of Tryz.underlying48 rfl Tryz.sizeOf3 rfl rfl
theorem fF48_2 : Fld Tryz.prog 48 2 2 := Fld.of Tryz.underlying48 rfl Tryz.sizeOf9 rfl rfl
theorem fF48_3 : Fld Tryz.prog 48 3 3 := Fld.of Tryz.underlying48 rfl Tryz.sizeOf9 rfl rfl
theorem fF48_4 : Fld Tryz.prog 48 4 4 := Fld.of Tryz.underlying48 rfl Tryz.sizeOf28 rfl rfl
theorem fF48_5 : Fld Tryz.prog 48 5 5 := Fld.of Tryz.underlying48 rfl Tryz.sizeOf3 rfl rfl
theorem fF48_6 : Fld Tryz.prog 48 6 6 := Fld.of Tryz.underlying48 rfl Tryz.sizeOf2 rfl rfl
theorem fF48_8 : Fld Tryz.prog 48 8 8 := Fld.of Tryz.underlying48 rfl Tryz.sizeOf4 rfl rfl
theorem fL48 : Bld Tryz.prog 48 [(0, 1), (1, 1), (2, 1), (3, 1), (4, 1), (5, 1), (6, 1), (7, 1), (8, 1)] [.string { data := #[] }, .int .i64 0, .string { data := #[] }, .string { data := #[] }, .slice none 0 0, .int .i64 0, .int .i64 0, .int .u64 0, .bool false] := ⟨_, Tryz.underlying48, Tryz.zeroValue48, fun w => by simp [Tryz.sizeOf2, Tryz.sizeOf28, Tryz.sizeOf3, Tryz.sizeOf32, Tryz.sizeOf4, Tryz.sizeOf9]⟩
theorem fA53 : Agg Tryz.prog 53 true := ⟨Tryz.isAgg53⟩
theorem fS53 : Sz Tryz.prog 53 9 := ⟨Tryz.sizeOf53⟩
theorem fB53 : By Tryz.prog 53 128 := ⟨fun w => ⟨_, Tryz.typeInfo53 w, rfl⟩⟩
theorem fZ53 : Zr Tryz.prog 53 (.agg [.string { data := #[] }, .string { data := #[] }, .string { data := #[] }, .string { data := #[] }, .slice none 0 0, .string { data := #[] }, .int .i64 0, .int .i64 0, .bool false].toArray) := ⟨Tryz.zeroValue53⟩
theorem fF53_0 : Fld Tryz.prog 53 0 0 := Fld.of Tryz.underlying53 rfl Tryz.sizeOf9 rfl rfl
theorem fF53_1 : Fld Tryz.prog 53 1 1 := Fld.of Tryz.underlying53 rfl Tryz.sizeOf9 rfl rfl
theorem fF53_2 : Fld Tryz.prog 53 2 2 := Fld.of Tryz.underlying53 rfl Tryz.sizeOf9 rfl rfl
theorem fF53_3 : Fld Tryz.prog 53 3 3 := Fld.of Tryz.underlying53 rfl Tryz.sizeOf9 rfl rfl
theorem fF53_4 : Fld Tryz.prog 53 4 4 := Fld.of Tryz.underlying53 rfl Tryz.sizeOf28 rfl rfl
theorem fF53_5 : Fld Tryz.prog 53 5 5 := Fld.of Tryz.underlying53 rfl Tryz.sizeOf9 rfl rfl
theorem fF53_6 : Fld Tryz.prog 53 6 6 := Fld.of Tryz.underlying53 rfl Tryz.sizeOf2 rfl rfl
theorem fF53_7 : Fld Tryz.prog 53 7 7 := Fld.of Tryz.underlying53 rfl Tryz.sizeOf3 rfl rfl
theorem fF53_8 : Fld Tryz.prog 53 8 8 := Fld.of Tryz.underlying53 rfl Tryz.sizeOf4 rfl rfl
theorem fL53 : Bld Tryz.prog 53 [(0, 1), (1, 1), (2, 1), (3, 1), (4, 1), (5, 1), (6, 1), (7, 1), (8, 1)] [.string { data := #[] }, .string { data := #[] }, .string { data := #[] }, .string { data := #[] }, .slice none 0 0, .string { data := #[] }, .int .i64 0, .int .i64 0, .bool false] := ⟨_, Tryz.underlying53, Tryz.zeroValue53, fun w => by simp [Tryz.sizeOf2, Tryz.sizeOf28, Tryz.sizeOf3, Tryz.sizeOf4, Tryz.sizeOf9]⟩
theorem fF63_0 : Fld Tryz.prog 63 0 0 := Fld.of Tryz.underlying63 rfl Tryz.sizeOf44 rfl rfl
theorem fF63_1 : Fld Tryz.prog 63 1 1 := Fld.of Tryz.underlying63 rfl Tryz.sizeOf40 rfl rfl
theorem fF63_2 : Fld Tryz.prog 63 2 2 := Fld.of Tryz.underlying63 rfl Tryz.sizeOf36 rfl rfl
theorem fF63_3 : Fld Tryz.prog 63 3 3 := Fld.of Tryz.underlying63 rfl Tryz.sizeOf2 rfl rfl
theorem fL63 : Bld Tryz.prog 63 [(0, 1), (1, 1), (2, 1), (3, 1)] [.pointer none, .pointer none, .pointer none, .int .i64 0] := ⟨_, Tryz.underlying63, Tryz.zeroValue63, fun w => by simp [Tryz.sizeOf2, Tryz.sizeOf36, Tryz.sizeOf40, Tryz.sizeOf44]⟩
theorem fU99 : Und Tryz.prog 99 (.map 9 48) := ⟨Tryz.underlying99⟩
theorem fA99 : Agg Tryz.prog 99 false := ⟨Tryz.isAgg99⟩
theorem fU100 : Und Tryz.prog 100 (.pointer 177) := ⟨Tryz.underlying100⟩
theorem fA100 : Agg Tryz.prog 100 false := ⟨Tryz.isAgg100⟩
theorem fF102_0 : Fld Tryz.prog 102 0 0 := Fld.of Tryz.underlying102 rfl Tryz.sizeOf99 rfl rfl
theorem fF102_1 : Fld Tryz.prog 102 1 1 := Fld.of Tryz.underlying102 rfl Tryz.sizeOf100 rfl rfl
theorem fF102_2 : Fld Tryz.prog 102 2 2 := Fld.of Tryz.underlying102 rfl Tryz.sizeOf3 rfl rfl
theorem fL102 : Bld Tryz.prog 102 [(0, 1), (1, 1), (2, 1)] [.map none, .pointer none, .int .i64 0] := ⟨_, Tryz.underlying102, Tryz.zeroValue102, fun w => by simp [Tryz.sizeOf100, Tryz.sizeOf3, Tryz.sizeOf99]⟩
theorem fU107 : Und Tryz.prog 107 (.map 120 28) := ⟨Tryz.underlying107⟩
theorem fA107 : Agg Tryz.prog 107 false := ⟨Tryz.isAgg107⟩
theorem fU108 : Und Tryz.prog 108 (.map 9 53) := ⟨Tryz.underlying108⟩
theorem fA108 : Agg Tryz.prog 108 false := ⟨Tryz.isAgg108⟩
theorem fF110_0 : Fld Tryz.prog 110 0 0 := Fld.of Tryz.underlying110 rfl Tryz.sizeOf107 rfl rfl
theorem fF110_1 : Fld Tryz.prog 110 1 1 := Fld.of Tryz.underlying110 rfl Tryz.sizeOf108 rfl rfl
theorem fF110_2 : Fld Tryz.prog 110 2 2 := Fld.of Tryz.underlying110 rfl Tryz.sizeOf100 rfl rfl
theorem fL110 : Bld Tryz.prog 110 [(0, 1), (1, 1), (2, 1)] [.map none, .map none, .pointer none] := ⟨_, Tryz.underlying110, Tryz.zeroValue110, fun w => by simp [Tryz.sizeOf100, Tryz.sizeOf107, Tryz.sizeOf108]⟩
theorem fU114 : Und Tryz.prog 114 (.map 9 30) := ⟨Tryz.underlying114⟩
theorem fA114 : Agg Tryz.prog 114 false := ⟨Tryz.isAgg114⟩
theorem fF116_0 : Fld Tryz.prog 116 0 0 := Fld.of Tryz.underlying116 rfl Tryz.sizeOf114 rfl rfl
theorem fL116 : Bld Tryz.prog 116 [(0, 1)] [.map none] := ⟨_, Tryz.underlying116, Tryz.zeroValue116, fun w => by simp [Tryz.sizeOf114]⟩
theorem fA120 : Agg Tryz.prog 120 true := ⟨Tryz.isAgg120⟩
theorem fS120 : Sz Tryz.prog 120 2 := ⟨Tryz.sizeOf120⟩
theorem fZ120 : Zr Tryz.prog 120 (.agg [.string { data := #[] }, .string { data := #[] }].toArray) := ⟨Tryz.zeroValue120⟩
theorem fF120_0 : Fld Tryz.prog 120 0 0 := Fld.of Tryz.underlying120 rfl Tryz.sizeOf9 rfl rfl
theorem fF120_1 : Fld Tryz.prog 120 1 1 := Fld.of Tryz.underlying120 rfl Tryz.sizeOf9 rfl rfl
theorem fL120 : Bld Tryz.prog 120 [(0, 1), (1, 1)] [.string { data := #[] }, .string { data := #[] }] := ⟨_, Tryz.underlying120, Tryz.zeroValue120, fun w => by simp [Tryz.sizeOf9]⟩
theorem fA148 : Agg Tryz.prog 148 false := ⟨Tryz.isAgg148⟩
theorem fA160 : Agg Tryz.prog 160 true := ⟨Tryz.isAgg160⟩
theorem fS160 : Sz Tryz.prog 160 2 := ⟨Tryz.sizeOf160⟩
theorem fZ160 : Zr Tryz.prog 160 (.agg [.string { data := #[] }, .string { data := #[] }].toArray) := ⟨Tryz.zeroValue160⟩
theorem fF160_0 : Fld Tryz.prog 160 0 0 := Fld.of Tryz.underlying160 rfl Tryz.sizeOf9 rfl rfl
theorem fF160_1 : Fld Tryz.prog 160 1 1 := Fld.of Tryz.underlying160 rfl Tryz.sizeOf9 rfl rfl
theorem fL160 : Bld Tryz.prog 160 [(0, 1), (1, 1)] [.string { data := #[] }, .string { data := #[] }] := ⟨_, Tryz.underlying160, Tryz.zeroValue160, fun w => by simp [Tryz.sizeOf9]⟩
theorem fU171 : Und Tryz.prog 171 (.int .u64) := ⟨Tryz.underlying171⟩
theorem fU173 : Und Tryz.prog 173 (.map 9 234) := ⟨Tryz.underlying173⟩
theorem fA173 : Agg Tryz.prog 173 false := ⟨Tryz.isAgg173⟩
theorem fU175 : Und Tryz.prog 175 (.slice 234) := ⟨Tryz.underlying175⟩
theorem fA175 : Agg Tryz.prog 175 false := ⟨Tryz.isAgg175⟩
theorem fS175 : Sz Tryz.prog 175 1 := ⟨Tryz.sizeOf175⟩
theorem fF177_0 : Fld Tryz.prog 177 0 0 := Fld.of Tryz.underlying177 rfl Tryz.sizeOf175 rfl rfl
theorem fF177_1 : Fld Tryz.prog 177 1 1 := Fld.of Tryz.underlying177 rfl Tryz.sizeOf173 rfl rfl
theorem fL177 : Bld Tryz.prog 177 [(0, 1), (1, 1)] [.slice none 0 0, .map none] := ⟨_, Tryz.underlying177, Tryz.zeroValue177, fun w => by simp [Tryz.sizeOf173, Tryz.sizeOf175]⟩
theorem fU215 : Und Tryz.prog 215 (.int .u32) := ⟨Tryz.underlying215⟩
theorem fA215 : Agg Tryz.prog 215 false := ⟨Tryz.isAgg215⟩
theorem fS215 : Sz Tryz.prog 215 1 := ⟨Tryz.sizeOf215⟩
theorem fF233_0 : Fld Tryz.prog 233 0 0 := Fld.of Tryz.underlying233 rfl Tryz.sizeOf9 rfl rfl
theorem fF233_1 : Fld Tryz.prog 233 1 1 := Fld.of Tryz.underlying233 rfl Tryz.sizeOf2 rfl rfl
theorem fF233_2 : Fld Tryz.prog 233 2 2 := Fld.of Tryz.underlying233 rfl Tryz.sizeOf3 rfl rfl
theorem fL233 : Bld Tryz.prog 233 [(0, 1), (1, 1), (2, 1)] [.string { data := #[] }, .int .i64 0, .int .i64 0] := ⟨_, Tryz.underlying233, Tryz.zeroValue233, fun w => by simp [Tryz.sizeOf2, Tryz.sizeOf3, Tryz.sizeOf9]⟩
theorem fU234 : Und Tryz.prog 234 (.pointer 233) := ⟨Tryz.underlying234⟩
theorem fA234 : Agg Tryz.prog 234 false := ⟨Tryz.isAgg234⟩
theorem fS234 : Sz Tryz.prog 234 1 := ⟨Tryz.sizeOf234⟩
theorem fB234 : By Tryz.prog 234 8 := ⟨fun w => ⟨_, Tryz.typeInfo234 w, rfl⟩⟩
theorem fZ234 : Zr Tryz.prog 234 (.pointer none) := ⟨Tryz.zeroValue234⟩
theorem fU236 : Und Tryz.prog 236 (.pointer 175) := ⟨Tryz.underlying236⟩
theorem fU241 : Und Tryz.prog 241 (.pointer 243) := ⟨Tryz.underlying241⟩
theorem fA241 : Agg Tryz.prog 241 false := ⟨Tryz.isAgg241⟩
theorem fS241 : Sz Tryz.prog 241 1 := ⟨Tryz.sizeOf241⟩
theorem fZ243 : Zr Tryz.prog 243 (.agg [.pointer none, .slice none 0 0].toArray) := ⟨Tryz.zeroValue243⟩
theorem fF243_0 : Fld Tryz.prog 243 0 0 := Fld.of Tryz.underlying243 rfl Tryz.sizeOf241 rfl rfl
theorem fF243_1 : Fld Tryz.prog 243 1 1 := Fld.of Tryz.underlying243 rfl Tryz.sizeOf31 rfl rfl
theorem fU252 : Und Tryz.prog 252 (.int .u64) := ⟨Tryz.underlying252⟩
theorem fA252 : Agg Tryz.prog 252 false := ⟨Tryz.isAgg252⟩
theorem fS252 : Sz Tryz.prog 252 1 := ⟨Tryz.sizeOf252⟩
theorem fZ252 : Zr Tryz.prog 252 (.int .u64 0) := ⟨Tryz.zeroValue252⟩
theorem fU260 : Und Tryz.prog 260 (.slice 3) := ⟨Tryz.underlying260⟩
theorem fU287 : Und Tryz.prog 287 (.pointer 5) := ⟨Tryz.underlying287⟩
theorem fU290 : Und Tryz.prog 290 (.array 32 5) := ⟨Tryz.underlying290⟩
theorem fA290 : Agg Tryz.prog 290 true := ⟨Tryz.isAgg290⟩
theorem fS290 : Sz Tryz.prog 290 32 := ⟨Tryz.sizeOf290⟩
theorem fZ290 : Zr Tryz.prog 290 (.agg [.int .u8 0, .int .u8 0, .int .u8 0, .int .u8 0, .int .u8 0, .int .u8 0, .int .u8 0, .int .u8 0, .int .u8 0, .int .u8 0, .int .u8 0, .int .u8 0, .int .u8 0, .int .u8 0, .int .u8 0, .int .u8 0, .int .u8 0, .int .u8 0, .int .u8 0, .int .u8 0, .int .u8 0, .int .u8 0, .int .u8 0, .int .u8 0, .int .u8 0, .int .u8 0, .int .u8 0, .int .u8 0, .int .u8 0, .int .u8 0, .int .u8 0, .int .u8 0].toArray) := ⟨Tryz.zeroValue290⟩
theorem fU297 : Und Tryz.prog 297 (.slice 215) := ⟨Tryz.underlying297⟩
theorem fU309 : Und Tryz.prog 309 (.pointer 321) := ⟨Tryz.underlying309⟩
theorem fU313 : Und Tryz.prog 313 (.array 64 215) := ⟨Tryz.underlying313⟩
theorem fA313 : Agg Tryz.prog 313 true := ⟨Tryz.isAgg313⟩
theorem fS313 : Sz Tryz.prog 313 64 := ⟨Tryz.sizeOf313⟩
theorem fZ313 : Zr Tryz.prog 313 (.agg [.int .u32 0, .int .u32 0, .int .u32 0, .int .u32 0, .int .u32 0, .int .u32 0, .int .u32 0, .int .u32 0, .int .u32 0, .int .u32 0, .int .u32 0, .int .u32 0, .int .u32 0, .int .u32 0, .int .u32 0, .int .u32 0, .int .u32 0, .int .u32 0, .int .u32 0, .int .u32 0, .int .u32 0, .int .u32 0, .int .u32 0, .int .u32 0, .int .u32 0, .int .u32 0, .int .u32 0, .int .u32 0, .int .u32 0, .int .u32 0, .int .u32 0, .int .u32 0, .int .u32 0, .int .u32 0, .int .u32 0, .int .u32 0, .int .u32 0, .int .u32 0, .int .u32 0, .int .u32 0, .int .u32 0, .int .u32 0, .int .u32 0, .int .u32 0, .int .u32 0, .int .u32 0, .int .u32 0, .int .u32 0, .int .u32 0, .int .u32 0, .int .u32 0, .int .u32 0, .int .u32 0, .int .u32 0, .int .u32 0, .int .u32 0, .int .u32 0, .int .u32 0, .int .u32 0, .int .u32 0, .int .u32 0, .int .u32 0, .int .u32 0, .int .u32 0].toArray) := ⟨Tryz.zeroValue313⟩
theorem fU319 : Und Tryz.prog 319 (.array 8 215) := ⟨Tryz.underlying319⟩
theorem fA319 : Agg Tryz.prog 319 true := ⟨Tryz.isAgg319⟩
theorem fS319 : Sz Tryz.prog 319 8 := ⟨Tryz.sizeOf319⟩
theorem fZ319 : Zr Tryz.prog 319 (.agg [.int .u32 0, .int .u32 0, .int .u32 0, .int .u32 0, .int .u32 0, .int .u32 0, .int .u32 0, .int .u32 0].toArray) := ⟨Tryz.zeroValue319⟩
theorem fF321_0 : Fld Tryz.prog 321 0 0 := Fld.of Tryz.underlying321 rfl Tryz.sizeOf319 rfl rfl
theorem fF321_1 : Fld Tryz.prog 321 1 8 := Fld.of Tryz.underlying321 rfl Tryz.sizeOf4 rfl rfl
theorem fF321_2 : Fld Tryz.prog 321 2 9 := Fld.of Tryz.underlying321 rfl Tryz.sizeOf31 rfl rfl
theorem fF321_3 : Fld Tryz.prog 321 3 10 := Fld.of Tryz.underlying321 rfl Tryz.sizeOf3 rfl rfl
theorem fL321 : Bld Tryz.prog 321 [(0, 8), (8, 1), (9, 1), (10, 1)] [.int .u32 0, .int .u32 0, .int .u32 0, .int .u32 0, .int .u32 0, .int .u32 0, .int .u32 0, .int .u32 0, .bool false, .slice none 0 0, .int .i64 0] := ⟨_, Tryz.underlying321, Tryz.zeroValue321, fun w => by simp [Tryz.sizeOf3, Tryz.sizeOf31, Tryz.sizeOf319, Tryz.sizeOf4]⟩
theorem fQ9 : EqT Tryz.prog 9 1 [.s] false := EqT.str fU9 fA9
theorem fQ120 : EqT Tryz.prog 120 2 [.s, .s] true := EqT.struct (n := 1) Tryz.underlying120 Tryz.stoodInHeld120 fA120 fS120 (EqFs.more fQ9 (EqFs.more fQ9 EqFs.nil))
theorem fE9 : Ent Tryz.prog 9 := ⟨Tryz.call9⟩
theorem fE10 : Ent Tryz.prog 10 := ⟨Tryz.call10⟩
theorem fE11 : Ent Tryz.prog 11 := ⟨Tryz.call11⟩
theorem fE12 : Ent Tryz.prog 12 := ⟨Tryz.call12⟩
theorem fE13 : Ent Tryz.prog 13 := ⟨Tryz.call13⟩
theorem fE14 : Ent Tryz.prog 14 := ⟨Tryz.call14⟩
theorem fE15 : Ent Tryz.prog 15 := ⟨Tryz.call15⟩
theorem fE16 : Ent Tryz.prog 16 := ⟨Tryz.call16⟩
theorem fE18 : Ent Tryz.prog 18 := ⟨Tryz.call18⟩
theorem fE19 : Ent Tryz.prog 19 := ⟨Tryz.call19⟩
theorem fE20 : Ent Tryz.prog 20 := ⟨Tryz.call20⟩
theorem fE21 : Ent Tryz.prog 21 := ⟨Tryz.call21⟩
theorem fE22 : Ent Tryz.prog 22 := ⟨Tryz.call22⟩
theorem fE28 : Ent Tryz.prog 28 := ⟨Tryz.call28⟩
theorem fE29 : Ent Tryz.prog 29 := ⟨Tryz.call29⟩
theorem fE30 : Ent Tryz.prog 30 := ⟨Tryz.call30⟩
theorem fE33 : Ent Tryz.prog 33 := ⟨Tryz.call33⟩
theorem fE35 : Ent Tryz.prog 35 := ⟨Tryz.call35⟩
theorem fE36 : Ent Tryz.prog 36 := ⟨Tryz.call36⟩
theorem fE37 : Ent Tryz.prog 37 := ⟨Tryz.call37⟩
theorem fE38 : Ent Tryz.prog 38 := ⟨Tryz.call38⟩
theorem fE39 : Ent Tryz.prog 39 := ⟨Tryz.call39⟩
theorem fE40 : Ent Tryz.prog 40 := ⟨Tryz.call40⟩
theorem fE41 : Ent Tryz.prog 41 := ⟨Tryz.call41⟩
theorem fE42 : Ent Tryz.prog 42 := ⟨Tryz.call42⟩
theorem fE43 : Ent Tryz.prog 43 := ⟨Tryz.call43⟩
theorem fE44 : Ent Tryz.prog 44 := ⟨Tryz.call44⟩
theorem fE45 : Ent Tryz.prog 45 := ⟨Tryz.call45⟩
theorem fE46 : Ent Tryz.prog 46 := ⟨Tryz.call46⟩
theorem fE47 : Ent Tryz.prog 47 := ⟨Tryz.call47⟩
theorem fE48 : Ent Tryz.prog 48 := ⟨Tryz.call48⟩
theorem fE49 : Ent Tryz.prog 49 := ⟨Tryz.call49⟩
theorem fE50 : Ent Tryz.prog 50 := ⟨Tryz.call50⟩
theorem fE51 : Ent Tryz.prog 51 := ⟨Tryz.call51⟩
theorem fE52 : Ent Tryz.prog 52 := ⟨Tryz.call52⟩
theorem fE53 : Ent Tryz.prog 53 := ⟨Tryz.call53⟩
theorem fE54 : Ent Tryz.prog 54 := ⟨Tryz.call54⟩
theorem fE55 : Ent Tryz.prog 55 := ⟨Tryz.call55⟩
theorem fE56 : Ent Tryz.prog 56 := ⟨Tryz.call56⟩
theorem fE57 : Ent Tryz.prog 57 := ⟨Tryz.call57⟩
theorem fE58 : Ent Tryz.prog 58 := ⟨Tryz.call58⟩
theorem fE59 : Ent Tryz.prog 59 := ⟨Tryz.call59⟩
theorem fE60 : Ent Tryz.prog 60 := ⟨Tryz.call60⟩
theorem fE61 : Ent Tryz.prog 61 := ⟨Tryz.call61⟩
theorem fE63 : Ent Tryz.prog 63 := ⟨Tryz.call63⟩
theorem fE74 : Ent Tryz.prog 74 := ⟨Tryz.call74⟩
theorem fE80 : Ent Tryz.prog 80 := ⟨Tryz.call80⟩
theorem fE81 : Ent Tryz.prog 81 := ⟨Tryz.call81⟩
theorem fE82 : Ent Tryz.prog 82 := ⟨Tryz.call82⟩
theorem fE83 : Ent Tryz.prog 83 := ⟨Tryz.call83⟩
theorem fE84 : Ent Tryz.prog 84 := ⟨Tryz.call84⟩
theorem fE85 : Ent Tryz.prog 85 := ⟨Tryz.call85⟩
theorem fE86 : Ent Tryz.prog 86 := ⟨Tryz.call86⟩
theorem fE87 : Ent Tryz.prog 87 := ⟨Tryz.call87⟩
theorem fE88 : Ent Tryz.prog 88 := ⟨Tryz.call88⟩
theorem fE89 : Ent Tryz.prog 89 := ⟨Tryz.call89⟩
theorem fE90 : Ent Tryz.prog 90 := ⟨Tryz.call90⟩
theorem fE91 : Ent Tryz.prog 91 := ⟨Tryz.call91⟩
theorem fE92 : Ent Tryz.prog 92 := ⟨Tryz.call92⟩
theorem fE93 : Ent Tryz.prog 93 := ⟨Tryz.call93⟩
theorem fE94 : Ent Tryz.prog 94 := ⟨Tryz.call94⟩
theorem fE95 : Ent Tryz.prog 95 := ⟨Tryz.call95⟩
theorem fE96 : Ent Tryz.prog 96 := ⟨Tryz.call96⟩
theorem fE97 : Ent Tryz.prog 97 := ⟨Tryz.call97⟩
theorem fE98 : Ent Tryz.prog 98 := ⟨Tryz.call98⟩
theorem fE99 : Ent Tryz.prog 99 := ⟨Tryz.call99⟩
theorem fE100 : Ent Tryz.prog 100 := ⟨Tryz.call100⟩
theorem fE101 : Ent Tryz.prog 101 := ⟨Tryz.call101⟩
theorem fE102 : Ent Tryz.prog 102 := ⟨Tryz.call102⟩
theorem fE103 : Ent Tryz.prog 103 := ⟨Tryz.call103⟩
theorem fE104 : Ent Tryz.prog 104 := ⟨Tryz.call104⟩
theorem fE105 : Ent Tryz.prog 105 := ⟨Tryz.call105⟩
theorem fE106 : Ent Tryz.prog 106 := ⟨Tryz.call106⟩
theorem fE107 : Ent Tryz.prog 107 := ⟨Tryz.call107⟩
theorem fE109 : Ent Tryz.prog 109 := ⟨Tryz.call109⟩
theorem fE139 : Ent Tryz.prog 139 := ⟨Tryz.call139⟩
theorem fE140 : Ent Tryz.prog 140 := ⟨Tryz.call140⟩
theorem fE141 : Ent Tryz.prog 141 := ⟨Tryz.call141⟩
theorem fE142 : Ent Tryz.prog 142 := ⟨Tryz.call142⟩
theorem fE143 : Ent Tryz.prog 143 := ⟨Tryz.call143⟩
theorem fE144 : Ent Tryz.prog 144 := ⟨Tryz.call144⟩
theorem fE145 : Ent Tryz.prog 145 := ⟨Tryz.call145⟩
theorem fE146 : Ent Tryz.prog 146 := ⟨Tryz.call146⟩
theorem fE147 : Ent Tryz.prog 147 := ⟨Tryz.call147⟩
theorem fE148 : Ent Tryz.prog 148 := ⟨Tryz.call148⟩
theorem fE149 : Ent Tryz.prog 149 := ⟨Tryz.call149⟩
theorem fE150 : Ent Tryz.prog 150 := ⟨Tryz.call150⟩
theorem fE151 : Ent Tryz.prog 151 := ⟨Tryz.call151⟩
theorem fE152 : Ent Tryz.prog 152 := ⟨Tryz.call152⟩
theorem fE153 : Ent Tryz.prog 153 := ⟨Tryz.call153⟩
theorem fE154 : Ent Tryz.prog 154 := ⟨Tryz.call154⟩
theorem fE155 : Ent Tryz.prog 155 := ⟨Tryz.call155⟩
theorem fE156 : Ent Tryz.prog 156 := ⟨Tryz.call156⟩
theorem fE157 : Ent Tryz.prog 157 := ⟨Tryz.call157⟩
theorem fE158 : Ent Tryz.prog 158 := ⟨Tryz.call158⟩
theorem fE159 : Ent Tryz.prog 159 := ⟨Tryz.call159⟩
theorem fE160 : Ent Tryz.prog 160 := ⟨Tryz.call160⟩
theorem fE161 : Ent Tryz.prog 161 := ⟨Tryz.call161⟩
theorem fE162 : Ent Tryz.prog 162 := ⟨Tryz.call162⟩
theorem fE163 : Ent Tryz.prog 163 := ⟨Tryz.call163⟩
theorem fE164 : Ent Tryz.prog 164 := ⟨Tryz.call164⟩
theorem fE165 : Ent Tryz.prog 165 := ⟨Tryz.call165⟩
theorem fE166 : Ent Tryz.prog 166 := ⟨Tryz.call166⟩
theorem fE167 : Ent Tryz.prog 167 := ⟨Tryz.call167⟩
theorem fE168 : Ent Tryz.prog 168 := ⟨Tryz.call168⟩
theorem fE169 : Ent Tryz.prog 169 := ⟨Tryz.call169⟩
theorem fE170 : Ent Tryz.prog 170 := ⟨Tryz.call170⟩
theorem fE171 : Ent Tryz.prog 171 := ⟨Tryz.call171⟩
theorem fE172 : Ent Tryz.prog 172 := ⟨Tryz.call172⟩
theorem fE173 : Ent Tryz.prog 173 := ⟨Tryz.call173⟩
theorem fE174 : Ent Tryz.prog 174 := ⟨Tryz.call174⟩
theorem fE175 : Ent Tryz.prog 175 := ⟨Tryz.call175⟩
theorem fE176 : Ent Tryz.prog 176 := ⟨Tryz.call176⟩
theorem fE180 : Ent Tryz.prog 180 := ⟨Tryz.call180⟩
theorem fE181 : Ent Tryz.prog 181 := ⟨Tryz.call181⟩
theorem fE182 : Ent Tryz.prog 182 := ⟨Tryz.call182⟩
theorem fE183 : Ent Tryz.prog 183 := ⟨Tryz.call183⟩
theorem fE184 : Ent Tryz.prog 184 := ⟨Tryz.call184⟩
theorem fE185 : Ent Tryz.prog 185 := ⟨Tryz.call185⟩
theorem fE186 : Ent Tryz.prog 186 := ⟨Tryz.call186⟩
theorem fE187 : Ent Tryz.prog 187 := ⟨Tryz.call187⟩
theorem fE200 : Ent Tryz.prog 200 := ⟨Tryz.call200⟩
theorem fE202 : Ent Tryz.prog 202 := ⟨Tryz.call202⟩
theorem fE203 : Ent Tryz.prog 203 := ⟨Tryz.call203⟩
theorem fE204 : Ent Tryz.prog 204 := ⟨Tryz.call204⟩
theorem fE205 : Ent Tryz.prog 205 := ⟨Tryz.call205⟩
theorem fE206 : Ent Tryz.prog 206 := ⟨Tryz.call206⟩
theorem fE207 : Ent Tryz.prog 207 := ⟨Tryz.call207⟩
theorem fE208 : Ent Tryz.prog 208 := ⟨Tryz.call208⟩
theorem fE209 : Ent Tryz.prog 209 := ⟨Tryz.call209⟩
theorem fE210 : Ent Tryz.prog 210 := ⟨Tryz.call210⟩
theorem fE211 : Ent Tryz.prog 211 := ⟨Tryz.call211⟩
theorem fE212 : Ent Tryz.prog 212 := ⟨Tryz.call212⟩
theorem fE213 : Ent Tryz.prog 213 := ⟨Tryz.call213⟩
theorem fE214 : Ent Tryz.prog 214 := ⟨Tryz.call214⟩
theorem fE215 : Ent Tryz.prog 215 := ⟨Tryz.call215⟩
theorem fE216 : Ent Tryz.prog 216 := ⟨Tryz.call216⟩
theorem fE217 : Ent Tryz.prog 217 := ⟨Tryz.call217⟩
theorem fE218 : Ent Tryz.prog 218 := ⟨Tryz.call218⟩
theorem fE219 : Ent Tryz.prog 219 := ⟨Tryz.call219⟩
theorem fE220 : Ent Tryz.prog 220 := ⟨Tryz.call220⟩
theorem fE221 : Ent Tryz.prog 221 := ⟨Tryz.call221⟩
theorem fE222 : Ent Tryz.prog 222 := ⟨Tryz.call222⟩
theorem fE223 : Ent Tryz.prog 223 := ⟨Tryz.call223⟩
theorem fE224 : Ent Tryz.prog 224 := ⟨Tryz.call224⟩
theorem fE225 : Ent Tryz.prog 225 := ⟨Tryz.call225⟩
theorem fE226 : Ent Tryz.prog 226 := ⟨Tryz.call226⟩
theorem fE227 : Ent Tryz.prog 227 := ⟨Tryz.call227⟩
theorem fE228 : Ent Tryz.prog 228 := ⟨Tryz.call228⟩
theorem fE229 : Ent Tryz.prog 229 := ⟨Tryz.call229⟩
theorem fE230 : Ent Tryz.prog 230 := ⟨Tryz.call230⟩
theorem fE231 : Ent Tryz.prog 231 := ⟨Tryz.call231⟩
theorem fE232 : Ent Tryz.prog 232 := ⟨Tryz.call232⟩
theorem fE233 : Ent Tryz.prog 233 := ⟨Tryz.call233⟩
theorem fE252 : Ent Tryz.prog 252 := ⟨Tryz.call252⟩
theorem fE253 : Ent Tryz.prog 253 := ⟨Tryz.call253⟩
theorem fE254 : Ent Tryz.prog 254 := ⟨Tryz.call254⟩
theorem fE255 : Ent Tryz.prog 255 := ⟨Tryz.call255⟩
theorem fE256 : Ent Tryz.prog 256 := ⟨Tryz.call256⟩
theorem fE257 : Ent Tryz.prog 257 := ⟨Tryz.call257⟩
theorem fE258 : Ent Tryz.prog 258 := ⟨Tryz.call258⟩
theorem fE259 : Ent Tryz.prog 259 := ⟨Tryz.call259⟩
theorem fE260 : Ent Tryz.prog 260 := ⟨Tryz.call260⟩
theorem fE261 : Ent Tryz.prog 261 := ⟨Tryz.call261⟩
theorem fE262 : Ent Tryz.prog 262 := ⟨Tryz.call262⟩
theorem fE263 : Ent Tryz.prog 263 := ⟨Tryz.call263⟩
theorem fE264 : Ent Tryz.prog 264 := ⟨Tryz.call264⟩
theorem fE265 : Ent Tryz.prog 265 := ⟨Tryz.call265⟩
theorem fE266 : Ent Tryz.prog 266 := ⟨Tryz.call266⟩
theorem fE267 : Ent Tryz.prog 267 := ⟨Tryz.call267⟩
theorem fE268 : Ent Tryz.prog 268 := ⟨Tryz.call268⟩
theorem fE269 : Ent Tryz.prog 269 := ⟨Tryz.call269⟩
theorem fE270 : Ent Tryz.prog 270 := ⟨Tryz.call270⟩
theorem fE271 : Ent Tryz.prog 271 := ⟨Tryz.call271⟩
theorem fE272 : Ent Tryz.prog 272 := ⟨Tryz.call272⟩
theorem fE273 : Ent Tryz.prog 273 := ⟨Tryz.call273⟩
theorem fE274 : Ent Tryz.prog 274 := ⟨Tryz.call274⟩
theorem fE275 : Ent Tryz.prog 275 := ⟨Tryz.call275⟩
theorem fE286 : Ent Tryz.prog 286 := ⟨Tryz.call286⟩
theorem fE287 : Ent Tryz.prog 287 := ⟨Tryz.call287⟩
theorem fE288 : Ent Tryz.prog 288 := ⟨Tryz.call288⟩
theorem fE289 : Ent Tryz.prog 289 := ⟨Tryz.call289⟩
theorem fE290 : Ent Tryz.prog 290 := ⟨Tryz.call290⟩
theorem fE291 : Ent Tryz.prog 291 := ⟨Tryz.call291⟩
theorem fE293 : Ent Tryz.prog 293 := ⟨Tryz.call293⟩
theorem fE294 : Ent Tryz.prog 294 := ⟨Tryz.call294⟩
theorem fE295 : Ent Tryz.prog 295 := ⟨Tryz.call295⟩
theorem fE300 : Ent Tryz.prog 300 := ⟨Tryz.call300⟩
theorem fE302 : Ent Tryz.prog 302 := ⟨Tryz.call302⟩
theorem fE303 : Ent Tryz.prog 303 := ⟨Tryz.call303⟩
theorem fE304 : Ent Tryz.prog 304 := ⟨Tryz.call304⟩
theorem fE308 : Ent Tryz.prog 308 := ⟨Tryz.call308⟩
theorem fE309 : Ent Tryz.prog 309 := ⟨Tryz.call309⟩
theorem fE328 : Ent Tryz.prog 328 := ⟨Tryz.call328⟩
theorem fE329 : Ent Tryz.prog 329 := ⟨Tryz.call329⟩
theorem fE330 : Ent Tryz.prog 330 := ⟨Tryz.call330⟩
theorem fE331 : Ent Tryz.prog 331 := ⟨Tryz.call331⟩
theorem fE332 : Ent Tryz.prog 332 := ⟨Tryz.call332⟩
theorem fE333 : Ent Tryz.prog 333 := ⟨Tryz.call333⟩
theorem fE334 : Ent Tryz.prog 334 := ⟨Tryz.call334⟩
theorem fE335 : Ent Tryz.prog 335 := ⟨Tryz.call335⟩
attribute [instance] fU2 fA2 fS2 fU3 fA3 fS3 fZ3 fA4 fS4 fU5 fA5 fS5 fB5 fZ5 fU9 fA9 fS9 fB9 fZ9 fU22 fU23 fU28 fA28 fS28 fZ28 fA30 fS30 fZ30 fF30_0 fF30_1 fF30_2 fF30_3 fL30 fU31 fA31 fS31 fU32 fA32 fA34 fS34 fB34 fZ34 fF34_0 fF34_1 fF34_2 fF34_3 fF34_4 fF34_5 fF34_6 fF34_7 fF34_8 fF34_9 fF34_10 fF34_11 fF34_12 fU35 fU36 fA36 fU39 fU40 fA40 fU44 fA44 fA48 fS48 fB48 fZ48 fF48_0 fF48_1 fF48_2 fF48_3 fF48_4 fF48_5 fF48_6 fF48_8 fL48 fA53 fS53 fB53 fZ53 fF53_0 fF53_1 fF53_2 fF53_3 fF53_4 fF53_5 fF53_6 fF53_7 fF53_8 fL53 fF63_0 fF63_1 fF63_2 fF63_3 fL63 fU99 fA99 fU100 fA100 fF102_0 fF102_1 fF102_2 fL102 fU107 fA107 fU108 fA108 fF110_0 fF110_1 fF110_2 fL110 fU114 fA114 fF116_0 fL116 fA120 fS120 fZ120 fF120_0 fF120_1 fL120 fA148 fA160 fS160 fZ160 fF160_0 fF160_1 fL160 fU171 fU173 fA173 fU175 fA175 fS175 fF177_0 fF177_1 fL177 fU215 fA215 fS215 fF233_0 fF233_1 fF233_2 fL233 fU234 fA234 fS234 fB234 fZ234 fU236 fU241 fA241 fS241 fZ243 fF243_0 fF243_1 fU252 fA252 fS252 fZ252 fU260 fU287 fU290 fA290 fS290 fZ290 fU297 fU309 fU313 fA313 fS313 fZ313 fU319 fA319 fS319 fZ319 fF321_0 fF321_1 fF321_2 fF321_3 fL321 fQ9 fQ120 fE9 fE10 fE11 fE12 fE13 fE14 fE15 fE16 fE18 fE19 fE20 fE21 fE22 fE28 fE29 fE30 fE33 fE35 fE36 fE37 fE38 fE39 fE40 fE41 fE42 fE43 fE44 fE45 fE46 fE47 fE48 fE49 fE50 fE51 fE52 fE53 fE54 fE55 fE56 fE57 fE58 fE59 fE60 fE61 fE63 fE74 fE80 fE81 fE82 fE83 fE84 fE85 fE86 fE87 fE88 fE89 fE90 fE91 fE92 fE93 fE94 fE95 fE96 fE97 fE98 fE99 fE100 fE101 fE102 fE103 fE104 fE105 fE106 fE107 fE109 fE139 fE140 fE141 fE142 fE143 fE144 fE145 fE146 fE147 fE148 fE149 fE150 fE151 fE152 fE153 fE154 fE155 fE156 fE157 fE158 fE159 fE160 fE161 fE162 fE163 fE164 fE165 fE166 fE167 fE168 fE169 fE170 fE171 fE172 fE173 fE174 fE175 fE176 fE180 fE181 fE182 fE183 fE184 fE185 fE186 fE187 fE200 fE202 fE203 fE204 fE205 fE206 fE207 fE208 fE209 fE210 fE211 fE212 fE213 fE214 fE215 fE216 fE217 fE218 fE219 fE220 fE221 fE222 fE223 fE224 fE225 fE226 fE227 fE228 fE229 fE230 fE231 fE232 fE233 fE252 fE253 fE254 fE255 fE256 fE257 fE258 fE259 fE260 fE261 fE262 fE263 fE264 fE265 fE266 fE267 fE268 fE269 fE270 fE271 fE272 fE273 fE274 fE275 fE286 fE287 fE288 fE289 fE290 fE291 fE293 fE294 fE295 fE300 fE302 fE303 fE304 fE308 fE309 fE328 fE329 fE330 fE331 fE332 fE333 fE334 fE335
theorem mixed : Tryz.prog.follows .mixedOrders = true := by kernel_rfl
structure HI (P : Program) (R : Rds) (t : TypeId) (v : Value) {α : Type} (lt : α → α → Bool) (I : List α → Seg → Prop) : Prop where
 bnd : ∀ L T, I L T → L.length ≤ 1000000000
 len : ∀ L T, I L T → ISpec P t v "Len" [] R T fun u T' => u = .int .i64 L.length ∧ I L T'
 less : ∀ L T (i k : Nat) x y, I L T → L[i]? = some x → L[k]? = some y → ISpec P t v "Less" [.int .i64 i, .int .i64 k] R T fun u T' => u = .bool (lt x y) ∧ I L T'
 swap : ∀ L T (i k : Nat), I L T → i < L.length → k < L.length → ISpec P t v "Swap" [.int .i64 i, .int .i64 k] R T fun _ T' => I (swp L i k) T'
section
variable {R : Rds} {t : TypeId} {v : Value} {α : Type} {lt : α → α → Bool} {I : List α → Seg → Prop}
theorem up_spec (hi : HI Tryz.prog R t v lt I) (so : SO lt) (L : List α) (T : Seg) (h : I L T) (j : Nat) (hj : j < L.length) :
  Spec Tryz.prog 286 [.iface t v, .int .i64 j] R [T] fun u H' => ∃ T', H' = [T'] ∧ u = .tuple #[] ∧ ∃ L', I L' T' ∧ L'.Perm L ∧ (∀ k, j < k → L'[k]? = L[k]?) ∧ ∀ n, n ≤ L.length → j < n → Up lt L n j → Heap lt L' n := by
 have hb := hi.bnd L T h
 refine Spec.body Tryz.func286 rfl Tryz.results286 Tryz.ntmps286 rfl ?_
 refine .block ?_
 refine .loop (X := Nat × List α × Seg) (fun y => I y.2.1 y.2.2 ∧ y.1 ≤ j ∧ y.2.1.Perm L ∧ (∀ k, j < k → y.2.1[k]? = L[k]?) ∧ ∀ n, n ≤ L.length → j < n → Up lt L n j → Up lt y.2.1 n y.1) (fun y => [(0, .iface t v), (1, .int .i64 (y.1 : Nat))]) (fun y => [y.2.2]) (fun y => y.1) (j, L, T) ⟨h, Nat.le_refl _, .refl _, fun _ _ => rfl, fun _ _ _ h => h⟩ (EnvLe.k2 rfl rfl) (HLe.refl _) ?_
 rintro ⟨i, L1, T1⟩ ⟨hI, hij, hP, hS, hU⟩
 simp only at hI hij hP hS hU ⊢
 have hl := hP.length_eq
 obtain ⟨x, hx⟩ : ∃ x, L1[i]? = some x := ⟨_, List.getElem?_eq_getElem (by omega)⟩
 obtain ⟨y, hy⟩ : ∃ y, L1[par i]? = some y := ⟨_, List.getElem?_eq_getElem (by unfold par; omega)⟩
 refine .block<|.sr<|.mo rfl ?_
 refine .q (.i64 ((i : Int) - 1) .sub ⟨rfl, by omega, by omega⟩) ?_
 refine .q (.i64 ((par i : Nat) : Int) .quo ⟨tdiv2, by omega, by unfold par; omega⟩) ?_
 refine .ag rfl<|.zs<|.sr<|.mo rfl<|.mo rfl<|.q .eqI<|.mo rfl ?_
 refine .split (t := 11) rfl (fun g1_3 => ?_) (fun g1_3 => ?_)
 refine .gF g1_3<|.gF g1_3<|.gF g1_3<|.gF g1_3<|.gF g1_3<|.q (.pickTh g1_3) ?_
 refine .zn<|.condT ?_
 refine .exit (seqQ_x (blkQ_y (loopQ_x (blkQ_x ?_))))
 refine retQ_n _ .none (HLe.refl _) ?_
 ·have hi0 : par i = i := by simp at g1_3; omega
  refine ⟨_, rfl, rfl, L1, hI, hP, hS, fun n hn hjn hu => ?_⟩
  have h0 : i = 0 := by
   rcases Nat.eq_zero_or_pos i with e | e
   ·exact e
   ·have := par_lt e; omega
  subst h0
  exact (hU n hn hjn hu).stop0
 refine .gT g1_3<|.mo rfl<|.gT g1_3<|.mo rfl<|.gT g1_3<|.mo rfl<|.gT g1_3 ?_
 refine .callI (hi.less L1 T1 i (par i) x y hI hx hy) (fun u T2 hu => ?_)
 obtain ⟨rfl, hI2⟩ := hu
 refine .gT g1_3<|.q .not<|.q (.pickFh g1_3) ?_
 refine .zn ?_
 refine .cond rfl (fun h1 => ?_) (fun h1 => ?_)
 refine .exit (seqQ_x (blkQ_y (loopQ_x (blkQ_x ?_))))
 refine retQ_n _ .none (HLe.refl _) ?_
 ·refine ⟨_, rfl, rfl, L1, hI2, hP, hS, fun n hn hjn hu => (hU n hn hjn hu).stop fun a b ha hb => ?_⟩
  rw [hy] at ha; rw [hx] at hb
  cases ha; cases hb
  simpa using h1
 refine .kn<|.sr<|.mo rfl<|.mo rfl<|.mo rfl ?_
 refine .callI (hi.swap L1 T2 (par i) i hI2 (by unfold par; omega) (by omega)) (fun u T3 hI3 => ?_)
 refine .zn<|.region<|.mo rfl<|.ag rfl<|.nil<|blkQ_n ?_
 ·have hlt : lt x y = true := by simpa using h1
  have hi0 : par i ≠ i := by simp at g1_3; omega
  have hi1 : 0 < i := by
   rcases Nat.eq_zero_or_pos i with e | e
   ·subst e; exact absurd rfl hi0
   ·exact e
  have hpl := par_lt hi1
  exact loopQ_i (par i, swp L1 (par i) i, T3) ⟨hI3, by omega, swp_perm.trans hP, fun k hk => by
   rw [swp_get (by omega) (by omega), if_neg (by omega), if_neg (by omega)]; exact hS k hk, fun n hn hjn hu => (hU n hn hjn hu).step so hi1 (by omega) (by omega) hx hy hlt⟩ hpl (EnvLe.k2 rfl rfl) (HLe.refl _)
theorem down_spec (hi : HI Tryz.prog R t v lt I) (so : SO lt) (L : List α) (T : Seg) (h : I L T) (i0 n : Nat) (hi0 : i0 ≤ n) (hn : n ≤ L.length) :
  Spec Tryz.prog 253 [.iface t v, .int .i64 i0, .int .i64 n] R [T] fun u H' => ∃ T', H' = [T'] ∧ ∃ L' m, I L' T' ∧ u = .bool m ∧ L'.Perm L ∧ (∀ k, n ≤ k → L'[k]? = L[k]?) ∧ (Hole lt L n i0 → (m = true → Heap lt L' n) ∧ (m = false → Up lt L' n i0)) := by
 have hb := hi.bnd L T h
 refine Spec.body Tryz.func253 rfl Tryz.results253 Tryz.ntmps253 rfl ?_
 refine .sr<|.ag rfl<|.z<|.mo rfl<|.ag rfl<|.zs<|.block ?_
 refine .loop (X := Nat × List α × Seg) (fun y => I y.2.1 y.2.2 ∧ i0 ≤ y.1 ∧ y.1 ≤ n ∧ y.2.1.Perm L ∧ (∀ k, n ≤ k → y.2.1[k]? = L[k]?) ∧ (Hole lt L n i0 → Hole lt y.2.1 n y.1 ∧ (y.1 ≠ i0 → HEdge lt y.2.1 (par y.1) y.1))) (fun y => [(0, .iface t v), (1, .int .i64 (i0 : Nat)), (2, .int .i64 (n : Nat)), (7, .int .i64 (y.1 : Nat))]) (fun y => [y.2.2]) (fun y => n - y.1) (i0, L, T) ⟨h, Nat.le_refl _, hi0, .refl _, fun _ _ => rfl, fun h => ⟨h, fun e => absurd rfl e⟩⟩ (EnvLe.k4 rfl rfl rfl rfl) (HLe.refl _) ?_
 rintro ⟨i, L1, T1⟩ ⟨hI, hii, hin, hP, hS, hU⟩
 simp only at hI hii hin hP hS hU ⊢
 have hl := hP.length_eq
 refine .block<|.sr<|.mo rfl ?_
 refine .q (.i64 ((2 * i : Nat) : Int) .mul ⟨by omega, by omega, by omega⟩) ?_
 refine .q (.i64 ((2 * i + 1 : Nat) : Int) .add ⟨by omega, by omega, by omega⟩) ?_
 refine .ag rfl<|.zs<|.sr<|.mo rfl<|.mo rfl<|.q .geq<|.mo rfl ?_
 refine .split (t := 18) rfl (fun g3_3 => ?_) (fun g3_3 => ?_)
 refine .gF g3_3<|.gF g3_3<|.q (.pickTh g3_3) ?_
 refine .zn<|.condT ?_
 have hge : n ≤ 2 * i + 1 := by
  (simp at g3_3; omega)
 refine .exit (seqQ_x (blkQ_y (loopQ_x (blkQ_x ?_))))
 refine seqQ_n<|.sr<|.mo rfl<|.mo rfl<|.q .gtr<|.ag rfl<|.zn ?_
 refine .ret (retQ_r _ (.one (.tmp rfl)) (HLe.refl _) ?_)
 ·refine ⟨_, rfl, L1, decide (i0 < i), by assumption, by simp, hP, hS, fun hu => ?_⟩
  have hup : Up lt L1 n i := (hU hu).1.stop fun c h0 hc hp a b ha hb => by
   (simp only [par] at hp; omega)
  refine ⟨fun hm => ?_, fun hm => ?_⟩
  ·have hm' : i ≠ i0 := by simp at hm; omega
   exact hup.stop ((hU hu).2 hm')
  ·have hm' : i = i0 := by simp at hm; omega
   rw [← hm']; exact hup
 refine .gT g3_3<|.mo rfl<|.gT g3_3<|.q .lss<|.q (.pickFh g3_3) ?_
 refine .zn ?_
 refine .cond rfl (fun h1 => ?_) (fun h1 => ?_)
 have hge : n ≤ 2 * i + 1 := by
  (simp at h1; omega)
 refine .exit (seqQ_x (blkQ_y (loopQ_x (blkQ_x ?_))))
 refine seqQ_n<|.sr<|.mo rfl<|.mo rfl<|.q .gtr<|.ag rfl<|.zn ?_
 refine .ret (retQ_r _ (.one (.tmp rfl)) (HLe.refl _) ?_)
 ·refine ⟨_, rfl, L1, decide (i0 < i), by assumption, by simp, hP, hS, fun hu => ?_⟩
  have hup : Up lt L1 n i := (hU hu).1.stop fun c h0 hc hp a b ha hb => by
   (simp only [par] at hp; omega)
  refine ⟨fun hm => ?_, fun hm => ?_⟩
  ·have hm' : i ≠ i0 := by simp at hm; omega
   exact hup.stop ((hU hu).2 hm')
  ·have hm' : i = i0 := by simp at hm; omega
   rw [← hm']; exact hup
 have hlt : 2 * i + 1 < n := by simp at g3_3; omega
 obtain ⟨y0, hy0⟩ : ∃ y, L1[i]? = some y := ⟨_, List.getElem?_eq_getElem (by omega)⟩
 obtain ⟨x1, hx1⟩ : ∃ y, L1[2 * i + 1]? = some y := ⟨_, List.getElem?_eq_getElem (by omega)⟩
 refine .kn<|.sr<|.mo rfl<|.ag rfl<|.zs ?_
 refine Tri.cut (X := Nat × Seg × α) (fun z => I L1 z.2.1 ∧ 0 < z.1 ∧ z.1 < n ∧ par z.1 = i ∧ L1[z.1]? = some z.2.2 ∧ ∀ c u, 0 < c → c < n → par c = i → L1[c]? = some u → lt u z.2.2 = false) (fun z => [(0, .iface t v), (1, .int .i64 (i0 : Nat)), (2, .int .i64 (n : Nat)), (7, .int .i64 (i : Nat)), (9, .int .i64 (z.1 : Nat))]) (fun z => [z.2.1]) ?_ ?_
 refine .sr<|.mo rfl ?_
 refine .q (.i64 ((2 * i + 2 : Nat) : Int) .add ⟨by omega, by omega, by omega⟩) ?_
 refine .ag rfl<|.z<|.mo rfl<|.mo rfl<|.q .lss<|.mo rfl ?_
 refine .split (t := 28) rfl (fun g6_3 => ?_) (fun g6_3 => ?_)
 have hlt2 : 2 * i + 2 < n := by simp at g6_3; omega
 obtain ⟨x2, hx2⟩ : ∃ y, L1[2 * i + 2]? = some y := ⟨_, List.getElem?_eq_getElem (by omega)⟩
 refine .gT g6_3<|.mo rfl<|.gT g6_3<|.mo rfl<|.gT g6_3<|.mo rfl<|.gT g6_3 ?_
 refine .callI (hi.less L1 T1 (2 * i + 2) (2 * i + 1) x2 x1 hI hx2 hx1) (fun u T2 hu => ?_)
 obtain ⟨rfl, hI2⟩ := hu
 refine .q (.pickTh g6_3) ?_
 refine .zn ?_
 refine .cond rfl (fun h2 => ?_) (fun h2 => ?_)
 refine .region<|.mo rfl<|.ag rfl<|.nil ?_
 ·exact joinQ_n (2 * i + 2, T2, x2) ⟨hI2, by simp only; omega, hlt2, by simp only [par]; omega, hx2, fun c u h0 hc hp hu => by
   have : c = 2 * i + 1 ∨ c = 2 * i + 2 := by simp only [par] at hp; omega
   rcases this with rfl | rfl
   ·rw [hx1] at hu; cases hu; exact so.asym (by simpa using h2)
   ·rw [hx2] at hu; cases hu; exact so.irr _⟩ (EnvLe.k5 rfl rfl rfl rfl rfl) (HLe.refl _)
 refine .skip ?_
 ·exact joinQ_n (2 * i + 1, T2, x1) ⟨hI2, by simp only; omega, hlt, by simp only [par]; omega, hx1, fun c u h0 hc hp hu => by
   have : c = 2 * i + 1 ∨ c = 2 * i + 2 := by simp only [par] at hp; omega
   rcases this with rfl | rfl
   ·rw [hx1] at hu; cases hu; exact so.irr _
   ·rw [hx2] at hu; cases hu; simpa using h2⟩ (EnvLe.k5 rfl rfl rfl rfl rfl) (HLe.refl _)
 refine .gF g6_3<|.gF g6_3<|.gF g6_3<|.gF g6_3<|.q (.pickFh g6_3) ?_
 refine .zn<|.condF<|.skip ?_
 ·exact joinQ_n (2 * i + 1, T1, x1) ⟨hI, by simp only; omega, hlt, by simp only [par]; omega, hx1, fun c u h0 hc hp hu => by
   have : c = 2 * i + 1 := by simp only [par] at hp; simp at g6_3; omega
   subst this
   rw [hx1] at hu; cases hu; exact so.irr _⟩ (EnvLe.k5 rfl rfl rfl rfl rfl) (HLe.refl _)
 intro y hy
 obtain ⟨j, T3, x⟩ := y
 obtain ⟨hI3, hj0, hjn, hjp, hx, hmin⟩ := hy
 simp only at hI3 hj0 hjn hjp hx hmin ⊢
 have hij : i < j := hjp ▸ par_lt hj0
 refine seqQ_n<|.seq<|.sr<|.mo rfl<|.mo rfl<|.mo rfl ?_
 refine .callI (hi.less L1 T3 j i x y0 hI3 hx hy0) (fun u T4 hu => ?_)
 obtain ⟨rfl, hI4⟩ := hu
 refine .q .not<|.zn ?_
 refine .cond rfl (fun h3 => ?_) (fun h3 => ?_)
 refine .exit (seqQ_x (blkQ_y (loopQ_x (blkQ_x ?_))))
 refine seqQ_n<|.sr<|.mo rfl<|.mo rfl<|.q .gtr<|.ag rfl<|.zn ?_
 refine .ret (retQ_r _ (.one (.tmp rfl)) (HLe.refl _) ?_)
 ·refine ⟨_, rfl, L1, decide (i0 < i), by assumption, by simp, hP, hS, fun hu => ?_⟩
  have hup : Up lt L1 n i := (hU hu).1.stop fun c h0 hc hp a b ha hb => by
   (rw [hy0] at ha; cases ha; exact so.ntr _ _ _ (hmin c b h0 hc hp hb) (by simpa using h3))
  refine ⟨fun hm => ?_, fun hm => ?_⟩
  ·have hm' : i ≠ i0 := by simp at hm; omega
   exact hup.stop ((hU hu).2 hm')
  ·have hm' : i = i0 := by simp at hm; omega
   rw [← hm']; exact hup
 refine .kn<|.sr<|.mo rfl<|.mo rfl<|.mo rfl ?_
 refine .callI (hi.swap L1 T4 i j hI4 (by omega) (by omega)) (fun u T5 hI5 => ?_)
 refine .zn<|.region<|.mo rfl<|.ag rfl<|.nil<|blkQ_n ?_
 ·have hl3 : lt x y0 = true := by simpa using h3
  exact loopQ_i (j, swp L1 i j, T5) ⟨hI5, by simp only; omega, by simp only; omega, swp_perm.trans hP, fun k hk => by
   rw [swp_get (by omega) (by omega), if_neg (by omega), if_neg (by omega)]; exact hS k hk, fun hu => by
    have := (hU hu).1.step so hj0 hjn (by omega) hjp hx hy0 hl3 hmin
    exact ⟨this.1, fun _ => this.2⟩⟩ (by simp only; omega) (EnvLe.k4 rfl rfl rfl rfl) (HLe.refl _)
theorem fix_spec (hi : HI Tryz.prog R t v lt I) (so : SO lt) (L : List α) (T : Seg) (h : I L T) (i : Nat) (hil : i < L.length) (hh : Hole lt L L.length i) :
  Spec Tryz.prog 270 [.iface t v, .int .i64 i] R [T] fun u H' => ∃ T', H' = [T'] ∧ u = .tuple #[] ∧ ∃ L', I L' T' ∧ L'.Perm L ∧ Heap lt L' L'.length := by
 refine Spec.body Tryz.func270 rfl Tryz.results270 Tryz.ntmps270 rfl ?_
 refine .sr<|.mo rfl<|.mo rfl<|.mo rfl ?_
 refine .callI (hi.len L T h) (fun u T1 hu => ?_)
 obtain ⟨rfl, h1⟩ := hu
 refine .callM (down_spec hi so L T1 h1 i L.length (by omega) (Nat.le_refl _)) (fun u T2 hu => ?_)
 obtain ⟨L2, m, h2, rfl, hp2, hs2, hh2⟩ := hu
 have hl2 := hp2.length_eq
 refine .q .not<|.zn ?_
 refine .cond rfl (fun h1 => ?_) (fun h1 => ?_)
 have hm : m = false := by simpa using h1
 refine .region<|.mo rfl<|.mo rfl ?_
 refine .callM (up_spec hi so L2 T2 h2 i (by omega)) (fun u T3 hu => ?_)
 obtain ⟨rfl, L3, h3, hp3, hs3, hh3⟩ := hu
 have hl3 := hp3.length_eq
 refine .nil<|retQ_n _ .none (HLe.refl _) ?_
 ·exact ⟨_, rfl, rfl, L3, h3, hp3.trans hp2, by rw [hl3, hl2]; exact hh3 _ (by omega) hil ((hh2 hh).2 hm)⟩
 have hm : m = true := by simpa using h1
 refine .skip<|retQ_n _ .none (HLe.refl _) ?_
 ·exact ⟨_, rfl, rfl, L2, h2, hp2, by rw [hl2]; exact (hh2 hh).1 hm⟩
theorem push_spec (hi : HI Tryz.prog R t v lt I) (so : SO lt) (L : List α) (T : Seg) (x : Value) (a : α) (hp : ISpec Tryz.prog t v "Push" [x] R T fun _ T' => I (L ++ [a]) T') (hh : Heap lt L L.length) :
  Spec Tryz.prog 271 [.iface t v, x] R [T] fun u H' => ∃ T', H' = [T'] ∧ u = .tuple #[] ∧ ∃ L', I L' T' ∧ L'.Perm (L ++ [a]) ∧ Heap lt L' L'.length := by
 refine Spec.body Tryz.func271 rfl Tryz.results271 Tryz.ntmps271 rfl ?_
 refine .sr<|.mo rfl<|.mo rfl ?_
 refine .callI hp (fun u T1 h1 => ?_)
 have hb := hi.bnd _ T1 h1
 simp only [List.length_append, List.length_singleton] at hb
 refine .zn<|.region<|.mo rfl<|.mo rfl ?_
 refine .callI (hi.len _ T1 h1) (fun u T2 hu => ?_)
 obtain ⟨rfl, h2⟩ := hu
 refine .q (.i64 ((L.length : Nat) : Int) .sub ⟨by simp, by omega, by omega⟩) ?_
 refine .callM (up_spec hi so _ T2 h2 L.length (by simp)) (fun u T3 hu => ?_)
 obtain ⟨rfl, L3, h3, hp3, hs3, hh3⟩ := hu
 have hl3 := hp3.length_eq
 refine .nil<|retQ_n _ .none (HLe.refl _) ?_
 ·exact ⟨_, rfl, rfl, L3, h3, hp3, by rw [hl3]; exact hh3 _ (Nat.le_refl _) (by simp) (by simp; exact hh.push a)⟩
theorem last_of {L L0 : List α} {n : Nat} {x : α} (hl : L.length = n + 1) (hx : L[n]? = some x) (hp : L.Perm L0) : L = L.take n ++ [x] ∧ (L.take n).length = n ∧ L0.Perm (x :: L.take n) := by
 have h1 : L = L.take n ++ [x] := by
  apply List.ext_getElem?
  intro k
  rcases Nat.lt_trichotomy k n with h | h | h
  ·rw [List.getElem?_append_left (by simp; omega), List.getElem?_take_of_lt h]
  ·subst h
   rw [List.getElem?_append_right (by simp; omega), hx]
   simp [hl]
  ·rw [List.getElem?_eq_none (by omega), List.getElem?_eq_none (by simp; omega)]
 refine ⟨h1, by simp; omega, hp.symm.trans ?_⟩
 have : (L.take n ++ [x]).Perm (x :: L.take n) := by simp
 rw [← h1] at this
 exact this
theorem Heap.take_ {L : List α} {n : Nat} (h : Heap lt L n) (hn : n ≤ L.length) : Heap lt (L.take n) (L.take n).length := by
 have e : (L.take n).length = n := by simp; omega
 rw [e]
 exact h.of_get fun k hk => List.getElem?_take_of_lt hk
theorem pop_spec (hi : HI Tryz.prog R t v lt I) (so : SO lt) (L : List α) (T : Seg) (h : I L T) (x : α) (hx : L[0]? = some x) (hh : Heap lt L L.length) (px : α → Value) (J : List α → Seg → Prop)
  (hp : ∀ L' T', I (L' ++ [x]) T' → L'.length + 1 = L.length → ISpec Tryz.prog t v "Pop" [] R T' fun u T'' => u = px x ∧ J L' T'') :
  Spec Tryz.prog 203 [.iface t v] R [T] fun u H' => ∃ T', H' = [T'] ∧ u = px x ∧ ∃ L', J L' T' ∧ L.Perm (x :: L') ∧ Heap lt L' L'.length := by
 have hb := hi.bnd L T h
 have hpos : 0 < L.length := (List.getElem?_eq_some_iff.1 hx).1
 obtain ⟨n, hn⟩ : ∃ n, L.length = n + 1 := ⟨L.length - 1, by omega⟩
 refine Spec.body Tryz.func203 rfl Tryz.results203 Tryz.ntmps203 rfl ?_
 refine .sr<|.ag rfl<|.z<|.mo rfl ?_
 refine .callI (hi.len L T h) (fun u T1 hu => ?_)
 obtain ⟨rfl, h1⟩ := hu
 refine .q (.i64 ((n : Nat) : Int) .sub ⟨by omega, by omega, by omega⟩) ?_
 refine .ag rfl<|.z<|.mo rfl<|.mo rfl ?_
 refine .callI (hi.swap L T1 0 n h1 (by omega) (by omega)) (fun u T2 h2 => ?_)
 refine .z<|.mo rfl<|.mo rfl ?_
 refine .callM (down_spec hi so _ T2 h2 0 n (by omega) (by rw [swp_length]; omega)) (fun u T3 hu => ?_)
 obtain ⟨L3, m, h3, rfl, hp3, hs3, hh3⟩ := hu
 have hx3 : L3[n]? = some x := by rw [hs3 n (Nat.le_refl _), swp_get (by omega) (by omega), if_pos rfl, hx]
 have hl3 := hp3.length_eq
 rw [swp_length] at hl3
 obtain ⟨e1, e2, e3⟩ := last_of (by omega) hx3 (hp3.trans swp_perm)
 have hhole : Hole lt (swp L 0 n) n 0 := (hh.mono (by omega)).hole so (by omega) fun k hk hk0 => by rw [swp_get (by omega) (by omega), if_neg (by omega), if_neg hk0]
 have hH : Heap lt L3 n := by
  cases m with
  | true => exact (hh3 hhole).1 rfl
  | false => exact ((hh3 hhole).2 rfl).stop0
 refine .z<|.mo rfl ?_
 rw [e1] at h3
 refine .callI (hp _ T3 h3 (by omega)) (fun u T4 hu => ?_)
 obtain ⟨rfl, h4⟩ := hu
 refine .ag rfl<|.zn ?_
 refine .ret (retQ_r _ (.one (.tmp rfl)) (HLe.refl _) ?_)
 ·exact ⟨_, rfl, rfl, _, h4, e3, hH.take_ (by omega)⟩
theorem remove_spec (hi : HI Tryz.prog R t v lt I) (so : SO lt) (L : List α) (T : Seg) (h : I L T) (i : Nat) (x : α) (hx : L[i]? = some x) (hh : Heap lt L L.length) (px : α → Value) (J : List α → Seg → Prop)
  (hp : ∀ L' T', I (L' ++ [x]) T' → L'.length + 1 = L.length → ISpec Tryz.prog t v "Pop" [] R T' fun u T'' => u = px x ∧ J L' T'') :
  Spec Tryz.prog 258 [.iface t v, .int .i64 i] R [T] fun u H' => ∃ T', H' = [T'] ∧ u = px x ∧ ∃ L', J L' T' ∧ L.Perm (x :: L') ∧ Heap lt L' L'.length := by
 have hb := hi.bnd L T h
 have hpos : i < L.length := (List.getElem?_eq_some_iff.1 hx).1
 obtain ⟨n, hn⟩ : ∃ n, L.length = n + 1 := ⟨L.length - 1, by omega⟩
 refine Spec.body Tryz.func258 rfl Tryz.results258 Tryz.ntmps258 rfl ?_
 refine .sr<|.ag rfl<|.z<|.mo rfl ?_
 refine .callI (hi.len L T h) (fun u T1 hu => ?_)
 obtain ⟨rfl, h1⟩ := hu
 refine .q (.i64 ((n : Nat) : Int) .sub ⟨by omega, by omega, by omega⟩) ?_
 refine .ag rfl<|.zs ?_
 refine Tri.cut (X := List α × Seg) (fun y => I y.1 y.2 ∧ y.1.Perm L ∧ y.1[n]? = some x ∧ Heap lt y.1 n) (fun y => [(0, .iface t v)]) (fun y => [y.2]) ?_ ?_
 refine .sr<|.mo rfl<|.mo rfl<|.q .neI<|.zn ?_
 refine .cond rfl (fun h1 => ?_) (fun h1 => ?_)
 have hin : i < n := by simp at h1; omega
 refine .sr<|.mo rfl<|.mo rfl<|.mo rfl ?_
 refine .callI (hi.swap L T1 i n (by assumption) (by omega) (by omega)) (fun u T2 h2 => ?_)
 refine .z<|.mo rfl<|.mo rfl<|.mo rfl ?_
 refine .callM (down_spec hi so _ T2 h2 i n (by omega) (by rw [swp_length]; omega)) (fun u T3 hu => ?_)
 obtain ⟨L3, m, h3, rfl, hp3, hs3, hh3⟩ := hu
 have hx3 : L3[n]? = some x := by rw [hs3 n (Nat.le_refl _), swp_get (by omega) (by omega), if_pos rfl, hx]
 have hl3 := hp3.length_eq
 rw [swp_length] at hl3
 have hhole : Hole lt (swp L i n) n i := (hh.mono (by omega)).hole so (by omega) fun k hk hk0 => by rw [swp_get (by omega) (by omega), if_neg (by omega), if_neg hk0]
 refine .q .not<|.zn ?_
 refine .cond rfl (fun h2 => ?_) (fun h2 => ?_)
 have hm : m = false := by simpa using h2
 refine .region<|.mo rfl<|.mo rfl ?_
 refine .callM (up_spec hi so L3 T3 (by assumption) i (by omega)) (fun u T4 hu => ?_)
 obtain ⟨rfl, L4, h4, hp4, hs4, hh4⟩ := hu
 refine .nil ?_
 ·exact joinQ_n (L4, T4) ⟨h4, hp4.trans (hp3.trans swp_perm), by simp only; rw [hs4 n hin]; exact hx3, hh4 n (by omega) hin ((hh3 hhole).2 hm)⟩ (EnvLe.k1 rfl) (HLe.refl _)
 have hm : m = true := by simpa using h2
 refine .skip ?_
 ·exact joinQ_n (L3, T3) ⟨by assumption, hp3.trans swp_perm, hx3, (hh3 hhole).1 hm⟩ (EnvLe.k1 rfl) (HLe.refl _)
 have hin : i = n := by simp at h1; omega
 refine .skip ?_
 ·exact joinQ_n (L, T1) ⟨by assumption, .refl _, hin ▸ hx, hh.mono (by omega)⟩ (EnvLe.k1 rfl) (HLe.refl _)
 intro y hy
 obtain ⟨L5, T5⟩ := y
 obtain ⟨h5, hp5, hx5, hH⟩ := hy
 simp only at h5 hp5 hx5 hH ⊢
 have hl5 := hp5.length_eq
 obtain ⟨e1, e2, e3⟩ := last_of (by omega) hx5 hp5
 refine seqQ_n<|.sr<|.mo rfl ?_
 rw [e1] at h5
 refine .callI (hp _ T5 h5 (by omega)) (fun u T6 hu => ?_)
 obtain ⟨rfl, h6⟩ := hu
 refine .ag rfl<|.zn ?_
 refine .ret (retQ_r _ (.one (.tmp rfl)) (HLe.refl _) ?_)
 ·exact ⟨_, rfl, rfl, _, h6, e3, hH.take_ (by omega)⟩
end
end Go.Proofs.YtkagfkbkpiebjaaGreatDoor

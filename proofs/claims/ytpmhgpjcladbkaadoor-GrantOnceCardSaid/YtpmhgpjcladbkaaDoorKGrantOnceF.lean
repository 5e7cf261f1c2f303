/- What the law 'GrantOnce' uses of this prover's engine, facts and walks. No condition. -/
import Derived.Test.YtpmhgpjcladbkaaDoorChecked
import Derived.Test.YtpmhgpjcladbkaaDoorKGrantOnceB
set_option linter.unusedVariables false
namespace Go.Proofs.YtpmhgpjcladbkaaDoor
theorem fU2 : Und Tryd.prog 2 (.int .i64) := ⟨Tryd.underlying2⟩
theorem fA2 : Agg Tryd.prog 2 false := ⟨Tryd.isAgg2⟩
theorem fS2 : Sz Tryd.prog 2 1 := ⟨Tryd.sizeOf2⟩
theorem fU3 : Und Tryd.prog 3 (.int .i64) := ⟨Tryd.underlying3⟩
theorem fA3 : Agg Tryd.prog 3 false := ⟨Tryd.isAgg3⟩
theorem fS3 : Sz Tryd.prog 3 1 := ⟨Tryd.sizeOf3⟩
theorem fZ3 : Zr Tryd.prog 3 (.int .i64 0) := ⟨Tryd.zeroValue3⟩
theorem fU4 : Und Tryd.prog 4 (.bool) := ⟨Tryd.underlying4⟩
theorem fA4 : Agg Tryd.prog 4 false := ⟨Tryd.isAgg4⟩
theorem fS4 : Sz Tryd.prog 4 1 := ⟨Tryd.sizeOf4⟩
theorem fU5 : Und Tryd.prog 5 (.int .u8) := ⟨Tryd.underlying5⟩
theorem fA5 : Agg Tryd.prog 5 false := ⟨Tryd.isAgg5⟩
theorem fS5 : Sz Tryd.prog 5 1 := ⟨Tryd.sizeOf5⟩
theorem fB5 : By Tryd.prog 5 1 := ⟨fun w => ⟨_, Tryd.typeInfo5 w, rfl⟩⟩
theorem fZ5 : Zr Tryd.prog 5 (.int .u8 0) := ⟨Tryd.zeroValue5⟩
theorem fU9 : Und Tryd.prog 9 (.string) := ⟨Tryd.underlying9⟩
theorem fA9 : Agg Tryd.prog 9 false := ⟨Tryd.isAgg9⟩
theorem fS9 : Sz Tryd.prog 9 1 := ⟨Tryd.sizeOf9⟩
theorem fB9 : By Tryd.prog 9 16 := ⟨fun w => ⟨_, Tryd.typeInfo9 w, rfl⟩⟩
theorem fZ9 : Zr Tryd.prog 9 (.string { data := #[] }) := ⟨Tryd.zeroValue9⟩
theorem fU22 : Und Tryd.prog 22 (.slice 9) := ⟨Tryd.underlying22⟩
theorem fA22 : Agg Tryd.prog 22 false := ⟨Tryd.isAgg22⟩
theorem fS22 : Sz Tryd.prog 22 1 := ⟨Tryd.sizeOf22⟩
theorem fA24 : Agg Tryd.prog 24 true := ⟨Tryd.isAgg24⟩
theorem fS24 : Sz Tryd.prog 24 9 := ⟨Tryd.sizeOf24⟩
theorem fZ24 : Zr Tryd.prog 24 (.agg [.string { data := #[] }, .string { data := #[] }, .string { data := #[] }, .string { data := #[] }, .slice none 0 0, .string { data := #[] }, .int .i64 0, .int .i64 0, .bool false].toArray) := ⟨Tryd.zeroValue24⟩
theorem fF24_0 : Fld Tryd.prog 24 0 0 := Fld.of Tryd.underlying24 rfl Tryd.sizeOf9 rfl rfl
theorem fF24_1 : Fld Tryd.prog 24 1 1 := Fld.of Tryd.underlying24 rfl Tryd.sizeOf9 rfl rfl
theorem fF24_2 : Fld Tryd.prog 24 2 2 := Fld.of Tryd.underlying24 rfl Tryd.sizeOf9 rfl rfl
theorem fF24_3 : Fld Tryd.prog 24 3 3 := Fld.of Tryd.underlying24 rfl Tryd.sizeOf9 rfl rfl
theorem fF24_4 : Fld Tryd.prog 24 4 4 := Fld.of Tryd.underlying24 rfl Tryd.sizeOf22 rfl rfl
theorem fF24_5 : Fld Tryd.prog 24 5 5 := Fld.of Tryd.underlying24 rfl Tryd.sizeOf9 rfl rfl
theorem fF24_6 : Fld Tryd.prog 24 6 6 := Fld.of Tryd.underlying24 rfl Tryd.sizeOf2 rfl rfl
theorem fF24_7 : Fld Tryd.prog 24 7 7 := Fld.of Tryd.underlying24 rfl Tryd.sizeOf3 rfl rfl
theorem fF24_8 : Fld Tryd.prog 24 8 8 := Fld.of Tryd.underlying24 rfl Tryd.sizeOf4 rfl rfl
theorem fU25 : Und Tryd.prog 25 (.slice 33) := ⟨Tryd.underlying25⟩
theorem fU26 : Und Tryd.prog 26 (.pointer 47) := ⟨Tryd.underlying26⟩
theorem fA28 : Agg Tryd.prog 28 true := ⟨Tryd.isAgg28⟩
theorem fS28 : Sz Tryd.prog 28 9 := ⟨Tryd.sizeOf28⟩
theorem fZ28 : Zr Tryd.prog 28 (.agg [.string { data := #[] }, .string { data := #[] }, .string { data := #[] }, .string { data := #[] }, .slice none 0 0, .string { data := #[] }, .int .i64 0, .int .i64 0, .bool false].toArray) := ⟨Tryd.zeroValue28⟩
theorem fF28_0 : Fld Tryd.prog 28 0 0 := Fld.of Tryd.underlying28 rfl Tryd.sizeOf9 rfl rfl
theorem fF28_1 : Fld Tryd.prog 28 1 1 := Fld.of Tryd.underlying28 rfl Tryd.sizeOf9 rfl rfl
theorem fF28_2 : Fld Tryd.prog 28 2 2 := Fld.of Tryd.underlying28 rfl Tryd.sizeOf9 rfl rfl
theorem fF28_3 : Fld Tryd.prog 28 3 3 := Fld.of Tryd.underlying28 rfl Tryd.sizeOf9 rfl rfl
theorem fF28_4 : Fld Tryd.prog 28 4 4 := Fld.of Tryd.underlying28 rfl Tryd.sizeOf22 rfl rfl
theorem fF28_5 : Fld Tryd.prog 28 5 5 := Fld.of Tryd.underlying28 rfl Tryd.sizeOf9 rfl rfl
theorem fF28_6 : Fld Tryd.prog 28 6 6 := Fld.of Tryd.underlying28 rfl Tryd.sizeOf2 rfl rfl
theorem fF28_7 : Fld Tryd.prog 28 7 7 := Fld.of Tryd.underlying28 rfl Tryd.sizeOf3 rfl rfl
theorem fF28_8 : Fld Tryd.prog 28 8 8 := Fld.of Tryd.underlying28 rfl Tryd.sizeOf4 rfl rfl
theorem fL28 : Bld Tryd.prog 28 [(0, 1), (1, 1), (2, 1), (3, 1), (4, 1), (5, 1), (6, 1), (7, 1), (8, 1)] [.string { data := #[] }, .string { data := #[] }, .string { data := #[] }, .string { data := #[] }, .slice none 0 0, .string { data := #[] }, .int .i64 0, .int .i64 0, .bool false] := ⟨_, Tryd.underlying28, Tryd.zeroValue28, fun w => by simp [Tryd.sizeOf2, Tryd.sizeOf22, Tryd.sizeOf3, Tryd.sizeOf4, Tryd.sizeOf9]⟩
theorem fA33 : Agg Tryd.prog 33 true := ⟨Tryd.isAgg33⟩
theorem fS33 : Sz Tryd.prog 33 17 := ⟨Tryd.sizeOf33⟩
theorem fZ33 : Zr Tryd.prog 33 (.agg [.int .i64 0, .string { data := #[] }, .string { data := #[] }, .slice none 0 0, .string { data := #[] }, .string { data := #[] }, .string { data := #[] }, .string { data := #[] }, .slice none 0 0, .string { data := #[] }, .int .i64 0, .int .i64 0, .bool false, .string { data := #[] }, .string { data := #[] }, .string { data := #[] }, .int .i64 0].toArray) := ⟨Tryd.zeroValue33⟩
theorem fF33_2 : Fld Tryd.prog 33 2 2 := Fld.of Tryd.underlying33 rfl Tryd.sizeOf9 rfl rfl
theorem fF33_6 : Fld Tryd.prog 33 6 14 := Fld.of Tryd.underlying33 rfl Tryd.sizeOf9 rfl rfl
theorem fF33_7 : Fld Tryd.prog 33 7 15 := Fld.of Tryd.underlying33 rfl Tryd.sizeOf9 rfl rfl
theorem fF33_8 : Fld Tryd.prog 33 8 16 := Fld.of Tryd.underlying33 rfl Tryd.sizeOf2 rfl rfl
theorem fU43 : Und Tryd.prog 43 (.map 9 28) := ⟨Tryd.underlying43⟩
theorem fA43 : Agg Tryd.prog 43 false := ⟨Tryd.isAgg43⟩
theorem fU44 : Und Tryd.prog 44 (.pointer 62) := ⟨Tryd.underlying44⟩
theorem fA44 : Agg Tryd.prog 44 false := ⟨Tryd.isAgg44⟩
theorem fF47_1 : Fld Tryd.prog 47 1 1 := Fld.of Tryd.underlying47 rfl Tryd.sizeOf43 rfl rfl
theorem fF47_2 : Fld Tryd.prog 47 2 2 := Fld.of Tryd.underlying47 rfl Tryd.sizeOf44 rfl rfl
theorem fL47 : Bld Tryd.prog 47 [(0, 1), (1, 1), (2, 1)] [.map none, .map none, .pointer none] := ⟨_, Tryd.underlying47, Tryd.zeroValue47, fun w => by simp [Tryd.sizeOf42, Tryd.sizeOf43, Tryd.sizeOf44]⟩
theorem fU52 : Und Tryd.prog 52 (.array 32 5) := ⟨Tryd.underlying52⟩
theorem fA52 : Agg Tryd.prog 52 true := ⟨Tryd.isAgg52⟩
theorem fS52 : Sz Tryd.prog 52 32 := ⟨Tryd.sizeOf52⟩
theorem fZ52 : Zr Tryd.prog 52 (.agg [.int .u8 0, .int .u8 0, .int .u8 0, .int .u8 0, .int .u8 0, .int .u8 0, .int .u8 0, .int .u8 0, .int .u8 0, .int .u8 0, .int .u8 0, .int .u8 0, .int .u8 0, .int .u8 0, .int .u8 0, .int .u8 0, .int .u8 0, .int .u8 0, .int .u8 0, .int .u8 0, .int .u8 0, .int .u8 0, .int .u8 0, .int .u8 0, .int .u8 0, .int .u8 0, .int .u8 0, .int .u8 0, .int .u8 0, .int .u8 0, .int .u8 0, .int .u8 0].toArray) := ⟨Tryd.zeroValue52⟩
theorem fU54 : Und Tryd.prog 54 (.slice 5) := ⟨Tryd.underlying54⟩
theorem fA54 : Agg Tryd.prog 54 false := ⟨Tryd.isAgg54⟩
theorem fS54 : Sz Tryd.prog 54 1 := ⟨Tryd.sizeOf54⟩
theorem fU58 : Und Tryd.prog 58 (.map 9 71) := ⟨Tryd.underlying58⟩
theorem fA58 : Agg Tryd.prog 58 false := ⟨Tryd.isAgg58⟩
theorem fU60 : Und Tryd.prog 60 (.slice 71) := ⟨Tryd.underlying60⟩
theorem fA60 : Agg Tryd.prog 60 false := ⟨Tryd.isAgg60⟩
theorem fS60 : Sz Tryd.prog 60 1 := ⟨Tryd.sizeOf60⟩
theorem fF62_0 : Fld Tryd.prog 62 0 0 := Fld.of Tryd.underlying62 rfl Tryd.sizeOf60 rfl rfl
theorem fF62_1 : Fld Tryd.prog 62 1 1 := Fld.of Tryd.underlying62 rfl Tryd.sizeOf58 rfl rfl
theorem fL62 : Bld Tryd.prog 62 [(0, 1), (1, 1)] [.slice none 0 0, .map none] := ⟨_, Tryd.underlying62, Tryd.zeroValue62, fun w => by simp [Tryd.sizeOf58, Tryd.sizeOf60]⟩
theorem fU65 : Und Tryd.prog 65 (.int .u32) := ⟨Tryd.underlying65⟩
theorem fA65 : Agg Tryd.prog 65 false := ⟨Tryd.isAgg65⟩
theorem fS65 : Sz Tryd.prog 65 1 := ⟨Tryd.sizeOf65⟩
theorem fB65 : By Tryd.prog 65 4 := ⟨fun w => ⟨_, Tryd.typeInfo65 w, rfl⟩⟩
theorem fZ65 : Zr Tryd.prog 65 (.int .u32 0) := ⟨Tryd.zeroValue65⟩
theorem fU66 : Und Tryd.prog 66 (.slice 65) := ⟨Tryd.underlying66⟩
theorem fU69 : Und Tryd.prog 69 (.int .u64) := ⟨Tryd.underlying69⟩
theorem fU71 : Und Tryd.prog 71 (.pointer 74) := ⟨Tryd.underlying71⟩
theorem fA71 : Agg Tryd.prog 71 false := ⟨Tryd.isAgg71⟩
theorem fS71 : Sz Tryd.prog 71 1 := ⟨Tryd.sizeOf71⟩
theorem fB71 : By Tryd.prog 71 8 := ⟨fun w => ⟨_, Tryd.typeInfo71 w, rfl⟩⟩
theorem fZ71 : Zr Tryd.prog 71 (.pointer none) := ⟨Tryd.zeroValue71⟩
theorem fF74_0 : Fld Tryd.prog 74 0 0 := Fld.of Tryd.underlying74 rfl Tryd.sizeOf9 rfl rfl
theorem fF74_1 : Fld Tryd.prog 74 1 1 := Fld.of Tryd.underlying74 rfl Tryd.sizeOf2 rfl rfl
theorem fF74_2 : Fld Tryd.prog 74 2 2 := Fld.of Tryd.underlying74 rfl Tryd.sizeOf3 rfl rfl
theorem fL74 : Bld Tryd.prog 74 [(0, 1), (1, 1), (2, 1)] [.string { data := #[] }, .int .i64 0, .int .i64 0] := ⟨_, Tryd.underlying74, Tryd.zeroValue74, fun w => by simp [Tryd.sizeOf2, Tryd.sizeOf3, Tryd.sizeOf9]⟩
theorem fU76 : Und Tryd.prog 76 (.pointer 60) := ⟨Tryd.underlying76⟩
theorem fU79 : Und Tryd.prog 79 (.array 32 5) := ⟨Tryd.underlying79⟩
theorem fA79 : Agg Tryd.prog 79 true := ⟨Tryd.isAgg79⟩
theorem fS79 : Sz Tryd.prog 79 32 := ⟨Tryd.sizeOf79⟩
theorem fZ79 : Zr Tryd.prog 79 (.agg [.int .u8 0, .int .u8 0, .int .u8 0, .int .u8 0, .int .u8 0, .int .u8 0, .int .u8 0, .int .u8 0, .int .u8 0, .int .u8 0, .int .u8 0, .int .u8 0, .int .u8 0, .int .u8 0, .int .u8 0, .int .u8 0, .int .u8 0, .int .u8 0, .int .u8 0, .int .u8 0, .int .u8 0, .int .u8 0, .int .u8 0, .int .u8 0, .int .u8 0, .int .u8 0, .int .u8 0, .int .u8 0, .int .u8 0, .int .u8 0, .int .u8 0, .int .u8 0].toArray) := ⟨Tryd.zeroValue79⟩
theorem fU81 : Und Tryd.prog 81 (.int .u64) := ⟨Tryd.underlying81⟩
theorem fU82 : Und Tryd.prog 82 (.array 64 65) := ⟨Tryd.underlying82⟩
theorem fA82 : Agg Tryd.prog 82 true := ⟨Tryd.isAgg82⟩
theorem fS82 : Sz Tryd.prog 82 64 := ⟨Tryd.sizeOf82⟩
theorem fZ82 : Zr Tryd.prog 82 (.agg [.int .u32 0, .int .u32 0, .int .u32 0, .int .u32 0, .int .u32 0, .int .u32 0, .int .u32 0, .int .u32 0, .int .u32 0, .int .u32 0, .int .u32 0, .int .u32 0, .int .u32 0, .int .u32 0, .int .u32 0, .int .u32 0, .int .u32 0, .int .u32 0, .int .u32 0, .int .u32 0, .int .u32 0, .int .u32 0, .int .u32 0, .int .u32 0, .int .u32 0, .int .u32 0, .int .u32 0, .int .u32 0, .int .u32 0, .int .u32 0, .int .u32 0, .int .u32 0, .int .u32 0, .int .u32 0, .int .u32 0, .int .u32 0, .int .u32 0, .int .u32 0, .int .u32 0, .int .u32 0, .int .u32 0, .int .u32 0, .int .u32 0, .int .u32 0, .int .u32 0, .int .u32 0, .int .u32 0, .int .u32 0, .int .u32 0, .int .u32 0, .int .u32 0, .int .u32 0, .int .u32 0, .int .u32 0, .int .u32 0, .int .u32 0, .int .u32 0, .int .u32 0, .int .u32 0, .int .u32 0, .int .u32 0, .int .u32 0, .int .u32 0, .int .u32 0].toArray) := ⟨Tryd.zeroValue82⟩
theorem fU89 : Und Tryd.prog 89 (.pointer 105) := ⟨Tryd.underlying89⟩
theorem fU93 : Und Tryd.prog 93 (.pointer 95) := ⟨Tryd.underlying93⟩
theorem fA93 : Agg Tryd.prog 93 false := ⟨Tryd.isAgg93⟩
theorem fS93 : Sz Tryd.prog 93 1 := ⟨Tryd.sizeOf93⟩
theorem fZ95 : Zr Tryd.prog 95 (.agg [.pointer none, .slice none 0 0].toArray) := ⟨Tryd.zeroValue95⟩
theorem fF95_0 : Fld Tryd.prog 95 0 0 := Fld.of Tryd.underlying95 rfl Tryd.sizeOf93 rfl rfl
theorem fF95_1 : Fld Tryd.prog 95 1 1 := Fld.of Tryd.underlying95 rfl Tryd.sizeOf54 rfl rfl
theorem fU103 : Und Tryd.prog 103 (.array 8 65) := ⟨Tryd.underlying103⟩
theorem fA103 : Agg Tryd.prog 103 true := ⟨Tryd.isAgg103⟩
theorem fS103 : Sz Tryd.prog 103 8 := ⟨Tryd.sizeOf103⟩
theorem fZ103 : Zr Tryd.prog 103 (.agg [.int .u32 0, .int .u32 0, .int .u32 0, .int .u32 0, .int .u32 0, .int .u32 0, .int .u32 0, .int .u32 0].toArray) := ⟨Tryd.zeroValue103⟩
theorem fF105_0 : Fld Tryd.prog 105 0 0 := Fld.of Tryd.underlying105 rfl Tryd.sizeOf103 rfl rfl
theorem fF105_1 : Fld Tryd.prog 105 1 8 := Fld.of Tryd.underlying105 rfl Tryd.sizeOf4 rfl rfl
theorem fF105_2 : Fld Tryd.prog 105 2 9 := Fld.of Tryd.underlying105 rfl Tryd.sizeOf54 rfl rfl
theorem fF105_3 : Fld Tryd.prog 105 3 10 := Fld.of Tryd.underlying105 rfl Tryd.sizeOf3 rfl rfl
theorem fL105 : Bld Tryd.prog 105 [(0, 8), (8, 1), (9, 1), (10, 1)] [.int .u32 0, .int .u32 0, .int .u32 0, .int .u32 0, .int .u32 0, .int .u32 0, .int .u32 0, .int .u32 0, .bool false, .slice none 0 0, .int .i64 0] := ⟨_, Tryd.underlying105, Tryd.zeroValue105, fun w => by simp [Tryd.sizeOf103, Tryd.sizeOf3, Tryd.sizeOf4, Tryd.sizeOf54]⟩
theorem fU109 : Und Tryd.prog 109 (.pointer 5) := ⟨Tryd.underlying109⟩
theorem fU133 : Und Tryd.prog 133 (.slice 3) := ⟨Tryd.underlying133⟩
theorem fE4 : Ent Tryd.prog 4 := ⟨Tryd.call4⟩
theorem fE5 : Ent Tryd.prog 5 := ⟨Tryd.call5⟩
theorem fE6 : Ent Tryd.prog 6 := ⟨Tryd.call6⟩
theorem fE7 : Ent Tryd.prog 7 := ⟨Tryd.call7⟩
theorem fE8 : Ent Tryd.prog 8 := ⟨Tryd.call8⟩
theorem fE9 : Ent Tryd.prog 9 := ⟨Tryd.call9⟩
theorem fE10 : Ent Tryd.prog 10 := ⟨Tryd.call10⟩
theorem fE11 : Ent Tryd.prog 11 := ⟨Tryd.call11⟩
theorem fE12 : Ent Tryd.prog 12 := ⟨Tryd.call12⟩
theorem fE13 : Ent Tryd.prog 13 := ⟨Tryd.call13⟩
theorem fE14 : Ent Tryd.prog 14 := ⟨Tryd.call14⟩
theorem fE15 : Ent Tryd.prog 15 := ⟨Tryd.call15⟩
theorem fE16 : Ent Tryd.prog 16 := ⟨Tryd.call16⟩
theorem fE17 : Ent Tryd.prog 17 := ⟨Tryd.call17⟩
theorem fE18 : Ent Tryd.prog 18 := ⟨Tryd.call18⟩
theorem fE19 : Ent Tryd.prog 19 := ⟨Tryd.call19⟩
theorem fE20 : Ent Tryd.prog 20 := ⟨Tryd.call20⟩
theorem fE21 : Ent Tryd.prog 21 := ⟨Tryd.call21⟩
theorem fE22 : Ent Tryd.prog 22 := ⟨Tryd.call22⟩
theorem fE23 : Ent Tryd.prog 23 := ⟨Tryd.call23⟩
theorem fE24 : Ent Tryd.prog 24 := ⟨Tryd.call24⟩
theorem fE25 : Ent Tryd.prog 25 := ⟨Tryd.call25⟩
theorem fE26 : Ent Tryd.prog 26 := ⟨Tryd.call26⟩
theorem fE27 : Ent Tryd.prog 27 := ⟨Tryd.call27⟩
theorem fE28 : Ent Tryd.prog 28 := ⟨Tryd.call28⟩
theorem fE29 : Ent Tryd.prog 29 := ⟨Tryd.call29⟩
theorem fE30 : Ent Tryd.prog 30 := ⟨Tryd.call30⟩
theorem fE31 : Ent Tryd.prog 31 := ⟨Tryd.call31⟩
theorem fE32 : Ent Tryd.prog 32 := ⟨Tryd.call32⟩
theorem fE33 : Ent Tryd.prog 33 := ⟨Tryd.call33⟩
theorem fE34 : Ent Tryd.prog 34 := ⟨Tryd.call34⟩
theorem fE35 : Ent Tryd.prog 35 := ⟨Tryd.call35⟩
theorem fE36 : Ent Tryd.prog 36 := ⟨Tryd.call36⟩
theorem fE37 : Ent Tryd.prog 37 := ⟨Tryd.call37⟩
theorem fE38 : Ent Tryd.prog 38 := ⟨Tryd.call38⟩
theorem fE39 : Ent Tryd.prog 39 := ⟨Tryd.call39⟩
theorem fE40 : Ent Tryd.prog 40 := ⟨Tryd.call40⟩
theorem fE41 : Ent Tryd.prog 41 := ⟨Tryd.call41⟩
theorem fE42 : Ent Tryd.prog 42 := ⟨Tryd.call42⟩
theorem fE43 : Ent Tryd.prog 43 := ⟨Tryd.call43⟩
theorem fE45 : Ent Tryd.prog 45 := ⟨Tryd.call45⟩
theorem fE46 : Ent Tryd.prog 46 := ⟨Tryd.call46⟩
theorem fE47 : Ent Tryd.prog 47 := ⟨Tryd.call47⟩
theorem fE48 : Ent Tryd.prog 48 := ⟨Tryd.call48⟩
theorem fE49 : Ent Tryd.prog 49 := ⟨Tryd.call49⟩
theorem fE50 : Ent Tryd.prog 50 := ⟨Tryd.call50⟩
theorem fE71 : Ent Tryd.prog 71 := ⟨Tryd.call71⟩
theorem fE72 : Ent Tryd.prog 72 := ⟨Tryd.call72⟩
theorem fE73 : Ent Tryd.prog 73 := ⟨Tryd.call73⟩
theorem fE74 : Ent Tryd.prog 74 := ⟨Tryd.call74⟩
theorem fE75 : Ent Tryd.prog 75 := ⟨Tryd.call75⟩
theorem fE76 : Ent Tryd.prog 76 := ⟨Tryd.call76⟩
theorem fE77 : Ent Tryd.prog 77 := ⟨Tryd.call77⟩
theorem fE78 : Ent Tryd.prog 78 := ⟨Tryd.call78⟩
theorem fE81 : Ent Tryd.prog 81 := ⟨Tryd.call81⟩
attribute [instance] fU2 fA2 fS2 fU3 fA3 fS3 fZ3 fU4 fA4 fS4 fU5 fA5 fS5 fB5 fZ5 fU9 fA9 fS9 fB9 fZ9 fU22 fA22 fS22 fA24 fS24 fZ24 fF24_0 fF24_1 fF24_2 fF24_3 fF24_4 fF24_5 fF24_6 fF24_7 fF24_8 fU25 fU26 fA28 fS28 fZ28 fF28_0 fF28_1 fF28_2 fF28_3 fF28_4 fF28_5 fF28_6 fF28_7 fF28_8 fL28 fA33 fS33 fZ33 fF33_2 fF33_6 fF33_7 fF33_8 fU43 fA43 fU44 fA44 fF47_1 fF47_2 fL47 fU52 fA52 fS52 fZ52 fU54 fA54 fS54 fU58 fA58 fU60 fA60 fS60 fF62_0 fF62_1 fL62 fU65 fA65 fS65 fB65 fZ65 fU66 fU69 fU71 fA71 fS71 fB71 fZ71 fF74_0 fF74_1 fF74_2 fL74 fU76 fU79 fA79 fS79 fZ79 fU81 fU82 fA82 fS82 fZ82 fU89 fU93 fA93 fS93 fZ95 fF95_0 fF95_1 fU103 fA103 fS103 fZ103 fF105_0 fF105_1 fF105_2 fF105_3 fL105 fU109 fU133 fE4 fE5 fE6 fE7 fE8 fE9 fE10 fE11 fE12 fE13 fE14 fE15 fE16 fE17 fE18 fE19 fE20 fE21 fE22 fE23 fE24 fE25 fE26 fE27 fE28 fE29 fE30 fE31 fE32 fE33 fE34 fE35 fE36 fE37 fE38 fE39 fE40 fE41 fE42 fE43 fE45 fE46 fE47 fE48 fE49 fE50 fE71 fE72 fE73 fE74 fE75 fE76 fE77 fE78 fE81
theorem mixed : Tryd.prog.follows .mixedOrders = true := by kernel_rfl
end Go.Proofs.YtpmhgpjcladbkaaDoor
set_option linter.unusedVariables false
namespace Go.Proofs.YtpmhgpjcladbkaaDoor
/-- What a heap's interface does. -/
structure HI (P : Program) (R : Rds) (t : TypeId) (v : Value) {α : Type} (lt : α → α → Bool) (I : List α → Seg → Prop) : Prop where
  bnd : ∀ L T, I L T → L.length ≤ 1000000000
  len : ∀ L T, I L T → ISpec P t v "Len" [] R T fun u T' => u = .int .i64 L.length ∧ I L T'
  less : ∀ L T (i k : Nat) x y, I L T → L[i]? = some x → L[k]? = some y → ISpec P t v "Less" [.int .i64 i, .int .i64 k] R T fun u T' => u = .bool (lt x y) ∧ I L T'
  swap : ∀ L T (i k : Nat), I L T → i < L.length → k < L.length → ISpec P t v "Swap" [.int .i64 i, .int .i64 k] R T fun _ T' => I (swp L i k) T'
section
variable {R : Rds} {t : TypeId} {v : Value} {α : Type} {lt : α → α → Bool} {I : List α → Seg → Prop}
theorem up_spec (hi : HI Tryd.prog R t v lt I) (so : SO lt) (L : List α) (T : Seg) (h : I L T) (j : Nat) (hj : j < L.length) :
    Spec Tryd.prog 37 [.iface t v, .int .i64 j] R [T] fun u H' => ∃ T', H' = [T'] ∧ u = .tuple #[] ∧ ∃ L', I L' T' ∧ L'.Perm L ∧ (∀ k, j < k → L'[k]? = L[k]?) ∧ ∀ n, n ≤ L.length → j < n → Up lt L n j → Heap lt L' n := by
  have hb := hi.bnd L T h
  refine Spec.body Tryd.func37 rfl Tryd.results37 Tryd.ntmps37 rfl ?_
  refine .block ?_
  refine .loop (X := Nat × List α × Seg) (fun y => I y.2.1 y.2.2 ∧ y.1 ≤ j ∧ y.2.1.Perm L ∧ (∀ k, j < k → y.2.1[k]? = L[k]?) ∧ ∀ n, n ≤ L.length → j < n → Up lt L n j → Up lt y.2.1 n y.1) (fun y => [(0, .iface t v), (1, .int .i64 (y.1 : Nat))]) (fun y => [y.2.2]) (fun y => y.1) (j, L, T) ⟨h, Nat.le_refl _, .refl _, fun _ _ => rfl, fun _ _ _ h => h⟩ (((EnvLe.nil _).cons rfl).cons rfl) (HLe.refl _) ?_
  rintro ⟨i, L1, T1⟩ ⟨hI, hij, hP, hS, hU⟩
  simp only at hI hij hP hS hU ⊢
  have hl := hP.length_eq
  obtain ⟨x, hx⟩ : ∃ x, L1[i]? = some x := ⟨_, List.getElem?_eq_getElem (by omega)⟩
  obtain ⟨y, hy⟩ : ∃ y, L1[par i]? = some y := ⟨_, List.getElem?_eq_getElem (by unfold par; omega)⟩
  refine .block ?_
  refine .seq (.region ?_)
  refine .q .move ?_
  refine .q (.i64 ((i : Int) - 1) .sub ⟨rfl, by omega, by omega⟩) ?_
  refine .q (.i64 ((par i : Nat) : Int) .quo ⟨tdiv2, by omega, by unfold par; omega⟩) ?_
  refine .q .assign ?_
  refine .nil (seqQ_n ?_)
  refine .seq ?_
  refine .seq (.region ?_)
  refine .q .move ?_
  refine .q .move ?_
  refine .q .eqI ?_
  refine .q .move ?_
  refine TriOps.split (t := 11) rfl (fun g1_3 => ?_) (fun g1_3 => ?_)
  refine TriOps.gF g1_3 ?_
  refine TriOps.gF g1_3 ?_
  refine TriOps.gF g1_3 ?_
  refine TriOps.gF g1_3 ?_
  refine TriOps.gF g1_3 ?_
  refine .q (.pickTh g1_3) ?_
  refine .nil (seqQ_n ?_)
  refine .condT ?_
  refine .exit (seqQ_x (blkQ_y (loopQ_x (blkQ_x ?_))))
  refine retQ_n _ .none (HLe.refl _) ?_
  · have hi0 : par i = i := by simp at g1_3; omega
    refine ⟨_, rfl, rfl, L1, hI, hP, hS, fun n hn hjn hu => ?_⟩
    have h0 : i = 0 := by
      rcases Nat.eq_zero_or_pos i with e | e
      · exact e
      · have := par_lt e; omega
    subst h0
    exact (hU n hn hjn hu).stop0
  refine TriOps.gT g1_3 ?_
  refine .q .move ?_
  refine TriOps.gT g1_3 ?_
  refine .q .move ?_
  refine TriOps.gT g1_3 ?_
  refine .q .move ?_
  refine TriOps.gT g1_3 ?_
  refine TriOps.callI (hi.less L1 T1 i (par i) x y hI hx hy) (fun u T2 hu => ?_)
  obtain ⟨rfl, hI2⟩ := hu
  refine TriOps.gT g1_3 ?_
  refine .q .not ?_
  refine .q (.pickFh g1_3) ?_
  refine .nil (seqQ_n ?_)
  refine .cond rfl (fun h1 => ?_) (fun h1 => ?_)
  refine .exit (seqQ_x (blkQ_y (loopQ_x (blkQ_x ?_))))
  refine retQ_n _ .none (HLe.refl _) ?_
  · refine ⟨_, rfl, rfl, L1, hI2, hP, hS, fun n hn hjn hu => (hU n hn hjn hu).stop fun a b ha hb => ?_⟩
    rw [hy] at ha; rw [hx] at hb
    cases ha; cases hb
    simpa using h1
  refine .skip ?_
  refine seqQ_n ?_
  refine .seq (.region ?_)
  refine .q .move ?_
  refine .q .move ?_
  refine .q .move ?_
  refine TriOps.callI (hi.swap L1 T2 (par i) i hI2 (by unfold par; omega) (by omega)) (fun u T3 hI3 => ?_)
  refine .nil (seqQ_n ?_)
  refine .region ?_
  refine .q .move ?_
  refine .q .assign ?_
  refine .nil ?_
  refine blkQ_n ?_
  · have hlt : lt x y = true := by simpa using h1
    have hi0 : par i ≠ i := by simp at g1_3; omega
    have hi1 : 0 < i := by
      rcases Nat.eq_zero_or_pos i with e | e
      · subst e; exact absurd rfl hi0
      · exact e
    have hpl := par_lt hi1
    exact loopQ_i (par i, swp L1 (par i) i, T3) ⟨hI3, by omega, swp_perm.trans hP, fun k hk => by
      rw [swp_get (by omega) (by omega), if_neg (by omega), if_neg (by omega)]; exact hS k hk, fun n hn hjn hu => (hU n hn hjn hu).step so hi1 (by omega) (by omega) hx hy hlt⟩ hpl (((EnvLe.nil _).cons rfl).cons rfl) (HLe.refl _)
theorem down_spec (hi : HI Tryd.prog R t v lt I) (so : SO lt) (L : List α) (T : Seg) (h : I L T) (i0 n : Nat) (hi0 : i0 ≤ n) (hn : n ≤ L.length) :
    Spec Tryd.prog 36 [.iface t v, .int .i64 i0, .int .i64 n] R [T] fun u H' => ∃ T', H' = [T'] ∧ ∃ L' m, I L' T' ∧ u = .bool m ∧ L'.Perm L ∧ (∀ k, n ≤ k → L'[k]? = L[k]?) ∧ (Hole lt L n i0 → (m = true → Heap lt L' n) ∧ (m = false → Up lt L' n i0)) := by
  have hb := hi.bnd L T h
  refine Spec.body Tryd.func36 rfl Tryd.results36 Tryd.ntmps36 rfl ?_
  refine .seq (.region ?_)
  refine .q .assign ?_
  refine .nil (seqQ_n ?_)
  refine .seq (.region ?_)
  refine .q .move ?_
  refine .q .assign ?_
  refine .nil (seqQ_n ?_)
  refine .seq ?_
  refine .block ?_
  refine .loop (X := Nat × List α × Seg) (fun y => I y.2.1 y.2.2 ∧ i0 ≤ y.1 ∧ y.1 ≤ n ∧ y.2.1.Perm L ∧ (∀ k, n ≤ k → y.2.1[k]? = L[k]?) ∧ (Hole lt L n i0 → Hole lt y.2.1 n y.1 ∧ (y.1 ≠ i0 → HEdge lt y.2.1 (par y.1) y.1))) (fun y => [(0, .iface t v), (1, .int .i64 (i0 : Nat)), (2, .int .i64 (n : Nat)), (7, .int .i64 (y.1 : Nat))]) (fun y => [y.2.2]) (fun y => n - y.1) (i0, L, T) ⟨h, Nat.le_refl _, hi0, .refl _, fun _ _ => rfl, fun h => ⟨h, fun e => absurd rfl e⟩⟩ (((((EnvLe.nil _).cons rfl).cons rfl).cons rfl).cons rfl) (HLe.refl _) ?_
  rintro ⟨i, L1, T1⟩ ⟨hI, hii, hin, hP, hS, hU⟩
  simp only at hI hii hin hP hS hU ⊢
  have hl := hP.length_eq
  refine .block ?_
  refine .seq (.region ?_)
  refine .q .move ?_
  refine .q (.i64 ((2 * i : Nat) : Int) .mul ⟨by omega, by omega, by omega⟩) ?_
  refine .q (.i64 ((2 * i + 1 : Nat) : Int) .add ⟨by omega, by omega, by omega⟩) ?_
  refine .q .assign ?_
  refine .nil (seqQ_n ?_)
  refine .seq ?_
  refine .seq (.region ?_)
  refine .q .move ?_
  refine .q .move ?_
  refine .q .geq ?_
  refine .q .move ?_
  refine TriOps.split (t := 18) rfl (fun g3_3 => ?_) (fun g3_3 => ?_)
  refine TriOps.gF g3_3 ?_
  refine TriOps.gF g3_3 ?_
  refine .q (.pickTh g3_3) ?_
  refine .nil (seqQ_n ?_)
  refine .condT ?_
  have hge : n ≤ 2 * i + 1 := by
    first
      | (simp at g3_3; omega)
      | (simp at h1; omega)
  refine .exit (seqQ_x (blkQ_y (loopQ_x (blkQ_x ?_))))
  refine seqQ_n ?_
  refine .seq (.region ?_)
  refine .q .move ?_
  refine .q .move ?_
  refine .q .gtr ?_
  refine .q .assign ?_
  refine .nil (seqQ_n ?_)
  refine .ret (retQ_r _ (.one (.tmp rfl)) (HLe.refl _) ?_)
  · refine ⟨_, rfl, L1, decide (i0 < i), by assumption, by simp, hP, hS, fun hu => ?_⟩
    have hup : Up lt L1 n i := (hU hu).1.stop fun c h0 hc hp a b ha hb => by
      first
        | (simp only [par] at hp; omega)
        | (rw [hy0] at ha; cases ha; exact so.ntr _ _ _ (hmin c b h0 hc hp hb) (by simpa using h3))
    refine ⟨fun hm => ?_, fun hm => ?_⟩
    · have hm' : i ≠ i0 := by simp at hm; omega
      exact hup.stop ((hU hu).2 hm')
    · have hm' : i = i0 := by simp at hm; omega
      rw [← hm']; exact hup
  refine TriOps.gT g3_3 ?_
  refine .q .move ?_
  refine TriOps.gT g3_3 ?_
  refine .q .lss ?_
  refine .q (.pickFh g3_3) ?_
  refine .nil (seqQ_n ?_)
  refine .cond rfl (fun h1 => ?_) (fun h1 => ?_)
  have hge : n ≤ 2 * i + 1 := by
    first
      | (simp at g3_3; omega)
      | (simp at h1; omega)
  refine .exit (seqQ_x (blkQ_y (loopQ_x (blkQ_x ?_))))
  refine seqQ_n ?_
  refine .seq (.region ?_)
  refine .q .move ?_
  refine .q .move ?_
  refine .q .gtr ?_
  refine .q .assign ?_
  refine .nil (seqQ_n ?_)
  refine .ret (retQ_r _ (.one (.tmp rfl)) (HLe.refl _) ?_)
  · refine ⟨_, rfl, L1, decide (i0 < i), by assumption, by simp, hP, hS, fun hu => ?_⟩
    have hup : Up lt L1 n i := (hU hu).1.stop fun c h0 hc hp a b ha hb => by
      first
        | (simp only [par] at hp; omega)
        | (rw [hy0] at ha; cases ha; exact so.ntr _ _ _ (hmin c b h0 hc hp hb) (by simpa using h3))
    refine ⟨fun hm => ?_, fun hm => ?_⟩
    · have hm' : i ≠ i0 := by simp at hm; omega
      exact hup.stop ((hU hu).2 hm')
    · have hm' : i = i0 := by simp at hm; omega
      rw [← hm']; exact hup
  have hlt : 2 * i + 1 < n := by simp at g3_3; omega
  obtain ⟨y0, hy0⟩ : ∃ y, L1[i]? = some y := ⟨_, List.getElem?_eq_getElem (by omega)⟩
  obtain ⟨x1, hx1⟩ : ∃ y, L1[2 * i + 1]? = some y := ⟨_, List.getElem?_eq_getElem (by omega)⟩
  refine .skip ?_
  refine seqQ_n ?_
  refine .seq (.region ?_)
  refine .q .move ?_
  refine .q .assign ?_
  refine .nil (seqQ_n ?_)
  refine .seq ?_
  refine Tri.cut (X := Nat × Seg × α) (fun z => I L1 z.2.1 ∧ 0 < z.1 ∧ z.1 < n ∧ par z.1 = i ∧ L1[z.1]? = some z.2.2 ∧ ∀ c u, 0 < c → c < n → par c = i → L1[c]? = some u → lt u z.2.2 = false) (fun z => [(0, .iface t v), (1, .int .i64 (i0 : Nat)), (2, .int .i64 (n : Nat)), (7, .int .i64 (i : Nat)), (9, .int .i64 (z.1 : Nat))]) (fun z => [z.2.1]) ?_ ?_
  refine .seq (.region ?_)
  refine .q .move ?_
  refine .q (.i64 ((2 * i + 2 : Nat) : Int) .add ⟨by omega, by omega, by omega⟩) ?_
  refine .q .assign ?_
  refine .nil (seqQ_n ?_)
  refine .seq (.region ?_)
  refine .q .move ?_
  refine .q .move ?_
  refine .q .lss ?_
  refine .q .move ?_
  refine TriOps.split (t := 28) rfl (fun g6_3 => ?_) (fun g6_3 => ?_)
  have hlt2 : 2 * i + 2 < n := by simp at g6_3; omega
  obtain ⟨x2, hx2⟩ : ∃ y, L1[2 * i + 2]? = some y := ⟨_, List.getElem?_eq_getElem (by omega)⟩
  refine TriOps.gT g6_3 ?_
  refine .q .move ?_
  refine TriOps.gT g6_3 ?_
  refine .q .move ?_
  refine TriOps.gT g6_3 ?_
  refine .q .move ?_
  refine TriOps.gT g6_3 ?_
  refine TriOps.callI (hi.less L1 T1 (2 * i + 2) (2 * i + 1) x2 x1 hI hx2 hx1) (fun u T2 hu => ?_)
  obtain ⟨rfl, hI2⟩ := hu
  refine .q (.pickTh g6_3) ?_
  refine .nil (seqQ_n ?_)
  refine .cond rfl (fun h2 => ?_) (fun h2 => ?_)
  refine .region ?_
  refine .q .move ?_
  refine .q .assign ?_
  refine .nil ?_
  · first
      | exact joinQ_n (2 * i + 2, T2, x2) ⟨hI2, by simp only; omega, hlt2, by simp only [par]; omega, hx2, fun c u h0 hc hp hu => by
          have : c = 2 * i + 1 ∨ c = 2 * i + 2 := by simp only [par] at hp; omega
          rcases this with rfl | rfl
          · rw [hx1] at hu; cases hu; exact so.asym (by simpa using h2)
          · rw [hx2] at hu; cases hu; exact so.irr _⟩ ((((((EnvLe.nil _).cons rfl).cons rfl).cons rfl).cons rfl).cons rfl) (HLe.refl _)
      | exact joinQ_n (2 * i + 1, T2, x1) ⟨hI2, by simp only; omega, hlt, by simp only [par]; omega, hx1, fun c u h0 hc hp hu => by
          have : c = 2 * i + 1 ∨ c = 2 * i + 2 := by simp only [par] at hp; omega
          rcases this with rfl | rfl
          · rw [hx1] at hu; cases hu; exact so.irr _
          · rw [hx2] at hu; cases hu; simpa using h2⟩ ((((((EnvLe.nil _).cons rfl).cons rfl).cons rfl).cons rfl).cons rfl) (HLe.refl _)
      | exact joinQ_n (2 * i + 1, T1, x1) ⟨hI, by simp only; omega, hlt, by simp only [par]; omega, hx1, fun c u h0 hc hp hu => by
          have : c = 2 * i + 1 := by simp only [par] at hp; simp at g6_3; omega
          subst this
          rw [hx1] at hu; cases hu; exact so.irr _⟩ ((((((EnvLe.nil _).cons rfl).cons rfl).cons rfl).cons rfl).cons rfl) (HLe.refl _)
  refine .skip ?_
  · first
      | exact joinQ_n (2 * i + 2, T2, x2) ⟨hI2, by simp only; omega, hlt2, by simp only [par]; omega, hx2, fun c u h0 hc hp hu => by
          have : c = 2 * i + 1 ∨ c = 2 * i + 2 := by simp only [par] at hp; omega
          rcases this with rfl | rfl
          · rw [hx1] at hu; cases hu; exact so.asym (by simpa using h2)
          · rw [hx2] at hu; cases hu; exact so.irr _⟩ ((((((EnvLe.nil _).cons rfl).cons rfl).cons rfl).cons rfl).cons rfl) (HLe.refl _)
      | exact joinQ_n (2 * i + 1, T2, x1) ⟨hI2, by simp only; omega, hlt, by simp only [par]; omega, hx1, fun c u h0 hc hp hu => by
          have : c = 2 * i + 1 ∨ c = 2 * i + 2 := by simp only [par] at hp; omega
          rcases this with rfl | rfl
          · rw [hx1] at hu; cases hu; exact so.irr _
          · rw [hx2] at hu; cases hu; simpa using h2⟩ ((((((EnvLe.nil _).cons rfl).cons rfl).cons rfl).cons rfl).cons rfl) (HLe.refl _)
      | exact joinQ_n (2 * i + 1, T1, x1) ⟨hI, by simp only; omega, hlt, by simp only [par]; omega, hx1, fun c u h0 hc hp hu => by
          have : c = 2 * i + 1 := by simp only [par] at hp; simp at g6_3; omega
          subst this
          rw [hx1] at hu; cases hu; exact so.irr _⟩ ((((((EnvLe.nil _).cons rfl).cons rfl).cons rfl).cons rfl).cons rfl) (HLe.refl _)
  refine TriOps.gF g6_3 ?_
  refine TriOps.gF g6_3 ?_
  refine TriOps.gF g6_3 ?_
  refine TriOps.gF g6_3 ?_
  refine .q (.pickFh g6_3) ?_
  refine .nil (seqQ_n ?_)
  refine .condF ?_
  refine .skip ?_
  · first
      | exact joinQ_n (2 * i + 2, T2, x2) ⟨hI2, by simp only; omega, hlt2, by simp only [par]; omega, hx2, fun c u h0 hc hp hu => by
          have : c = 2 * i + 1 ∨ c = 2 * i + 2 := by simp only [par] at hp; omega
          rcases this with rfl | rfl
          · rw [hx1] at hu; cases hu; exact so.asym (by simpa using h2)
          · rw [hx2] at hu; cases hu; exact so.irr _⟩ ((((((EnvLe.nil _).cons rfl).cons rfl).cons rfl).cons rfl).cons rfl) (HLe.refl _)
      | exact joinQ_n (2 * i + 1, T2, x1) ⟨hI2, by simp only; omega, hlt, by simp only [par]; omega, hx1, fun c u h0 hc hp hu => by
          have : c = 2 * i + 1 ∨ c = 2 * i + 2 := by simp only [par] at hp; omega
          rcases this with rfl | rfl
          · rw [hx1] at hu; cases hu; exact so.irr _
          · rw [hx2] at hu; cases hu; simpa using h2⟩ ((((((EnvLe.nil _).cons rfl).cons rfl).cons rfl).cons rfl).cons rfl) (HLe.refl _)
      | exact joinQ_n (2 * i + 1, T1, x1) ⟨hI, by simp only; omega, hlt, by simp only [par]; omega, hx1, fun c u h0 hc hp hu => by
          have : c = 2 * i + 1 := by simp only [par] at hp; simp at g6_3; omega
          subst this
          rw [hx1] at hu; cases hu; exact so.irr _⟩ ((((((EnvLe.nil _).cons rfl).cons rfl).cons rfl).cons rfl).cons rfl) (HLe.refl _)
  intro y hy
  obtain ⟨j, T3, x⟩ := y
  obtain ⟨hI3, hj0, hjn, hjp, hx, hmin⟩ := hy
  simp only at hI3 hj0 hjn hjp hx hmin ⊢
  have hij : i < j := hjp ▸ par_lt hj0
  refine seqQ_n ?_
  refine .seq ?_
  refine .seq (.region ?_)
  refine .q .move ?_
  refine .q .move ?_
  refine .q .move ?_
  refine TriOps.callI (hi.less L1 T3 j i x y0 hI3 hx hy0) (fun u T4 hu => ?_)
  obtain ⟨rfl, hI4⟩ := hu
  refine .q .not ?_
  refine .nil (seqQ_n ?_)
  refine .cond rfl (fun h3 => ?_) (fun h3 => ?_)
  refine .exit (seqQ_x (blkQ_y (loopQ_x (blkQ_x ?_))))
  refine seqQ_n ?_
  refine .seq (.region ?_)
  refine .q .move ?_
  refine .q .move ?_
  refine .q .gtr ?_
  refine .q .assign ?_
  refine .nil (seqQ_n ?_)
  refine .ret (retQ_r _ (.one (.tmp rfl)) (HLe.refl _) ?_)
  · refine ⟨_, rfl, L1, decide (i0 < i), by assumption, by simp, hP, hS, fun hu => ?_⟩
    have hup : Up lt L1 n i := (hU hu).1.stop fun c h0 hc hp a b ha hb => by
      first
        | (simp only [par] at hp; omega)
        | (rw [hy0] at ha; cases ha; exact so.ntr _ _ _ (hmin c b h0 hc hp hb) (by simpa using h3))
    refine ⟨fun hm => ?_, fun hm => ?_⟩
    · have hm' : i ≠ i0 := by simp at hm; omega
      exact hup.stop ((hU hu).2 hm')
    · have hm' : i = i0 := by simp at hm; omega
      rw [← hm']; exact hup
  refine .skip ?_
  refine seqQ_n ?_
  refine .seq (.region ?_)
  refine .q .move ?_
  refine .q .move ?_
  refine .q .move ?_
  refine TriOps.callI (hi.swap L1 T4 i j hI4 (by omega) (by omega)) (fun u T5 hI5 => ?_)
  refine .nil (seqQ_n ?_)
  refine .region ?_
  refine .q .move ?_
  refine .q .assign ?_
  refine .nil ?_
  refine blkQ_n ?_
  · have hl3 : lt x y0 = true := by simpa using h3
    exact loopQ_i (j, swp L1 i j, T5) ⟨hI5, by simp only; omega, by simp only; omega, swp_perm.trans hP, fun k hk => by
      rw [swp_get (by omega) (by omega), if_neg (by omega), if_neg (by omega)]; exact hS k hk, fun hu => by
        have := (hU hu).1.step so hj0 hjn (by omega) hjp hx hy0 hl3 hmin
        exact ⟨this.1, fun _ => this.2⟩⟩ (by simp only; omega) (((((EnvLe.nil _).cons rfl).cons rfl).cons rfl).cons rfl) (HLe.refl _)
theorem fix_spec (hi : HI Tryd.prog R t v lt I) (so : SO lt) (L : List α) (T : Seg) (h : I L T) (i : Nat) (hil : i < L.length) (hh : Hole lt L L.length i) :
    Spec Tryd.prog 30 [.iface t v, .int .i64 i] R [T] fun u H' => ∃ T', H' = [T'] ∧ u = .tuple #[] ∧ ∃ L', I L' T' ∧ L'.Perm L ∧ Heap lt L' L'.length := by
  refine Spec.body Tryd.func30 rfl Tryd.results30 Tryd.ntmps30 rfl ?_
  refine .seq (.region ?_)
  refine .q .move ?_
  refine .q .move ?_
  refine .q .move ?_
  refine TriOps.callI (hi.len L T h) (fun u T1 hu => ?_)
  obtain ⟨rfl, h1⟩ := hu
  refine TriOps.callM (down_spec hi so L T1 h1 i L.length (by omega) (Nat.le_refl _)) (fun u T2 hu => ?_)
  obtain ⟨L2, m, h2, rfl, hp2, hs2, hh2⟩ := hu
  have hl2 := hp2.length_eq
  refine .q .not ?_
  refine .nil (seqQ_n ?_)
  refine .cond rfl (fun h1 => ?_) (fun h1 => ?_)
  have hm : m = false := by simpa using h1
  refine .region ?_
  refine .q .move ?_
  refine .q .move ?_
  refine TriOps.callM (up_spec hi so L2 T2 h2 i (by omega)) (fun u T3 hu => ?_)
  obtain ⟨rfl, L3, h3, hp3, hs3, hh3⟩ := hu
  have hl3 := hp3.length_eq
  refine .nil ?_
  refine retQ_n _ .none (HLe.refl _) ?_
  · exact ⟨_, rfl, rfl, L3, h3, hp3.trans hp2, by rw [hl3, hl2]; exact hh3 _ (by omega) hil ((hh2 hh).2 hm)⟩
  have hm : m = true := by simpa using h1
  refine .skip ?_
  refine retQ_n _ .none (HLe.refl _) ?_
  · exact ⟨_, rfl, rfl, L2, h2, hp2, by rw [hl2]; exact (hh2 hh).1 hm⟩
theorem push_spec (hi : HI Tryd.prog R t v lt I) (so : SO lt) (L : List α) (T : Seg) (x : Value) (a : α) (hp : ISpec Tryd.prog t v "Push" [x] R T fun _ T' => I (L ++ [a]) T') (hh : Heap lt L L.length) :
    Spec Tryd.prog 31 [.iface t v, x] R [T] fun u H' => ∃ T', H' = [T'] ∧ u = .tuple #[] ∧ ∃ L', I L' T' ∧ L'.Perm (L ++ [a]) ∧ Heap lt L' L'.length := by
  refine Spec.body Tryd.func31 rfl Tryd.results31 Tryd.ntmps31 rfl ?_
  refine .seq (.region ?_)
  refine .q .move ?_
  refine .q .move ?_
  refine TriOps.callI hp (fun u T1 h1 => ?_)
  have hb := hi.bnd _ T1 h1
  simp only [List.length_append, List.length_singleton] at hb
  refine .nil (seqQ_n ?_)
  refine .region ?_
  refine .q .move ?_
  refine .q .move ?_
  refine TriOps.callI (hi.len _ T1 h1) (fun u T2 hu => ?_)
  obtain ⟨rfl, h2⟩ := hu
  refine .q (.i64 ((L.length : Nat) : Int) .sub ⟨by simp, by omega, by omega⟩) ?_
  refine TriOps.callM (up_spec hi so _ T2 h2 L.length (by simp)) (fun u T3 hu => ?_)
  obtain ⟨rfl, L3, h3, hp3, hs3, hh3⟩ := hu
  have hl3 := hp3.length_eq
  refine .nil ?_
  refine retQ_n _ .none (HLe.refl _) ?_
  · exact ⟨_, rfl, rfl, L3, h3, hp3, by rw [hl3]; exact hh3 _ (Nat.le_refl _) (by simp) (by simp; exact hh.push a)⟩
end
end Go.Proofs.YtpmhgpjcladbkaaDoor

/- The facts on the types and functions of this seat's program, by program out of its translation; no condition. -/
import Derived.Test.YthflndnbdgelnaaEngC
import Derived.Test.YthflndnbdgelnaaChecked
set_option linter.unusedVariables false
namespace Go.Proofs.Ythflndnbdgelnaa

theorem fA0 : Agg Try.prog 0 false := ⟨Try.isAgg0⟩
theorem fS0 : Sz Try.prog 0 1 := ⟨Try.sizeOf0⟩
theorem fB0 : By Try.prog 0 0 := ⟨fun w => ⟨_, Try.typeInfo0 w, rfl⟩⟩
theorem fA1 : Agg Try.prog 1 false := ⟨Try.isAgg1⟩
theorem fS1 : Sz Try.prog 1 1 := ⟨Try.sizeOf1⟩
theorem fB1 : By Try.prog 1 8 := ⟨fun w => ⟨_, Try.typeInfo1 w, rfl⟩⟩
theorem fZ1 : Zr Try.prog 1 (.nilFunc) := ⟨Try.zeroValue1⟩
theorem fU2 : Und Try.prog 2 (.int .i64) := ⟨Try.underlying2⟩
theorem fA2 : Agg Try.prog 2 false := ⟨Try.isAgg2⟩
theorem fS2 : Sz Try.prog 2 1 := ⟨Try.sizeOf2⟩
theorem fB2 : By Try.prog 2 8 := ⟨fun w => ⟨_, Try.typeInfo2 w, rfl⟩⟩
theorem fZ2 : Zr Try.prog 2 (.int .i64 0) := ⟨Try.zeroValue2⟩
theorem fU3 : Und Try.prog 3 (.int .i64) := ⟨Try.underlying3⟩
theorem fA3 : Agg Try.prog 3 false := ⟨Try.isAgg3⟩
theorem fS3 : Sz Try.prog 3 1 := ⟨Try.sizeOf3⟩
theorem fB3 : By Try.prog 3 8 := ⟨fun w => ⟨_, Try.typeInfo3 w, rfl⟩⟩
theorem fZ3 : Zr Try.prog 3 (.int .i64 0) := ⟨Try.zeroValue3⟩
theorem fU4 : Und Try.prog 4 (.bool) := ⟨Try.underlying4⟩
theorem fA4 : Agg Try.prog 4 false := ⟨Try.isAgg4⟩
theorem fS4 : Sz Try.prog 4 1 := ⟨Try.sizeOf4⟩
theorem fB4 : By Try.prog 4 1 := ⟨fun w => ⟨_, Try.typeInfo4 w, rfl⟩⟩
theorem fZ4 : Zr Try.prog 4 (.bool false) := ⟨Try.zeroValue4⟩
theorem fU5 : Und Try.prog 5 (.int .u8) := ⟨Try.underlying5⟩
theorem fA5 : Agg Try.prog 5 false := ⟨Try.isAgg5⟩
theorem fS5 : Sz Try.prog 5 1 := ⟨Try.sizeOf5⟩
theorem fB5 : By Try.prog 5 1 := ⟨fun w => ⟨_, Try.typeInfo5 w, rfl⟩⟩
theorem fZ5 : Zr Try.prog 5 (.int .u8 0) := ⟨Try.zeroValue5⟩
theorem fU6 : Und Try.prog 6 (.int .u8) := ⟨Try.underlying6⟩
theorem fA6 : Agg Try.prog 6 false := ⟨Try.isAgg6⟩
theorem fS6 : Sz Try.prog 6 1 := ⟨Try.sizeOf6⟩
theorem fB6 : By Try.prog 6 1 := ⟨fun w => ⟨_, Try.typeInfo6 w, rfl⟩⟩
theorem fZ6 : Zr Try.prog 6 (.int .u8 0) := ⟨Try.zeroValue6⟩
theorem fA7 : Agg Try.prog 7 true := ⟨Try.isAgg7⟩
theorem fS7 : Sz Try.prog 7 4 := ⟨Try.sizeOf7⟩
theorem fB7 : By Try.prog 7 24 := ⟨fun w => ⟨_, Try.typeInfo7 w, rfl⟩⟩
theorem fZ7 : Zr Try.prog 7 (.agg [.int .i64 0, .int .i64 0, .bool false, .int .u8 0].toArray) := ⟨Try.zeroValue7⟩
theorem fF7_0 : Fld Try.prog 7 0 0 := Fld.of Try.underlying7 rfl Try.sizeOf2 rfl rfl
theorem fF7_1 : Fld Try.prog 7 1 1 := Fld.of Try.underlying7 rfl Try.sizeOf3 rfl rfl
theorem fF7_2 : Fld Try.prog 7 2 2 := Fld.of Try.underlying7 rfl Try.sizeOf4 rfl rfl
theorem fF7_3 : Fld Try.prog 7 3 3 := Fld.of Try.underlying7 rfl Try.sizeOf6 rfl rfl
theorem fL7 : Bld Try.prog 7 [(0, 1), (1, 1), (2, 1), (3, 1)] [.int .i64 0, .int .i64 0, .bool false, .int .u8 0] := ⟨_, Try.underlying7, Try.zeroValue7, fun w => by simp [Try.sizeOf2, Try.sizeOf3, Try.sizeOf4, Try.sizeOf6]⟩
theorem fA8 : Agg Try.prog 8 true := ⟨Try.isAgg8⟩
theorem fS8 : Sz Try.prog 8 4 := ⟨Try.sizeOf8⟩
theorem fB8 : By Try.prog 8 24 := ⟨fun w => ⟨_, Try.typeInfo8 w, rfl⟩⟩
theorem fZ8 : Zr Try.prog 8 (.agg [.int .i64 0, .int .i64 0, .bool false, .int .u8 0].toArray) := ⟨Try.zeroValue8⟩
theorem fF8_0 : Fld Try.prog 8 0 0 := Fld.of Try.underlying8 rfl Try.sizeOf2 rfl rfl
theorem fF8_1 : Fld Try.prog 8 1 1 := Fld.of Try.underlying8 rfl Try.sizeOf3 rfl rfl
theorem fF8_2 : Fld Try.prog 8 2 2 := Fld.of Try.underlying8 rfl Try.sizeOf4 rfl rfl
theorem fF8_3 : Fld Try.prog 8 3 3 := Fld.of Try.underlying8 rfl Try.sizeOf6 rfl rfl
theorem fL8 : Bld Try.prog 8 [(0, 1), (1, 1), (2, 1), (3, 1)] [.int .i64 0, .int .i64 0, .bool false, .int .u8 0] := ⟨_, Try.underlying8, Try.zeroValue8, fun w => by simp [Try.sizeOf2, Try.sizeOf3, Try.sizeOf4, Try.sizeOf6]⟩
theorem fU9 : Und Try.prog 9 (.string) := ⟨Try.underlying9⟩
theorem fA9 : Agg Try.prog 9 false := ⟨Try.isAgg9⟩
theorem fS9 : Sz Try.prog 9 1 := ⟨Try.sizeOf9⟩
theorem fB9 : By Try.prog 9 16 := ⟨fun w => ⟨_, Try.typeInfo9 w, rfl⟩⟩
theorem fZ9 : Zr Try.prog 9 (.string { data := #[] }) := ⟨Try.zeroValue9⟩
theorem fU10 : Und Try.prog 10 (.string) := ⟨Try.underlying10⟩
theorem fA10 : Agg Try.prog 10 false := ⟨Try.isAgg10⟩
theorem fS10 : Sz Try.prog 10 1 := ⟨Try.sizeOf10⟩
theorem fB10 : By Try.prog 10 16 := ⟨fun w => ⟨_, Try.typeInfo10 w, rfl⟩⟩
theorem fZ10 : Zr Try.prog 10 (.string { data := #[] }) := ⟨Try.zeroValue10⟩
theorem fU11 : Und Try.prog 11 (.string) := ⟨Try.underlying11⟩
theorem fA11 : Agg Try.prog 11 false := ⟨Try.isAgg11⟩
theorem fS11 : Sz Try.prog 11 1 := ⟨Try.sizeOf11⟩
theorem fB11 : By Try.prog 11 16 := ⟨fun w => ⟨_, Try.typeInfo11 w, rfl⟩⟩
theorem fZ11 : Zr Try.prog 11 (.string { data := #[] }) := ⟨Try.zeroValue11⟩
theorem fU12 : Und Try.prog 12 (.int .u64) := ⟨Try.underlying12⟩
theorem fA12 : Agg Try.prog 12 false := ⟨Try.isAgg12⟩
theorem fS12 : Sz Try.prog 12 1 := ⟨Try.sizeOf12⟩
theorem fB12 : By Try.prog 12 8 := ⟨fun w => ⟨_, Try.typeInfo12 w, rfl⟩⟩
theorem fZ12 : Zr Try.prog 12 (.int .u64 0) := ⟨Try.zeroValue12⟩
theorem fA13 : Agg Try.prog 13 true := ⟨Try.isAgg13⟩
theorem fS13 : Sz Try.prog 13 2 := ⟨Try.sizeOf13⟩
theorem fB13 : By Try.prog 13 24 := ⟨fun w => ⟨_, Try.typeInfo13 w, rfl⟩⟩
theorem fZ13 : Zr Try.prog 13 (.agg [.string { data := #[] }, .int .u64 0].toArray) := ⟨Try.zeroValue13⟩
theorem fF13_0 : Fld Try.prog 13 0 0 := Fld.of Try.underlying13 rfl Try.sizeOf9 rfl rfl
theorem fF13_1 : Fld Try.prog 13 1 1 := Fld.of Try.underlying13 rfl Try.sizeOf12 rfl rfl
theorem fL13 : Bld Try.prog 13 [(0, 1), (1, 1)] [.string { data := #[] }, .int .u64 0] := ⟨_, Try.underlying13, Try.zeroValue13, fun w => by simp [Try.sizeOf12, Try.sizeOf9]⟩
theorem fA14 : Agg Try.prog 14 true := ⟨Try.isAgg14⟩
theorem fS14 : Sz Try.prog 14 2 := ⟨Try.sizeOf14⟩
theorem fB14 : By Try.prog 14 24 := ⟨fun w => ⟨_, Try.typeInfo14 w, rfl⟩⟩
theorem fZ14 : Zr Try.prog 14 (.agg [.string { data := #[] }, .int .u64 0].toArray) := ⟨Try.zeroValue14⟩
theorem fF14_0 : Fld Try.prog 14 0 0 := Fld.of Try.underlying14 rfl Try.sizeOf9 rfl rfl
theorem fF14_1 : Fld Try.prog 14 1 1 := Fld.of Try.underlying14 rfl Try.sizeOf12 rfl rfl
theorem fL14 : Bld Try.prog 14 [(0, 1), (1, 1)] [.string { data := #[] }, .int .u64 0] := ⟨_, Try.underlying14, Try.zeroValue14, fun w => by simp [Try.sizeOf12, Try.sizeOf9]⟩
theorem fU15 : Und Try.prog 15 (.pointer 62) := ⟨Try.underlying15⟩
theorem fA15 : Agg Try.prog 15 false := ⟨Try.isAgg15⟩
theorem fS15 : Sz Try.prog 15 1 := ⟨Try.sizeOf15⟩
theorem fB15 : By Try.prog 15 8 := ⟨fun w => ⟨_, Try.typeInfo15 w, rfl⟩⟩
theorem fZ15 : Zr Try.prog 15 (.pointer none) := ⟨Try.zeroValue15⟩
theorem fU16 : Und Try.prog 16 (.pointer 65) := ⟨Try.underlying16⟩
theorem fA16 : Agg Try.prog 16 false := ⟨Try.isAgg16⟩
theorem fS16 : Sz Try.prog 16 1 := ⟨Try.sizeOf16⟩
theorem fB16 : By Try.prog 16 8 := ⟨fun w => ⟨_, Try.typeInfo16 w, rfl⟩⟩
theorem fZ16 : Zr Try.prog 16 (.pointer none) := ⟨Try.zeroValue16⟩
theorem fU17 : Und Try.prog 17 (.pointer 74) := ⟨Try.underlying17⟩
theorem fA17 : Agg Try.prog 17 false := ⟨Try.isAgg17⟩
theorem fS17 : Sz Try.prog 17 1 := ⟨Try.sizeOf17⟩
theorem fB17 : By Try.prog 17 8 := ⟨fun w => ⟨_, Try.typeInfo17 w, rfl⟩⟩
theorem fZ17 : Zr Try.prog 17 (.pointer none) := ⟨Try.zeroValue17⟩
theorem fA18 : Agg Try.prog 18 true := ⟨Try.isAgg18⟩
theorem fS18 : Sz Try.prog 18 1 := ⟨Try.sizeOf18⟩
theorem fB18 : By Try.prog 18 8 := ⟨fun w => ⟨_, Try.typeInfo18 w, rfl⟩⟩
theorem fZ18 : Zr Try.prog 18 (.agg [.pointer none].toArray) := ⟨Try.zeroValue18⟩
theorem fF18_0 : Fld Try.prog 18 0 0 := Fld.of Try.underlying18 rfl Try.sizeOf17 rfl rfl
theorem fL18 : Bld Try.prog 18 [(0, 1)] [.pointer none] := ⟨_, Try.underlying18, Try.zeroValue18, fun w => by simp [Try.sizeOf17]⟩
theorem fA19 : Agg Try.prog 19 true := ⟨Try.isAgg19⟩
theorem fS19 : Sz Try.prog 19 1 := ⟨Try.sizeOf19⟩
theorem fB19 : By Try.prog 19 8 := ⟨fun w => ⟨_, Try.typeInfo19 w, rfl⟩⟩
theorem fZ19 : Zr Try.prog 19 (.agg [.pointer none].toArray) := ⟨Try.zeroValue19⟩
theorem fF19_0 : Fld Try.prog 19 0 0 := Fld.of Try.underlying19 rfl Try.sizeOf17 rfl rfl
theorem fL19 : Bld Try.prog 19 [(0, 1)] [.pointer none] := ⟨_, Try.underlying19, Try.zeroValue19, fun w => by simp [Try.sizeOf17]⟩
theorem fA20 : Agg Try.prog 20 false := ⟨Try.isAgg20⟩
theorem fS20 : Sz Try.prog 20 1 := ⟨Try.sizeOf20⟩
theorem fB20 : By Try.prog 20 16 := ⟨fun w => ⟨_, Try.typeInfo20 w, rfl⟩⟩
theorem fZ20 : Zr Try.prog 20 (.nilIface) := ⟨Try.zeroValue20⟩
theorem fU21 : Und Try.prog 21 (.int .i32) := ⟨Try.underlying21⟩
theorem fA21 : Agg Try.prog 21 false := ⟨Try.isAgg21⟩
theorem fS21 : Sz Try.prog 21 1 := ⟨Try.sizeOf21⟩
theorem fB21 : By Try.prog 21 4 := ⟨fun w => ⟨_, Try.typeInfo21 w, rfl⟩⟩
theorem fZ21 : Zr Try.prog 21 (.int .i32 0) := ⟨Try.zeroValue21⟩
theorem fU22 : Und Try.prog 22 (.slice 36) := ⟨Try.underlying22⟩
theorem fA22 : Agg Try.prog 22 false := ⟨Try.isAgg22⟩
theorem fS22 : Sz Try.prog 22 1 := ⟨Try.sizeOf22⟩
theorem fB22 : By Try.prog 22 24 := ⟨fun w => ⟨_, Try.typeInfo22 w, rfl⟩⟩
theorem fZ22 : Zr Try.prog 22 (.slice none 0 0) := ⟨Try.zeroValue22⟩
theorem fU23 : Und Try.prog 23 (.pointer 55) := ⟨Try.underlying23⟩
theorem fA23 : Agg Try.prog 23 false := ⟨Try.isAgg23⟩
theorem fS23 : Sz Try.prog 23 1 := ⟨Try.sizeOf23⟩
theorem fB23 : By Try.prog 23 8 := ⟨fun w => ⟨_, Try.typeInfo23 w, rfl⟩⟩
theorem fZ23 : Zr Try.prog 23 (.pointer none) := ⟨Try.zeroValue23⟩
theorem fU24 : Und Try.prog 24 (.int .i64) := ⟨Try.underlying24⟩
theorem fA24 : Agg Try.prog 24 false := ⟨Try.isAgg24⟩
theorem fS24 : Sz Try.prog 24 1 := ⟨Try.sizeOf24⟩
theorem fB24 : By Try.prog 24 8 := ⟨fun w => ⟨_, Try.typeInfo24 w, rfl⟩⟩
theorem fZ24 : Zr Try.prog 24 (.int .i64 0) := ⟨Try.zeroValue24⟩
theorem fA25 : Agg Try.prog 25 false := ⟨Try.isAgg25⟩
theorem fS25 : Sz Try.prog 25 1 := ⟨Try.sizeOf25⟩
theorem fB25 : By Try.prog 25 0 := ⟨fun w => ⟨_, Try.typeInfo25 w, rfl⟩⟩
theorem fA26 : Agg Try.prog 26 false := ⟨Try.isAgg26⟩
theorem fS26 : Sz Try.prog 26 1 := ⟨Try.sizeOf26⟩
theorem fB26 : By Try.prog 26 8 := ⟨fun w => ⟨_, Try.typeInfo26 w, rfl⟩⟩
theorem fZ26 : Zr Try.prog 26 (.nilFunc) := ⟨Try.zeroValue26⟩
theorem fU27 : Und Try.prog 27 (.pointer 46) := ⟨Try.underlying27⟩
theorem fA27 : Agg Try.prog 27 false := ⟨Try.isAgg27⟩
theorem fS27 : Sz Try.prog 27 1 := ⟨Try.sizeOf27⟩
theorem fB27 : By Try.prog 27 8 := ⟨fun w => ⟨_, Try.typeInfo27 w, rfl⟩⟩
theorem fZ27 : Zr Try.prog 27 (.pointer none) := ⟨Try.zeroValue27⟩
theorem fA28 : Agg Try.prog 28 false := ⟨Try.isAgg28⟩
theorem fS28 : Sz Try.prog 28 1 := ⟨Try.sizeOf28⟩
theorem fB28 : By Try.prog 28 0 := ⟨fun w => ⟨_, Try.typeInfo28 w, rfl⟩⟩
theorem fA29 : Agg Try.prog 29 false := ⟨Try.isAgg29⟩
theorem fS29 : Sz Try.prog 29 1 := ⟨Try.sizeOf29⟩
theorem fB29 : By Try.prog 29 8 := ⟨fun w => ⟨_, Try.typeInfo29 w, rfl⟩⟩
theorem fZ29 : Zr Try.prog 29 (.nilFunc) := ⟨Try.zeroValue29⟩
theorem fU30 : Und Try.prog 30 (.int .u64) := ⟨Try.underlying30⟩
theorem fA30 : Agg Try.prog 30 false := ⟨Try.isAgg30⟩
theorem fS30 : Sz Try.prog 30 1 := ⟨Try.sizeOf30⟩
theorem fB30 : By Try.prog 30 8 := ⟨fun w => ⟨_, Try.typeInfo30 w, rfl⟩⟩
theorem fZ30 : Zr Try.prog 30 (.int .u64 0) := ⟨Try.zeroValue30⟩
theorem fA31 : Agg Try.prog 31 true := ⟨Try.isAgg31⟩
theorem fS31 : Sz Try.prog 31 2 := ⟨Try.sizeOf31⟩
theorem fB31 : By Try.prog 31 32 := ⟨fun w => ⟨_, Try.typeInfo31 w, rfl⟩⟩
theorem fZ31 : Zr Try.prog 31 (.agg [.string { data := #[] }, .string { data := #[] }].toArray) := ⟨Try.zeroValue31⟩
theorem fF31_0 : Fld Try.prog 31 0 0 := Fld.of Try.underlying31 rfl Try.sizeOf9 rfl rfl
theorem fF31_1 : Fld Try.prog 31 1 1 := Fld.of Try.underlying31 rfl Try.sizeOf9 rfl rfl
theorem fL31 : Bld Try.prog 31 [(0, 1), (1, 1)] [.string { data := #[] }, .string { data := #[] }] := ⟨_, Try.underlying31, Try.zeroValue31, fun w => by simp [Try.sizeOf9]⟩
theorem fA32 : Agg Try.prog 32 true := ⟨Try.isAgg32⟩
theorem fS32 : Sz Try.prog 32 2 := ⟨Try.sizeOf32⟩
theorem fB32 : By Try.prog 32 32 := ⟨fun w => ⟨_, Try.typeInfo32 w, rfl⟩⟩
theorem fZ32 : Zr Try.prog 32 (.agg [.string { data := #[] }, .string { data := #[] }].toArray) := ⟨Try.zeroValue32⟩
theorem fF32_0 : Fld Try.prog 32 0 0 := Fld.of Try.underlying32 rfl Try.sizeOf9 rfl rfl
theorem fF32_1 : Fld Try.prog 32 1 1 := Fld.of Try.underlying32 rfl Try.sizeOf9 rfl rfl
theorem fL32 : Bld Try.prog 32 [(0, 1), (1, 1)] [.string { data := #[] }, .string { data := #[] }] := ⟨_, Try.underlying32, Try.zeroValue32, fun w => by simp [Try.sizeOf9]⟩
theorem fA33 : Agg Try.prog 33 true := ⟨Try.isAgg33⟩
theorem fS33 : Sz Try.prog 33 6 := ⟨Try.sizeOf33⟩
theorem fB33 : By Try.prog 33 80 := ⟨fun w => ⟨_, Try.typeInfo33 w, rfl⟩⟩
theorem fZ33 : Zr Try.prog 33 (.agg [.int .u64 0, .int .i64 0, .string { data := #[] }, .string { data := #[] }, .string { data := #[] }, .string { data := #[] }].toArray) := ⟨Try.zeroValue33⟩
theorem fF33_0 : Fld Try.prog 33 0 0 := Fld.of Try.underlying33 rfl Try.sizeOf30 rfl rfl
theorem fF33_1 : Fld Try.prog 33 1 1 := Fld.of Try.underlying33 rfl Try.sizeOf3 rfl rfl
theorem fF33_2 : Fld Try.prog 33 2 2 := Fld.of Try.underlying33 rfl Try.sizeOf32 rfl rfl
theorem fF33_3 : Fld Try.prog 33 3 4 := Fld.of Try.underlying33 rfl Try.sizeOf9 rfl rfl
theorem fF33_4 : Fld Try.prog 33 4 5 := Fld.of Try.underlying33 rfl Try.sizeOf9 rfl rfl
theorem fL33 : Bld Try.prog 33 [(0, 1), (1, 1), (2, 2), (4, 1), (5, 1)] [.int .u64 0, .int .i64 0, .string { data := #[] }, .string { data := #[] }, .string { data := #[] }, .string { data := #[] }] := ⟨_, Try.underlying33, Try.zeroValue33, fun w => by simp [Try.sizeOf3, Try.sizeOf30, Try.sizeOf32, Try.sizeOf9]⟩
theorem fA34 : Agg Try.prog 34 true := ⟨Try.isAgg34⟩
theorem fS34 : Sz Try.prog 34 6 := ⟨Try.sizeOf34⟩
theorem fB34 : By Try.prog 34 80 := ⟨fun w => ⟨_, Try.typeInfo34 w, rfl⟩⟩
theorem fZ34 : Zr Try.prog 34 (.agg [.int .u64 0, .int .i64 0, .string { data := #[] }, .string { data := #[] }, .string { data := #[] }, .string { data := #[] }].toArray) := ⟨Try.zeroValue34⟩
theorem fF34_0 : Fld Try.prog 34 0 0 := Fld.of Try.underlying34 rfl Try.sizeOf30 rfl rfl
theorem fF34_1 : Fld Try.prog 34 1 1 := Fld.of Try.underlying34 rfl Try.sizeOf3 rfl rfl
theorem fF34_2 : Fld Try.prog 34 2 2 := Fld.of Try.underlying34 rfl Try.sizeOf32 rfl rfl
theorem fF34_3 : Fld Try.prog 34 3 4 := Fld.of Try.underlying34 rfl Try.sizeOf9 rfl rfl
theorem fF34_4 : Fld Try.prog 34 4 5 := Fld.of Try.underlying34 rfl Try.sizeOf9 rfl rfl
theorem fL34 : Bld Try.prog 34 [(0, 1), (1, 1), (2, 2), (4, 1), (5, 1)] [.int .u64 0, .int .i64 0, .string { data := #[] }, .string { data := #[] }, .string { data := #[] }, .string { data := #[] }] := ⟨_, Try.underlying34, Try.zeroValue34, fun w => by simp [Try.sizeOf3, Try.sizeOf30, Try.sizeOf32, Try.sizeOf9]⟩
theorem fA35 : Agg Try.prog 35 true := ⟨Try.isAgg35⟩
theorem fS35 : Sz Try.prog 35 9 := ⟨Try.sizeOf35⟩
theorem fB35 : By Try.prog 35 104 := ⟨fun w => ⟨_, Try.typeInfo35 w, rfl⟩⟩
theorem fZ35 : Zr Try.prog 35 (.agg [.int .i64 0, .int .u64 0, .int .i64 0, .string { data := #[] }, .string { data := #[] }, .string { data := #[] }, .string { data := #[] }, .bool false, .int .u64 0].toArray) := ⟨Try.zeroValue35⟩
theorem fF35_0 : Fld Try.prog 35 0 0 := Fld.of Try.underlying35 rfl Try.sizeOf3 rfl rfl
theorem fF35_1 : Fld Try.prog 35 1 1 := Fld.of Try.underlying35 rfl Try.sizeOf34 rfl rfl
theorem fF35_2 : Fld Try.prog 35 2 7 := Fld.of Try.underlying35 rfl Try.sizeOf4 rfl rfl
theorem fF35_3 : Fld Try.prog 35 3 8 := Fld.of Try.underlying35 rfl Try.sizeOf30 rfl rfl
theorem fL35 : Bld Try.prog 35 [(0, 1), (1, 6), (7, 1), (8, 1)] [.int .i64 0, .int .u64 0, .int .i64 0, .string { data := #[] }, .string { data := #[] }, .string { data := #[] }, .string { data := #[] }, .bool false, .int .u64 0] := ⟨_, Try.underlying35, Try.zeroValue35, fun w => by simp [Try.sizeOf3, Try.sizeOf30, Try.sizeOf34, Try.sizeOf4]⟩
theorem fA36 : Agg Try.prog 36 true := ⟨Try.isAgg36⟩
theorem fS36 : Sz Try.prog 36 9 := ⟨Try.sizeOf36⟩
theorem fB36 : By Try.prog 36 104 := ⟨fun w => ⟨_, Try.typeInfo36 w, rfl⟩⟩
theorem fZ36 : Zr Try.prog 36 (.agg [.int .i64 0, .int .u64 0, .int .i64 0, .string { data := #[] }, .string { data := #[] }, .string { data := #[] }, .string { data := #[] }, .bool false, .int .u64 0].toArray) := ⟨Try.zeroValue36⟩
theorem fF36_0 : Fld Try.prog 36 0 0 := Fld.of Try.underlying36 rfl Try.sizeOf3 rfl rfl
theorem fF36_1 : Fld Try.prog 36 1 1 := Fld.of Try.underlying36 rfl Try.sizeOf34 rfl rfl
theorem fF36_2 : Fld Try.prog 36 2 7 := Fld.of Try.underlying36 rfl Try.sizeOf4 rfl rfl
theorem fF36_3 : Fld Try.prog 36 3 8 := Fld.of Try.underlying36 rfl Try.sizeOf30 rfl rfl
theorem fL36 : Bld Try.prog 36 [(0, 1), (1, 6), (7, 1), (8, 1)] [.int .i64 0, .int .u64 0, .int .i64 0, .string { data := #[] }, .string { data := #[] }, .string { data := #[] }, .string { data := #[] }, .bool false, .int .u64 0] := ⟨_, Try.underlying36, Try.zeroValue36, fun w => by simp [Try.sizeOf3, Try.sizeOf30, Try.sizeOf34, Try.sizeOf4]⟩
theorem fA37 : Agg Try.prog 37 false := ⟨Try.isAgg37⟩
theorem fS37 : Sz Try.prog 37 1 := ⟨Try.sizeOf37⟩
theorem fB37 : By Try.prog 37 8 := ⟨fun w => ⟨_, Try.typeInfo37 w, rfl⟩⟩
theorem fZ37 : Zr Try.prog 37 (.nilFunc) := ⟨Try.zeroValue37⟩
theorem fA38 : Agg Try.prog 38 true := ⟨Try.isAgg38⟩
theorem fS38 : Sz Try.prog 38 6 := ⟨Try.sizeOf38⟩
theorem fB38 : By Try.prog 38 80 := ⟨fun w => ⟨_, Try.typeInfo38 w, rfl⟩⟩
theorem fZ38 : Zr Try.prog 38 (.agg [.int .u64 0, .int .i64 0, .string { data := #[] }, .string { data := #[] }, .string { data := #[] }, .string { data := #[] }].toArray) := ⟨Try.zeroValue38⟩
theorem fF38_0 : Fld Try.prog 38 0 0 := Fld.of Try.underlying38 rfl Try.sizeOf30 rfl rfl
theorem fF38_1 : Fld Try.prog 38 1 1 := Fld.of Try.underlying38 rfl Try.sizeOf3 rfl rfl
theorem fF38_2 : Fld Try.prog 38 2 2 := Fld.of Try.underlying38 rfl Try.sizeOf32 rfl rfl
theorem fF38_3 : Fld Try.prog 38 3 4 := Fld.of Try.underlying38 rfl Try.sizeOf9 rfl rfl
theorem fF38_4 : Fld Try.prog 38 4 5 := Fld.of Try.underlying38 rfl Try.sizeOf9 rfl rfl
theorem fL38 : Bld Try.prog 38 [(0, 1), (1, 1), (2, 2), (4, 1), (5, 1)] [.int .u64 0, .int .i64 0, .string { data := #[] }, .string { data := #[] }, .string { data := #[] }, .string { data := #[] }] := ⟨_, Try.underlying38, Try.zeroValue38, fun w => by simp [Try.sizeOf3, Try.sizeOf30, Try.sizeOf32, Try.sizeOf9]⟩
theorem fA39 : Agg Try.prog 39 false := ⟨Try.isAgg39⟩
theorem fS39 : Sz Try.prog 39 1 := ⟨Try.sizeOf39⟩
theorem fB39 : By Try.prog 39 8 := ⟨fun w => ⟨_, Try.typeInfo39 w, rfl⟩⟩
theorem fZ39 : Zr Try.prog 39 (.nilFunc) := ⟨Try.zeroValue39⟩
theorem fA40 : Agg Try.prog 40 false := ⟨Try.isAgg40⟩
theorem fS40 : Sz Try.prog 40 1 := ⟨Try.sizeOf40⟩
theorem fB40 : By Try.prog 40 8 := ⟨fun w => ⟨_, Try.typeInfo40 w, rfl⟩⟩
theorem fZ40 : Zr Try.prog 40 (.nilFunc) := ⟨Try.zeroValue40⟩
theorem fA41 : Agg Try.prog 41 false := ⟨Try.isAgg41⟩
theorem fS41 : Sz Try.prog 41 1 := ⟨Try.sizeOf41⟩
theorem fB41 : By Try.prog 41 8 := ⟨fun w => ⟨_, Try.typeInfo41 w, rfl⟩⟩
theorem fZ41 : Zr Try.prog 41 (.nilFunc) := ⟨Try.zeroValue41⟩
theorem fA42 : Agg Try.prog 42 false := ⟨Try.isAgg42⟩
theorem fS42 : Sz Try.prog 42 1 := ⟨Try.sizeOf42⟩
theorem fB42 : By Try.prog 42 8 := ⟨fun w => ⟨_, Try.typeInfo42 w, rfl⟩⟩
theorem fZ42 : Zr Try.prog 42 (.nilFunc) := ⟨Try.zeroValue42⟩
theorem fU43 : Und Try.prog 43 (.slice 34) := ⟨Try.underlying43⟩
theorem fA43 : Agg Try.prog 43 false := ⟨Try.isAgg43⟩
theorem fS43 : Sz Try.prog 43 1 := ⟨Try.sizeOf43⟩
theorem fB43 : By Try.prog 43 24 := ⟨fun w => ⟨_, Try.typeInfo43 w, rfl⟩⟩
theorem fZ43 : Zr Try.prog 43 (.slice none 0 0) := ⟨Try.zeroValue43⟩
theorem fU44 : Und Try.prog 44 (.slice 4) := ⟨Try.underlying44⟩
theorem fA44 : Agg Try.prog 44 false := ⟨Try.isAgg44⟩
theorem fS44 : Sz Try.prog 44 1 := ⟨Try.sizeOf44⟩
theorem fB44 : By Try.prog 44 24 := ⟨fun w => ⟨_, Try.typeInfo44 w, rfl⟩⟩
theorem fZ44 : Zr Try.prog 44 (.slice none 0 0) := ⟨Try.zeroValue44⟩
theorem fA45 : Agg Try.prog 45 true := ⟨Try.isAgg45⟩
theorem fS45 : Sz Try.prog 45 3 := ⟨Try.sizeOf45⟩
theorem fB45 : By Try.prog 45 56 := ⟨fun w => ⟨_, Try.typeInfo45 w, rfl⟩⟩
theorem fZ45 : Zr Try.prog 45 (.agg [.int .i64 0, .slice none 0 0, .slice none 0 0].toArray) := ⟨Try.zeroValue45⟩
theorem fF45_0 : Fld Try.prog 45 0 0 := Fld.of Try.underlying45 rfl Try.sizeOf3 rfl rfl
theorem fF45_1 : Fld Try.prog 45 1 1 := Fld.of Try.underlying45 rfl Try.sizeOf43 rfl rfl
theorem fF45_2 : Fld Try.prog 45 2 2 := Fld.of Try.underlying45 rfl Try.sizeOf44 rfl rfl
theorem fL45 : Bld Try.prog 45 [(0, 1), (1, 1), (2, 1)] [.int .i64 0, .slice none 0 0, .slice none 0 0] := ⟨_, Try.underlying45, Try.zeroValue45, fun w => by simp [Try.sizeOf3, Try.sizeOf43, Try.sizeOf44]⟩
theorem fA46 : Agg Try.prog 46 true := ⟨Try.isAgg46⟩
theorem fS46 : Sz Try.prog 46 3 := ⟨Try.sizeOf46⟩
theorem fB46 : By Try.prog 46 56 := ⟨fun w => ⟨_, Try.typeInfo46 w, rfl⟩⟩
theorem fZ46 : Zr Try.prog 46 (.agg [.int .i64 0, .slice none 0 0, .slice none 0 0].toArray) := ⟨Try.zeroValue46⟩
theorem fF46_0 : Fld Try.prog 46 0 0 := Fld.of Try.underlying46 rfl Try.sizeOf3 rfl rfl
theorem fF46_1 : Fld Try.prog 46 1 1 := Fld.of Try.underlying46 rfl Try.sizeOf43 rfl rfl
theorem fF46_2 : Fld Try.prog 46 2 2 := Fld.of Try.underlying46 rfl Try.sizeOf44 rfl rfl
theorem fL46 : Bld Try.prog 46 [(0, 1), (1, 1), (2, 1)] [.int .i64 0, .slice none 0 0, .slice none 0 0] := ⟨_, Try.underlying46, Try.zeroValue46, fun w => by simp [Try.sizeOf3, Try.sizeOf43, Try.sizeOf44]⟩
theorem fA47 : Agg Try.prog 47 false := ⟨Try.isAgg47⟩
theorem fS47 : Sz Try.prog 47 1 := ⟨Try.sizeOf47⟩
theorem fB47 : By Try.prog 47 0 := ⟨fun w => ⟨_, Try.typeInfo47 w, rfl⟩⟩
theorem fA48 : Agg Try.prog 48 false := ⟨Try.isAgg48⟩
theorem fS48 : Sz Try.prog 48 1 := ⟨Try.sizeOf48⟩
theorem fB48 : By Try.prog 48 8 := ⟨fun w => ⟨_, Try.typeInfo48 w, rfl⟩⟩
theorem fZ48 : Zr Try.prog 48 (.nilFunc) := ⟨Try.zeroValue48⟩
theorem fA49 : Agg Try.prog 49 false := ⟨Try.isAgg49⟩
theorem fS49 : Sz Try.prog 49 1 := ⟨Try.sizeOf49⟩
theorem fB49 : By Try.prog 49 8 := ⟨fun w => ⟨_, Try.typeInfo49 w, rfl⟩⟩
theorem fZ49 : Zr Try.prog 49 (.nilFunc) := ⟨Try.zeroValue49⟩
theorem fA50 : Agg Try.prog 50 false := ⟨Try.isAgg50⟩
theorem fS50 : Sz Try.prog 50 1 := ⟨Try.sizeOf50⟩
theorem fB50 : By Try.prog 50 8 := ⟨fun w => ⟨_, Try.typeInfo50 w, rfl⟩⟩
theorem fZ50 : Zr Try.prog 50 (.nilFunc) := ⟨Try.zeroValue50⟩
theorem fA51 : Agg Try.prog 51 false := ⟨Try.isAgg51⟩
theorem fS51 : Sz Try.prog 51 1 := ⟨Try.sizeOf51⟩
theorem fB51 : By Try.prog 51 8 := ⟨fun w => ⟨_, Try.typeInfo51 w, rfl⟩⟩
theorem fZ51 : Zr Try.prog 51 (.nilFunc) := ⟨Try.zeroValue51⟩
theorem fU52 : Und Try.prog 52 (.map 38 4) := ⟨Try.underlying52⟩
theorem fA52 : Agg Try.prog 52 false := ⟨Try.isAgg52⟩
theorem fS52 : Sz Try.prog 52 1 := ⟨Try.sizeOf52⟩
theorem fB52 : By Try.prog 52 8 := ⟨fun w => ⟨_, Try.typeInfo52 w, rfl⟩⟩
theorem fZ52 : Zr Try.prog 52 (.map none) := ⟨Try.zeroValue52⟩
theorem fU53 : Und Try.prog 53 (.slice 38) := ⟨Try.underlying53⟩
theorem fA53 : Agg Try.prog 53 false := ⟨Try.isAgg53⟩
theorem fS53 : Sz Try.prog 53 1 := ⟨Try.sizeOf53⟩
theorem fB53 : By Try.prog 53 24 := ⟨fun w => ⟨_, Try.typeInfo53 w, rfl⟩⟩
theorem fZ53 : Zr Try.prog 53 (.slice none 0 0) := ⟨Try.zeroValue53⟩
theorem fA54 : Agg Try.prog 54 true := ⟨Try.isAgg54⟩
theorem fS54 : Sz Try.prog 54 5 := ⟨Try.sizeOf54⟩
theorem fB54 : By Try.prog 54 56 := ⟨fun w => ⟨_, Try.typeInfo54 w, rfl⟩⟩
theorem fZ54 : Zr Try.prog 54 (.agg [.bool false, .int .i64 0, .map none, .slice none 0 0, .int .i64 0].toArray) := ⟨Try.zeroValue54⟩
theorem fF54_0 : Fld Try.prog 54 0 0 := Fld.of Try.underlying54 rfl Try.sizeOf4 rfl rfl
theorem fF54_1 : Fld Try.prog 54 1 1 := Fld.of Try.underlying54 rfl Try.sizeOf3 rfl rfl
theorem fF54_2 : Fld Try.prog 54 2 2 := Fld.of Try.underlying54 rfl Try.sizeOf52 rfl rfl
theorem fF54_3 : Fld Try.prog 54 3 3 := Fld.of Try.underlying54 rfl Try.sizeOf53 rfl rfl
theorem fF54_4 : Fld Try.prog 54 4 4 := Fld.of Try.underlying54 rfl Try.sizeOf3 rfl rfl
theorem fL54 : Bld Try.prog 54 [(0, 1), (1, 1), (2, 1), (3, 1), (4, 1)] [.bool false, .int .i64 0, .map none, .slice none 0 0, .int .i64 0] := ⟨_, Try.underlying54, Try.zeroValue54, fun w => by simp [Try.sizeOf3, Try.sizeOf4, Try.sizeOf52, Try.sizeOf53]⟩
theorem fA55 : Agg Try.prog 55 true := ⟨Try.isAgg55⟩
theorem fS55 : Sz Try.prog 55 5 := ⟨Try.sizeOf55⟩
theorem fB55 : By Try.prog 55 56 := ⟨fun w => ⟨_, Try.typeInfo55 w, rfl⟩⟩
theorem fZ55 : Zr Try.prog 55 (.agg [.bool false, .int .i64 0, .map none, .slice none 0 0, .int .i64 0].toArray) := ⟨Try.zeroValue55⟩
theorem fF55_0 : Fld Try.prog 55 0 0 := Fld.of Try.underlying55 rfl Try.sizeOf4 rfl rfl
theorem fF55_1 : Fld Try.prog 55 1 1 := Fld.of Try.underlying55 rfl Try.sizeOf3 rfl rfl
theorem fF55_2 : Fld Try.prog 55 2 2 := Fld.of Try.underlying55 rfl Try.sizeOf52 rfl rfl
theorem fF55_3 : Fld Try.prog 55 3 3 := Fld.of Try.underlying55 rfl Try.sizeOf53 rfl rfl
theorem fF55_4 : Fld Try.prog 55 4 4 := Fld.of Try.underlying55 rfl Try.sizeOf3 rfl rfl
theorem fL55 : Bld Try.prog 55 [(0, 1), (1, 1), (2, 1), (3, 1), (4, 1)] [.bool false, .int .i64 0, .map none, .slice none 0 0, .int .i64 0] := ⟨_, Try.underlying55, Try.zeroValue55, fun w => by simp [Try.sizeOf3, Try.sizeOf4, Try.sizeOf52, Try.sizeOf53]⟩
theorem fA56 : Agg Try.prog 56 false := ⟨Try.isAgg56⟩
theorem fS56 : Sz Try.prog 56 1 := ⟨Try.sizeOf56⟩
theorem fB56 : By Try.prog 56 8 := ⟨fun w => ⟨_, Try.typeInfo56 w, rfl⟩⟩
theorem fZ56 : Zr Try.prog 56 (.nilFunc) := ⟨Try.zeroValue56⟩
theorem fA57 : Agg Try.prog 57 false := ⟨Try.isAgg57⟩
theorem fS57 : Sz Try.prog 57 1 := ⟨Try.sizeOf57⟩
theorem fB57 : By Try.prog 57 8 := ⟨fun w => ⟨_, Try.typeInfo57 w, rfl⟩⟩
theorem fZ57 : Zr Try.prog 57 (.nilFunc) := ⟨Try.zeroValue57⟩
theorem fA58 : Agg Try.prog 58 false := ⟨Try.isAgg58⟩
theorem fS58 : Sz Try.prog 58 1 := ⟨Try.sizeOf58⟩
theorem fB58 : By Try.prog 58 8 := ⟨fun w => ⟨_, Try.typeInfo58 w, rfl⟩⟩
theorem fZ58 : Zr Try.prog 58 (.nilFunc) := ⟨Try.zeroValue58⟩
theorem fA59 : Agg Try.prog 59 false := ⟨Try.isAgg59⟩
theorem fS59 : Sz Try.prog 59 1 := ⟨Try.sizeOf59⟩
theorem fB59 : By Try.prog 59 8 := ⟨fun w => ⟨_, Try.typeInfo59 w, rfl⟩⟩
theorem fZ59 : Zr Try.prog 59 (.nilFunc) := ⟨Try.zeroValue59⟩
theorem fA60 : Agg Try.prog 60 false := ⟨Try.isAgg60⟩
theorem fS60 : Sz Try.prog 60 1 := ⟨Try.sizeOf60⟩
theorem fB60 : By Try.prog 60 8 := ⟨fun w => ⟨_, Try.typeInfo60 w, rfl⟩⟩
theorem fZ60 : Zr Try.prog 60 (.nilFunc) := ⟨Try.zeroValue60⟩
theorem fA61 : Agg Try.prog 61 true := ⟨Try.isAgg61⟩
theorem fS61 : Sz Try.prog 61 4 := ⟨Try.sizeOf61⟩
theorem fB61 : By Try.prog 61 40 := ⟨fun w => ⟨_, Try.typeInfo61 w, rfl⟩⟩
theorem fZ61 : Zr Try.prog 61 (.agg [.pointer none, .pointer none, .pointer none, .string { data := #[] }].toArray) := ⟨Try.zeroValue61⟩
theorem fF61_0 : Fld Try.prog 61 0 0 := Fld.of Try.underlying61 rfl Try.sizeOf17 rfl rfl
theorem fF61_1 : Fld Try.prog 61 1 1 := Fld.of Try.underlying61 rfl Try.sizeOf17 rfl rfl
theorem fF61_2 : Fld Try.prog 61 2 2 := Fld.of Try.underlying61 rfl Try.sizeOf17 rfl rfl
theorem fF61_3 : Fld Try.prog 61 3 3 := Fld.of Try.underlying61 rfl Try.sizeOf9 rfl rfl
theorem fL61 : Bld Try.prog 61 [(0, 1), (1, 1), (2, 1), (3, 1)] [.pointer none, .pointer none, .pointer none, .string { data := #[] }] := ⟨_, Try.underlying61, Try.zeroValue61, fun w => by simp [Try.sizeOf17, Try.sizeOf9]⟩
theorem fA62 : Agg Try.prog 62 true := ⟨Try.isAgg62⟩
theorem fS62 : Sz Try.prog 62 4 := ⟨Try.sizeOf62⟩
theorem fB62 : By Try.prog 62 40 := ⟨fun w => ⟨_, Try.typeInfo62 w, rfl⟩⟩
theorem fZ62 : Zr Try.prog 62 (.agg [.pointer none, .pointer none, .pointer none, .string { data := #[] }].toArray) := ⟨Try.zeroValue62⟩
theorem fF62_0 : Fld Try.prog 62 0 0 := Fld.of Try.underlying62 rfl Try.sizeOf17 rfl rfl
theorem fF62_1 : Fld Try.prog 62 1 1 := Fld.of Try.underlying62 rfl Try.sizeOf17 rfl rfl
theorem fF62_2 : Fld Try.prog 62 2 2 := Fld.of Try.underlying62 rfl Try.sizeOf17 rfl rfl
theorem fF62_3 : Fld Try.prog 62 3 3 := Fld.of Try.underlying62 rfl Try.sizeOf9 rfl rfl
theorem fL62 : Bld Try.prog 62 [(0, 1), (1, 1), (2, 1), (3, 1)] [.pointer none, .pointer none, .pointer none, .string { data := #[] }] := ⟨_, Try.underlying62, Try.zeroValue62, fun w => by simp [Try.sizeOf17, Try.sizeOf9]⟩
theorem fU63 : Und Try.prog 63 (.array 0 16) := ⟨Try.underlying63⟩
theorem fA63 : Agg Try.prog 63 true := ⟨Try.isAgg63⟩
theorem fS63 : Sz Try.prog 63 0 := ⟨Try.sizeOf63⟩
theorem fB63 : By Try.prog 63 0 := ⟨fun w => ⟨_, Try.typeInfo63 w, rfl⟩⟩
theorem fZ63 : Zr Try.prog 63 (.agg [].toArray) := ⟨Try.zeroValue63⟩
theorem fA64 : Agg Try.prog 64 true := ⟨Try.isAgg64⟩
theorem fS64 : Sz Try.prog 64 0 := ⟨Try.sizeOf64⟩
theorem fB64 : By Try.prog 64 0 := ⟨fun w => ⟨_, Try.typeInfo64 w, rfl⟩⟩
theorem fZ64 : Zr Try.prog 64 (.agg [].toArray) := ⟨Try.zeroValue64⟩
theorem fL64 : Bld Try.prog 64 [(0, 0)] [] := ⟨_, Try.underlying64, Try.zeroValue64, fun w => by simp [Try.sizeOf63]⟩
theorem fA65 : Agg Try.prog 65 true := ⟨Try.isAgg65⟩
theorem fS65 : Sz Try.prog 65 0 := ⟨Try.sizeOf65⟩
theorem fB65 : By Try.prog 65 0 := ⟨fun w => ⟨_, Try.typeInfo65 w, rfl⟩⟩
theorem fZ65 : Zr Try.prog 65 (.agg [].toArray) := ⟨Try.zeroValue65⟩
theorem fL65 : Bld Try.prog 65 [(0, 0)] [] := ⟨_, Try.underlying65, Try.zeroValue65, fun w => by simp [Try.sizeOf63]⟩
theorem fU66 : Und Try.prog 66 (.int .u32) := ⟨Try.underlying66⟩
theorem fA66 : Agg Try.prog 66 false := ⟨Try.isAgg66⟩
theorem fS66 : Sz Try.prog 66 1 := ⟨Try.sizeOf66⟩
theorem fB66 : By Try.prog 66 4 := ⟨fun w => ⟨_, Try.typeInfo66 w, rfl⟩⟩
theorem fZ66 : Zr Try.prog 66 (.int .u32 0) := ⟨Try.zeroValue66⟩
theorem fU67 : Und Try.prog 67 (.int .u8) := ⟨Try.underlying67⟩
theorem fA67 : Agg Try.prog 67 false := ⟨Try.isAgg67⟩
theorem fS67 : Sz Try.prog 67 1 := ⟨Try.sizeOf67⟩
theorem fB67 : By Try.prog 67 1 := ⟨fun w => ⟨_, Try.typeInfo67 w, rfl⟩⟩
theorem fZ67 : Zr Try.prog 67 (.int .u8 0) := ⟨Try.zeroValue67⟩
theorem fU68 : Und Try.prog 68 (.int .u8) := ⟨Try.underlying68⟩
theorem fA68 : Agg Try.prog 68 false := ⟨Try.isAgg68⟩
theorem fS68 : Sz Try.prog 68 1 := ⟨Try.sizeOf68⟩
theorem fB68 : By Try.prog 68 1 := ⟨fun w => ⟨_, Try.typeInfo68 w, rfl⟩⟩
theorem fZ68 : Zr Try.prog 68 (.int .u8 0) := ⟨Try.zeroValue68⟩
theorem fA69 : Agg Try.prog 69 false := ⟨Try.isAgg69⟩
theorem fS69 : Sz Try.prog 69 1 := ⟨Try.sizeOf69⟩
theorem fB69 : By Try.prog 69 8 := ⟨fun w => ⟨_, Try.typeInfo69 w, rfl⟩⟩
theorem fZ69 : Zr Try.prog 69 (.nilFunc) := ⟨Try.zeroValue69⟩
theorem fU70 : Und Try.prog 70 (.pointer 5) := ⟨Try.underlying70⟩
theorem fA70 : Agg Try.prog 70 false := ⟨Try.isAgg70⟩
theorem fS70 : Sz Try.prog 70 1 := ⟨Try.sizeOf70⟩
theorem fB70 : By Try.prog 70 8 := ⟨fun w => ⟨_, Try.typeInfo70 w, rfl⟩⟩
theorem fZ70 : Zr Try.prog 70 (.pointer none) := ⟨Try.zeroValue70⟩
theorem fU71 : Und Try.prog 71 (.int .i32) := ⟨Try.underlying71⟩
theorem fA71 : Agg Try.prog 71 false := ⟨Try.isAgg71⟩
theorem fS71 : Sz Try.prog 71 1 := ⟨Try.sizeOf71⟩
theorem fB71 : By Try.prog 71 4 := ⟨fun w => ⟨_, Try.typeInfo71 w, rfl⟩⟩
theorem fZ71 : Zr Try.prog 71 (.int .i32 0) := ⟨Try.zeroValue71⟩
theorem fU72 : Und Try.prog 72 (.int .i32) := ⟨Try.underlying72⟩
theorem fA72 : Agg Try.prog 72 false := ⟨Try.isAgg72⟩
theorem fS72 : Sz Try.prog 72 1 := ⟨Try.sizeOf72⟩
theorem fB72 : By Try.prog 72 4 := ⟨fun w => ⟨_, Try.typeInfo72 w, rfl⟩⟩
theorem fZ72 : Zr Try.prog 72 (.int .i32 0) := ⟨Try.zeroValue72⟩
theorem fA73 : Agg Try.prog 73 true := ⟨Try.isAgg73⟩
theorem fS73 : Sz Try.prog 73 11 := ⟨Try.sizeOf73⟩
theorem fB73 : By Try.prog 73 48 := ⟨fun w => ⟨_, Try.typeInfo73 w, rfl⟩⟩
theorem fZ73 : Zr Try.prog 73 (.agg [.int .u64 0, .int .u64 0, .int .u32 0, .int .u8 0, .int .u8 0, .int .u8 0, .int .u8 0, .nilFunc, .pointer none, .int .i32 0, .int .i32 0].toArray) := ⟨Try.zeroValue73⟩
theorem fF73_0 : Fld Try.prog 73 0 0 := Fld.of Try.underlying73 rfl Try.sizeOf12 rfl rfl
theorem fF73_1 : Fld Try.prog 73 1 1 := Fld.of Try.underlying73 rfl Try.sizeOf12 rfl rfl
theorem fF73_2 : Fld Try.prog 73 2 2 := Fld.of Try.underlying73 rfl Try.sizeOf66 rfl rfl
theorem fF73_3 : Fld Try.prog 73 3 3 := Fld.of Try.underlying73 rfl Try.sizeOf67 rfl rfl
theorem fF73_4 : Fld Try.prog 73 4 4 := Fld.of Try.underlying73 rfl Try.sizeOf5 rfl rfl
theorem fF73_5 : Fld Try.prog 73 5 5 := Fld.of Try.underlying73 rfl Try.sizeOf5 rfl rfl
theorem fF73_6 : Fld Try.prog 73 6 6 := Fld.of Try.underlying73 rfl Try.sizeOf68 rfl rfl
theorem fF73_7 : Fld Try.prog 73 7 7 := Fld.of Try.underlying73 rfl Try.sizeOf69 rfl rfl
theorem fF73_8 : Fld Try.prog 73 8 8 := Fld.of Try.underlying73 rfl Try.sizeOf70 rfl rfl
theorem fF73_9 : Fld Try.prog 73 9 9 := Fld.of Try.underlying73 rfl Try.sizeOf71 rfl rfl
theorem fF73_10 : Fld Try.prog 73 10 10 := Fld.of Try.underlying73 rfl Try.sizeOf72 rfl rfl
theorem fL73 : Bld Try.prog 73 [(0, 1), (1, 1), (2, 1), (3, 1), (4, 1), (5, 1), (6, 1), (7, 1), (8, 1), (9, 1), (10, 1)] [.int .u64 0, .int .u64 0, .int .u32 0, .int .u8 0, .int .u8 0, .int .u8 0, .int .u8 0, .nilFunc, .pointer none, .int .i32 0, .int .i32 0] := ⟨_, Try.underlying73, Try.zeroValue73, fun w => by simp [Try.sizeOf12, Try.sizeOf5, Try.sizeOf66, Try.sizeOf67, Try.sizeOf68, Try.sizeOf69, Try.sizeOf70, Try.sizeOf71, Try.sizeOf72]⟩
theorem fA74 : Agg Try.prog 74 true := ⟨Try.isAgg74⟩
theorem fS74 : Sz Try.prog 74 11 := ⟨Try.sizeOf74⟩
theorem fB74 : By Try.prog 74 48 := ⟨fun w => ⟨_, Try.typeInfo74 w, rfl⟩⟩
theorem fZ74 : Zr Try.prog 74 (.agg [.int .u64 0, .int .u64 0, .int .u32 0, .int .u8 0, .int .u8 0, .int .u8 0, .int .u8 0, .nilFunc, .pointer none, .int .i32 0, .int .i32 0].toArray) := ⟨Try.zeroValue74⟩
theorem fF74_0 : Fld Try.prog 74 0 0 := Fld.of Try.underlying74 rfl Try.sizeOf12 rfl rfl
theorem fF74_1 : Fld Try.prog 74 1 1 := Fld.of Try.underlying74 rfl Try.sizeOf12 rfl rfl
theorem fF74_2 : Fld Try.prog 74 2 2 := Fld.of Try.underlying74 rfl Try.sizeOf66 rfl rfl
theorem fF74_3 : Fld Try.prog 74 3 3 := Fld.of Try.underlying74 rfl Try.sizeOf67 rfl rfl
theorem fF74_4 : Fld Try.prog 74 4 4 := Fld.of Try.underlying74 rfl Try.sizeOf5 rfl rfl
theorem fF74_5 : Fld Try.prog 74 5 5 := Fld.of Try.underlying74 rfl Try.sizeOf5 rfl rfl
theorem fF74_6 : Fld Try.prog 74 6 6 := Fld.of Try.underlying74 rfl Try.sizeOf68 rfl rfl
theorem fF74_7 : Fld Try.prog 74 7 7 := Fld.of Try.underlying74 rfl Try.sizeOf69 rfl rfl
theorem fF74_8 : Fld Try.prog 74 8 8 := Fld.of Try.underlying74 rfl Try.sizeOf70 rfl rfl
theorem fF74_9 : Fld Try.prog 74 9 9 := Fld.of Try.underlying74 rfl Try.sizeOf71 rfl rfl
theorem fF74_10 : Fld Try.prog 74 10 10 := Fld.of Try.underlying74 rfl Try.sizeOf72 rfl rfl
theorem fL74 : Bld Try.prog 74 [(0, 1), (1, 1), (2, 1), (3, 1), (4, 1), (5, 1), (6, 1), (7, 1), (8, 1), (9, 1), (10, 1)] [.int .u64 0, .int .u64 0, .int .u32 0, .int .u8 0, .int .u8 0, .int .u8 0, .int .u8 0, .nilFunc, .pointer none, .int .i32 0, .int .i32 0] := ⟨_, Try.underlying74, Try.zeroValue74, fun w => by simp [Try.sizeOf12, Try.sizeOf5, Try.sizeOf66, Try.sizeOf67, Try.sizeOf68, Try.sizeOf69, Try.sizeOf70, Try.sizeOf71, Try.sizeOf72]⟩
theorem fA75 : Agg Try.prog 75 false := ⟨Try.isAgg75⟩
theorem fS75 : Sz Try.prog 75 1 := ⟨Try.sizeOf75⟩
theorem fB75 : By Try.prog 75 8 := ⟨fun w => ⟨_, Try.typeInfo75 w, rfl⟩⟩
theorem fZ75 : Zr Try.prog 75 (.pointer none) := ⟨Try.zeroValue75⟩
theorem fQ2 : EqT Try.prog 2 1 [.i .i64] false := EqT.int fU2 fA2
theorem fQ3 : EqT Try.prog 3 1 [.i .i64] false := EqT.int fU3 fA3
theorem fQ4 : EqT Try.prog 4 1 [.b] false := EqT.bool fU4 fA4
theorem fQ5 : EqT Try.prog 5 1 [.i .u8] false := EqT.int fU5 fA5
theorem fQ6 : EqT Try.prog 6 1 [.i .u8] false := EqT.int fU6 fA6
theorem fQ9 : EqT Try.prog 9 1 [.s] false := EqT.str fU9 fA9
theorem fQ10 : EqT Try.prog 10 1 [.s] false := EqT.str fU10 fA10
theorem fQ11 : EqT Try.prog 11 1 [.s] false := EqT.str fU11 fA11
theorem fQ12 : EqT Try.prog 12 1 [.i .u64] false := EqT.int fU12 fA12
theorem fQ21 : EqT Try.prog 21 1 [.i .i32] false := EqT.int fU21 fA21
theorem fQ24 : EqT Try.prog 24 1 [.i .i64] false := EqT.int fU24 fA24
theorem fQ30 : EqT Try.prog 30 1 [.i .u64] false := EqT.int fU30 fA30
theorem fQ31 : EqT Try.prog 31 2 [.s, .s] true := EqT.struct (n := 1) Try.underlying31 Try.stoodInHeld31 fA31 fS31 (EqFs.more fQ9 (EqFs.more fQ9 EqFs.nil))
theorem fG31 : EqG Try.prog 31 := ⟨Try.eqGuardType31⟩
theorem fQ32 : EqT Try.prog 32 2 [.s, .s] true := EqT.struct (n := 1) Try.underlying32 Try.stoodInHeld32 fA32 fS32 (EqFs.more fQ9 (EqFs.more fQ9 EqFs.nil))
theorem fG32 : EqG Try.prog 32 := ⟨Try.eqGuardType32⟩
theorem fQ33 : EqT Try.prog 33 3 [.i .u64, .i .i64, .s, .s, .s, .s] true := EqT.struct (n := 2) Try.underlying33 Try.stoodInHeld33 fA33 fS33 (EqFs.more fQ30 (EqFs.more fQ3 (EqFs.more fQ32 (EqFs.more fQ9 (EqFs.more fQ9 EqFs.nil)))))
theorem fG33 : EqG Try.prog 33 := ⟨Try.eqGuardType33⟩
theorem fQ34 : EqT Try.prog 34 3 [.i .u64, .i .i64, .s, .s, .s, .s] true := EqT.struct (n := 2) Try.underlying34 Try.stoodInHeld34 fA34 fS34 (EqFs.more fQ30 (EqFs.more fQ3 (EqFs.more fQ32 (EqFs.more fQ9 (EqFs.more fQ9 EqFs.nil)))))
theorem fG34 : EqG Try.prog 34 := ⟨Try.eqGuardType34⟩
theorem fQ35 : EqT Try.prog 35 4 [.i .i64, .i .u64, .i .i64, .s, .s, .s, .s, .b, .i .u64] true := EqT.struct (n := 3) Try.underlying35 Try.stoodInHeld35 fA35 fS35 (EqFs.more fQ3 (EqFs.more fQ34 (EqFs.more fQ4 (EqFs.more fQ30 EqFs.nil))))
theorem fG35 : EqG Try.prog 35 := ⟨Try.eqGuardType35⟩
theorem fQ36 : EqT Try.prog 36 4 [.i .i64, .i .u64, .i .i64, .s, .s, .s, .s, .b, .i .u64] true := EqT.struct (n := 3) Try.underlying36 Try.stoodInHeld36 fA36 fS36 (EqFs.more fQ3 (EqFs.more fQ34 (EqFs.more fQ4 (EqFs.more fQ30 EqFs.nil))))
theorem fG36 : EqG Try.prog 36 := ⟨Try.eqGuardType36⟩
theorem fQ38 : EqT Try.prog 38 3 [.i .u64, .i .i64, .s, .s, .s, .s] true := EqT.struct (n := 2) Try.underlying38 Try.stoodInHeld38 fA38 fS38 (EqFs.more fQ30 (EqFs.more fQ3 (EqFs.more fQ32 (EqFs.more fQ9 (EqFs.more fQ9 EqFs.nil)))))
theorem fG38 : EqG Try.prog 38 := ⟨Try.eqGuardType38⟩
theorem fQ66 : EqT Try.prog 66 1 [.i .u32] false := EqT.int fU66 fA66
theorem fQ67 : EqT Try.prog 67 1 [.i .u8] false := EqT.int fU67 fA67
theorem fQ68 : EqT Try.prog 68 1 [.i .u8] false := EqT.int fU68 fA68
theorem fQ71 : EqT Try.prog 71 1 [.i .i32] false := EqT.int fU71 fA71
theorem fQ72 : EqT Try.prog 72 1 [.i .i32] false := EqT.int fU72 fA72
theorem fE3 : Ent Try.prog 3 := ⟨Try.call3⟩
theorem fE4 : Ent Try.prog 4 := ⟨Try.call4⟩
theorem fE5 : Ent Try.prog 5 := ⟨Try.call5⟩
theorem fE6 : Ent Try.prog 6 := ⟨Try.call6⟩
theorem fE7 : Ent Try.prog 7 := ⟨Try.call7⟩
theorem fE8 : Ent Try.prog 8 := ⟨Try.call8⟩
theorem fE9 : Ent Try.prog 9 := ⟨Try.call9⟩
theorem fE10 : Ent Try.prog 10 := ⟨Try.call10⟩
theorem fE11 : Ent Try.prog 11 := ⟨Try.call11⟩
theorem fE12 : Ent Try.prog 12 := ⟨Try.call12⟩
theorem fE13 : Ent Try.prog 13 := ⟨Try.call13⟩
theorem fE14 : Ent Try.prog 14 := ⟨Try.call14⟩
theorem fE15 : Ent Try.prog 15 := ⟨Try.call15⟩
theorem fE16 : Ent Try.prog 16 := ⟨Try.call16⟩
theorem fE17 : Ent Try.prog 17 := ⟨Try.call17⟩
theorem fE18 : Ent Try.prog 18 := ⟨Try.call18⟩
theorem fE19 : Ent Try.prog 19 := ⟨Try.call19⟩
attribute [instance] fA0 fS0 fB0 fA1 fS1 fB1 fZ1 fU2 fA2 fS2 fB2 fZ2 fU3 fA3 fS3 fB3 fZ3 fU4 fA4 fS4 fB4 fZ4 fU5 fA5 fS5 fB5 fZ5 fU6 fA6 fS6 fB6 fZ6 fA7 fS7 fB7 fZ7 fF7_0 fF7_1 fF7_2 fF7_3 fL7 fA8 fS8 fB8 fZ8 fF8_0 fF8_1 fF8_2 fF8_3 fL8 fU9 fA9 fS9 fB9 fZ9 fU10 fA10 fS10 fB10 fZ10 fU11 fA11 fS11 fB11 fZ11 fU12 fA12 fS12 fB12 fZ12 fA13 fS13 fB13 fZ13 fF13_0 fF13_1 fL13 fA14 fS14 fB14 fZ14 fF14_0 fF14_1 fL14 fU15 fA15 fS15 fB15 fZ15 fU16 fA16 fS16 fB16 fZ16 fU17 fA17 fS17 fB17 fZ17 fA18 fS18 fB18 fZ18 fF18_0 fL18 fA19 fS19 fB19 fZ19 fF19_0 fL19 fA20 fS20 fB20 fZ20 fU21 fA21 fS21 fB21 fZ21 fU22 fA22 fS22 fB22 fZ22 fU23 fA23 fS23 fB23 fZ23 fU24 fA24 fS24 fB24 fZ24 fA25 fS25 fB25 fA26 fS26 fB26 fZ26 fU27 fA27 fS27 fB27 fZ27 fA28 fS28 fB28 fA29 fS29 fB29 fZ29 fU30 fA30 fS30 fB30 fZ30 fA31 fS31 fB31 fZ31 fF31_0 fF31_1 fL31 fA32 fS32 fB32 fZ32 fF32_0 fF32_1 fL32 fA33 fS33 fB33 fZ33 fF33_0 fF33_1 fF33_2 fF33_3 fF33_4 fL33 fA34 fS34 fB34 fZ34 fF34_0 fF34_1 fF34_2 fF34_3 fF34_4 fL34 fA35 fS35 fB35 fZ35 fF35_0 fF35_1 fF35_2 fF35_3 fL35 fA36 fS36 fB36 fZ36 fF36_0 fF36_1 fF36_2 fF36_3 fL36 fA37 fS37 fB37 fZ37 fA38 fS38 fB38 fZ38 fF38_0 fF38_1 fF38_2 fF38_3 fF38_4 fL38 fA39 fS39 fB39 fZ39 fA40 fS40 fB40 fZ40 fA41 fS41 fB41 fZ41 fA42 fS42 fB42 fZ42 fU43 fA43 fS43 fB43 fZ43 fU44 fA44 fS44 fB44 fZ44 fA45 fS45 fB45 fZ45 fF45_0 fF45_1 fF45_2 fL45 fA46 fS46 fB46 fZ46 fF46_0 fF46_1 fF46_2 fL46 fA47 fS47 fB47 fA48 fS48 fB48 fZ48 fA49 fS49 fB49 fZ49 fA50 fS50 fB50 fZ50 fA51 fS51 fB51 fZ51 fU52 fA52 fS52 fB52 fZ52 fU53 fA53 fS53 fB53 fZ53 fA54 fS54 fB54 fZ54 fF54_0 fF54_1 fF54_2 fF54_3 fF54_4 fL54 fA55 fS55 fB55 fZ55 fF55_0 fF55_1 fF55_2 fF55_3 fF55_4 fL55 fA56 fS56 fB56 fZ56 fA57 fS57 fB57 fZ57 fA58 fS58 fB58 fZ58 fA59 fS59 fB59 fZ59 fA60 fS60 fB60 fZ60 fA61 fS61 fB61 fZ61 fF61_0 fF61_1 fF61_2 fF61_3 fL61 fA62 fS62 fB62 fZ62 fF62_0 fF62_1 fF62_2 fF62_3 fL62 fU63 fA63 fS63 fB63 fZ63 fA64 fS64 fB64 fZ64 fL64 fA65 fS65 fB65 fZ65 fL65 fU66 fA66 fS66 fB66 fZ66 fU67 fA67 fS67 fB67 fZ67 fU68 fA68 fS68 fB68 fZ68 fA69 fS69 fB69 fZ69 fU70 fA70 fS70 fB70 fZ70 fU71 fA71 fS71 fB71 fZ71 fU72 fA72 fS72 fB72 fZ72 fA73 fS73 fB73 fZ73 fF73_0 fF73_1 fF73_2 fF73_3 fF73_4 fF73_5 fF73_6 fF73_7 fF73_8 fF73_9 fF73_10 fL73 fA74 fS74 fB74 fZ74 fF74_0 fF74_1 fF74_2 fF74_3 fF74_4 fF74_5 fF74_6 fF74_7 fF74_8 fF74_9 fF74_10 fL74 fA75 fS75 fB75 fZ75 fQ2 fQ3 fQ4 fQ5 fQ6 fQ9 fQ10 fQ11 fQ12 fQ21 fQ24 fQ30 fQ31 fG31 fQ32 fG32 fQ33 fG33 fQ34 fG34 fQ35 fG35 fQ36 fG36 fQ38 fG38 fQ66 fQ67 fQ68 fQ71 fQ72 fE3 fE4 fE5 fE6 fE7 fE8 fE9 fE10 fE11 fE12 fE13 fE14 fE15 fE16 fE17 fE18 fE19
theorem mixed : Try.prog.follows .mixedOrders = true := by kernel_rfl
end Go.Proofs.Ythflndnbdgelnaa

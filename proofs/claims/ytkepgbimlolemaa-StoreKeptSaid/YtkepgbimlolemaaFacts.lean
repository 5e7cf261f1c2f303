/- The facts on the types and functions of this seat's program, by program out of its translation; no condition. -/
import Derived.Test.YtkepgbimlolemaaMot3
import Derived.Test.YtkepgbimlolemaaChecked
set_option linter.unusedVariables false
namespace Go.Proofs.Ytkepgbimlolemaa

theorem fA0 : Agg Try.prog 0 false := ⟨Try.isAgg0⟩
theorem fS0 : Sz Try.prog 0 1 := ⟨Try.sizeOf0⟩
theorem fB0 : By Try.prog 0 0 := ⟨fun w => ⟨_, Try.typeInfo0 w, rfl⟩⟩
theorem fA1 : Agg Try.prog 1 false := ⟨Try.isAgg1⟩
theorem fS1 : Sz Try.prog 1 1 := ⟨Try.sizeOf1⟩
theorem fB1 : By Try.prog 1 8 := ⟨fun w => ⟨_, Try.typeInfo1 w, rfl⟩⟩
theorem fZ1 : Zr Try.prog 1 (.nilFunc) := ⟨Try.zeroValue1⟩
theorem fU2 : Und Try.prog 2 (.int .i64) := ⟨Try.underlying2⟩
theorem fA2 : Agg Try.prog 2 false := ⟨Try.isAgg2⟩
theorem fS2 : Sz Try.prog 2 1 := ⟨Try.sizeOf2⟩
theorem fB2 : By Try.prog 2 8 := ⟨fun w => ⟨_, Try.typeInfo2 w, rfl⟩⟩
theorem fZ2 : Zr Try.prog 2 (.int .i64 0) := ⟨Try.zeroValue2⟩
theorem fU3 : Und Try.prog 3 (.int .i64) := ⟨Try.underlying3⟩
theorem fA3 : Agg Try.prog 3 false := ⟨Try.isAgg3⟩
theorem fS3 : Sz Try.prog 3 1 := ⟨Try.sizeOf3⟩
theorem fB3 : By Try.prog 3 8 := ⟨fun w => ⟨_, Try.typeInfo3 w, rfl⟩⟩
theorem fZ3 : Zr Try.prog 3 (.int .i64 0) := ⟨Try.zeroValue3⟩
theorem fU4 : Und Try.prog 4 (.bool) := ⟨Try.underlying4⟩
theorem fA4 : Agg Try.prog 4 false := ⟨Try.isAgg4⟩
theorem fS4 : Sz Try.prog 4 1 := ⟨Try.sizeOf4⟩
theorem fB4 : By Try.prog 4 1 := ⟨fun w => ⟨_, Try.typeInfo4 w, rfl⟩⟩
theorem fZ4 : Zr Try.prog 4 (.bool false) := ⟨Try.zeroValue4⟩
theorem fU5 : Und Try.prog 5 (.int .u8) := ⟨Try.underlying5⟩
theorem fA5 : Agg Try.prog 5 false := ⟨Try.isAgg5⟩
theorem fS5 : Sz Try.prog 5 1 := ⟨Try.sizeOf5⟩
theorem fB5 : By Try.prog 5 1 := ⟨fun w => ⟨_, Try.typeInfo5 w, rfl⟩⟩
theorem fZ5 : Zr Try.prog 5 (.int .u8 0) := ⟨Try.zeroValue5⟩
theorem fU6 : Und Try.prog 6 (.int .u8) := ⟨Try.underlying6⟩
theorem fA6 : Agg Try.prog 6 false := ⟨Try.isAgg6⟩
theorem fS6 : Sz Try.prog 6 1 := ⟨Try.sizeOf6⟩
theorem fB6 : By Try.prog 6 1 := ⟨fun w => ⟨_, Try.typeInfo6 w, rfl⟩⟩
theorem fZ6 : Zr Try.prog 6 (.int .u8 0) := ⟨Try.zeroValue6⟩
theorem fA7 : Agg Try.prog 7 true := ⟨Try.isAgg7⟩
theorem fS7 : Sz Try.prog 7 4 := ⟨Try.sizeOf7⟩
theorem fB7 : By Try.prog 7 24 := ⟨fun w => ⟨_, Try.typeInfo7 w, rfl⟩⟩
theorem fZ7 : Zr Try.prog 7 (.agg [.int .i64 0, .int .i64 0, .bool false, .int .u8 0].toArray) := ⟨Try.zeroValue7⟩
theorem fF7_0 : Fld Try.prog 7 0 0 := Fld.of Try.underlying7 rfl Try.sizeOf2 rfl rfl
theorem fF7_1 : Fld Try.prog 7 1 1 := Fld.of Try.underlying7 rfl Try.sizeOf3 rfl rfl
theorem fF7_2 : Fld Try.prog 7 2 2 := Fld.of Try.underlying7 rfl Try.sizeOf4 rfl rfl
theorem fF7_3 : Fld Try.prog 7 3 3 := Fld.of Try.underlying7 rfl Try.sizeOf6 rfl rfl
theorem fL7 : Bld Try.prog 7 [(0, 1), (1, 1), (2, 1), (3, 1)] [.int .i64 0, .int .i64 0, .bool false, .int .u8 0] := ⟨_, Try.underlying7, Try.zeroValue7, fun w => by simp [Try.sizeOf2, Try.sizeOf3, Try.sizeOf4, Try.sizeOf6]⟩
theorem fA8 : Agg Try.prog 8 true := ⟨Try.isAgg8⟩
theorem fS8 : Sz Try.prog 8 4 := ⟨Try.sizeOf8⟩
theorem fB8 : By Try.prog 8 24 := ⟨fun w => ⟨_, Try.typeInfo8 w, rfl⟩⟩
theorem fZ8 : Zr Try.prog 8 (.agg [.int .i64 0, .int .i64 0, .bool false, .int .u8 0].toArray) := ⟨Try.zeroValue8⟩
theorem fF8_0 : Fld Try.prog 8 0 0 := Fld.of Try.underlying8 rfl Try.sizeOf2 rfl rfl
theorem fF8_1 : Fld Try.prog 8 1 1 := Fld.of Try.underlying8 rfl Try.sizeOf3 rfl rfl
theorem fF8_2 : Fld Try.prog 8 2 2 := Fld.of Try.underlying8 rfl Try.sizeOf4 rfl rfl
theorem fF8_3 : Fld Try.prog 8 3 3 := Fld.of Try.underlying8 rfl Try.sizeOf6 rfl rfl
theorem fL8 : Bld Try.prog 8 [(0, 1), (1, 1), (2, 1), (3, 1)] [.int .i64 0, .int .i64 0, .bool false, .int .u8 0] := ⟨_, Try.underlying8, Try.zeroValue8, fun w => by simp [Try.sizeOf2, Try.sizeOf3, Try.sizeOf4, Try.sizeOf6]⟩
theorem fU9 : Und Try.prog 9 (.string) := ⟨Try.underlying9⟩
theorem fA9 : Agg Try.prog 9 false := ⟨Try.isAgg9⟩
theorem fS9 : Sz Try.prog 9 1 := ⟨Try.sizeOf9⟩
theorem fB9 : By Try.prog 9 16 := ⟨fun w => ⟨_, Try.typeInfo9 w, rfl⟩⟩
theorem fZ9 : Zr Try.prog 9 (.string { data := #[] }) := ⟨Try.zeroValue9⟩
theorem fU10 : Und Try.prog 10 (.string) := ⟨Try.underlying10⟩
theorem fA10 : Agg Try.prog 10 false := ⟨Try.isAgg10⟩
theorem fS10 : Sz Try.prog 10 1 := ⟨Try.sizeOf10⟩
theorem fB10 : By Try.prog 10 16 := ⟨fun w => ⟨_, Try.typeInfo10 w, rfl⟩⟩
theorem fZ10 : Zr Try.prog 10 (.string { data := #[] }) := ⟨Try.zeroValue10⟩
theorem fU11 : Und Try.prog 11 (.string) := ⟨Try.underlying11⟩
theorem fA11 : Agg Try.prog 11 false := ⟨Try.isAgg11⟩
theorem fS11 : Sz Try.prog 11 1 := ⟨Try.sizeOf11⟩
theorem fB11 : By Try.prog 11 16 := ⟨fun w => ⟨_, Try.typeInfo11 w, rfl⟩⟩
theorem fZ11 : Zr Try.prog 11 (.string { data := #[] }) := ⟨Try.zeroValue11⟩
theorem fU12 : Und Try.prog 12 (.int .u64) := ⟨Try.underlying12⟩
theorem fA12 : Agg Try.prog 12 false := ⟨Try.isAgg12⟩
theorem fS12 : Sz Try.prog 12 1 := ⟨Try.sizeOf12⟩
theorem fB12 : By Try.prog 12 8 := ⟨fun w => ⟨_, Try.typeInfo12 w, rfl⟩⟩
theorem fZ12 : Zr Try.prog 12 (.int .u64 0) := ⟨Try.zeroValue12⟩
theorem fA13 : Agg Try.prog 13 true := ⟨Try.isAgg13⟩
theorem fS13 : Sz Try.prog 13 2 := ⟨Try.sizeOf13⟩
theorem fB13 : By Try.prog 13 24 := ⟨fun w => ⟨_, Try.typeInfo13 w, rfl⟩⟩
theorem fZ13 : Zr Try.prog 13 (.agg [.string { data := #[] }, .int .u64 0].toArray) := ⟨Try.zeroValue13⟩
theorem fF13_0 : Fld Try.prog 13 0 0 := Fld.of Try.underlying13 rfl Try.sizeOf9 rfl rfl
theorem fF13_1 : Fld Try.prog 13 1 1 := Fld.of Try.underlying13 rfl Try.sizeOf12 rfl rfl
theorem fL13 : Bld Try.prog 13 [(0, 1), (1, 1)] [.string { data := #[] }, .int .u64 0] := ⟨_, Try.underlying13, Try.zeroValue13, fun w => by simp [Try.sizeOf12, Try.sizeOf9]⟩
theorem fA14 : Agg Try.prog 14 true := ⟨Try.isAgg14⟩
theorem fS14 : Sz Try.prog 14 2 := ⟨Try.sizeOf14⟩
theorem fB14 : By Try.prog 14 24 := ⟨fun w => ⟨_, Try.typeInfo14 w, rfl⟩⟩
theorem fZ14 : Zr Try.prog 14 (.agg [.string { data := #[] }, .int .u64 0].toArray) := ⟨Try.zeroValue14⟩
theorem fF14_0 : Fld Try.prog 14 0 0 := Fld.of Try.underlying14 rfl Try.sizeOf9 rfl rfl
theorem fF14_1 : Fld Try.prog 14 1 1 := Fld.of Try.underlying14 rfl Try.sizeOf12 rfl rfl
theorem fL14 : Bld Try.prog 14 [(0, 1), (1, 1)] [.string { data := #[] }, .int .u64 0] := ⟨_, Try.underlying14, Try.zeroValue14, fun w => by simp [Try.sizeOf12, Try.sizeOf9]⟩
theorem fU15 : Und Try.prog 15 (.pointer 234) := ⟨Try.underlying15⟩
theorem fA15 : Agg Try.prog 15 false := ⟨Try.isAgg15⟩
theorem fS15 : Sz Try.prog 15 1 := ⟨Try.sizeOf15⟩
theorem fB15 : By Try.prog 15 8 := ⟨fun w => ⟨_, Try.typeInfo15 w, rfl⟩⟩
theorem fZ15 : Zr Try.prog 15 (.pointer none) := ⟨Try.zeroValue15⟩
theorem fU16 : Und Try.prog 16 (.pointer 237) := ⟨Try.underlying16⟩
theorem fA16 : Agg Try.prog 16 false := ⟨Try.isAgg16⟩
theorem fS16 : Sz Try.prog 16 1 := ⟨Try.sizeOf16⟩
theorem fB16 : By Try.prog 16 8 := ⟨fun w => ⟨_, Try.typeInfo16 w, rfl⟩⟩
theorem fZ16 : Zr Try.prog 16 (.pointer none) := ⟨Try.zeroValue16⟩
theorem fU17 : Und Try.prog 17 (.pointer 245) := ⟨Try.underlying17⟩
theorem fA17 : Agg Try.prog 17 false := ⟨Try.isAgg17⟩
theorem fS17 : Sz Try.prog 17 1 := ⟨Try.sizeOf17⟩
theorem fB17 : By Try.prog 17 8 := ⟨fun w => ⟨_, Try.typeInfo17 w, rfl⟩⟩
theorem fZ17 : Zr Try.prog 17 (.pointer none) := ⟨Try.zeroValue17⟩
theorem fA18 : Agg Try.prog 18 true := ⟨Try.isAgg18⟩
theorem fS18 : Sz Try.prog 18 1 := ⟨Try.sizeOf18⟩
theorem fB18 : By Try.prog 18 8 := ⟨fun w => ⟨_, Try.typeInfo18 w, rfl⟩⟩
theorem fZ18 : Zr Try.prog 18 (.agg [.pointer none].toArray) := ⟨Try.zeroValue18⟩
theorem fF18_0 : Fld Try.prog 18 0 0 := Fld.of Try.underlying18 rfl Try.sizeOf17 rfl rfl
theorem fL18 : Bld Try.prog 18 [(0, 1)] [.pointer none] := ⟨_, Try.underlying18, Try.zeroValue18, fun w => by simp [Try.sizeOf17]⟩
theorem fA19 : Agg Try.prog 19 true := ⟨Try.isAgg19⟩
theorem fS19 : Sz Try.prog 19 1 := ⟨Try.sizeOf19⟩
theorem fB19 : By Try.prog 19 8 := ⟨fun w => ⟨_, Try.typeInfo19 w, rfl⟩⟩
theorem fZ19 : Zr Try.prog 19 (.agg [.pointer none].toArray) := ⟨Try.zeroValue19⟩
theorem fF19_0 : Fld Try.prog 19 0 0 := Fld.of Try.underlying19 rfl Try.sizeOf17 rfl rfl
theorem fL19 : Bld Try.prog 19 [(0, 1)] [.pointer none] := ⟨_, Try.underlying19, Try.zeroValue19, fun w => by simp [Try.sizeOf17]⟩
theorem fA20 : Agg Try.prog 20 false := ⟨Try.isAgg20⟩
theorem fS20 : Sz Try.prog 20 1 := ⟨Try.sizeOf20⟩
theorem fB20 : By Try.prog 20 16 := ⟨fun w => ⟨_, Try.typeInfo20 w, rfl⟩⟩
theorem fZ20 : Zr Try.prog 20 (.nilIface) := ⟨Try.zeroValue20⟩
theorem fU21 : Und Try.prog 21 (.int .i32) := ⟨Try.underlying21⟩
theorem fA21 : Agg Try.prog 21 false := ⟨Try.isAgg21⟩
theorem fS21 : Sz Try.prog 21 1 := ⟨Try.sizeOf21⟩
theorem fB21 : By Try.prog 21 4 := ⟨fun w => ⟨_, Try.typeInfo21 w, rfl⟩⟩
theorem fZ21 : Zr Try.prog 21 (.int .i32 0) := ⟨Try.zeroValue21⟩
theorem fU22 : Und Try.prog 22 (.slice 26) := ⟨Try.underlying22⟩
theorem fA22 : Agg Try.prog 22 false := ⟨Try.isAgg22⟩
theorem fS22 : Sz Try.prog 22 1 := ⟨Try.sizeOf22⟩
theorem fB22 : By Try.prog 22 24 := ⟨fun w => ⟨_, Try.typeInfo22 w, rfl⟩⟩
theorem fZ22 : Zr Try.prog 22 (.slice none 0 0) := ⟨Try.zeroValue22⟩
theorem fU23 : Und Try.prog 23 (.slice 9) := ⟨Try.underlying23⟩
theorem fA23 : Agg Try.prog 23 false := ⟨Try.isAgg23⟩
theorem fS23 : Sz Try.prog 23 1 := ⟨Try.sizeOf23⟩
theorem fB23 : By Try.prog 23 24 := ⟨fun w => ⟨_, Try.typeInfo23 w, rfl⟩⟩
theorem fZ23 : Zr Try.prog 23 (.slice none 0 0) := ⟨Try.zeroValue23⟩
theorem fU24 : Und Try.prog 24 (.int .u64) := ⟨Try.underlying24⟩
theorem fA24 : Agg Try.prog 24 false := ⟨Try.isAgg24⟩
theorem fS24 : Sz Try.prog 24 1 := ⟨Try.sizeOf24⟩
theorem fB24 : By Try.prog 24 8 := ⟨fun w => ⟨_, Try.typeInfo24 w, rfl⟩⟩
theorem fZ24 : Zr Try.prog 24 (.int .u64 0) := ⟨Try.zeroValue24⟩
theorem fA25 : Agg Try.prog 25 true := ⟨Try.isAgg25⟩
theorem fS25 : Sz Try.prog 25 9 := ⟨Try.sizeOf25⟩
theorem fB25 : By Try.prog 25 112 := ⟨fun w => ⟨_, Try.typeInfo25 w, rfl⟩⟩
theorem fZ25 : Zr Try.prog 25 (.agg [.string { data := #[] }, .int .i64 0, .string { data := #[] }, .string { data := #[] }, .slice none 0 0, .int .i64 0, .int .i64 0, .int .u64 0, .bool false].toArray) := ⟨Try.zeroValue25⟩
theorem fF25_0 : Fld Try.prog 25 0 0 := Fld.of Try.underlying25 rfl Try.sizeOf9 rfl rfl
theorem fF25_1 : Fld Try.prog 25 1 1 := Fld.of Try.underlying25 rfl Try.sizeOf3 rfl rfl
theorem fF25_2 : Fld Try.prog 25 2 2 := Fld.of Try.underlying25 rfl Try.sizeOf9 rfl rfl
theorem fF25_3 : Fld Try.prog 25 3 3 := Fld.of Try.underlying25 rfl Try.sizeOf9 rfl rfl
theorem fF25_4 : Fld Try.prog 25 4 4 := Fld.of Try.underlying25 rfl Try.sizeOf23 rfl rfl
theorem fF25_5 : Fld Try.prog 25 5 5 := Fld.of Try.underlying25 rfl Try.sizeOf3 rfl rfl
theorem fF25_6 : Fld Try.prog 25 6 6 := Fld.of Try.underlying25 rfl Try.sizeOf2 rfl rfl
theorem fF25_7 : Fld Try.prog 25 7 7 := Fld.of Try.underlying25 rfl Try.sizeOf24 rfl rfl
theorem fF25_8 : Fld Try.prog 25 8 8 := Fld.of Try.underlying25 rfl Try.sizeOf4 rfl rfl
theorem fL25 : Bld Try.prog 25 [(0, 1), (1, 1), (2, 1), (3, 1), (4, 1), (5, 1), (6, 1), (7, 1), (8, 1)] [.string { data := #[] }, .int .i64 0, .string { data := #[] }, .string { data := #[] }, .slice none 0 0, .int .i64 0, .int .i64 0, .int .u64 0, .bool false] := ⟨_, Try.underlying25, Try.zeroValue25, fun w => by simp [Try.sizeOf2, Try.sizeOf23, Try.sizeOf24, Try.sizeOf3, Try.sizeOf4, Try.sizeOf9]⟩
theorem fA26 : Agg Try.prog 26 true := ⟨Try.isAgg26⟩
theorem fS26 : Sz Try.prog 26 9 := ⟨Try.sizeOf26⟩
theorem fB26 : By Try.prog 26 112 := ⟨fun w => ⟨_, Try.typeInfo26 w, rfl⟩⟩
theorem fZ26 : Zr Try.prog 26 (.agg [.string { data := #[] }, .int .i64 0, .string { data := #[] }, .string { data := #[] }, .slice none 0 0, .int .i64 0, .int .i64 0, .int .u64 0, .bool false].toArray) := ⟨Try.zeroValue26⟩
theorem fF26_0 : Fld Try.prog 26 0 0 := Fld.of Try.underlying26 rfl Try.sizeOf9 rfl rfl
theorem fF26_1 : Fld Try.prog 26 1 1 := Fld.of Try.underlying26 rfl Try.sizeOf3 rfl rfl
theorem fF26_2 : Fld Try.prog 26 2 2 := Fld.of Try.underlying26 rfl Try.sizeOf9 rfl rfl
theorem fF26_3 : Fld Try.prog 26 3 3 := Fld.of Try.underlying26 rfl Try.sizeOf9 rfl rfl
theorem fF26_4 : Fld Try.prog 26 4 4 := Fld.of Try.underlying26 rfl Try.sizeOf23 rfl rfl
theorem fF26_5 : Fld Try.prog 26 5 5 := Fld.of Try.underlying26 rfl Try.sizeOf3 rfl rfl
theorem fF26_6 : Fld Try.prog 26 6 6 := Fld.of Try.underlying26 rfl Try.sizeOf2 rfl rfl
theorem fF26_7 : Fld Try.prog 26 7 7 := Fld.of Try.underlying26 rfl Try.sizeOf24 rfl rfl
theorem fF26_8 : Fld Try.prog 26 8 8 := Fld.of Try.underlying26 rfl Try.sizeOf4 rfl rfl
theorem fL26 : Bld Try.prog 26 [(0, 1), (1, 1), (2, 1), (3, 1), (4, 1), (5, 1), (6, 1), (7, 1), (8, 1)] [.string { data := #[] }, .int .i64 0, .string { data := #[] }, .string { data := #[] }, .slice none 0 0, .int .i64 0, .int .i64 0, .int .u64 0, .bool false] := ⟨_, Try.underlying26, Try.zeroValue26, fun w => by simp [Try.sizeOf2, Try.sizeOf23, Try.sizeOf24, Try.sizeOf3, Try.sizeOf4, Try.sizeOf9]⟩
theorem fA27 : Agg Try.prog 27 true := ⟨Try.isAgg27⟩
theorem fS27 : Sz Try.prog 27 15 := ⟨Try.sizeOf27⟩
theorem fB27 : By Try.prog 27 184 := ⟨fun w => ⟨_, Try.typeInfo27 w, rfl⟩⟩
theorem fZ27 : Zr Try.prog 27 (.agg [.int .i64 0, .string { data := #[] }, .int .i64 0, .string { data := #[] }, .string { data := #[] }, .slice none 0 0, .int .i64 0, .int .i64 0, .int .u64 0, .bool false, .string { data := #[] }, .string { data := #[] }, .string { data := #[] }, .int .i64 0, .int .i64 0].toArray) := ⟨Try.zeroValue27⟩
theorem fF27_0 : Fld Try.prog 27 0 0 := Fld.of Try.underlying27 rfl Try.sizeOf3 rfl rfl
theorem fF27_1 : Fld Try.prog 27 1 1 := Fld.of Try.underlying27 rfl Try.sizeOf26 rfl rfl
theorem fF27_2 : Fld Try.prog 27 2 10 := Fld.of Try.underlying27 rfl Try.sizeOf9 rfl rfl
theorem fF27_3 : Fld Try.prog 27 3 11 := Fld.of Try.underlying27 rfl Try.sizeOf9 rfl rfl
theorem fF27_4 : Fld Try.prog 27 4 12 := Fld.of Try.underlying27 rfl Try.sizeOf9 rfl rfl
theorem fF27_5 : Fld Try.prog 27 5 13 := Fld.of Try.underlying27 rfl Try.sizeOf3 rfl rfl
theorem fF27_6 : Fld Try.prog 27 6 14 := Fld.of Try.underlying27 rfl Try.sizeOf2 rfl rfl
theorem fL27 : Bld Try.prog 27 [(0, 1), (1, 9), (10, 1), (11, 1), (12, 1), (13, 1), (14, 1)] [.int .i64 0, .string { data := #[] }, .int .i64 0, .string { data := #[] }, .string { data := #[] }, .slice none 0 0, .int .i64 0, .int .i64 0, .int .u64 0, .bool false, .string { data := #[] }, .string { data := #[] }, .string { data := #[] }, .int .i64 0, .int .i64 0] := ⟨_, Try.underlying27, Try.zeroValue27, fun w => by simp [Try.sizeOf2, Try.sizeOf26, Try.sizeOf3, Try.sizeOf9]⟩
theorem fA28 : Agg Try.prog 28 true := ⟨Try.isAgg28⟩
theorem fS28 : Sz Try.prog 28 15 := ⟨Try.sizeOf28⟩
theorem fB28 : By Try.prog 28 184 := ⟨fun w => ⟨_, Try.typeInfo28 w, rfl⟩⟩
theorem fZ28 : Zr Try.prog 28 (.agg [.int .i64 0, .string { data := #[] }, .int .i64 0, .string { data := #[] }, .string { data := #[] }, .slice none 0 0, .int .i64 0, .int .i64 0, .int .u64 0, .bool false, .string { data := #[] }, .string { data := #[] }, .string { data := #[] }, .int .i64 0, .int .i64 0].toArray) := ⟨Try.zeroValue28⟩
theorem fF28_0 : Fld Try.prog 28 0 0 := Fld.of Try.underlying28 rfl Try.sizeOf3 rfl rfl
theorem fF28_1 : Fld Try.prog 28 1 1 := Fld.of Try.underlying28 rfl Try.sizeOf26 rfl rfl
theorem fF28_2 : Fld Try.prog 28 2 10 := Fld.of Try.underlying28 rfl Try.sizeOf9 rfl rfl
theorem fF28_3 : Fld Try.prog 28 3 11 := Fld.of Try.underlying28 rfl Try.sizeOf9 rfl rfl
theorem fF28_4 : Fld Try.prog 28 4 12 := Fld.of Try.underlying28 rfl Try.sizeOf9 rfl rfl
theorem fF28_5 : Fld Try.prog 28 5 13 := Fld.of Try.underlying28 rfl Try.sizeOf3 rfl rfl
theorem fF28_6 : Fld Try.prog 28 6 14 := Fld.of Try.underlying28 rfl Try.sizeOf2 rfl rfl
theorem fL28 : Bld Try.prog 28 [(0, 1), (1, 9), (10, 1), (11, 1), (12, 1), (13, 1), (14, 1)] [.int .i64 0, .string { data := #[] }, .int .i64 0, .string { data := #[] }, .string { data := #[] }, .slice none 0 0, .int .i64 0, .int .i64 0, .int .u64 0, .bool false, .string { data := #[] }, .string { data := #[] }, .string { data := #[] }, .int .i64 0, .int .i64 0] := ⟨_, Try.underlying28, Try.zeroValue28, fun w => by simp [Try.sizeOf2, Try.sizeOf26, Try.sizeOf3, Try.sizeOf9]⟩
theorem fU29 : Und Try.prog 29 (.pointer 65) := ⟨Try.underlying29⟩
theorem fA29 : Agg Try.prog 29 false := ⟨Try.isAgg29⟩
theorem fS29 : Sz Try.prog 29 1 := ⟨Try.sizeOf29⟩
theorem fB29 : By Try.prog 29 8 := ⟨fun w => ⟨_, Try.typeInfo29 w, rfl⟩⟩
theorem fZ29 : Zr Try.prog 29 (.pointer none) := ⟨Try.zeroValue29⟩
theorem fA30 : Agg Try.prog 30 false := ⟨Try.isAgg30⟩
theorem fS30 : Sz Try.prog 30 1 := ⟨Try.sizeOf30⟩
theorem fB30 : By Try.prog 30 8 := ⟨fun w => ⟨_, Try.typeInfo30 w, rfl⟩⟩
theorem fZ30 : Zr Try.prog 30 (.nilFunc) := ⟨Try.zeroValue30⟩
theorem fA31 : Agg Try.prog 31 false := ⟨Try.isAgg31⟩
theorem fS31 : Sz Try.prog 31 1 := ⟨Try.sizeOf31⟩
theorem fB31 : By Try.prog 31 8 := ⟨fun w => ⟨_, Try.typeInfo31 w, rfl⟩⟩
theorem fZ31 : Zr Try.prog 31 (.nilFunc) := ⟨Try.zeroValue31⟩
theorem fU32 : Und Try.prog 32 (.int .i64) := ⟨Try.underlying32⟩
theorem fA32 : Agg Try.prog 32 false := ⟨Try.isAgg32⟩
theorem fS32 : Sz Try.prog 32 1 := ⟨Try.sizeOf32⟩
theorem fB32 : By Try.prog 32 8 := ⟨fun w => ⟨_, Try.typeInfo32 w, rfl⟩⟩
theorem fZ32 : Zr Try.prog 32 (.int .i64 0) := ⟨Try.zeroValue32⟩
theorem fA33 : Agg Try.prog 33 false := ⟨Try.isAgg33⟩
theorem fS33 : Sz Try.prog 33 1 := ⟨Try.sizeOf33⟩
theorem fB33 : By Try.prog 33 8 := ⟨fun w => ⟨_, Try.typeInfo33 w, rfl⟩⟩
theorem fZ33 : Zr Try.prog 33 (.nilFunc) := ⟨Try.zeroValue33⟩
theorem fA34 : Agg Try.prog 34 true := ⟨Try.isAgg34⟩
theorem fS34 : Sz Try.prog 34 9 := ⟨Try.sizeOf34⟩
theorem fB34 : By Try.prog 34 112 := ⟨fun w => ⟨_, Try.typeInfo34 w, rfl⟩⟩
theorem fZ34 : Zr Try.prog 34 (.agg [.string { data := #[] }, .int .i64 0, .string { data := #[] }, .string { data := #[] }, .slice none 0 0, .int .i64 0, .int .i64 0, .int .u64 0, .bool false].toArray) := ⟨Try.zeroValue34⟩
theorem fF34_0 : Fld Try.prog 34 0 0 := Fld.of Try.underlying34 rfl Try.sizeOf9 rfl rfl
theorem fF34_1 : Fld Try.prog 34 1 1 := Fld.of Try.underlying34 rfl Try.sizeOf3 rfl rfl
theorem fF34_2 : Fld Try.prog 34 2 2 := Fld.of Try.underlying34 rfl Try.sizeOf9 rfl rfl
theorem fF34_3 : Fld Try.prog 34 3 3 := Fld.of Try.underlying34 rfl Try.sizeOf9 rfl rfl
theorem fF34_4 : Fld Try.prog 34 4 4 := Fld.of Try.underlying34 rfl Try.sizeOf23 rfl rfl
theorem fF34_5 : Fld Try.prog 34 5 5 := Fld.of Try.underlying34 rfl Try.sizeOf3 rfl rfl
theorem fF34_6 : Fld Try.prog 34 6 6 := Fld.of Try.underlying34 rfl Try.sizeOf2 rfl rfl
theorem fF34_7 : Fld Try.prog 34 7 7 := Fld.of Try.underlying34 rfl Try.sizeOf24 rfl rfl
theorem fF34_8 : Fld Try.prog 34 8 8 := Fld.of Try.underlying34 rfl Try.sizeOf4 rfl rfl
theorem fL34 : Bld Try.prog 34 [(0, 1), (1, 1), (2, 1), (3, 1), (4, 1), (5, 1), (6, 1), (7, 1), (8, 1)] [.string { data := #[] }, .int .i64 0, .string { data := #[] }, .string { data := #[] }, .slice none 0 0, .int .i64 0, .int .i64 0, .int .u64 0, .bool false] := ⟨_, Try.underlying34, Try.zeroValue34, fun w => by simp [Try.sizeOf2, Try.sizeOf23, Try.sizeOf24, Try.sizeOf3, Try.sizeOf4, Try.sizeOf9]⟩
theorem fA35 : Agg Try.prog 35 false := ⟨Try.isAgg35⟩
theorem fS35 : Sz Try.prog 35 1 := ⟨Try.sizeOf35⟩
theorem fB35 : By Try.prog 35 8 := ⟨fun w => ⟨_, Try.typeInfo35 w, rfl⟩⟩
theorem fZ35 : Zr Try.prog 35 (.nilFunc) := ⟨Try.zeroValue35⟩
theorem fU36 : Und Try.prog 36 (.slice 34) := ⟨Try.underlying36⟩
theorem fA36 : Agg Try.prog 36 false := ⟨Try.isAgg36⟩
theorem fS36 : Sz Try.prog 36 1 := ⟨Try.sizeOf36⟩
theorem fB36 : By Try.prog 36 24 := ⟨fun w => ⟨_, Try.typeInfo36 w, rfl⟩⟩
theorem fZ36 : Zr Try.prog 36 (.slice none 0 0) := ⟨Try.zeroValue36⟩
theorem fA37 : Agg Try.prog 37 false := ⟨Try.isAgg37⟩
theorem fS37 : Sz Try.prog 37 1 := ⟨Try.sizeOf37⟩
theorem fB37 : By Try.prog 37 8 := ⟨fun w => ⟨_, Try.typeInfo37 w, rfl⟩⟩
theorem fZ37 : Zr Try.prog 37 (.nilFunc) := ⟨Try.zeroValue37⟩
theorem fA38 : Agg Try.prog 38 false := ⟨Try.isAgg38⟩
theorem fS38 : Sz Try.prog 38 1 := ⟨Try.sizeOf38⟩
theorem fB38 : By Try.prog 38 8 := ⟨fun w => ⟨_, Try.typeInfo38 w, rfl⟩⟩
theorem fZ38 : Zr Try.prog 38 (.nilFunc) := ⟨Try.zeroValue38⟩
theorem fA39 : Agg Try.prog 39 false := ⟨Try.isAgg39⟩
theorem fS39 : Sz Try.prog 39 1 := ⟨Try.sizeOf39⟩
theorem fB39 : By Try.prog 39 8 := ⟨fun w => ⟨_, Try.typeInfo39 w, rfl⟩⟩
theorem fZ39 : Zr Try.prog 39 (.nilFunc) := ⟨Try.zeroValue39⟩
theorem fA40 : Agg Try.prog 40 false := ⟨Try.isAgg40⟩
theorem fS40 : Sz Try.prog 40 1 := ⟨Try.sizeOf40⟩
theorem fB40 : By Try.prog 40 8 := ⟨fun w => ⟨_, Try.typeInfo40 w, rfl⟩⟩
theorem fZ40 : Zr Try.prog 40 (.nilFunc) := ⟨Try.zeroValue40⟩
theorem fA41 : Agg Try.prog 41 false := ⟨Try.isAgg41⟩
theorem fS41 : Sz Try.prog 41 1 := ⟨Try.sizeOf41⟩
theorem fB41 : By Try.prog 41 8 := ⟨fun w => ⟨_, Try.typeInfo41 w, rfl⟩⟩
theorem fZ41 : Zr Try.prog 41 (.nilFunc) := ⟨Try.zeroValue41⟩
theorem fA42 : Agg Try.prog 42 false := ⟨Try.isAgg42⟩
theorem fS42 : Sz Try.prog 42 1 := ⟨Try.sizeOf42⟩
theorem fB42 : By Try.prog 42 0 := ⟨fun w => ⟨_, Try.typeInfo42 w, rfl⟩⟩
theorem fA43 : Agg Try.prog 43 false := ⟨Try.isAgg43⟩
theorem fS43 : Sz Try.prog 43 1 := ⟨Try.sizeOf43⟩
theorem fB43 : By Try.prog 43 8 := ⟨fun w => ⟨_, Try.typeInfo43 w, rfl⟩⟩
theorem fZ43 : Zr Try.prog 43 (.nilFunc) := ⟨Try.zeroValue43⟩
theorem fA44 : Agg Try.prog 44 false := ⟨Try.isAgg44⟩
theorem fS44 : Sz Try.prog 44 1 := ⟨Try.sizeOf44⟩
theorem fB44 : By Try.prog 44 8 := ⟨fun w => ⟨_, Try.typeInfo44 w, rfl⟩⟩
theorem fZ44 : Zr Try.prog 44 (.nilFunc) := ⟨Try.zeroValue44⟩
theorem fA45 : Agg Try.prog 45 false := ⟨Try.isAgg45⟩
theorem fS45 : Sz Try.prog 45 1 := ⟨Try.sizeOf45⟩
theorem fB45 : By Try.prog 45 8 := ⟨fun w => ⟨_, Try.typeInfo45 w, rfl⟩⟩
theorem fZ45 : Zr Try.prog 45 (.nilFunc) := ⟨Try.zeroValue45⟩
theorem fU46 : Und Try.prog 46 (.slice 28) := ⟨Try.underlying46⟩
theorem fA46 : Agg Try.prog 46 false := ⟨Try.isAgg46⟩
theorem fS46 : Sz Try.prog 46 1 := ⟨Try.sizeOf46⟩
theorem fB46 : By Try.prog 46 24 := ⟨fun w => ⟨_, Try.typeInfo46 w, rfl⟩⟩
theorem fZ46 : Zr Try.prog 46 (.slice none 0 0) := ⟨Try.zeroValue46⟩
theorem fU47 : Und Try.prog 47 (.pointer 49) := ⟨Try.underlying47⟩
theorem fA47 : Agg Try.prog 47 false := ⟨Try.isAgg47⟩
theorem fS47 : Sz Try.prog 47 1 := ⟨Try.sizeOf47⟩
theorem fB47 : By Try.prog 47 8 := ⟨fun w => ⟨_, Try.typeInfo47 w, rfl⟩⟩
theorem fZ47 : Zr Try.prog 47 (.pointer none) := ⟨Try.zeroValue47⟩
theorem fA48 : Agg Try.prog 48 true := ⟨Try.isAgg48⟩
theorem fS48 : Sz Try.prog 48 2 := ⟨Try.sizeOf48⟩
theorem fB48 : By Try.prog 48 32 := ⟨fun w => ⟨_, Try.typeInfo48 w, rfl⟩⟩
theorem fZ48 : Zr Try.prog 48 (.agg [.slice none 0 0, .int .i64 0].toArray) := ⟨Try.zeroValue48⟩
theorem fF48_0 : Fld Try.prog 48 0 0 := Fld.of Try.underlying48 rfl Try.sizeOf22 rfl rfl
theorem fF48_1 : Fld Try.prog 48 1 1 := Fld.of Try.underlying48 rfl Try.sizeOf3 rfl rfl
theorem fL48 : Bld Try.prog 48 [(0, 1), (1, 1)] [.slice none 0 0, .int .i64 0] := ⟨_, Try.underlying48, Try.zeroValue48, fun w => by simp [Try.sizeOf22, Try.sizeOf3]⟩
theorem fA49 : Agg Try.prog 49 true := ⟨Try.isAgg49⟩
theorem fS49 : Sz Try.prog 49 2 := ⟨Try.sizeOf49⟩
theorem fB49 : By Try.prog 49 32 := ⟨fun w => ⟨_, Try.typeInfo49 w, rfl⟩⟩
theorem fZ49 : Zr Try.prog 49 (.agg [.slice none 0 0, .int .i64 0].toArray) := ⟨Try.zeroValue49⟩
theorem fF49_0 : Fld Try.prog 49 0 0 := Fld.of Try.underlying49 rfl Try.sizeOf22 rfl rfl
theorem fF49_1 : Fld Try.prog 49 1 1 := Fld.of Try.underlying49 rfl Try.sizeOf3 rfl rfl
theorem fL49 : Bld Try.prog 49 [(0, 1), (1, 1)] [.slice none 0 0, .int .i64 0] := ⟨_, Try.underlying49, Try.zeroValue49, fun w => by simp [Try.sizeOf22, Try.sizeOf3]⟩
theorem fA50 : Agg Try.prog 50 false := ⟨Try.isAgg50⟩
theorem fS50 : Sz Try.prog 50 1 := ⟨Try.sizeOf50⟩
theorem fB50 : By Try.prog 50 8 := ⟨fun w => ⟨_, Try.typeInfo50 w, rfl⟩⟩
theorem fZ50 : Zr Try.prog 50 (.nilFunc) := ⟨Try.zeroValue50⟩
theorem fA51 : Agg Try.prog 51 false := ⟨Try.isAgg51⟩
theorem fS51 : Sz Try.prog 51 1 := ⟨Try.sizeOf51⟩
theorem fB51 : By Try.prog 51 8 := ⟨fun w => ⟨_, Try.typeInfo51 w, rfl⟩⟩
theorem fZ51 : Zr Try.prog 51 (.nilFunc) := ⟨Try.zeroValue51⟩
theorem fA52 : Agg Try.prog 52 false := ⟨Try.isAgg52⟩
theorem fS52 : Sz Try.prog 52 1 := ⟨Try.sizeOf52⟩
theorem fB52 : By Try.prog 52 0 := ⟨fun w => ⟨_, Try.typeInfo52 w, rfl⟩⟩
theorem fA53 : Agg Try.prog 53 false := ⟨Try.isAgg53⟩
theorem fS53 : Sz Try.prog 53 1 := ⟨Try.sizeOf53⟩
theorem fB53 : By Try.prog 53 8 := ⟨fun w => ⟨_, Try.typeInfo53 w, rfl⟩⟩
theorem fZ53 : Zr Try.prog 53 (.nilFunc) := ⟨Try.zeroValue53⟩
theorem fA54 : Agg Try.prog 54 false := ⟨Try.isAgg54⟩
theorem fS54 : Sz Try.prog 54 1 := ⟨Try.sizeOf54⟩
theorem fB54 : By Try.prog 54 0 := ⟨fun w => ⟨_, Try.typeInfo54 w, rfl⟩⟩
theorem fA55 : Agg Try.prog 55 false := ⟨Try.isAgg55⟩
theorem fS55 : Sz Try.prog 55 1 := ⟨Try.sizeOf55⟩
theorem fB55 : By Try.prog 55 8 := ⟨fun w => ⟨_, Try.typeInfo55 w, rfl⟩⟩
theorem fZ55 : Zr Try.prog 55 (.nilFunc) := ⟨Try.zeroValue55⟩
theorem fA56 : Agg Try.prog 56 false := ⟨Try.isAgg56⟩
theorem fS56 : Sz Try.prog 56 1 := ⟨Try.sizeOf56⟩
theorem fB56 : By Try.prog 56 8 := ⟨fun w => ⟨_, Try.typeInfo56 w, rfl⟩⟩
theorem fZ56 : Zr Try.prog 56 (.nilFunc) := ⟨Try.zeroValue56⟩
theorem fA57 : Agg Try.prog 57 false := ⟨Try.isAgg57⟩
theorem fS57 : Sz Try.prog 57 1 := ⟨Try.sizeOf57⟩
theorem fB57 : By Try.prog 57 8 := ⟨fun w => ⟨_, Try.typeInfo57 w, rfl⟩⟩
theorem fZ57 : Zr Try.prog 57 (.nilFunc) := ⟨Try.zeroValue57⟩
theorem fA58 : Agg Try.prog 58 false := ⟨Try.isAgg58⟩
theorem fS58 : Sz Try.prog 58 1 := ⟨Try.sizeOf58⟩
theorem fB58 : By Try.prog 58 8 := ⟨fun w => ⟨_, Try.typeInfo58 w, rfl⟩⟩
theorem fZ58 : Zr Try.prog 58 (.nilFunc) := ⟨Try.zeroValue58⟩
theorem fA59 : Agg Try.prog 59 false := ⟨Try.isAgg59⟩
theorem fS59 : Sz Try.prog 59 1 := ⟨Try.sizeOf59⟩
theorem fB59 : By Try.prog 59 8 := ⟨fun w => ⟨_, Try.typeInfo59 w, rfl⟩⟩
theorem fZ59 : Zr Try.prog 59 (.nilFunc) := ⟨Try.zeroValue59⟩
theorem fA60 : Agg Try.prog 60 false := ⟨Try.isAgg60⟩
theorem fS60 : Sz Try.prog 60 1 := ⟨Try.sizeOf60⟩
theorem fB60 : By Try.prog 60 8 := ⟨fun w => ⟨_, Try.typeInfo60 w, rfl⟩⟩
theorem fZ60 : Zr Try.prog 60 (.nilFunc) := ⟨Try.zeroValue60⟩
theorem fA61 : Agg Try.prog 61 false := ⟨Try.isAgg61⟩
theorem fS61 : Sz Try.prog 61 1 := ⟨Try.sizeOf61⟩
theorem fB61 : By Try.prog 61 8 := ⟨fun w => ⟨_, Try.typeInfo61 w, rfl⟩⟩
theorem fZ61 : Zr Try.prog 61 (.nilFunc) := ⟨Try.zeroValue61⟩
theorem fU62 : Und Try.prog 62 (.map 9 34) := ⟨Try.underlying62⟩
theorem fA62 : Agg Try.prog 62 false := ⟨Try.isAgg62⟩
theorem fS62 : Sz Try.prog 62 1 := ⟨Try.sizeOf62⟩
theorem fB62 : By Try.prog 62 8 := ⟨fun w => ⟨_, Try.typeInfo62 w, rfl⟩⟩
theorem fZ62 : Zr Try.prog 62 (.map none) := ⟨Try.zeroValue62⟩
theorem fU63 : Und Try.prog 63 (.pointer 148) := ⟨Try.underlying63⟩
theorem fA63 : Agg Try.prog 63 false := ⟨Try.isAgg63⟩
theorem fS63 : Sz Try.prog 63 1 := ⟨Try.sizeOf63⟩
theorem fB63 : By Try.prog 63 8 := ⟨fun w => ⟨_, Try.typeInfo63 w, rfl⟩⟩
theorem fZ63 : Zr Try.prog 63 (.pointer none) := ⟨Try.zeroValue63⟩
theorem fA64 : Agg Try.prog 64 true := ⟨Try.isAgg64⟩
theorem fS64 : Sz Try.prog 64 3 := ⟨Try.sizeOf64⟩
theorem fB64 : By Try.prog 64 24 := ⟨fun w => ⟨_, Try.typeInfo64 w, rfl⟩⟩
theorem fZ64 : Zr Try.prog 64 (.agg [.map none, .pointer none, .int .i64 0].toArray) := ⟨Try.zeroValue64⟩
theorem fF64_0 : Fld Try.prog 64 0 0 := Fld.of Try.underlying64 rfl Try.sizeOf62 rfl rfl
theorem fF64_1 : Fld Try.prog 64 1 1 := Fld.of Try.underlying64 rfl Try.sizeOf63 rfl rfl
theorem fF64_2 : Fld Try.prog 64 2 2 := Fld.of Try.underlying64 rfl Try.sizeOf3 rfl rfl
theorem fL64 : Bld Try.prog 64 [(0, 1), (1, 1), (2, 1)] [.map none, .pointer none, .int .i64 0] := ⟨_, Try.underlying64, Try.zeroValue64, fun w => by simp [Try.sizeOf3, Try.sizeOf62, Try.sizeOf63]⟩
theorem fA65 : Agg Try.prog 65 true := ⟨Try.isAgg65⟩
theorem fS65 : Sz Try.prog 65 3 := ⟨Try.sizeOf65⟩
theorem fB65 : By Try.prog 65 24 := ⟨fun w => ⟨_, Try.typeInfo65 w, rfl⟩⟩
theorem fZ65 : Zr Try.prog 65 (.agg [.map none, .pointer none, .int .i64 0].toArray) := ⟨Try.zeroValue65⟩
theorem fF65_0 : Fld Try.prog 65 0 0 := Fld.of Try.underlying65 rfl Try.sizeOf62 rfl rfl
theorem fF65_1 : Fld Try.prog 65 1 1 := Fld.of Try.underlying65 rfl Try.sizeOf63 rfl rfl
theorem fF65_2 : Fld Try.prog 65 2 2 := Fld.of Try.underlying65 rfl Try.sizeOf3 rfl rfl
theorem fL65 : Bld Try.prog 65 [(0, 1), (1, 1), (2, 1)] [.map none, .pointer none, .int .i64 0] := ⟨_, Try.underlying65, Try.zeroValue65, fun w => by simp [Try.sizeOf3, Try.sizeOf62, Try.sizeOf63]⟩
theorem fA66 : Agg Try.prog 66 false := ⟨Try.isAgg66⟩
theorem fS66 : Sz Try.prog 66 1 := ⟨Try.sizeOf66⟩
theorem fB66 : By Try.prog 66 8 := ⟨fun w => ⟨_, Try.typeInfo66 w, rfl⟩⟩
theorem fZ66 : Zr Try.prog 66 (.nilFunc) := ⟨Try.zeroValue66⟩
theorem fU67 : Und Try.prog 67 (.slice 75) := ⟨Try.underlying67⟩
theorem fA67 : Agg Try.prog 67 false := ⟨Try.isAgg67⟩
theorem fS67 : Sz Try.prog 67 1 := ⟨Try.sizeOf67⟩
theorem fB67 : By Try.prog 67 24 := ⟨fun w => ⟨_, Try.typeInfo67 w, rfl⟩⟩
theorem fZ67 : Zr Try.prog 67 (.slice none 0 0) := ⟨Try.zeroValue67⟩
theorem fU68 : Und Try.prog 68 (.slice 88) := ⟨Try.underlying68⟩
theorem fA68 : Agg Try.prog 68 false := ⟨Try.isAgg68⟩
theorem fS68 : Sz Try.prog 68 1 := ⟨Try.sizeOf68⟩
theorem fB68 : By Try.prog 68 24 := ⟨fun w => ⟨_, Try.typeInfo68 w, rfl⟩⟩
theorem fZ68 : Zr Try.prog 68 (.slice none 0 0) := ⟨Try.zeroValue68⟩
theorem fU69 : Und Try.prog 69 (.slice 90) := ⟨Try.underlying69⟩
theorem fA69 : Agg Try.prog 69 false := ⟨Try.isAgg69⟩
theorem fS69 : Sz Try.prog 69 1 := ⟨Try.sizeOf69⟩
theorem fB69 : By Try.prog 69 24 := ⟨fun w => ⟨_, Try.typeInfo69 w, rfl⟩⟩
theorem fZ69 : Zr Try.prog 69 (.slice none 0 0) := ⟨Try.zeroValue69⟩
theorem fA70 : Agg Try.prog 70 true := ⟨Try.isAgg70⟩
theorem fS70 : Sz Try.prog 70 2 := ⟨Try.sizeOf70⟩
theorem fB70 : By Try.prog 70 32 := ⟨fun w => ⟨_, Try.typeInfo70 w, rfl⟩⟩
theorem fZ70 : Zr Try.prog 70 (.agg [.string { data := #[] }, .string { data := #[] }].toArray) := ⟨Try.zeroValue70⟩
theorem fF70_0 : Fld Try.prog 70 0 0 := Fld.of Try.underlying70 rfl Try.sizeOf9 rfl rfl
theorem fF70_1 : Fld Try.prog 70 1 1 := Fld.of Try.underlying70 rfl Try.sizeOf9 rfl rfl
theorem fL70 : Bld Try.prog 70 [(0, 1), (1, 1)] [.string { data := #[] }, .string { data := #[] }] := ⟨_, Try.underlying70, Try.zeroValue70, fun w => by simp [Try.sizeOf9]⟩
theorem fA71 : Agg Try.prog 71 true := ⟨Try.isAgg71⟩
theorem fS71 : Sz Try.prog 71 2 := ⟨Try.sizeOf71⟩
theorem fB71 : By Try.prog 71 32 := ⟨fun w => ⟨_, Try.typeInfo71 w, rfl⟩⟩
theorem fZ71 : Zr Try.prog 71 (.agg [.string { data := #[] }, .string { data := #[] }].toArray) := ⟨Try.zeroValue71⟩
theorem fF71_0 : Fld Try.prog 71 0 0 := Fld.of Try.underlying71 rfl Try.sizeOf9 rfl rfl
theorem fF71_1 : Fld Try.prog 71 1 1 := Fld.of Try.underlying71 rfl Try.sizeOf9 rfl rfl
theorem fL71 : Bld Try.prog 71 [(0, 1), (1, 1)] [.string { data := #[] }, .string { data := #[] }] := ⟨_, Try.underlying71, Try.zeroValue71, fun w => by simp [Try.sizeOf9]⟩
theorem fA72 : Agg Try.prog 72 true := ⟨Try.isAgg72⟩
theorem fS72 : Sz Try.prog 72 7 := ⟨Try.sizeOf72⟩
theorem fB72 : By Try.prog 72 112 := ⟨fun w => ⟨_, Try.typeInfo72 w, rfl⟩⟩
theorem fZ72 : Zr Try.prog 72 (.agg [.string { data := #[] }, .string { data := #[] }, .string { data := #[] }, .string { data := #[] }, .string { data := #[] }, .string { data := #[] }, .string { data := #[] }].toArray) := ⟨Try.zeroValue72⟩
theorem fF72_0 : Fld Try.prog 72 0 0 := Fld.of Try.underlying72 rfl Try.sizeOf9 rfl rfl
theorem fF72_1 : Fld Try.prog 72 1 1 := Fld.of Try.underlying72 rfl Try.sizeOf9 rfl rfl
theorem fF72_2 : Fld Try.prog 72 2 2 := Fld.of Try.underlying72 rfl Try.sizeOf9 rfl rfl
theorem fF72_3 : Fld Try.prog 72 3 3 := Fld.of Try.underlying72 rfl Try.sizeOf9 rfl rfl
theorem fF72_4 : Fld Try.prog 72 4 4 := Fld.of Try.underlying72 rfl Try.sizeOf71 rfl rfl
theorem fF72_5 : Fld Try.prog 72 5 6 := Fld.of Try.underlying72 rfl Try.sizeOf9 rfl rfl
theorem fL72 : Bld Try.prog 72 [(0, 1), (1, 1), (2, 1), (3, 1), (4, 2), (6, 1)] [.string { data := #[] }, .string { data := #[] }, .string { data := #[] }, .string { data := #[] }, .string { data := #[] }, .string { data := #[] }, .string { data := #[] }] := ⟨_, Try.underlying72, Try.zeroValue72, fun w => by simp [Try.sizeOf71, Try.sizeOf9]⟩
theorem fA73 : Agg Try.prog 73 true := ⟨Try.isAgg73⟩
theorem fS73 : Sz Try.prog 73 7 := ⟨Try.sizeOf73⟩
theorem fB73 : By Try.prog 73 112 := ⟨fun w => ⟨_, Try.typeInfo73 w, rfl⟩⟩
theorem fZ73 : Zr Try.prog 73 (.agg [.string { data := #[] }, .string { data := #[] }, .string { data := #[] }, .string { data := #[] }, .string { data := #[] }, .string { data := #[] }, .string { data := #[] }].toArray) := ⟨Try.zeroValue73⟩
theorem fF73_0 : Fld Try.prog 73 0 0 := Fld.of Try.underlying73 rfl Try.sizeOf9 rfl rfl
theorem fF73_1 : Fld Try.prog 73 1 1 := Fld.of Try.underlying73 rfl Try.sizeOf9 rfl rfl
theorem fF73_2 : Fld Try.prog 73 2 2 := Fld.of Try.underlying73 rfl Try.sizeOf9 rfl rfl
theorem fF73_3 : Fld Try.prog 73 3 3 := Fld.of Try.underlying73 rfl Try.sizeOf9 rfl rfl
theorem fF73_4 : Fld Try.prog 73 4 4 := Fld.of Try.underlying73 rfl Try.sizeOf71 rfl rfl
theorem fF73_5 : Fld Try.prog 73 5 6 := Fld.of Try.underlying73 rfl Try.sizeOf9 rfl rfl
theorem fL73 : Bld Try.prog 73 [(0, 1), (1, 1), (2, 1), (3, 1), (4, 2), (6, 1)] [.string { data := #[] }, .string { data := #[] }, .string { data := #[] }, .string { data := #[] }, .string { data := #[] }, .string { data := #[] }, .string { data := #[] }] := ⟨_, Try.underlying73, Try.zeroValue73, fun w => by simp [Try.sizeOf71, Try.sizeOf9]⟩
theorem fA74 : Agg Try.prog 74 true := ⟨Try.isAgg74⟩
theorem fS74 : Sz Try.prog 74 12 := ⟨Try.sizeOf74⟩
theorem fB74 : By Try.prog 74 200 := ⟨fun w => ⟨_, Try.typeInfo74 w, rfl⟩⟩
theorem fZ74 : Zr Try.prog 74 (.agg [.int .i64 0, .slice none 0 0, .slice none 0 0, .slice none 0 0, .string { data := #[] }, .string { data := #[] }, .string { data := #[] }, .string { data := #[] }, .string { data := #[] }, .string { data := #[] }, .string { data := #[] }, .int .u64 0].toArray) := ⟨Try.zeroValue74⟩
theorem fF74_0 : Fld Try.prog 74 0 0 := Fld.of Try.underlying74 rfl Try.sizeOf3 rfl rfl
theorem fF74_1 : Fld Try.prog 74 1 1 := Fld.of Try.underlying74 rfl Try.sizeOf68 rfl rfl
theorem fF74_2 : Fld Try.prog 74 2 2 := Fld.of Try.underlying74 rfl Try.sizeOf68 rfl rfl
theorem fF74_3 : Fld Try.prog 74 3 3 := Fld.of Try.underlying74 rfl Try.sizeOf69 rfl rfl
theorem fF74_4 : Fld Try.prog 74 4 4 := Fld.of Try.underlying74 rfl Try.sizeOf73 rfl rfl
theorem fF74_5 : Fld Try.prog 74 5 11 := Fld.of Try.underlying74 rfl Try.sizeOf24 rfl rfl
theorem fL74 : Bld Try.prog 74 [(0, 1), (1, 1), (2, 1), (3, 1), (4, 7), (11, 1)] [.int .i64 0, .slice none 0 0, .slice none 0 0, .slice none 0 0, .string { data := #[] }, .string { data := #[] }, .string { data := #[] }, .string { data := #[] }, .string { data := #[] }, .string { data := #[] }, .string { data := #[] }, .int .u64 0] := ⟨_, Try.underlying74, Try.zeroValue74, fun w => by simp [Try.sizeOf24, Try.sizeOf3, Try.sizeOf68, Try.sizeOf69, Try.sizeOf73]⟩
theorem fA75 : Agg Try.prog 75 true := ⟨Try.isAgg75⟩
theorem fS75 : Sz Try.prog 75 12 := ⟨Try.sizeOf75⟩
theorem fB75 : By Try.prog 75 200 := ⟨fun w => ⟨_, Try.typeInfo75 w, rfl⟩⟩
theorem fZ75 : Zr Try.prog 75 (.agg [.int .i64 0, .slice none 0 0, .slice none 0 0, .slice none 0 0, .string { data := #[] }, .string { data := #[] }, .string { data := #[] }, .string { data := #[] }, .string { data := #[] }, .string { data := #[] }, .string { data := #[] }, .int .u64 0].toArray) := ⟨Try.zeroValue75⟩
theorem fF75_0 : Fld Try.prog 75 0 0 := Fld.of Try.underlying75 rfl Try.sizeOf3 rfl rfl
theorem fF75_1 : Fld Try.prog 75 1 1 := Fld.of Try.underlying75 rfl Try.sizeOf68 rfl rfl
theorem fF75_2 : Fld Try.prog 75 2 2 := Fld.of Try.underlying75 rfl Try.sizeOf68 rfl rfl
theorem fF75_3 : Fld Try.prog 75 3 3 := Fld.of Try.underlying75 rfl Try.sizeOf69 rfl rfl
theorem fF75_4 : Fld Try.prog 75 4 4 := Fld.of Try.underlying75 rfl Try.sizeOf73 rfl rfl
theorem fF75_5 : Fld Try.prog 75 5 11 := Fld.of Try.underlying75 rfl Try.sizeOf24 rfl rfl
theorem fL75 : Bld Try.prog 75 [(0, 1), (1, 1), (2, 1), (3, 1), (4, 7), (11, 1)] [.int .i64 0, .slice none 0 0, .slice none 0 0, .slice none 0 0, .string { data := #[] }, .string { data := #[] }, .string { data := #[] }, .string { data := #[] }, .string { data := #[] }, .string { data := #[] }, .string { data := #[] }, .int .u64 0] := ⟨_, Try.underlying75, Try.zeroValue75, fun w => by simp [Try.sizeOf24, Try.sizeOf3, Try.sizeOf68, Try.sizeOf69, Try.sizeOf73]⟩
theorem fU76 : Und Try.prog 76 (.pointer 98) := ⟨Try.underlying76⟩
theorem fA76 : Agg Try.prog 76 false := ⟨Try.isAgg76⟩
theorem fS76 : Sz Try.prog 76 1 := ⟨Try.sizeOf76⟩
theorem fB76 : By Try.prog 76 8 := ⟨fun w => ⟨_, Try.typeInfo76 w, rfl⟩⟩
theorem fZ76 : Zr Try.prog 76 (.pointer none) := ⟨Try.zeroValue76⟩
theorem fA77 : Agg Try.prog 77 false := ⟨Try.isAgg77⟩
theorem fS77 : Sz Try.prog 77 1 := ⟨Try.sizeOf77⟩
theorem fB77 : By Try.prog 77 8 := ⟨fun w => ⟨_, Try.typeInfo77 w, rfl⟩⟩
theorem fZ77 : Zr Try.prog 77 (.nilFunc) := ⟨Try.zeroValue77⟩
theorem fA78 : Agg Try.prog 78 false := ⟨Try.isAgg78⟩
theorem fS78 : Sz Try.prog 78 1 := ⟨Try.sizeOf78⟩
theorem fB78 : By Try.prog 78 8 := ⟨fun w => ⟨_, Try.typeInfo78 w, rfl⟩⟩
theorem fZ78 : Zr Try.prog 78 (.nilFunc) := ⟨Try.zeroValue78⟩
theorem fA79 : Agg Try.prog 79 false := ⟨Try.isAgg79⟩
theorem fS79 : Sz Try.prog 79 1 := ⟨Try.sizeOf79⟩
theorem fB79 : By Try.prog 79 8 := ⟨fun w => ⟨_, Try.typeInfo79 w, rfl⟩⟩
theorem fZ79 : Zr Try.prog 79 (.nilFunc) := ⟨Try.zeroValue79⟩
theorem fA80 : Agg Try.prog 80 false := ⟨Try.isAgg80⟩
theorem fS80 : Sz Try.prog 80 1 := ⟨Try.sizeOf80⟩
theorem fB80 : By Try.prog 80 0 := ⟨fun w => ⟨_, Try.typeInfo80 w, rfl⟩⟩
theorem fA81 : Agg Try.prog 81 false := ⟨Try.isAgg81⟩
theorem fS81 : Sz Try.prog 81 1 := ⟨Try.sizeOf81⟩
theorem fB81 : By Try.prog 81 8 := ⟨fun w => ⟨_, Try.typeInfo81 w, rfl⟩⟩
theorem fZ81 : Zr Try.prog 81 (.nilFunc) := ⟨Try.zeroValue81⟩
theorem fA82 : Agg Try.prog 82 false := ⟨Try.isAgg82⟩
theorem fS82 : Sz Try.prog 82 1 := ⟨Try.sizeOf82⟩
theorem fB82 : By Try.prog 82 0 := ⟨fun w => ⟨_, Try.typeInfo82 w, rfl⟩⟩
theorem fA83 : Agg Try.prog 83 false := ⟨Try.isAgg83⟩
theorem fS83 : Sz Try.prog 83 1 := ⟨Try.sizeOf83⟩
theorem fB83 : By Try.prog 83 8 := ⟨fun w => ⟨_, Try.typeInfo83 w, rfl⟩⟩
theorem fZ83 : Zr Try.prog 83 (.nilFunc) := ⟨Try.zeroValue83⟩
theorem fA84 : Agg Try.prog 84 false := ⟨Try.isAgg84⟩
theorem fS84 : Sz Try.prog 84 1 := ⟨Try.sizeOf84⟩
theorem fB84 : By Try.prog 84 8 := ⟨fun w => ⟨_, Try.typeInfo84 w, rfl⟩⟩
theorem fZ84 : Zr Try.prog 84 (.nilFunc) := ⟨Try.zeroValue84⟩
theorem fA85 : Agg Try.prog 85 true := ⟨Try.isAgg85⟩
theorem fS85 : Sz Try.prog 85 4 := ⟨Try.sizeOf85⟩
theorem fB85 : By Try.prog 85 64 := ⟨fun w => ⟨_, Try.typeInfo85 w, rfl⟩⟩
theorem fZ85 : Zr Try.prog 85 (.agg [.string { data := #[] }, .string { data := #[] }, .string { data := #[] }, .string { data := #[] }].toArray) := ⟨Try.zeroValue85⟩
theorem fF85_0 : Fld Try.prog 85 0 0 := Fld.of Try.underlying85 rfl Try.sizeOf9 rfl rfl
theorem fF85_1 : Fld Try.prog 85 1 1 := Fld.of Try.underlying85 rfl Try.sizeOf71 rfl rfl
theorem fF85_2 : Fld Try.prog 85 2 3 := Fld.of Try.underlying85 rfl Try.sizeOf9 rfl rfl
theorem fL85 : Bld Try.prog 85 [(0, 1), (1, 2), (3, 1)] [.string { data := #[] }, .string { data := #[] }, .string { data := #[] }, .string { data := #[] }] := ⟨_, Try.underlying85, Try.zeroValue85, fun w => by simp [Try.sizeOf71, Try.sizeOf9]⟩
theorem fA86 : Agg Try.prog 86 true := ⟨Try.isAgg86⟩
theorem fS86 : Sz Try.prog 86 4 := ⟨Try.sizeOf86⟩
theorem fB86 : By Try.prog 86 64 := ⟨fun w => ⟨_, Try.typeInfo86 w, rfl⟩⟩
theorem fZ86 : Zr Try.prog 86 (.agg [.string { data := #[] }, .string { data := #[] }, .string { data := #[] }, .string { data := #[] }].toArray) := ⟨Try.zeroValue86⟩
theorem fF86_0 : Fld Try.prog 86 0 0 := Fld.of Try.underlying86 rfl Try.sizeOf9 rfl rfl
theorem fF86_1 : Fld Try.prog 86 1 1 := Fld.of Try.underlying86 rfl Try.sizeOf71 rfl rfl
theorem fF86_2 : Fld Try.prog 86 2 3 := Fld.of Try.underlying86 rfl Try.sizeOf9 rfl rfl
theorem fL86 : Bld Try.prog 86 [(0, 1), (1, 2), (3, 1)] [.string { data := #[] }, .string { data := #[] }, .string { data := #[] }, .string { data := #[] }] := ⟨_, Try.underlying86, Try.zeroValue86, fun w => by simp [Try.sizeOf71, Try.sizeOf9]⟩
theorem fA87 : Agg Try.prog 87 true := ⟨Try.isAgg87⟩
theorem fS87 : Sz Try.prog 87 7 := ⟨Try.sizeOf87⟩
theorem fB87 : By Try.prog 87 112 := ⟨fun w => ⟨_, Try.typeInfo87 w, rfl⟩⟩
theorem fZ87 : Zr Try.prog 87 (.agg [.string { data := #[] }, .string { data := #[] }, .string { data := #[] }, .string { data := #[] }, .string { data := #[] }, .string { data := #[] }, .string { data := #[] }].toArray) := ⟨Try.zeroValue87⟩
theorem fF87_0 : Fld Try.prog 87 0 0 := Fld.of Try.underlying87 rfl Try.sizeOf71 rfl rfl
theorem fF87_1 : Fld Try.prog 87 1 2 := Fld.of Try.underlying87 rfl Try.sizeOf9 rfl rfl
theorem fF87_2 : Fld Try.prog 87 2 3 := Fld.of Try.underlying87 rfl Try.sizeOf86 rfl rfl
theorem fL87 : Bld Try.prog 87 [(0, 2), (2, 1), (3, 4)] [.string { data := #[] }, .string { data := #[] }, .string { data := #[] }, .string { data := #[] }, .string { data := #[] }, .string { data := #[] }, .string { data := #[] }] := ⟨_, Try.underlying87, Try.zeroValue87, fun w => by simp [Try.sizeOf71, Try.sizeOf86, Try.sizeOf9]⟩
theorem fA88 : Agg Try.prog 88 true := ⟨Try.isAgg88⟩
theorem fS88 : Sz Try.prog 88 7 := ⟨Try.sizeOf88⟩
theorem fB88 : By Try.prog 88 112 := ⟨fun w => ⟨_, Try.typeInfo88 w, rfl⟩⟩
theorem fZ88 : Zr Try.prog 88 (.agg [.string { data := #[] }, .string { data := #[] }, .string { data := #[] }, .string { data := #[] }, .string { data := #[] }, .string { data := #[] }, .string { data := #[] }].toArray) := ⟨Try.zeroValue88⟩
theorem fF88_0 : Fld Try.prog 88 0 0 := Fld.of Try.underlying88 rfl Try.sizeOf71 rfl rfl
theorem fF88_1 : Fld Try.prog 88 1 2 := Fld.of Try.underlying88 rfl Try.sizeOf9 rfl rfl
theorem fF88_2 : Fld Try.prog 88 2 3 := Fld.of Try.underlying88 rfl Try.sizeOf86 rfl rfl
theorem fL88 : Bld Try.prog 88 [(0, 2), (2, 1), (3, 4)] [.string { data := #[] }, .string { data := #[] }, .string { data := #[] }, .string { data := #[] }, .string { data := #[] }, .string { data := #[] }, .string { data := #[] }] := ⟨_, Try.underlying88, Try.zeroValue88, fun w => by simp [Try.sizeOf71, Try.sizeOf86, Try.sizeOf9]⟩
theorem fA89 : Agg Try.prog 89 true := ⟨Try.isAgg89⟩
theorem fS89 : Sz Try.prog 89 8 := ⟨Try.sizeOf89⟩
theorem fB89 : By Try.prog 89 120 := ⟨fun w => ⟨_, Try.typeInfo89 w, rfl⟩⟩
theorem fZ89 : Zr Try.prog 89 (.agg [.bool false, .string { data := #[] }, .string { data := #[] }, .string { data := #[] }, .string { data := #[] }, .string { data := #[] }, .string { data := #[] }, .string { data := #[] }].toArray) := ⟨Try.zeroValue89⟩
theorem fF89_0 : Fld Try.prog 89 0 0 := Fld.of Try.underlying89 rfl Try.sizeOf4 rfl rfl
theorem fF89_1 : Fld Try.prog 89 1 1 := Fld.of Try.underlying89 rfl Try.sizeOf88 rfl rfl
theorem fL89 : Bld Try.prog 89 [(0, 1), (1, 7)] [.bool false, .string { data := #[] }, .string { data := #[] }, .string { data := #[] }, .string { data := #[] }, .string { data := #[] }, .string { data := #[] }, .string { data := #[] }] := ⟨_, Try.underlying89, Try.zeroValue89, fun w => by simp [Try.sizeOf4, Try.sizeOf88]⟩
theorem fA90 : Agg Try.prog 90 true := ⟨Try.isAgg90⟩
theorem fS90 : Sz Try.prog 90 8 := ⟨Try.sizeOf90⟩
theorem fB90 : By Try.prog 90 120 := ⟨fun w => ⟨_, Try.typeInfo90 w, rfl⟩⟩
theorem fZ90 : Zr Try.prog 90 (.agg [.bool false, .string { data := #[] }, .string { data := #[] }, .string { data := #[] }, .string { data := #[] }, .string { data := #[] }, .string { data := #[] }, .string { data := #[] }].toArray) := ⟨Try.zeroValue90⟩
theorem fF90_0 : Fld Try.prog 90 0 0 := Fld.of Try.underlying90 rfl Try.sizeOf4 rfl rfl
theorem fF90_1 : Fld Try.prog 90 1 1 := Fld.of Try.underlying90 rfl Try.sizeOf88 rfl rfl
theorem fL90 : Bld Try.prog 90 [(0, 1), (1, 7)] [.bool false, .string { data := #[] }, .string { data := #[] }, .string { data := #[] }, .string { data := #[] }, .string { data := #[] }, .string { data := #[] }, .string { data := #[] }] := ⟨_, Try.underlying90, Try.zeroValue90, fun w => by simp [Try.sizeOf4, Try.sizeOf88]⟩
theorem fA91 : Agg Try.prog 91 false := ⟨Try.isAgg91⟩
theorem fS91 : Sz Try.prog 91 1 := ⟨Try.sizeOf91⟩
theorem fB91 : By Try.prog 91 8 := ⟨fun w => ⟨_, Try.typeInfo91 w, rfl⟩⟩
theorem fZ91 : Zr Try.prog 91 (.nilFunc) := ⟨Try.zeroValue91⟩
theorem fA92 : Agg Try.prog 92 false := ⟨Try.isAgg92⟩
theorem fS92 : Sz Try.prog 92 1 := ⟨Try.sizeOf92⟩
theorem fB92 : By Try.prog 92 8 := ⟨fun w => ⟨_, Try.typeInfo92 w, rfl⟩⟩
theorem fZ92 : Zr Try.prog 92 (.nilFunc) := ⟨Try.zeroValue92⟩
theorem fA93 : Agg Try.prog 93 false := ⟨Try.isAgg93⟩
theorem fS93 : Sz Try.prog 93 1 := ⟨Try.sizeOf93⟩
theorem fB93 : By Try.prog 93 8 := ⟨fun w => ⟨_, Try.typeInfo93 w, rfl⟩⟩
theorem fZ93 : Zr Try.prog 93 (.nilFunc) := ⟨Try.zeroValue93⟩
theorem fA94 : Agg Try.prog 94 false := ⟨Try.isAgg94⟩
theorem fS94 : Sz Try.prog 94 1 := ⟨Try.sizeOf94⟩
theorem fB94 : By Try.prog 94 8 := ⟨fun w => ⟨_, Try.typeInfo94 w, rfl⟩⟩
theorem fZ94 : Zr Try.prog 94 (.nilFunc) := ⟨Try.zeroValue94⟩
theorem fU95 : Und Try.prog 95 (.map 123 124) := ⟨Try.underlying95⟩
theorem fA95 : Agg Try.prog 95 false := ⟨Try.isAgg95⟩
theorem fS95 : Sz Try.prog 95 1 := ⟨Try.sizeOf95⟩
theorem fB95 : By Try.prog 95 8 := ⟨fun w => ⟨_, Try.typeInfo95 w, rfl⟩⟩
theorem fZ95 : Zr Try.prog 95 (.map none) := ⟨Try.zeroValue95⟩
theorem fU96 : Und Try.prog 96 (.map 86 124) := ⟨Try.underlying96⟩
theorem fA96 : Agg Try.prog 96 false := ⟨Try.isAgg96⟩
theorem fS96 : Sz Try.prog 96 1 := ⟨Try.sizeOf96⟩
theorem fB96 : By Try.prog 96 8 := ⟨fun w => ⟨_, Try.typeInfo96 w, rfl⟩⟩
theorem fZ96 : Zr Try.prog 96 (.map none) := ⟨Try.zeroValue96⟩
theorem fA97 : Agg Try.prog 97 true := ⟨Try.isAgg97⟩
theorem fS97 : Sz Try.prog 97 6 := ⟨Try.sizeOf97⟩
theorem fB97 : By Try.prog 97 48 := ⟨fun w => ⟨_, Try.typeInfo97 w, rfl⟩⟩
theorem fZ97 : Zr Try.prog 97 (.agg [.bool false, .int .u64 0, .int .u64 0, .int .i64 0, .map none, .map none].toArray) := ⟨Try.zeroValue97⟩
theorem fF97_0 : Fld Try.prog 97 0 0 := Fld.of Try.underlying97 rfl Try.sizeOf4 rfl rfl
theorem fF97_1 : Fld Try.prog 97 1 1 := Fld.of Try.underlying97 rfl Try.sizeOf24 rfl rfl
theorem fF97_2 : Fld Try.prog 97 2 2 := Fld.of Try.underlying97 rfl Try.sizeOf24 rfl rfl
theorem fF97_3 : Fld Try.prog 97 3 3 := Fld.of Try.underlying97 rfl Try.sizeOf3 rfl rfl
theorem fF97_4 : Fld Try.prog 97 4 4 := Fld.of Try.underlying97 rfl Try.sizeOf95 rfl rfl
theorem fF97_5 : Fld Try.prog 97 5 5 := Fld.of Try.underlying97 rfl Try.sizeOf96 rfl rfl
theorem fL97 : Bld Try.prog 97 [(0, 1), (1, 1), (2, 1), (3, 1), (4, 1), (5, 1)] [.bool false, .int .u64 0, .int .u64 0, .int .i64 0, .map none, .map none] := ⟨_, Try.underlying97, Try.zeroValue97, fun w => by simp [Try.sizeOf24, Try.sizeOf3, Try.sizeOf4, Try.sizeOf95, Try.sizeOf96]⟩
theorem fA98 : Agg Try.prog 98 true := ⟨Try.isAgg98⟩
theorem fS98 : Sz Try.prog 98 6 := ⟨Try.sizeOf98⟩
theorem fB98 : By Try.prog 98 48 := ⟨fun w => ⟨_, Try.typeInfo98 w, rfl⟩⟩
theorem fZ98 : Zr Try.prog 98 (.agg [.bool false, .int .u64 0, .int .u64 0, .int .i64 0, .map none, .map none].toArray) := ⟨Try.zeroValue98⟩
theorem fF98_0 : Fld Try.prog 98 0 0 := Fld.of Try.underlying98 rfl Try.sizeOf4 rfl rfl
theorem fF98_1 : Fld Try.prog 98 1 1 := Fld.of Try.underlying98 rfl Try.sizeOf24 rfl rfl
theorem fF98_2 : Fld Try.prog 98 2 2 := Fld.of Try.underlying98 rfl Try.sizeOf24 rfl rfl
theorem fF98_3 : Fld Try.prog 98 3 3 := Fld.of Try.underlying98 rfl Try.sizeOf3 rfl rfl
theorem fF98_4 : Fld Try.prog 98 4 4 := Fld.of Try.underlying98 rfl Try.sizeOf95 rfl rfl
theorem fF98_5 : Fld Try.prog 98 5 5 := Fld.of Try.underlying98 rfl Try.sizeOf96 rfl rfl
theorem fL98 : Bld Try.prog 98 [(0, 1), (1, 1), (2, 1), (3, 1), (4, 1), (5, 1)] [.bool false, .int .u64 0, .int .u64 0, .int .i64 0, .map none, .map none] := ⟨_, Try.underlying98, Try.zeroValue98, fun w => by simp [Try.sizeOf24, Try.sizeOf3, Try.sizeOf4, Try.sizeOf95, Try.sizeOf96]⟩
theorem fU99 : Und Try.prog 99 (.slice 132) := ⟨Try.underlying99⟩
theorem fA99 : Agg Try.prog 99 false := ⟨Try.isAgg99⟩
theorem fS99 : Sz Try.prog 99 1 := ⟨Try.sizeOf99⟩
theorem fB99 : By Try.prog 99 24 := ⟨fun w => ⟨_, Try.typeInfo99 w, rfl⟩⟩
theorem fZ99 : Zr Try.prog 99 (.slice none 0 0) := ⟨Try.zeroValue99⟩
theorem fA100 : Agg Try.prog 100 false := ⟨Try.isAgg100⟩
theorem fS100 : Sz Try.prog 100 1 := ⟨Try.sizeOf100⟩
theorem fB100 : By Try.prog 100 8 := ⟨fun w => ⟨_, Try.typeInfo100 w, rfl⟩⟩
theorem fZ100 : Zr Try.prog 100 (.nilFunc) := ⟨Try.zeroValue100⟩
theorem fA101 : Agg Try.prog 101 false := ⟨Try.isAgg101⟩
theorem fS101 : Sz Try.prog 101 1 := ⟨Try.sizeOf101⟩
theorem fB101 : By Try.prog 101 8 := ⟨fun w => ⟨_, Try.typeInfo101 w, rfl⟩⟩
theorem fZ101 : Zr Try.prog 101 (.nilFunc) := ⟨Try.zeroValue101⟩
theorem fU102 : Und Try.prog 102 (.slice 86) := ⟨Try.underlying102⟩
theorem fA102 : Agg Try.prog 102 false := ⟨Try.isAgg102⟩
theorem fS102 : Sz Try.prog 102 1 := ⟨Try.sizeOf102⟩
theorem fB102 : By Try.prog 102 24 := ⟨fun w => ⟨_, Try.typeInfo102 w, rfl⟩⟩
theorem fZ102 : Zr Try.prog 102 (.slice none 0 0) := ⟨Try.zeroValue102⟩
theorem fA103 : Agg Try.prog 103 false := ⟨Try.isAgg103⟩
theorem fS103 : Sz Try.prog 103 1 := ⟨Try.sizeOf103⟩
theorem fB103 : By Try.prog 103 8 := ⟨fun w => ⟨_, Try.typeInfo103 w, rfl⟩⟩
theorem fZ103 : Zr Try.prog 103 (.nilFunc) := ⟨Try.zeroValue103⟩
theorem fA104 : Agg Try.prog 104 false := ⟨Try.isAgg104⟩
theorem fS104 : Sz Try.prog 104 1 := ⟨Try.sizeOf104⟩
theorem fB104 : By Try.prog 104 8 := ⟨fun w => ⟨_, Try.typeInfo104 w, rfl⟩⟩
theorem fZ104 : Zr Try.prog 104 (.nilFunc) := ⟨Try.zeroValue104⟩
theorem fA105 : Agg Try.prog 105 false := ⟨Try.isAgg105⟩
theorem fS105 : Sz Try.prog 105 1 := ⟨Try.sizeOf105⟩
theorem fB105 : By Try.prog 105 8 := ⟨fun w => ⟨_, Try.typeInfo105 w, rfl⟩⟩
theorem fZ105 : Zr Try.prog 105 (.nilFunc) := ⟨Try.zeroValue105⟩
theorem fA106 : Agg Try.prog 106 false := ⟨Try.isAgg106⟩
theorem fS106 : Sz Try.prog 106 1 := ⟨Try.sizeOf106⟩
theorem fB106 : By Try.prog 106 0 := ⟨fun w => ⟨_, Try.typeInfo106 w, rfl⟩⟩
theorem fA107 : Agg Try.prog 107 false := ⟨Try.isAgg107⟩
theorem fS107 : Sz Try.prog 107 1 := ⟨Try.sizeOf107⟩
theorem fB107 : By Try.prog 107 8 := ⟨fun w => ⟨_, Try.typeInfo107 w, rfl⟩⟩
theorem fZ107 : Zr Try.prog 107 (.nilFunc) := ⟨Try.zeroValue107⟩
theorem fA108 : Agg Try.prog 108 false := ⟨Try.isAgg108⟩
theorem fS108 : Sz Try.prog 108 1 := ⟨Try.sizeOf108⟩
theorem fB108 : By Try.prog 108 8 := ⟨fun w => ⟨_, Try.typeInfo108 w, rfl⟩⟩
theorem fZ108 : Zr Try.prog 108 (.nilFunc) := ⟨Try.zeroValue108⟩
theorem fA109 : Agg Try.prog 109 false := ⟨Try.isAgg109⟩
theorem fS109 : Sz Try.prog 109 1 := ⟨Try.sizeOf109⟩
theorem fB109 : By Try.prog 109 8 := ⟨fun w => ⟨_, Try.typeInfo109 w, rfl⟩⟩
theorem fZ109 : Zr Try.prog 109 (.nilFunc) := ⟨Try.zeroValue109⟩
theorem fA110 : Agg Try.prog 110 false := ⟨Try.isAgg110⟩
theorem fS110 : Sz Try.prog 110 1 := ⟨Try.sizeOf110⟩
theorem fB110 : By Try.prog 110 8 := ⟨fun w => ⟨_, Try.typeInfo110 w, rfl⟩⟩
theorem fZ110 : Zr Try.prog 110 (.nilFunc) := ⟨Try.zeroValue110⟩
theorem fA111 : Agg Try.prog 111 false := ⟨Try.isAgg111⟩
theorem fS111 : Sz Try.prog 111 1 := ⟨Try.sizeOf111⟩
theorem fB111 : By Try.prog 111 8 := ⟨fun w => ⟨_, Try.typeInfo111 w, rfl⟩⟩
theorem fZ111 : Zr Try.prog 111 (.nilFunc) := ⟨Try.zeroValue111⟩
theorem fA112 : Agg Try.prog 112 false := ⟨Try.isAgg112⟩
theorem fS112 : Sz Try.prog 112 1 := ⟨Try.sizeOf112⟩
theorem fB112 : By Try.prog 112 8 := ⟨fun w => ⟨_, Try.typeInfo112 w, rfl⟩⟩
theorem fZ112 : Zr Try.prog 112 (.nilFunc) := ⟨Try.zeroValue112⟩
theorem fA113 : Agg Try.prog 113 false := ⟨Try.isAgg113⟩
theorem fS113 : Sz Try.prog 113 1 := ⟨Try.sizeOf113⟩
theorem fB113 : By Try.prog 113 8 := ⟨fun w => ⟨_, Try.typeInfo113 w, rfl⟩⟩
theorem fZ113 : Zr Try.prog 113 (.nilFunc) := ⟨Try.zeroValue113⟩
theorem fA114 : Agg Try.prog 114 false := ⟨Try.isAgg114⟩
theorem fS114 : Sz Try.prog 114 1 := ⟨Try.sizeOf114⟩
theorem fB114 : By Try.prog 114 8 := ⟨fun w => ⟨_, Try.typeInfo114 w, rfl⟩⟩
theorem fZ114 : Zr Try.prog 114 (.nilFunc) := ⟨Try.zeroValue114⟩
theorem fA115 : Agg Try.prog 115 false := ⟨Try.isAgg115⟩
theorem fS115 : Sz Try.prog 115 1 := ⟨Try.sizeOf115⟩
theorem fB115 : By Try.prog 115 8 := ⟨fun w => ⟨_, Try.typeInfo115 w, rfl⟩⟩
theorem fZ115 : Zr Try.prog 115 (.nilFunc) := ⟨Try.zeroValue115⟩
theorem fA116 : Agg Try.prog 116 false := ⟨Try.isAgg116⟩
theorem fS116 : Sz Try.prog 116 1 := ⟨Try.sizeOf116⟩
theorem fB116 : By Try.prog 116 8 := ⟨fun w => ⟨_, Try.typeInfo116 w, rfl⟩⟩
theorem fZ116 : Zr Try.prog 116 (.nilFunc) := ⟨Try.zeroValue116⟩
theorem fA117 : Agg Try.prog 117 false := ⟨Try.isAgg117⟩
theorem fS117 : Sz Try.prog 117 1 := ⟨Try.sizeOf117⟩
theorem fB117 : By Try.prog 117 8 := ⟨fun w => ⟨_, Try.typeInfo117 w, rfl⟩⟩
theorem fZ117 : Zr Try.prog 117 (.nilFunc) := ⟨Try.zeroValue117⟩
theorem fA118 : Agg Try.prog 118 false := ⟨Try.isAgg118⟩
theorem fS118 : Sz Try.prog 118 1 := ⟨Try.sizeOf118⟩
theorem fB118 : By Try.prog 118 8 := ⟨fun w => ⟨_, Try.typeInfo118 w, rfl⟩⟩
theorem fZ118 : Zr Try.prog 118 (.nilFunc) := ⟨Try.zeroValue118⟩
theorem fA119 : Agg Try.prog 119 false := ⟨Try.isAgg119⟩
theorem fS119 : Sz Try.prog 119 1 := ⟨Try.sizeOf119⟩
theorem fB119 : By Try.prog 119 8 := ⟨fun w => ⟨_, Try.typeInfo119 w, rfl⟩⟩
theorem fZ119 : Zr Try.prog 119 (.nilFunc) := ⟨Try.zeroValue119⟩
theorem fA120 : Agg Try.prog 120 false := ⟨Try.isAgg120⟩
theorem fS120 : Sz Try.prog 120 1 := ⟨Try.sizeOf120⟩
theorem fB120 : By Try.prog 120 8 := ⟨fun w => ⟨_, Try.typeInfo120 w, rfl⟩⟩
theorem fZ120 : Zr Try.prog 120 (.nilFunc) := ⟨Try.zeroValue120⟩
theorem fA121 : Agg Try.prog 121 false := ⟨Try.isAgg121⟩
theorem fS121 : Sz Try.prog 121 1 := ⟨Try.sizeOf121⟩
theorem fB121 : By Try.prog 121 8 := ⟨fun w => ⟨_, Try.typeInfo121 w, rfl⟩⟩
theorem fZ121 : Zr Try.prog 121 (.nilFunc) := ⟨Try.zeroValue121⟩
theorem fA122 : Agg Try.prog 122 true := ⟨Try.isAgg122⟩
theorem fS122 : Sz Try.prog 122 3 := ⟨Try.sizeOf122⟩
theorem fB122 : By Try.prog 122 48 := ⟨fun w => ⟨_, Try.typeInfo122 w, rfl⟩⟩
theorem fZ122 : Zr Try.prog 122 (.agg [.string { data := #[] }, .string { data := #[] }, .string { data := #[] }].toArray) := ⟨Try.zeroValue122⟩
theorem fF122_0 : Fld Try.prog 122 0 0 := Fld.of Try.underlying122 rfl Try.sizeOf71 rfl rfl
theorem fF122_1 : Fld Try.prog 122 1 2 := Fld.of Try.underlying122 rfl Try.sizeOf9 rfl rfl
theorem fL122 : Bld Try.prog 122 [(0, 2), (2, 1)] [.string { data := #[] }, .string { data := #[] }, .string { data := #[] }] := ⟨_, Try.underlying122, Try.zeroValue122, fun w => by simp [Try.sizeOf71, Try.sizeOf9]⟩
theorem fA123 : Agg Try.prog 123 true := ⟨Try.isAgg123⟩
theorem fS123 : Sz Try.prog 123 3 := ⟨Try.sizeOf123⟩
theorem fB123 : By Try.prog 123 48 := ⟨fun w => ⟨_, Try.typeInfo123 w, rfl⟩⟩
theorem fZ123 : Zr Try.prog 123 (.agg [.string { data := #[] }, .string { data := #[] }, .string { data := #[] }].toArray) := ⟨Try.zeroValue123⟩
theorem fF123_0 : Fld Try.prog 123 0 0 := Fld.of Try.underlying123 rfl Try.sizeOf71 rfl rfl
theorem fF123_1 : Fld Try.prog 123 1 2 := Fld.of Try.underlying123 rfl Try.sizeOf9 rfl rfl
theorem fL123 : Bld Try.prog 123 [(0, 2), (2, 1)] [.string { data := #[] }, .string { data := #[] }, .string { data := #[] }] := ⟨_, Try.underlying123, Try.zeroValue123, fun w => by simp [Try.sizeOf71, Try.sizeOf9]⟩
theorem fU124 : Und Try.prog 124 (.slice 133) := ⟨Try.underlying124⟩
theorem fA124 : Agg Try.prog 124 false := ⟨Try.isAgg124⟩
theorem fS124 : Sz Try.prog 124 1 := ⟨Try.sizeOf124⟩
theorem fB124 : By Try.prog 124 24 := ⟨fun w => ⟨_, Try.typeInfo124 w, rfl⟩⟩
theorem fZ124 : Zr Try.prog 124 (.slice none 0 0) := ⟨Try.zeroValue124⟩
theorem fA125 : Agg Try.prog 125 false := ⟨Try.isAgg125⟩
theorem fS125 : Sz Try.prog 125 1 := ⟨Try.sizeOf125⟩
theorem fB125 : By Try.prog 125 8 := ⟨fun w => ⟨_, Try.typeInfo125 w, rfl⟩⟩
theorem fZ125 : Zr Try.prog 125 (.nilFunc) := ⟨Try.zeroValue125⟩
theorem fA126 : Agg Try.prog 126 false := ⟨Try.isAgg126⟩
theorem fS126 : Sz Try.prog 126 1 := ⟨Try.sizeOf126⟩
theorem fB126 : By Try.prog 126 8 := ⟨fun w => ⟨_, Try.typeInfo126 w, rfl⟩⟩
theorem fZ126 : Zr Try.prog 126 (.nilFunc) := ⟨Try.zeroValue126⟩
theorem fA127 : Agg Try.prog 127 false := ⟨Try.isAgg127⟩
theorem fS127 : Sz Try.prog 127 1 := ⟨Try.sizeOf127⟩
theorem fB127 : By Try.prog 127 8 := ⟨fun w => ⟨_, Try.typeInfo127 w, rfl⟩⟩
theorem fZ127 : Zr Try.prog 127 (.nilFunc) := ⟨Try.zeroValue127⟩
theorem fA128 : Agg Try.prog 128 false := ⟨Try.isAgg128⟩
theorem fS128 : Sz Try.prog 128 1 := ⟨Try.sizeOf128⟩
theorem fB128 : By Try.prog 128 8 := ⟨fun w => ⟨_, Try.typeInfo128 w, rfl⟩⟩
theorem fZ128 : Zr Try.prog 128 (.nilFunc) := ⟨Try.zeroValue128⟩
theorem fA129 : Agg Try.prog 129 false := ⟨Try.isAgg129⟩
theorem fS129 : Sz Try.prog 129 1 := ⟨Try.sizeOf129⟩
theorem fB129 : By Try.prog 129 8 := ⟨fun w => ⟨_, Try.typeInfo129 w, rfl⟩⟩
theorem fZ129 : Zr Try.prog 129 (.nilFunc) := ⟨Try.zeroValue129⟩
theorem fA130 : Agg Try.prog 130 false := ⟨Try.isAgg130⟩
theorem fS130 : Sz Try.prog 130 1 := ⟨Try.sizeOf130⟩
theorem fB130 : By Try.prog 130 8 := ⟨fun w => ⟨_, Try.typeInfo130 w, rfl⟩⟩
theorem fZ130 : Zr Try.prog 130 (.nilFunc) := ⟨Try.zeroValue130⟩
theorem fA131 : Agg Try.prog 131 true := ⟨Try.isAgg131⟩
theorem fS131 : Sz Try.prog 131 9 := ⟨Try.sizeOf131⟩
theorem fB131 : By Try.prog 131 128 := ⟨fun w => ⟨_, Try.typeInfo131 w, rfl⟩⟩
theorem fZ131 : Zr Try.prog 131 (.agg [.string { data := #[] }, .string { data := #[] }, .string { data := #[] }, .string { data := #[] }, .string { data := #[] }, .string { data := #[] }, .string { data := #[] }, .int .u64 0, .int .u64 0].toArray) := ⟨Try.zeroValue131⟩
theorem fF131_0 : Fld Try.prog 131 0 0 := Fld.of Try.underlying131 rfl Try.sizeOf88 rfl rfl
theorem fF131_1 : Fld Try.prog 131 1 7 := Fld.of Try.underlying131 rfl Try.sizeOf24 rfl rfl
theorem fF131_2 : Fld Try.prog 131 2 8 := Fld.of Try.underlying131 rfl Try.sizeOf24 rfl rfl
theorem fL131 : Bld Try.prog 131 [(0, 7), (7, 1), (8, 1)] [.string { data := #[] }, .string { data := #[] }, .string { data := #[] }, .string { data := #[] }, .string { data := #[] }, .string { data := #[] }, .string { data := #[] }, .int .u64 0, .int .u64 0] := ⟨_, Try.underlying131, Try.zeroValue131, fun w => by simp [Try.sizeOf24, Try.sizeOf88]⟩
theorem fA132 : Agg Try.prog 132 true := ⟨Try.isAgg132⟩
theorem fS132 : Sz Try.prog 132 9 := ⟨Try.sizeOf132⟩
theorem fB132 : By Try.prog 132 128 := ⟨fun w => ⟨_, Try.typeInfo132 w, rfl⟩⟩
theorem fZ132 : Zr Try.prog 132 (.agg [.string { data := #[] }, .string { data := #[] }, .string { data := #[] }, .string { data := #[] }, .string { data := #[] }, .string { data := #[] }, .string { data := #[] }, .int .u64 0, .int .u64 0].toArray) := ⟨Try.zeroValue132⟩
theorem fF132_0 : Fld Try.prog 132 0 0 := Fld.of Try.underlying132 rfl Try.sizeOf88 rfl rfl
theorem fF132_1 : Fld Try.prog 132 1 7 := Fld.of Try.underlying132 rfl Try.sizeOf24 rfl rfl
theorem fF132_2 : Fld Try.prog 132 2 8 := Fld.of Try.underlying132 rfl Try.sizeOf24 rfl rfl
theorem fL132 : Bld Try.prog 132 [(0, 7), (7, 1), (8, 1)] [.string { data := #[] }, .string { data := #[] }, .string { data := #[] }, .string { data := #[] }, .string { data := #[] }, .string { data := #[] }, .string { data := #[] }, .int .u64 0, .int .u64 0] := ⟨_, Try.underlying132, Try.zeroValue132, fun w => by simp [Try.sizeOf24, Try.sizeOf88]⟩
theorem fU133 : Und Try.prog 133 (.pointer 132) := ⟨Try.underlying133⟩
theorem fA133 : Agg Try.prog 133 false := ⟨Try.isAgg133⟩
theorem fS133 : Sz Try.prog 133 1 := ⟨Try.sizeOf133⟩
theorem fB133 : By Try.prog 133 8 := ⟨fun w => ⟨_, Try.typeInfo133 w, rfl⟩⟩
theorem fZ133 : Zr Try.prog 133 (.pointer none) := ⟨Try.zeroValue133⟩
theorem fA134 : Agg Try.prog 134 false := ⟨Try.isAgg134⟩
theorem fS134 : Sz Try.prog 134 1 := ⟨Try.sizeOf134⟩
theorem fB134 : By Try.prog 134 8 := ⟨fun w => ⟨_, Try.typeInfo134 w, rfl⟩⟩
theorem fZ134 : Zr Try.prog 134 (.nilFunc) := ⟨Try.zeroValue134⟩
theorem fA135 : Agg Try.prog 135 false := ⟨Try.isAgg135⟩
theorem fS135 : Sz Try.prog 135 1 := ⟨Try.sizeOf135⟩
theorem fB135 : By Try.prog 135 8 := ⟨fun w => ⟨_, Try.typeInfo135 w, rfl⟩⟩
theorem fZ135 : Zr Try.prog 135 (.nilFunc) := ⟨Try.zeroValue135⟩
theorem fA136 : Agg Try.prog 136 false := ⟨Try.isAgg136⟩
theorem fS136 : Sz Try.prog 136 1 := ⟨Try.sizeOf136⟩
theorem fB136 : By Try.prog 136 8 := ⟨fun w => ⟨_, Try.typeInfo136 w, rfl⟩⟩
theorem fZ136 : Zr Try.prog 136 (.nilFunc) := ⟨Try.zeroValue136⟩
theorem fA137 : Agg Try.prog 137 false := ⟨Try.isAgg137⟩
theorem fS137 : Sz Try.prog 137 1 := ⟨Try.sizeOf137⟩
theorem fB137 : By Try.prog 137 8 := ⟨fun w => ⟨_, Try.typeInfo137 w, rfl⟩⟩
theorem fZ137 : Zr Try.prog 137 (.nilFunc) := ⟨Try.zeroValue137⟩
theorem fA138 : Agg Try.prog 138 false := ⟨Try.isAgg138⟩
theorem fS138 : Sz Try.prog 138 1 := ⟨Try.sizeOf138⟩
theorem fB138 : By Try.prog 138 8 := ⟨fun w => ⟨_, Try.typeInfo138 w, rfl⟩⟩
theorem fZ138 : Zr Try.prog 138 (.nilFunc) := ⟨Try.zeroValue138⟩
theorem fA139 : Agg Try.prog 139 false := ⟨Try.isAgg139⟩
theorem fS139 : Sz Try.prog 139 1 := ⟨Try.sizeOf139⟩
theorem fB139 : By Try.prog 139 8 := ⟨fun w => ⟨_, Try.typeInfo139 w, rfl⟩⟩
theorem fZ139 : Zr Try.prog 139 (.nilFunc) := ⟨Try.zeroValue139⟩
theorem fA140 : Agg Try.prog 140 false := ⟨Try.isAgg140⟩
theorem fS140 : Sz Try.prog 140 1 := ⟨Try.sizeOf140⟩
theorem fB140 : By Try.prog 140 8 := ⟨fun w => ⟨_, Try.typeInfo140 w, rfl⟩⟩
theorem fZ140 : Zr Try.prog 140 (.nilFunc) := ⟨Try.zeroValue140⟩
theorem fA141 : Agg Try.prog 141 false := ⟨Try.isAgg141⟩
theorem fS141 : Sz Try.prog 141 1 := ⟨Try.sizeOf141⟩
theorem fB141 : By Try.prog 141 8 := ⟨fun w => ⟨_, Try.typeInfo141 w, rfl⟩⟩
theorem fZ141 : Zr Try.prog 141 (.nilFunc) := ⟨Try.zeroValue141⟩
theorem fA142 : Agg Try.prog 142 false := ⟨Try.isAgg142⟩
theorem fS142 : Sz Try.prog 142 1 := ⟨Try.sizeOf142⟩
theorem fB142 : By Try.prog 142 8 := ⟨fun w => ⟨_, Try.typeInfo142 w, rfl⟩⟩
theorem fZ142 : Zr Try.prog 142 (.nilFunc) := ⟨Try.zeroValue142⟩
theorem fA143 : Agg Try.prog 143 false := ⟨Try.isAgg143⟩
theorem fS143 : Sz Try.prog 143 1 := ⟨Try.sizeOf143⟩
theorem fB143 : By Try.prog 143 8 := ⟨fun w => ⟨_, Try.typeInfo143 w, rfl⟩⟩
theorem fZ143 : Zr Try.prog 143 (.nilFunc) := ⟨Try.zeroValue143⟩
theorem fU144 : Und Try.prog 144 (.map 9 157) := ⟨Try.underlying144⟩
theorem fA144 : Agg Try.prog 144 false := ⟨Try.isAgg144⟩
theorem fS144 : Sz Try.prog 144 1 := ⟨Try.sizeOf144⟩
theorem fB144 : By Try.prog 144 8 := ⟨fun w => ⟨_, Try.typeInfo144 w, rfl⟩⟩
theorem fZ144 : Zr Try.prog 144 (.map none) := ⟨Try.zeroValue144⟩
theorem fU145 : Und Try.prog 145 (.slice 157) := ⟨Try.underlying145⟩
theorem fA145 : Agg Try.prog 145 false := ⟨Try.isAgg145⟩
theorem fS145 : Sz Try.prog 145 1 := ⟨Try.sizeOf145⟩
theorem fB145 : By Try.prog 145 24 := ⟨fun w => ⟨_, Try.typeInfo145 w, rfl⟩⟩
theorem fZ145 : Zr Try.prog 145 (.slice none 0 0) := ⟨Try.zeroValue145⟩
theorem fU146 : Und Try.prog 146 (.slice 157) := ⟨Try.underlying146⟩
theorem fA146 : Agg Try.prog 146 false := ⟨Try.isAgg146⟩
theorem fS146 : Sz Try.prog 146 1 := ⟨Try.sizeOf146⟩
theorem fB146 : By Try.prog 146 24 := ⟨fun w => ⟨_, Try.typeInfo146 w, rfl⟩⟩
theorem fZ146 : Zr Try.prog 146 (.slice none 0 0) := ⟨Try.zeroValue146⟩
theorem fA147 : Agg Try.prog 147 true := ⟨Try.isAgg147⟩
theorem fS147 : Sz Try.prog 147 2 := ⟨Try.sizeOf147⟩
theorem fB147 : By Try.prog 147 32 := ⟨fun w => ⟨_, Try.typeInfo147 w, rfl⟩⟩
theorem fZ147 : Zr Try.prog 147 (.agg [.slice none 0 0, .map none].toArray) := ⟨Try.zeroValue147⟩
theorem fF147_0 : Fld Try.prog 147 0 0 := Fld.of Try.underlying147 rfl Try.sizeOf146 rfl rfl
theorem fF147_1 : Fld Try.prog 147 1 1 := Fld.of Try.underlying147 rfl Try.sizeOf144 rfl rfl
theorem fL147 : Bld Try.prog 147 [(0, 1), (1, 1)] [.slice none 0 0, .map none] := ⟨_, Try.underlying147, Try.zeroValue147, fun w => by simp [Try.sizeOf144, Try.sizeOf146]⟩
theorem fA148 : Agg Try.prog 148 true := ⟨Try.isAgg148⟩
theorem fS148 : Sz Try.prog 148 2 := ⟨Try.sizeOf148⟩
theorem fB148 : By Try.prog 148 32 := ⟨fun w => ⟨_, Try.typeInfo148 w, rfl⟩⟩
theorem fZ148 : Zr Try.prog 148 (.agg [.slice none 0 0, .map none].toArray) := ⟨Try.zeroValue148⟩
theorem fF148_0 : Fld Try.prog 148 0 0 := Fld.of Try.underlying148 rfl Try.sizeOf146 rfl rfl
theorem fF148_1 : Fld Try.prog 148 1 1 := Fld.of Try.underlying148 rfl Try.sizeOf144 rfl rfl
theorem fL148 : Bld Try.prog 148 [(0, 1), (1, 1)] [.slice none 0 0, .map none] := ⟨_, Try.underlying148, Try.zeroValue148, fun w => by simp [Try.sizeOf144, Try.sizeOf146]⟩
theorem fA149 : Agg Try.prog 149 false := ⟨Try.isAgg149⟩
theorem fS149 : Sz Try.prog 149 1 := ⟨Try.sizeOf149⟩
theorem fB149 : By Try.prog 149 8 := ⟨fun w => ⟨_, Try.typeInfo149 w, rfl⟩⟩
theorem fZ149 : Zr Try.prog 149 (.nilFunc) := ⟨Try.zeroValue149⟩
theorem fA150 : Agg Try.prog 150 false := ⟨Try.isAgg150⟩
theorem fS150 : Sz Try.prog 150 1 := ⟨Try.sizeOf150⟩
theorem fB150 : By Try.prog 150 8 := ⟨fun w => ⟨_, Try.typeInfo150 w, rfl⟩⟩
theorem fZ150 : Zr Try.prog 150 (.nilFunc) := ⟨Try.zeroValue150⟩
theorem fA151 : Agg Try.prog 151 false := ⟨Try.isAgg151⟩
theorem fS151 : Sz Try.prog 151 1 := ⟨Try.sizeOf151⟩
theorem fB151 : By Try.prog 151 8 := ⟨fun w => ⟨_, Try.typeInfo151 w, rfl⟩⟩
theorem fZ151 : Zr Try.prog 151 (.nilFunc) := ⟨Try.zeroValue151⟩
theorem fA152 : Agg Try.prog 152 false := ⟨Try.isAgg152⟩
theorem fS152 : Sz Try.prog 152 1 := ⟨Try.sizeOf152⟩
theorem fB152 : By Try.prog 152 8 := ⟨fun w => ⟨_, Try.typeInfo152 w, rfl⟩⟩
theorem fZ152 : Zr Try.prog 152 (.nilFunc) := ⟨Try.zeroValue152⟩
theorem fU153 : Und Try.prog 153 (.int .u64) := ⟨Try.underlying153⟩
theorem fA153 : Agg Try.prog 153 false := ⟨Try.isAgg153⟩
theorem fS153 : Sz Try.prog 153 1 := ⟨Try.sizeOf153⟩
theorem fB153 : By Try.prog 153 8 := ⟨fun w => ⟨_, Try.typeInfo153 w, rfl⟩⟩
theorem fZ153 : Zr Try.prog 153 (.int .u64 0) := ⟨Try.zeroValue153⟩
theorem fA154 : Agg Try.prog 154 false := ⟨Try.isAgg154⟩
theorem fS154 : Sz Try.prog 154 1 := ⟨Try.sizeOf154⟩
theorem fB154 : By Try.prog 154 8 := ⟨fun w => ⟨_, Try.typeInfo154 w, rfl⟩⟩
theorem fZ154 : Zr Try.prog 154 (.nilFunc) := ⟨Try.zeroValue154⟩
theorem fA155 : Agg Try.prog 155 true := ⟨Try.isAgg155⟩
theorem fS155 : Sz Try.prog 155 3 := ⟨Try.sizeOf155⟩
theorem fB155 : By Try.prog 155 32 := ⟨fun w => ⟨_, Try.typeInfo155 w, rfl⟩⟩
theorem fZ155 : Zr Try.prog 155 (.agg [.string { data := #[] }, .int .i64 0, .int .i64 0].toArray) := ⟨Try.zeroValue155⟩
theorem fF155_0 : Fld Try.prog 155 0 0 := Fld.of Try.underlying155 rfl Try.sizeOf9 rfl rfl
theorem fF155_1 : Fld Try.prog 155 1 1 := Fld.of Try.underlying155 rfl Try.sizeOf2 rfl rfl
theorem fF155_2 : Fld Try.prog 155 2 2 := Fld.of Try.underlying155 rfl Try.sizeOf3 rfl rfl
theorem fL155 : Bld Try.prog 155 [(0, 1), (1, 1), (2, 1)] [.string { data := #[] }, .int .i64 0, .int .i64 0] := ⟨_, Try.underlying155, Try.zeroValue155, fun w => by simp [Try.sizeOf2, Try.sizeOf3, Try.sizeOf9]⟩
theorem fA156 : Agg Try.prog 156 true := ⟨Try.isAgg156⟩
theorem fS156 : Sz Try.prog 156 3 := ⟨Try.sizeOf156⟩
theorem fB156 : By Try.prog 156 32 := ⟨fun w => ⟨_, Try.typeInfo156 w, rfl⟩⟩
theorem fZ156 : Zr Try.prog 156 (.agg [.string { data := #[] }, .int .i64 0, .int .i64 0].toArray) := ⟨Try.zeroValue156⟩
theorem fF156_0 : Fld Try.prog 156 0 0 := Fld.of Try.underlying156 rfl Try.sizeOf9 rfl rfl
theorem fF156_1 : Fld Try.prog 156 1 1 := Fld.of Try.underlying156 rfl Try.sizeOf2 rfl rfl
theorem fF156_2 : Fld Try.prog 156 2 2 := Fld.of Try.underlying156 rfl Try.sizeOf3 rfl rfl
theorem fL156 : Bld Try.prog 156 [(0, 1), (1, 1), (2, 1)] [.string { data := #[] }, .int .i64 0, .int .i64 0] := ⟨_, Try.underlying156, Try.zeroValue156, fun w => by simp [Try.sizeOf2, Try.sizeOf3, Try.sizeOf9]⟩
theorem fU157 : Und Try.prog 157 (.pointer 156) := ⟨Try.underlying157⟩
theorem fA157 : Agg Try.prog 157 false := ⟨Try.isAgg157⟩
theorem fS157 : Sz Try.prog 157 1 := ⟨Try.sizeOf157⟩
theorem fB157 : By Try.prog 157 8 := ⟨fun w => ⟨_, Try.typeInfo157 w, rfl⟩⟩
theorem fZ157 : Zr Try.prog 157 (.pointer none) := ⟨Try.zeroValue157⟩
theorem fA158 : Agg Try.prog 158 false := ⟨Try.isAgg158⟩
theorem fS158 : Sz Try.prog 158 1 := ⟨Try.sizeOf158⟩
theorem fB158 : By Try.prog 158 8 := ⟨fun w => ⟨_, Try.typeInfo158 w, rfl⟩⟩
theorem fZ158 : Zr Try.prog 158 (.nilFunc) := ⟨Try.zeroValue158⟩
theorem fU159 : Und Try.prog 159 (.pointer 146) := ⟨Try.underlying159⟩
theorem fA159 : Agg Try.prog 159 false := ⟨Try.isAgg159⟩
theorem fS159 : Sz Try.prog 159 1 := ⟨Try.sizeOf159⟩
theorem fB159 : By Try.prog 159 8 := ⟨fun w => ⟨_, Try.typeInfo159 w, rfl⟩⟩
theorem fZ159 : Zr Try.prog 159 (.pointer none) := ⟨Try.zeroValue159⟩
theorem fA160 : Agg Try.prog 160 false := ⟨Try.isAgg160⟩
theorem fS160 : Sz Try.prog 160 1 := ⟨Try.sizeOf160⟩
theorem fB160 : By Try.prog 160 8 := ⟨fun w => ⟨_, Try.typeInfo160 w, rfl⟩⟩
theorem fZ160 : Zr Try.prog 160 (.nilFunc) := ⟨Try.zeroValue160⟩
theorem fA161 : Agg Try.prog 161 false := ⟨Try.isAgg161⟩
theorem fS161 : Sz Try.prog 161 1 := ⟨Try.sizeOf161⟩
theorem fB161 : By Try.prog 161 8 := ⟨fun w => ⟨_, Try.typeInfo161 w, rfl⟩⟩
theorem fZ161 : Zr Try.prog 161 (.nilFunc) := ⟨Try.zeroValue161⟩
theorem fA162 : Agg Try.prog 162 false := ⟨Try.isAgg162⟩
theorem fS162 : Sz Try.prog 162 1 := ⟨Try.sizeOf162⟩
theorem fB162 : By Try.prog 162 8 := ⟨fun w => ⟨_, Try.typeInfo162 w, rfl⟩⟩
theorem fZ162 : Zr Try.prog 162 (.nilFunc) := ⟨Try.zeroValue162⟩
theorem fA163 : Agg Try.prog 163 false := ⟨Try.isAgg163⟩
theorem fS163 : Sz Try.prog 163 1 := ⟨Try.sizeOf163⟩
theorem fB163 : By Try.prog 163 8 := ⟨fun w => ⟨_, Try.typeInfo163 w, rfl⟩⟩
theorem fZ163 : Zr Try.prog 163 (.nilFunc) := ⟨Try.zeroValue163⟩
theorem fU164 : Und Try.prog 164 (.map 88 4) := ⟨Try.underlying164⟩
theorem fA164 : Agg Try.prog 164 false := ⟨Try.isAgg164⟩
theorem fS164 : Sz Try.prog 164 1 := ⟨Try.sizeOf164⟩
theorem fB164 : By Try.prog 164 8 := ⟨fun w => ⟨_, Try.typeInfo164 w, rfl⟩⟩
theorem fZ164 : Zr Try.prog 164 (.map none) := ⟨Try.zeroValue164⟩
theorem fA165 : Agg Try.prog 165 false := ⟨Try.isAgg165⟩
theorem fS165 : Sz Try.prog 165 1 := ⟨Try.sizeOf165⟩
theorem fB165 : By Try.prog 165 8 := ⟨fun w => ⟨_, Try.typeInfo165 w, rfl⟩⟩
theorem fZ165 : Zr Try.prog 165 (.nilFunc) := ⟨Try.zeroValue165⟩
theorem fA166 : Agg Try.prog 166 false := ⟨Try.isAgg166⟩
theorem fS166 : Sz Try.prog 166 1 := ⟨Try.sizeOf166⟩
theorem fB166 : By Try.prog 166 8 := ⟨fun w => ⟨_, Try.typeInfo166 w, rfl⟩⟩
theorem fZ166 : Zr Try.prog 166 (.nilFunc) := ⟨Try.zeroValue166⟩
theorem fA167 : Agg Try.prog 167 false := ⟨Try.isAgg167⟩
theorem fS167 : Sz Try.prog 167 1 := ⟨Try.sizeOf167⟩
theorem fB167 : By Try.prog 167 8 := ⟨fun w => ⟨_, Try.typeInfo167 w, rfl⟩⟩
theorem fZ167 : Zr Try.prog 167 (.nilFunc) := ⟨Try.zeroValue167⟩
theorem fA168 : Agg Try.prog 168 false := ⟨Try.isAgg168⟩
theorem fS168 : Sz Try.prog 168 1 := ⟨Try.sizeOf168⟩
theorem fB168 : By Try.prog 168 8 := ⟨fun w => ⟨_, Try.typeInfo168 w, rfl⟩⟩
theorem fZ168 : Zr Try.prog 168 (.nilFunc) := ⟨Try.zeroValue168⟩
theorem fA169 : Agg Try.prog 169 false := ⟨Try.isAgg169⟩
theorem fS169 : Sz Try.prog 169 1 := ⟨Try.sizeOf169⟩
theorem fB169 : By Try.prog 169 8 := ⟨fun w => ⟨_, Try.typeInfo169 w, rfl⟩⟩
theorem fZ169 : Zr Try.prog 169 (.nilFunc) := ⟨Try.zeroValue169⟩
theorem fA170 : Agg Try.prog 170 false := ⟨Try.isAgg170⟩
theorem fS170 : Sz Try.prog 170 1 := ⟨Try.sizeOf170⟩
theorem fB170 : By Try.prog 170 8 := ⟨fun w => ⟨_, Try.typeInfo170 w, rfl⟩⟩
theorem fZ170 : Zr Try.prog 170 (.nilFunc) := ⟨Try.zeroValue170⟩
theorem fA171 : Agg Try.prog 171 false := ⟨Try.isAgg171⟩
theorem fS171 : Sz Try.prog 171 1 := ⟨Try.sizeOf171⟩
theorem fB171 : By Try.prog 171 8 := ⟨fun w => ⟨_, Try.typeInfo171 w, rfl⟩⟩
theorem fZ171 : Zr Try.prog 171 (.nilFunc) := ⟨Try.zeroValue171⟩
theorem fA172 : Agg Try.prog 172 false := ⟨Try.isAgg172⟩
theorem fS172 : Sz Try.prog 172 1 := ⟨Try.sizeOf172⟩
theorem fB172 : By Try.prog 172 8 := ⟨fun w => ⟨_, Try.typeInfo172 w, rfl⟩⟩
theorem fZ172 : Zr Try.prog 172 (.nilFunc) := ⟨Try.zeroValue172⟩
theorem fA173 : Agg Try.prog 173 false := ⟨Try.isAgg173⟩
theorem fS173 : Sz Try.prog 173 1 := ⟨Try.sizeOf173⟩
theorem fB173 : By Try.prog 173 8 := ⟨fun w => ⟨_, Try.typeInfo173 w, rfl⟩⟩
theorem fZ173 : Zr Try.prog 173 (.nilFunc) := ⟨Try.zeroValue173⟩
theorem fA174 : Agg Try.prog 174 false := ⟨Try.isAgg174⟩
theorem fS174 : Sz Try.prog 174 1 := ⟨Try.sizeOf174⟩
theorem fB174 : By Try.prog 174 0 := ⟨fun w => ⟨_, Try.typeInfo174 w, rfl⟩⟩
theorem fA175 : Agg Try.prog 175 false := ⟨Try.isAgg175⟩
theorem fS175 : Sz Try.prog 175 1 := ⟨Try.sizeOf175⟩
theorem fB175 : By Try.prog 175 8 := ⟨fun w => ⟨_, Try.typeInfo175 w, rfl⟩⟩
theorem fZ175 : Zr Try.prog 175 (.nilFunc) := ⟨Try.zeroValue175⟩
theorem fA176 : Agg Try.prog 176 false := ⟨Try.isAgg176⟩
theorem fS176 : Sz Try.prog 176 1 := ⟨Try.sizeOf176⟩
theorem fB176 : By Try.prog 176 8 := ⟨fun w => ⟨_, Try.typeInfo176 w, rfl⟩⟩
theorem fZ176 : Zr Try.prog 176 (.nilFunc) := ⟨Try.zeroValue176⟩
theorem fA177 : Agg Try.prog 177 false := ⟨Try.isAgg177⟩
theorem fS177 : Sz Try.prog 177 1 := ⟨Try.sizeOf177⟩
theorem fB177 : By Try.prog 177 8 := ⟨fun w => ⟨_, Try.typeInfo177 w, rfl⟩⟩
theorem fZ177 : Zr Try.prog 177 (.nilFunc) := ⟨Try.zeroValue177⟩
theorem fU178 : Und Try.prog 178 (.int .i64) := ⟨Try.underlying178⟩
theorem fA178 : Agg Try.prog 178 false := ⟨Try.isAgg178⟩
theorem fS178 : Sz Try.prog 178 1 := ⟨Try.sizeOf178⟩
theorem fB178 : By Try.prog 178 8 := ⟨fun w => ⟨_, Try.typeInfo178 w, rfl⟩⟩
theorem fZ178 : Zr Try.prog 178 (.int .i64 0) := ⟨Try.zeroValue178⟩
theorem fA179 : Agg Try.prog 179 false := ⟨Try.isAgg179⟩
theorem fS179 : Sz Try.prog 179 1 := ⟨Try.sizeOf179⟩
theorem fB179 : By Try.prog 179 0 := ⟨fun w => ⟨_, Try.typeInfo179 w, rfl⟩⟩
theorem fA180 : Agg Try.prog 180 false := ⟨Try.isAgg180⟩
theorem fS180 : Sz Try.prog 180 1 := ⟨Try.sizeOf180⟩
theorem fB180 : By Try.prog 180 8 := ⟨fun w => ⟨_, Try.typeInfo180 w, rfl⟩⟩
theorem fZ180 : Zr Try.prog 180 (.nilFunc) := ⟨Try.zeroValue180⟩
theorem fA181 : Agg Try.prog 181 false := ⟨Try.isAgg181⟩
theorem fS181 : Sz Try.prog 181 1 := ⟨Try.sizeOf181⟩
theorem fB181 : By Try.prog 181 8 := ⟨fun w => ⟨_, Try.typeInfo181 w, rfl⟩⟩
theorem fZ181 : Zr Try.prog 181 (.nilFunc) := ⟨Try.zeroValue181⟩
theorem fA182 : Agg Try.prog 182 false := ⟨Try.isAgg182⟩
theorem fS182 : Sz Try.prog 182 1 := ⟨Try.sizeOf182⟩
theorem fB182 : By Try.prog 182 8 := ⟨fun w => ⟨_, Try.typeInfo182 w, rfl⟩⟩
theorem fZ182 : Zr Try.prog 182 (.nilFunc) := ⟨Try.zeroValue182⟩
theorem fA183 : Agg Try.prog 183 false := ⟨Try.isAgg183⟩
theorem fS183 : Sz Try.prog 183 1 := ⟨Try.sizeOf183⟩
theorem fB183 : By Try.prog 183 0 := ⟨fun w => ⟨_, Try.typeInfo183 w, rfl⟩⟩
theorem fA184 : Agg Try.prog 184 false := ⟨Try.isAgg184⟩
theorem fS184 : Sz Try.prog 184 1 := ⟨Try.sizeOf184⟩
theorem fB184 : By Try.prog 184 8 := ⟨fun w => ⟨_, Try.typeInfo184 w, rfl⟩⟩
theorem fZ184 : Zr Try.prog 184 (.nilFunc) := ⟨Try.zeroValue184⟩
theorem fA185 : Agg Try.prog 185 false := ⟨Try.isAgg185⟩
theorem fS185 : Sz Try.prog 185 1 := ⟨Try.sizeOf185⟩
theorem fB185 : By Try.prog 185 8 := ⟨fun w => ⟨_, Try.typeInfo185 w, rfl⟩⟩
theorem fZ185 : Zr Try.prog 185 (.nilFunc) := ⟨Try.zeroValue185⟩
theorem fU186 : Und Try.prog 186 (.int .u32) := ⟨Try.underlying186⟩
theorem fA186 : Agg Try.prog 186 false := ⟨Try.isAgg186⟩
theorem fS186 : Sz Try.prog 186 1 := ⟨Try.sizeOf186⟩
theorem fB186 : By Try.prog 186 4 := ⟨fun w => ⟨_, Try.typeInfo186 w, rfl⟩⟩
theorem fZ186 : Zr Try.prog 186 (.int .u32 0) := ⟨Try.zeroValue186⟩
theorem fA187 : Agg Try.prog 187 false := ⟨Try.isAgg187⟩
theorem fS187 : Sz Try.prog 187 1 := ⟨Try.sizeOf187⟩
theorem fB187 : By Try.prog 187 8 := ⟨fun w => ⟨_, Try.typeInfo187 w, rfl⟩⟩
theorem fZ187 : Zr Try.prog 187 (.nilFunc) := ⟨Try.zeroValue187⟩
theorem fA188 : Agg Try.prog 188 false := ⟨Try.isAgg188⟩
theorem fS188 : Sz Try.prog 188 1 := ⟨Try.sizeOf188⟩
theorem fB188 : By Try.prog 188 8 := ⟨fun w => ⟨_, Try.typeInfo188 w, rfl⟩⟩
theorem fZ188 : Zr Try.prog 188 (.nilFunc) := ⟨Try.zeroValue188⟩
theorem fA189 : Agg Try.prog 189 false := ⟨Try.isAgg189⟩
theorem fS189 : Sz Try.prog 189 1 := ⟨Try.sizeOf189⟩
theorem fB189 : By Try.prog 189 16 := ⟨fun w => ⟨_, Try.typeInfo189 w, rfl⟩⟩
theorem fZ189 : Zr Try.prog 189 (.nilIface) := ⟨Try.zeroValue189⟩
theorem fA190 : Agg Try.prog 190 false := ⟨Try.isAgg190⟩
theorem fS190 : Sz Try.prog 190 1 := ⟨Try.sizeOf190⟩
theorem fB190 : By Try.prog 190 16 := ⟨fun w => ⟨_, Try.typeInfo190 w, rfl⟩⟩
theorem fZ190 : Zr Try.prog 190 (.nilIface) := ⟨Try.zeroValue190⟩
theorem fA191 : Agg Try.prog 191 false := ⟨Try.isAgg191⟩
theorem fS191 : Sz Try.prog 191 1 := ⟨Try.sizeOf191⟩
theorem fB191 : By Try.prog 191 8 := ⟨fun w => ⟨_, Try.typeInfo191 w, rfl⟩⟩
theorem fZ191 : Zr Try.prog 191 (.nilFunc) := ⟨Try.zeroValue191⟩
theorem fA192 : Agg Try.prog 192 false := ⟨Try.isAgg192⟩
theorem fS192 : Sz Try.prog 192 1 := ⟨Try.sizeOf192⟩
theorem fB192 : By Try.prog 192 8 := ⟨fun w => ⟨_, Try.typeInfo192 w, rfl⟩⟩
theorem fZ192 : Zr Try.prog 192 (.nilFunc) := ⟨Try.zeroValue192⟩
theorem fA193 : Agg Try.prog 193 false := ⟨Try.isAgg193⟩
theorem fS193 : Sz Try.prog 193 1 := ⟨Try.sizeOf193⟩
theorem fB193 : By Try.prog 193 8 := ⟨fun w => ⟨_, Try.typeInfo193 w, rfl⟩⟩
theorem fZ193 : Zr Try.prog 193 (.nilFunc) := ⟨Try.zeroValue193⟩
theorem fA194 : Agg Try.prog 194 false := ⟨Try.isAgg194⟩
theorem fS194 : Sz Try.prog 194 1 := ⟨Try.sizeOf194⟩
theorem fB194 : By Try.prog 194 8 := ⟨fun w => ⟨_, Try.typeInfo194 w, rfl⟩⟩
theorem fZ194 : Zr Try.prog 194 (.nilFunc) := ⟨Try.zeroValue194⟩
theorem fA195 : Agg Try.prog 195 false := ⟨Try.isAgg195⟩
theorem fS195 : Sz Try.prog 195 1 := ⟨Try.sizeOf195⟩
theorem fB195 : By Try.prog 195 8 := ⟨fun w => ⟨_, Try.typeInfo195 w, rfl⟩⟩
theorem fZ195 : Zr Try.prog 195 (.nilFunc) := ⟨Try.zeroValue195⟩
theorem fA196 : Agg Try.prog 196 false := ⟨Try.isAgg196⟩
theorem fS196 : Sz Try.prog 196 1 := ⟨Try.sizeOf196⟩
theorem fB196 : By Try.prog 196 8 := ⟨fun w => ⟨_, Try.typeInfo196 w, rfl⟩⟩
theorem fZ196 : Zr Try.prog 196 (.nilFunc) := ⟨Try.zeroValue196⟩
theorem fA197 : Agg Try.prog 197 false := ⟨Try.isAgg197⟩
theorem fS197 : Sz Try.prog 197 1 := ⟨Try.sizeOf197⟩
theorem fB197 : By Try.prog 197 8 := ⟨fun w => ⟨_, Try.typeInfo197 w, rfl⟩⟩
theorem fZ197 : Zr Try.prog 197 (.nilFunc) := ⟨Try.zeroValue197⟩
theorem fA198 : Agg Try.prog 198 false := ⟨Try.isAgg198⟩
theorem fS198 : Sz Try.prog 198 1 := ⟨Try.sizeOf198⟩
theorem fB198 : By Try.prog 198 8 := ⟨fun w => ⟨_, Try.typeInfo198 w, rfl⟩⟩
theorem fZ198 : Zr Try.prog 198 (.nilFunc) := ⟨Try.zeroValue198⟩
theorem fA199 : Agg Try.prog 199 false := ⟨Try.isAgg199⟩
theorem fS199 : Sz Try.prog 199 1 := ⟨Try.sizeOf199⟩
theorem fB199 : By Try.prog 199 8 := ⟨fun w => ⟨_, Try.typeInfo199 w, rfl⟩⟩
theorem fZ199 : Zr Try.prog 199 (.nilFunc) := ⟨Try.zeroValue199⟩
theorem fA200 : Agg Try.prog 200 false := ⟨Try.isAgg200⟩
theorem fS200 : Sz Try.prog 200 1 := ⟨Try.sizeOf200⟩
theorem fB200 : By Try.prog 200 8 := ⟨fun w => ⟨_, Try.typeInfo200 w, rfl⟩⟩
theorem fZ200 : Zr Try.prog 200 (.nilFunc) := ⟨Try.zeroValue200⟩
theorem fA201 : Agg Try.prog 201 false := ⟨Try.isAgg201⟩
theorem fS201 : Sz Try.prog 201 1 := ⟨Try.sizeOf201⟩
theorem fB201 : By Try.prog 201 8 := ⟨fun w => ⟨_, Try.typeInfo201 w, rfl⟩⟩
theorem fZ201 : Zr Try.prog 201 (.nilFunc) := ⟨Try.zeroValue201⟩
theorem fA202 : Agg Try.prog 202 false := ⟨Try.isAgg202⟩
theorem fS202 : Sz Try.prog 202 1 := ⟨Try.sizeOf202⟩
theorem fB202 : By Try.prog 202 8 := ⟨fun w => ⟨_, Try.typeInfo202 w, rfl⟩⟩
theorem fZ202 : Zr Try.prog 202 (.nilFunc) := ⟨Try.zeroValue202⟩
theorem fA203 : Agg Try.prog 203 false := ⟨Try.isAgg203⟩
theorem fS203 : Sz Try.prog 203 1 := ⟨Try.sizeOf203⟩
theorem fB203 : By Try.prog 203 8 := ⟨fun w => ⟨_, Try.typeInfo203 w, rfl⟩⟩
theorem fZ203 : Zr Try.prog 203 (.nilFunc) := ⟨Try.zeroValue203⟩
theorem fA204 : Agg Try.prog 204 false := ⟨Try.isAgg204⟩
theorem fS204 : Sz Try.prog 204 1 := ⟨Try.sizeOf204⟩
theorem fB204 : By Try.prog 204 8 := ⟨fun w => ⟨_, Try.typeInfo204 w, rfl⟩⟩
theorem fZ204 : Zr Try.prog 204 (.nilFunc) := ⟨Try.zeroValue204⟩
theorem fA205 : Agg Try.prog 205 false := ⟨Try.isAgg205⟩
theorem fS205 : Sz Try.prog 205 1 := ⟨Try.sizeOf205⟩
theorem fB205 : By Try.prog 205 8 := ⟨fun w => ⟨_, Try.typeInfo205 w, rfl⟩⟩
theorem fZ205 : Zr Try.prog 205 (.nilFunc) := ⟨Try.zeroValue205⟩
theorem fA206 : Agg Try.prog 206 false := ⟨Try.isAgg206⟩
theorem fS206 : Sz Try.prog 206 1 := ⟨Try.sizeOf206⟩
theorem fB206 : By Try.prog 206 8 := ⟨fun w => ⟨_, Try.typeInfo206 w, rfl⟩⟩
theorem fZ206 : Zr Try.prog 206 (.nilFunc) := ⟨Try.zeroValue206⟩
theorem fU207 : Und Try.prog 207 (.slice 3) := ⟨Try.underlying207⟩
theorem fA207 : Agg Try.prog 207 false := ⟨Try.isAgg207⟩
theorem fS207 : Sz Try.prog 207 1 := ⟨Try.sizeOf207⟩
theorem fB207 : By Try.prog 207 24 := ⟨fun w => ⟨_, Try.typeInfo207 w, rfl⟩⟩
theorem fZ207 : Zr Try.prog 207 (.slice none 0 0) := ⟨Try.zeroValue207⟩
theorem fA208 : Agg Try.prog 208 false := ⟨Try.isAgg208⟩
theorem fS208 : Sz Try.prog 208 1 := ⟨Try.sizeOf208⟩
theorem fB208 : By Try.prog 208 8 := ⟨fun w => ⟨_, Try.typeInfo208 w, rfl⟩⟩
theorem fZ208 : Zr Try.prog 208 (.nilFunc) := ⟨Try.zeroValue208⟩
theorem fU209 : Und Try.prog 209 (.int .u64) := ⟨Try.underlying209⟩
theorem fA209 : Agg Try.prog 209 false := ⟨Try.isAgg209⟩
theorem fS209 : Sz Try.prog 209 1 := ⟨Try.sizeOf209⟩
theorem fB209 : By Try.prog 209 8 := ⟨fun w => ⟨_, Try.typeInfo209 w, rfl⟩⟩
theorem fZ209 : Zr Try.prog 209 (.int .u64 0) := ⟨Try.zeroValue209⟩
theorem fA210 : Agg Try.prog 210 false := ⟨Try.isAgg210⟩
theorem fS210 : Sz Try.prog 210 1 := ⟨Try.sizeOf210⟩
theorem fB210 : By Try.prog 210 8 := ⟨fun w => ⟨_, Try.typeInfo210 w, rfl⟩⟩
theorem fZ210 : Zr Try.prog 210 (.nilFunc) := ⟨Try.zeroValue210⟩
theorem fA211 : Agg Try.prog 211 false := ⟨Try.isAgg211⟩
theorem fS211 : Sz Try.prog 211 1 := ⟨Try.sizeOf211⟩
theorem fB211 : By Try.prog 211 8 := ⟨fun w => ⟨_, Try.typeInfo211 w, rfl⟩⟩
theorem fZ211 : Zr Try.prog 211 (.nilFunc) := ⟨Try.zeroValue211⟩
theorem fU212 : Und Try.prog 212 (.pointer 3) := ⟨Try.underlying212⟩
theorem fA212 : Agg Try.prog 212 false := ⟨Try.isAgg212⟩
theorem fS212 : Sz Try.prog 212 1 := ⟨Try.sizeOf212⟩
theorem fB212 : By Try.prog 212 8 := ⟨fun w => ⟨_, Try.typeInfo212 w, rfl⟩⟩
theorem fZ212 : Zr Try.prog 212 (.pointer none) := ⟨Try.zeroValue212⟩
theorem fA213 : Agg Try.prog 213 false := ⟨Try.isAgg213⟩
theorem fS213 : Sz Try.prog 213 1 := ⟨Try.sizeOf213⟩
theorem fB213 : By Try.prog 213 8 := ⟨fun w => ⟨_, Try.typeInfo213 w, rfl⟩⟩
theorem fZ213 : Zr Try.prog 213 (.nilFunc) := ⟨Try.zeroValue213⟩
theorem fA214 : Agg Try.prog 214 false := ⟨Try.isAgg214⟩
theorem fS214 : Sz Try.prog 214 1 := ⟨Try.sizeOf214⟩
theorem fB214 : By Try.prog 214 8 := ⟨fun w => ⟨_, Try.typeInfo214 w, rfl⟩⟩
theorem fZ214 : Zr Try.prog 214 (.nilFunc) := ⟨Try.zeroValue214⟩
theorem fA215 : Agg Try.prog 215 false := ⟨Try.isAgg215⟩
theorem fS215 : Sz Try.prog 215 1 := ⟨Try.sizeOf215⟩
theorem fB215 : By Try.prog 215 8 := ⟨fun w => ⟨_, Try.typeInfo215 w, rfl⟩⟩
theorem fZ215 : Zr Try.prog 215 (.nilFunc) := ⟨Try.zeroValue215⟩
theorem fA216 : Agg Try.prog 216 false := ⟨Try.isAgg216⟩
theorem fS216 : Sz Try.prog 216 1 := ⟨Try.sizeOf216⟩
theorem fB216 : By Try.prog 216 8 := ⟨fun w => ⟨_, Try.typeInfo216 w, rfl⟩⟩
theorem fZ216 : Zr Try.prog 216 (.nilFunc) := ⟨Try.zeroValue216⟩
theorem fA217 : Agg Try.prog 217 false := ⟨Try.isAgg217⟩
theorem fS217 : Sz Try.prog 217 1 := ⟨Try.sizeOf217⟩
theorem fB217 : By Try.prog 217 8 := ⟨fun w => ⟨_, Try.typeInfo217 w, rfl⟩⟩
theorem fZ217 : Zr Try.prog 217 (.nilFunc) := ⟨Try.zeroValue217⟩
theorem fA218 : Agg Try.prog 218 false := ⟨Try.isAgg218⟩
theorem fS218 : Sz Try.prog 218 1 := ⟨Try.sizeOf218⟩
theorem fB218 : By Try.prog 218 8 := ⟨fun w => ⟨_, Try.typeInfo218 w, rfl⟩⟩
theorem fZ218 : Zr Try.prog 218 (.nilFunc) := ⟨Try.zeroValue218⟩
theorem fA219 : Agg Try.prog 219 false := ⟨Try.isAgg219⟩
theorem fS219 : Sz Try.prog 219 1 := ⟨Try.sizeOf219⟩
theorem fB219 : By Try.prog 219 8 := ⟨fun w => ⟨_, Try.typeInfo219 w, rfl⟩⟩
theorem fZ219 : Zr Try.prog 219 (.nilFunc) := ⟨Try.zeroValue219⟩
theorem fA220 : Agg Try.prog 220 false := ⟨Try.isAgg220⟩
theorem fS220 : Sz Try.prog 220 1 := ⟨Try.sizeOf220⟩
theorem fB220 : By Try.prog 220 8 := ⟨fun w => ⟨_, Try.typeInfo220 w, rfl⟩⟩
theorem fZ220 : Zr Try.prog 220 (.nilFunc) := ⟨Try.zeroValue220⟩
theorem fA221 : Agg Try.prog 221 false := ⟨Try.isAgg221⟩
theorem fS221 : Sz Try.prog 221 1 := ⟨Try.sizeOf221⟩
theorem fB221 : By Try.prog 221 8 := ⟨fun w => ⟨_, Try.typeInfo221 w, rfl⟩⟩
theorem fZ221 : Zr Try.prog 221 (.nilFunc) := ⟨Try.zeroValue221⟩
theorem fA222 : Agg Try.prog 222 false := ⟨Try.isAgg222⟩
theorem fS222 : Sz Try.prog 222 1 := ⟨Try.sizeOf222⟩
theorem fB222 : By Try.prog 222 8 := ⟨fun w => ⟨_, Try.typeInfo222 w, rfl⟩⟩
theorem fZ222 : Zr Try.prog 222 (.nilFunc) := ⟨Try.zeroValue222⟩
theorem fA223 : Agg Try.prog 223 false := ⟨Try.isAgg223⟩
theorem fS223 : Sz Try.prog 223 1 := ⟨Try.sizeOf223⟩
theorem fB223 : By Try.prog 223 8 := ⟨fun w => ⟨_, Try.typeInfo223 w, rfl⟩⟩
theorem fZ223 : Zr Try.prog 223 (.nilFunc) := ⟨Try.zeroValue223⟩
theorem fU224 : Und Try.prog 224 (.pointer 209) := ⟨Try.underlying224⟩
theorem fA224 : Agg Try.prog 224 false := ⟨Try.isAgg224⟩
theorem fS224 : Sz Try.prog 224 1 := ⟨Try.sizeOf224⟩
theorem fB224 : By Try.prog 224 8 := ⟨fun w => ⟨_, Try.typeInfo224 w, rfl⟩⟩
theorem fZ224 : Zr Try.prog 224 (.pointer none) := ⟨Try.zeroValue224⟩
theorem fA225 : Agg Try.prog 225 false := ⟨Try.isAgg225⟩
theorem fS225 : Sz Try.prog 225 1 := ⟨Try.sizeOf225⟩
theorem fB225 : By Try.prog 225 0 := ⟨fun w => ⟨_, Try.typeInfo225 w, rfl⟩⟩
theorem fA226 : Agg Try.prog 226 false := ⟨Try.isAgg226⟩
theorem fS226 : Sz Try.prog 226 1 := ⟨Try.sizeOf226⟩
theorem fB226 : By Try.prog 226 8 := ⟨fun w => ⟨_, Try.typeInfo226 w, rfl⟩⟩
theorem fZ226 : Zr Try.prog 226 (.nilFunc) := ⟨Try.zeroValue226⟩
theorem fA227 : Agg Try.prog 227 false := ⟨Try.isAgg227⟩
theorem fS227 : Sz Try.prog 227 1 := ⟨Try.sizeOf227⟩
theorem fB227 : By Try.prog 227 8 := ⟨fun w => ⟨_, Try.typeInfo227 w, rfl⟩⟩
theorem fZ227 : Zr Try.prog 227 (.nilFunc) := ⟨Try.zeroValue227⟩
theorem fA228 : Agg Try.prog 228 false := ⟨Try.isAgg228⟩
theorem fS228 : Sz Try.prog 228 1 := ⟨Try.sizeOf228⟩
theorem fB228 : By Try.prog 228 8 := ⟨fun w => ⟨_, Try.typeInfo228 w, rfl⟩⟩
theorem fZ228 : Zr Try.prog 228 (.nilFunc) := ⟨Try.zeroValue228⟩
theorem fA229 : Agg Try.prog 229 false := ⟨Try.isAgg229⟩
theorem fS229 : Sz Try.prog 229 1 := ⟨Try.sizeOf229⟩
theorem fB229 : By Try.prog 229 8 := ⟨fun w => ⟨_, Try.typeInfo229 w, rfl⟩⟩
theorem fZ229 : Zr Try.prog 229 (.nilFunc) := ⟨Try.zeroValue229⟩
theorem fA230 : Agg Try.prog 230 false := ⟨Try.isAgg230⟩
theorem fS230 : Sz Try.prog 230 1 := ⟨Try.sizeOf230⟩
theorem fB230 : By Try.prog 230 8 := ⟨fun w => ⟨_, Try.typeInfo230 w, rfl⟩⟩
theorem fZ230 : Zr Try.prog 230 (.nilFunc) := ⟨Try.zeroValue230⟩
theorem fA231 : Agg Try.prog 231 false := ⟨Try.isAgg231⟩
theorem fS231 : Sz Try.prog 231 1 := ⟨Try.sizeOf231⟩
theorem fB231 : By Try.prog 231 8 := ⟨fun w => ⟨_, Try.typeInfo231 w, rfl⟩⟩
theorem fZ231 : Zr Try.prog 231 (.nilFunc) := ⟨Try.zeroValue231⟩
theorem fA232 : Agg Try.prog 232 false := ⟨Try.isAgg232⟩
theorem fS232 : Sz Try.prog 232 1 := ⟨Try.sizeOf232⟩
theorem fB232 : By Try.prog 232 8 := ⟨fun w => ⟨_, Try.typeInfo232 w, rfl⟩⟩
theorem fZ232 : Zr Try.prog 232 (.nilFunc) := ⟨Try.zeroValue232⟩
theorem fA233 : Agg Try.prog 233 true := ⟨Try.isAgg233⟩
theorem fS233 : Sz Try.prog 233 4 := ⟨Try.sizeOf233⟩
theorem fB233 : By Try.prog 233 40 := ⟨fun w => ⟨_, Try.typeInfo233 w, rfl⟩⟩
theorem fZ233 : Zr Try.prog 233 (.agg [.pointer none, .pointer none, .pointer none, .string { data := #[] }].toArray) := ⟨Try.zeroValue233⟩
theorem fF233_0 : Fld Try.prog 233 0 0 := Fld.of Try.underlying233 rfl Try.sizeOf17 rfl rfl
theorem fF233_1 : Fld Try.prog 233 1 1 := Fld.of Try.underlying233 rfl Try.sizeOf17 rfl rfl
theorem fF233_2 : Fld Try.prog 233 2 2 := Fld.of Try.underlying233 rfl Try.sizeOf17 rfl rfl
theorem fF233_3 : Fld Try.prog 233 3 3 := Fld.of Try.underlying233 rfl Try.sizeOf9 rfl rfl
theorem fL233 : Bld Try.prog 233 [(0, 1), (1, 1), (2, 1), (3, 1)] [.pointer none, .pointer none, .pointer none, .string { data := #[] }] := ⟨_, Try.underlying233, Try.zeroValue233, fun w => by simp [Try.sizeOf17, Try.sizeOf9]⟩
theorem fA234 : Agg Try.prog 234 true := ⟨Try.isAgg234⟩
theorem fS234 : Sz Try.prog 234 4 := ⟨Try.sizeOf234⟩
theorem fB234 : By Try.prog 234 40 := ⟨fun w => ⟨_, Try.typeInfo234 w, rfl⟩⟩
theorem fZ234 : Zr Try.prog 234 (.agg [.pointer none, .pointer none, .pointer none, .string { data := #[] }].toArray) := ⟨Try.zeroValue234⟩
theorem fF234_0 : Fld Try.prog 234 0 0 := Fld.of Try.underlying234 rfl Try.sizeOf17 rfl rfl
theorem fF234_1 : Fld Try.prog 234 1 1 := Fld.of Try.underlying234 rfl Try.sizeOf17 rfl rfl
theorem fF234_2 : Fld Try.prog 234 2 2 := Fld.of Try.underlying234 rfl Try.sizeOf17 rfl rfl
theorem fF234_3 : Fld Try.prog 234 3 3 := Fld.of Try.underlying234 rfl Try.sizeOf9 rfl rfl
theorem fL234 : Bld Try.prog 234 [(0, 1), (1, 1), (2, 1), (3, 1)] [.pointer none, .pointer none, .pointer none, .string { data := #[] }] := ⟨_, Try.underlying234, Try.zeroValue234, fun w => by simp [Try.sizeOf17, Try.sizeOf9]⟩
theorem fU235 : Und Try.prog 235 (.array 0 16) := ⟨Try.underlying235⟩
theorem fA235 : Agg Try.prog 235 true := ⟨Try.isAgg235⟩
theorem fS235 : Sz Try.prog 235 0 := ⟨Try.sizeOf235⟩
theorem fB235 : By Try.prog 235 0 := ⟨fun w => ⟨_, Try.typeInfo235 w, rfl⟩⟩
theorem fZ235 : Zr Try.prog 235 (.agg [].toArray) := ⟨Try.zeroValue235⟩
theorem fA236 : Agg Try.prog 236 true := ⟨Try.isAgg236⟩
theorem fS236 : Sz Try.prog 236 0 := ⟨Try.sizeOf236⟩
theorem fB236 : By Try.prog 236 0 := ⟨fun w => ⟨_, Try.typeInfo236 w, rfl⟩⟩
theorem fZ236 : Zr Try.prog 236 (.agg [].toArray) := ⟨Try.zeroValue236⟩
theorem fL236 : Bld Try.prog 236 [(0, 0)] [] := ⟨_, Try.underlying236, Try.zeroValue236, fun w => by simp [Try.sizeOf235]⟩
theorem fA237 : Agg Try.prog 237 true := ⟨Try.isAgg237⟩
theorem fS237 : Sz Try.prog 237 0 := ⟨Try.sizeOf237⟩
theorem fB237 : By Try.prog 237 0 := ⟨fun w => ⟨_, Try.typeInfo237 w, rfl⟩⟩
theorem fZ237 : Zr Try.prog 237 (.agg [].toArray) := ⟨Try.zeroValue237⟩
theorem fL237 : Bld Try.prog 237 [(0, 0)] [] := ⟨_, Try.underlying237, Try.zeroValue237, fun w => by simp [Try.sizeOf235]⟩
theorem fU238 : Und Try.prog 238 (.int .u8) := ⟨Try.underlying238⟩
theorem fA238 : Agg Try.prog 238 false := ⟨Try.isAgg238⟩
theorem fS238 : Sz Try.prog 238 1 := ⟨Try.sizeOf238⟩
theorem fB238 : By Try.prog 238 1 := ⟨fun w => ⟨_, Try.typeInfo238 w, rfl⟩⟩
theorem fZ238 : Zr Try.prog 238 (.int .u8 0) := ⟨Try.zeroValue238⟩
theorem fU239 : Und Try.prog 239 (.int .u8) := ⟨Try.underlying239⟩
theorem fA239 : Agg Try.prog 239 false := ⟨Try.isAgg239⟩
theorem fS239 : Sz Try.prog 239 1 := ⟨Try.sizeOf239⟩
theorem fB239 : By Try.prog 239 1 := ⟨fun w => ⟨_, Try.typeInfo239 w, rfl⟩⟩
theorem fZ239 : Zr Try.prog 239 (.int .u8 0) := ⟨Try.zeroValue239⟩
theorem fA240 : Agg Try.prog 240 false := ⟨Try.isAgg240⟩
theorem fS240 : Sz Try.prog 240 1 := ⟨Try.sizeOf240⟩
theorem fB240 : By Try.prog 240 8 := ⟨fun w => ⟨_, Try.typeInfo240 w, rfl⟩⟩
theorem fZ240 : Zr Try.prog 240 (.nilFunc) := ⟨Try.zeroValue240⟩
theorem fU241 : Und Try.prog 241 (.pointer 5) := ⟨Try.underlying241⟩
theorem fA241 : Agg Try.prog 241 false := ⟨Try.isAgg241⟩
theorem fS241 : Sz Try.prog 241 1 := ⟨Try.sizeOf241⟩
theorem fB241 : By Try.prog 241 8 := ⟨fun w => ⟨_, Try.typeInfo241 w, rfl⟩⟩
theorem fZ241 : Zr Try.prog 241 (.pointer none) := ⟨Try.zeroValue241⟩
theorem fU242 : Und Try.prog 242 (.int .i32) := ⟨Try.underlying242⟩
theorem fA242 : Agg Try.prog 242 false := ⟨Try.isAgg242⟩
theorem fS242 : Sz Try.prog 242 1 := ⟨Try.sizeOf242⟩
theorem fB242 : By Try.prog 242 4 := ⟨fun w => ⟨_, Try.typeInfo242 w, rfl⟩⟩
theorem fZ242 : Zr Try.prog 242 (.int .i32 0) := ⟨Try.zeroValue242⟩
theorem fU243 : Und Try.prog 243 (.int .i32) := ⟨Try.underlying243⟩
theorem fA243 : Agg Try.prog 243 false := ⟨Try.isAgg243⟩
theorem fS243 : Sz Try.prog 243 1 := ⟨Try.sizeOf243⟩
theorem fB243 : By Try.prog 243 4 := ⟨fun w => ⟨_, Try.typeInfo243 w, rfl⟩⟩
theorem fZ243 : Zr Try.prog 243 (.int .i32 0) := ⟨Try.zeroValue243⟩
theorem fA244 : Agg Try.prog 244 true := ⟨Try.isAgg244⟩
theorem fS244 : Sz Try.prog 244 11 := ⟨Try.sizeOf244⟩
theorem fB244 : By Try.prog 244 48 := ⟨fun w => ⟨_, Try.typeInfo244 w, rfl⟩⟩
theorem fZ244 : Zr Try.prog 244 (.agg [.int .u64 0, .int .u64 0, .int .u32 0, .int .u8 0, .int .u8 0, .int .u8 0, .int .u8 0, .nilFunc, .pointer none, .int .i32 0, .int .i32 0].toArray) := ⟨Try.zeroValue244⟩
theorem fF244_0 : Fld Try.prog 244 0 0 := Fld.of Try.underlying244 rfl Try.sizeOf12 rfl rfl
theorem fF244_1 : Fld Try.prog 244 1 1 := Fld.of Try.underlying244 rfl Try.sizeOf12 rfl rfl
theorem fF244_2 : Fld Try.prog 244 2 2 := Fld.of Try.underlying244 rfl Try.sizeOf186 rfl rfl
theorem fF244_3 : Fld Try.prog 244 3 3 := Fld.of Try.underlying244 rfl Try.sizeOf238 rfl rfl
theorem fF244_4 : Fld Try.prog 244 4 4 := Fld.of Try.underlying244 rfl Try.sizeOf5 rfl rfl
theorem fF244_5 : Fld Try.prog 244 5 5 := Fld.of Try.underlying244 rfl Try.sizeOf5 rfl rfl
theorem fF244_6 : Fld Try.prog 244 6 6 := Fld.of Try.underlying244 rfl Try.sizeOf239 rfl rfl
theorem fF244_7 : Fld Try.prog 244 7 7 := Fld.of Try.underlying244 rfl Try.sizeOf240 rfl rfl
theorem fF244_8 : Fld Try.prog 244 8 8 := Fld.of Try.underlying244 rfl Try.sizeOf241 rfl rfl
theorem fF244_9 : Fld Try.prog 244 9 9 := Fld.of Try.underlying244 rfl Try.sizeOf242 rfl rfl
theorem fF244_10 : Fld Try.prog 244 10 10 := Fld.of Try.underlying244 rfl Try.sizeOf243 rfl rfl
theorem fL244 : Bld Try.prog 244 [(0, 1), (1, 1), (2, 1), (3, 1), (4, 1), (5, 1), (6, 1), (7, 1), (8, 1), (9, 1), (10, 1)] [.int .u64 0, .int .u64 0, .int .u32 0, .int .u8 0, .int .u8 0, .int .u8 0, .int .u8 0, .nilFunc, .pointer none, .int .i32 0, .int .i32 0] := ⟨_, Try.underlying244, Try.zeroValue244, fun w => by simp [Try.sizeOf12, Try.sizeOf186, Try.sizeOf238, Try.sizeOf239, Try.sizeOf240, Try.sizeOf241, Try.sizeOf242, Try.sizeOf243, Try.sizeOf5]⟩
theorem fA245 : Agg Try.prog 245 true := ⟨Try.isAgg245⟩
theorem fS245 : Sz Try.prog 245 11 := ⟨Try.sizeOf245⟩
theorem fB245 : By Try.prog 245 48 := ⟨fun w => ⟨_, Try.typeInfo245 w, rfl⟩⟩
theorem fZ245 : Zr Try.prog 245 (.agg [.int .u64 0, .int .u64 0, .int .u32 0, .int .u8 0, .int .u8 0, .int .u8 0, .int .u8 0, .nilFunc, .pointer none, .int .i32 0, .int .i32 0].toArray) := ⟨Try.zeroValue245⟩
theorem fF245_0 : Fld Try.prog 245 0 0 := Fld.of Try.underlying245 rfl Try.sizeOf12 rfl rfl
theorem fF245_1 : Fld Try.prog 245 1 1 := Fld.of Try.underlying245 rfl Try.sizeOf12 rfl rfl
theorem fF245_2 : Fld Try.prog 245 2 2 := Fld.of Try.underlying245 rfl Try.sizeOf186 rfl rfl
theorem fF245_3 : Fld Try.prog 245 3 3 := Fld.of Try.underlying245 rfl Try.sizeOf238 rfl rfl
theorem fF245_4 : Fld Try.prog 245 4 4 := Fld.of Try.underlying245 rfl Try.sizeOf5 rfl rfl
theorem fF245_5 : Fld Try.prog 245 5 5 := Fld.of Try.underlying245 rfl Try.sizeOf5 rfl rfl
theorem fF245_6 : Fld Try.prog 245 6 6 := Fld.of Try.underlying245 rfl Try.sizeOf239 rfl rfl
theorem fF245_7 : Fld Try.prog 245 7 7 := Fld.of Try.underlying245 rfl Try.sizeOf240 rfl rfl
theorem fF245_8 : Fld Try.prog 245 8 8 := Fld.of Try.underlying245 rfl Try.sizeOf241 rfl rfl
theorem fF245_9 : Fld Try.prog 245 9 9 := Fld.of Try.underlying245 rfl Try.sizeOf242 rfl rfl
theorem fF245_10 : Fld Try.prog 245 10 10 := Fld.of Try.underlying245 rfl Try.sizeOf243 rfl rfl
theorem fL245 : Bld Try.prog 245 [(0, 1), (1, 1), (2, 1), (3, 1), (4, 1), (5, 1), (6, 1), (7, 1), (8, 1), (9, 1), (10, 1)] [.int .u64 0, .int .u64 0, .int .u32 0, .int .u8 0, .int .u8 0, .int .u8 0, .int .u8 0, .nilFunc, .pointer none, .int .i32 0, .int .i32 0] := ⟨_, Try.underlying245, Try.zeroValue245, fun w => by simp [Try.sizeOf12, Try.sizeOf186, Try.sizeOf238, Try.sizeOf239, Try.sizeOf240, Try.sizeOf241, Try.sizeOf242, Try.sizeOf243, Try.sizeOf5]⟩
theorem fA246 : Agg Try.prog 246 false := ⟨Try.isAgg246⟩
theorem fS246 : Sz Try.prog 246 1 := ⟨Try.sizeOf246⟩
theorem fB246 : By Try.prog 246 8 := ⟨fun w => ⟨_, Try.typeInfo246 w, rfl⟩⟩
theorem fZ246 : Zr Try.prog 246 (.nilFunc) := ⟨Try.zeroValue246⟩
theorem fA247 : Agg Try.prog 247 false := ⟨Try.isAgg247⟩
theorem fS247 : Sz Try.prog 247 1 := ⟨Try.sizeOf247⟩
theorem fB247 : By Try.prog 247 8 := ⟨fun w => ⟨_, Try.typeInfo247 w, rfl⟩⟩
theorem fZ247 : Zr Try.prog 247 (.nilFunc) := ⟨Try.zeroValue247⟩
theorem fA248 : Agg Try.prog 248 false := ⟨Try.isAgg248⟩
theorem fS248 : Sz Try.prog 248 1 := ⟨Try.sizeOf248⟩
theorem fB248 : By Try.prog 248 8 := ⟨fun w => ⟨_, Try.typeInfo248 w, rfl⟩⟩
theorem fZ248 : Zr Try.prog 248 (.nilFunc) := ⟨Try.zeroValue248⟩
theorem fA249 : Agg Try.prog 249 false := ⟨Try.isAgg249⟩
theorem fS249 : Sz Try.prog 249 1 := ⟨Try.sizeOf249⟩
theorem fB249 : By Try.prog 249 8 := ⟨fun w => ⟨_, Try.typeInfo249 w, rfl⟩⟩
theorem fZ249 : Zr Try.prog 249 (.pointer none) := ⟨Try.zeroValue249⟩
theorem fQ2 : EqT Try.prog 2 1 [.i .i64] false := EqT.int fU2 fA2
theorem fQ3 : EqT Try.prog 3 1 [.i .i64] false := EqT.int fU3 fA3
theorem fQ4 : EqT Try.prog 4 1 [.b] false := EqT.bool fU4 fA4
theorem fQ5 : EqT Try.prog 5 1 [.i .u8] false := EqT.int fU5 fA5
theorem fQ6 : EqT Try.prog 6 1 [.i .u8] false := EqT.int fU6 fA6
theorem fQ9 : EqT Try.prog 9 1 [.s] false := EqT.str fU9 fA9
theorem fQ10 : EqT Try.prog 10 1 [.s] false := EqT.str fU10 fA10
theorem fQ11 : EqT Try.prog 11 1 [.s] false := EqT.str fU11 fA11
theorem fQ12 : EqT Try.prog 12 1 [.i .u64] false := EqT.int fU12 fA12
theorem fQ21 : EqT Try.prog 21 1 [.i .i32] false := EqT.int fU21 fA21
theorem fQ24 : EqT Try.prog 24 1 [.i .u64] false := EqT.int fU24 fA24
theorem fQ32 : EqT Try.prog 32 1 [.i .i64] false := EqT.int fU32 fA32
theorem fQ70 : EqT Try.prog 70 2 [.s, .s] true := EqT.struct (n := 1) Try.underlying70 Try.stoodInHeld70 fA70 fS70 (EqFs.more fQ9 (EqFs.more fQ9 EqFs.nil))
theorem fG70 : EqG Try.prog 70 := ⟨Try.eqGuardType70⟩
theorem fQ71 : EqT Try.prog 71 2 [.s, .s] true := EqT.struct (n := 1) Try.underlying71 Try.stoodInHeld71 fA71 fS71 (EqFs.more fQ9 (EqFs.more fQ9 EqFs.nil))
theorem fG71 : EqG Try.prog 71 := ⟨Try.eqGuardType71⟩
theorem fQ72 : EqT Try.prog 72 3 [.s, .s, .s, .s, .s, .s, .s] true := EqT.struct (n := 2) Try.underlying72 Try.stoodInHeld72 fA72 fS72 (EqFs.more fQ9 (EqFs.more fQ9 (EqFs.more fQ9 (EqFs.more fQ9 (EqFs.more fQ71 (EqFs.more fQ9 EqFs.nil))))))
theorem fG72 : EqG Try.prog 72 := ⟨Try.eqGuardType72⟩
theorem fQ73 : EqT Try.prog 73 3 [.s, .s, .s, .s, .s, .s, .s] true := EqT.struct (n := 2) Try.underlying73 Try.stoodInHeld73 fA73 fS73 (EqFs.more fQ9 (EqFs.more fQ9 (EqFs.more fQ9 (EqFs.more fQ9 (EqFs.more fQ71 (EqFs.more fQ9 EqFs.nil))))))
theorem fG73 : EqG Try.prog 73 := ⟨Try.eqGuardType73⟩
theorem fQ85 : EqT Try.prog 85 3 [.s, .s, .s, .s] true := EqT.struct (n := 2) Try.underlying85 Try.stoodInHeld85 fA85 fS85 (EqFs.more fQ9 (EqFs.more fQ71 (EqFs.more fQ9 EqFs.nil)))
theorem fG85 : EqG Try.prog 85 := ⟨Try.eqGuardType85⟩
theorem fQ86 : EqT Try.prog 86 3 [.s, .s, .s, .s] true := EqT.struct (n := 2) Try.underlying86 Try.stoodInHeld86 fA86 fS86 (EqFs.more fQ9 (EqFs.more fQ71 (EqFs.more fQ9 EqFs.nil)))
theorem fG86 : EqG Try.prog 86 := ⟨Try.eqGuardType86⟩
theorem fQ87 : EqT Try.prog 87 4 [.s, .s, .s, .s, .s, .s, .s] true := EqT.struct (n := 3) Try.underlying87 Try.stoodInHeld87 fA87 fS87 (EqFs.more fQ71 (EqFs.more fQ9 (EqFs.more fQ86 EqFs.nil)))
theorem fG87 : EqG Try.prog 87 := ⟨Try.eqGuardType87⟩
theorem fQ88 : EqT Try.prog 88 4 [.s, .s, .s, .s, .s, .s, .s] true := EqT.struct (n := 3) Try.underlying88 Try.stoodInHeld88 fA88 fS88 (EqFs.more fQ71 (EqFs.more fQ9 (EqFs.more fQ86 EqFs.nil)))
theorem fG88 : EqG Try.prog 88 := ⟨Try.eqGuardType88⟩
theorem fQ89 : EqT Try.prog 89 5 [.b, .s, .s, .s, .s, .s, .s, .s] true := EqT.struct (n := 4) Try.underlying89 Try.stoodInHeld89 fA89 fS89 (EqFs.more fQ4 (EqFs.more fQ88 EqFs.nil))
theorem fG89 : EqG Try.prog 89 := ⟨Try.eqGuardType89⟩
theorem fQ90 : EqT Try.prog 90 5 [.b, .s, .s, .s, .s, .s, .s, .s] true := EqT.struct (n := 4) Try.underlying90 Try.stoodInHeld90 fA90 fS90 (EqFs.more fQ4 (EqFs.more fQ88 EqFs.nil))
theorem fG90 : EqG Try.prog 90 := ⟨Try.eqGuardType90⟩
theorem fQ122 : EqT Try.prog 122 3 [.s, .s, .s] true := EqT.struct (n := 2) Try.underlying122 Try.stoodInHeld122 fA122 fS122 (EqFs.more fQ71 (EqFs.more fQ9 EqFs.nil))
theorem fG122 : EqG Try.prog 122 := ⟨Try.eqGuardType122⟩
theorem fQ123 : EqT Try.prog 123 3 [.s, .s, .s] true := EqT.struct (n := 2) Try.underlying123 Try.stoodInHeld123 fA123 fS123 (EqFs.more fQ71 (EqFs.more fQ9 EqFs.nil))
theorem fG123 : EqG Try.prog 123 := ⟨Try.eqGuardType123⟩
theorem fQ131 : EqT Try.prog 131 5 [.s, .s, .s, .s, .s, .s, .s, .i .u64, .i .u64] true := EqT.struct (n := 4) Try.underlying131 Try.stoodInHeld131 fA131 fS131 (EqFs.more fQ88 (EqFs.more fQ24 (EqFs.more fQ24 EqFs.nil)))
theorem fG131 : EqG Try.prog 131 := ⟨Try.eqGuardType131⟩
theorem fQ132 : EqT Try.prog 132 5 [.s, .s, .s, .s, .s, .s, .s, .i .u64, .i .u64] true := EqT.struct (n := 4) Try.underlying132 Try.stoodInHeld132 fA132 fS132 (EqFs.more fQ88 (EqFs.more fQ24 (EqFs.more fQ24 EqFs.nil)))
theorem fG132 : EqG Try.prog 132 := ⟨Try.eqGuardType132⟩
theorem fQ153 : EqT Try.prog 153 1 [.i .u64] false := EqT.int fU153 fA153
theorem fQ155 : EqT Try.prog 155 2 [.s, .i .i64, .i .i64] true := EqT.struct (n := 1) Try.underlying155 Try.stoodInHeld155 fA155 fS155 (EqFs.more fQ9 (EqFs.more fQ2 (EqFs.more fQ3 EqFs.nil)))
theorem fG155 : EqG Try.prog 155 := ⟨Try.eqGuardType155⟩
theorem fQ156 : EqT Try.prog 156 2 [.s, .i .i64, .i .i64] true := EqT.struct (n := 1) Try.underlying156 Try.stoodInHeld156 fA156 fS156 (EqFs.more fQ9 (EqFs.more fQ2 (EqFs.more fQ3 EqFs.nil)))
theorem fG156 : EqG Try.prog 156 := ⟨Try.eqGuardType156⟩
theorem fQ178 : EqT Try.prog 178 1 [.i .i64] false := EqT.int fU178 fA178
theorem fQ186 : EqT Try.prog 186 1 [.i .u32] false := EqT.int fU186 fA186
theorem fQ209 : EqT Try.prog 209 1 [.i .u64] false := EqT.int fU209 fA209
theorem fQ238 : EqT Try.prog 238 1 [.i .u8] false := EqT.int fU238 fA238
theorem fQ239 : EqT Try.prog 239 1 [.i .u8] false := EqT.int fU239 fA239
theorem fQ242 : EqT Try.prog 242 1 [.i .i32] false := EqT.int fU242 fA242
theorem fQ243 : EqT Try.prog 243 1 [.i .i32] false := EqT.int fU243 fA243
theorem fE3 : Ent Try.prog 3 := ⟨Try.call3⟩
theorem fE4 : Ent Try.prog 4 := ⟨Try.call4⟩
theorem fE5 : Ent Try.prog 5 := ⟨Try.call5⟩
theorem fE6 : Ent Try.prog 6 := ⟨Try.call6⟩
theorem fE7 : Ent Try.prog 7 := ⟨Try.call7⟩
theorem fE8 : Ent Try.prog 8 := ⟨Try.call8⟩
theorem fE9 : Ent Try.prog 9 := ⟨Try.call9⟩
theorem fE10 : Ent Try.prog 10 := ⟨Try.call10⟩
theorem fE11 : Ent Try.prog 11 := ⟨Try.call11⟩
theorem fE12 : Ent Try.prog 12 := ⟨Try.call12⟩
theorem fE13 : Ent Try.prog 13 := ⟨Try.call13⟩
theorem fE14 : Ent Try.prog 14 := ⟨Try.call14⟩
theorem fE15 : Ent Try.prog 15 := ⟨Try.call15⟩
theorem fE16 : Ent Try.prog 16 := ⟨Try.call16⟩
theorem fE17 : Ent Try.prog 17 := ⟨Try.call17⟩
theorem fE18 : Ent Try.prog 18 := ⟨Try.call18⟩
theorem fE19 : Ent Try.prog 19 := ⟨Try.call19⟩
theorem fE20 : Ent Try.prog 20 := ⟨Try.call20⟩
theorem fE21 : Ent Try.prog 21 := ⟨Try.call21⟩
theorem fE22 : Ent Try.prog 22 := ⟨Try.call22⟩
theorem fE23 : Ent Try.prog 23 := ⟨Try.call23⟩
theorem fE24 : Ent Try.prog 24 := ⟨Try.call24⟩
theorem fE25 : Ent Try.prog 25 := ⟨Try.call25⟩
theorem fE26 : Ent Try.prog 26 := ⟨Try.call26⟩
theorem fE27 : Ent Try.prog 27 := ⟨Try.call27⟩
theorem fE28 : Ent Try.prog 28 := ⟨Try.call28⟩
theorem fE29 : Ent Try.prog 29 := ⟨Try.call29⟩
theorem fE30 : Ent Try.prog 30 := ⟨Try.call30⟩
theorem fE31 : Ent Try.prog 31 := ⟨Try.call31⟩
theorem fE32 : Ent Try.prog 32 := ⟨Try.call32⟩
theorem fE33 : Ent Try.prog 33 := ⟨Try.call33⟩
theorem fE34 : Ent Try.prog 34 := ⟨Try.call34⟩
theorem fE35 : Ent Try.prog 35 := ⟨Try.call35⟩
theorem fE36 : Ent Try.prog 36 := ⟨Try.call36⟩
theorem fE37 : Ent Try.prog 37 := ⟨Try.call37⟩
theorem fE38 : Ent Try.prog 38 := ⟨Try.call38⟩
theorem fE39 : Ent Try.prog 39 := ⟨Try.call39⟩
theorem fE40 : Ent Try.prog 40 := ⟨Try.call40⟩
theorem fE41 : Ent Try.prog 41 := ⟨Try.call41⟩
theorem fE42 : Ent Try.prog 42 := ⟨Try.call42⟩
theorem fE43 : Ent Try.prog 43 := ⟨Try.call43⟩
theorem fE44 : Ent Try.prog 44 := ⟨Try.call44⟩
theorem fE45 : Ent Try.prog 45 := ⟨Try.call45⟩
theorem fE46 : Ent Try.prog 46 := ⟨Try.call46⟩
theorem fE47 : Ent Try.prog 47 := ⟨Try.call47⟩
theorem fE48 : Ent Try.prog 48 := ⟨Try.call48⟩
theorem fE49 : Ent Try.prog 49 := ⟨Try.call49⟩
theorem fE50 : Ent Try.prog 50 := ⟨Try.call50⟩
theorem fE51 : Ent Try.prog 51 := ⟨Try.call51⟩
theorem fE52 : Ent Try.prog 52 := ⟨Try.call52⟩
theorem fE53 : Ent Try.prog 53 := ⟨Try.call53⟩
theorem fE54 : Ent Try.prog 54 := ⟨Try.call54⟩
theorem fE55 : Ent Try.prog 55 := ⟨Try.call55⟩
theorem fE56 : Ent Try.prog 56 := ⟨Try.call56⟩
theorem fE57 : Ent Try.prog 57 := ⟨Try.call57⟩
theorem fE58 : Ent Try.prog 58 := ⟨Try.call58⟩
theorem fE59 : Ent Try.prog 59 := ⟨Try.call59⟩
theorem fE60 : Ent Try.prog 60 := ⟨Try.call60⟩
theorem fE61 : Ent Try.prog 61 := ⟨Try.call61⟩
theorem fE62 : Ent Try.prog 62 := ⟨Try.call62⟩
theorem fE63 : Ent Try.prog 63 := ⟨Try.call63⟩
theorem fE64 : Ent Try.prog 64 := ⟨Try.call64⟩
theorem fE65 : Ent Try.prog 65 := ⟨Try.call65⟩
theorem fE66 : Ent Try.prog 66 := ⟨Try.call66⟩
theorem fE67 : Ent Try.prog 67 := ⟨Try.call67⟩
theorem fE68 : Ent Try.prog 68 := ⟨Try.call68⟩
theorem fE69 : Ent Try.prog 69 := ⟨Try.call69⟩
theorem fE70 : Ent Try.prog 70 := ⟨Try.call70⟩
theorem fE71 : Ent Try.prog 71 := ⟨Try.call71⟩
theorem fE72 : Ent Try.prog 72 := ⟨Try.call72⟩
theorem fE73 : Ent Try.prog 73 := ⟨Try.call73⟩
theorem fE74 : Ent Try.prog 74 := ⟨Try.call74⟩
theorem fE75 : Ent Try.prog 75 := ⟨Try.call75⟩
theorem fE76 : Ent Try.prog 76 := ⟨Try.call76⟩
theorem fE77 : Ent Try.prog 77 := ⟨Try.call77⟩
theorem fE78 : Ent Try.prog 78 := ⟨Try.call78⟩
theorem fE79 : Ent Try.prog 79 := ⟨Try.call79⟩
theorem fE80 : Ent Try.prog 80 := ⟨Try.call80⟩
theorem fE81 : Ent Try.prog 81 := ⟨Try.call81⟩
theorem fE82 : Ent Try.prog 82 := ⟨Try.call82⟩
theorem fE83 : Ent Try.prog 83 := ⟨Try.call83⟩
theorem fE84 : Ent Try.prog 84 := ⟨Try.call84⟩
theorem fE85 : Ent Try.prog 85 := ⟨Try.call85⟩
theorem fE86 : Ent Try.prog 86 := ⟨Try.call86⟩
theorem fE87 : Ent Try.prog 87 := ⟨Try.call87⟩
theorem fE88 : Ent Try.prog 88 := ⟨Try.call88⟩
theorem fE89 : Ent Try.prog 89 := ⟨Try.call89⟩
theorem fE90 : Ent Try.prog 90 := ⟨Try.call90⟩
theorem fE91 : Ent Try.prog 91 := ⟨Try.call91⟩
theorem fE92 : Ent Try.prog 92 := ⟨Try.call92⟩
theorem fE93 : Ent Try.prog 93 := ⟨Try.call93⟩
theorem fE94 : Ent Try.prog 94 := ⟨Try.call94⟩
theorem fE95 : Ent Try.prog 95 := ⟨Try.call95⟩
theorem fE96 : Ent Try.prog 96 := ⟨Try.call96⟩
theorem fE97 : Ent Try.prog 97 := ⟨Try.call97⟩
theorem fE98 : Ent Try.prog 98 := ⟨Try.call98⟩
theorem fE99 : Ent Try.prog 99 := ⟨Try.call99⟩
theorem fE100 : Ent Try.prog 100 := ⟨Try.call100⟩
theorem fE101 : Ent Try.prog 101 := ⟨Try.call101⟩
theorem fE102 : Ent Try.prog 102 := ⟨Try.call102⟩
theorem fE103 : Ent Try.prog 103 := ⟨Try.call103⟩
theorem fE104 : Ent Try.prog 104 := ⟨Try.call104⟩
theorem fE105 : Ent Try.prog 105 := ⟨Try.call105⟩
theorem fE106 : Ent Try.prog 106 := ⟨Try.call106⟩
theorem fE107 : Ent Try.prog 107 := ⟨Try.call107⟩
theorem fE108 : Ent Try.prog 108 := ⟨Try.call108⟩
theorem fE109 : Ent Try.prog 109 := ⟨Try.call109⟩
theorem fE110 : Ent Try.prog 110 := ⟨Try.call110⟩
theorem fE111 : Ent Try.prog 111 := ⟨Try.call111⟩
theorem fE112 : Ent Try.prog 112 := ⟨Try.call112⟩
theorem fE113 : Ent Try.prog 113 := ⟨Try.call113⟩
theorem fE114 : Ent Try.prog 114 := ⟨Try.call114⟩
theorem fE115 : Ent Try.prog 115 := ⟨Try.call115⟩
theorem fE116 : Ent Try.prog 116 := ⟨Try.call116⟩
theorem fE117 : Ent Try.prog 117 := ⟨Try.call117⟩
theorem fE118 : Ent Try.prog 118 := ⟨Try.call118⟩
theorem fE119 : Ent Try.prog 119 := ⟨Try.call119⟩
theorem fE120 : Ent Try.prog 120 := ⟨Try.call120⟩
theorem fE121 : Ent Try.prog 121 := ⟨Try.call121⟩
theorem fE122 : Ent Try.prog 122 := ⟨Try.call122⟩
theorem fE123 : Ent Try.prog 123 := ⟨Try.call123⟩
theorem fE124 : Ent Try.prog 124 := ⟨Try.call124⟩
theorem fE126 : Ent Try.prog 126 := ⟨Try.call126⟩
theorem fE127 : Ent Try.prog 127 := ⟨Try.call127⟩
theorem fE128 : Ent Try.prog 128 := ⟨Try.call128⟩
theorem fE129 : Ent Try.prog 129 := ⟨Try.call129⟩
theorem fE130 : Ent Try.prog 130 := ⟨Try.call130⟩
theorem fE131 : Ent Try.prog 131 := ⟨Try.call131⟩
theorem fE132 : Ent Try.prog 132 := ⟨Try.call132⟩
theorem fE133 : Ent Try.prog 133 := ⟨Try.call133⟩
theorem fE134 : Ent Try.prog 134 := ⟨Try.call134⟩
theorem fE135 : Ent Try.prog 135 := ⟨Try.call135⟩
theorem fE136 : Ent Try.prog 136 := ⟨Try.call136⟩
theorem fE137 : Ent Try.prog 137 := ⟨Try.call137⟩
theorem fE138 : Ent Try.prog 138 := ⟨Try.call138⟩
theorem fE139 : Ent Try.prog 139 := ⟨Try.call139⟩
theorem fE140 : Ent Try.prog 140 := ⟨Try.call140⟩
theorem fE141 : Ent Try.prog 141 := ⟨Try.call141⟩
theorem fE142 : Ent Try.prog 142 := ⟨Try.call142⟩
theorem fE143 : Ent Try.prog 143 := ⟨Try.call143⟩
theorem fE144 : Ent Try.prog 144 := ⟨Try.call144⟩
theorem fE145 : Ent Try.prog 145 := ⟨Try.call145⟩
theorem fE146 : Ent Try.prog 146 := ⟨Try.call146⟩
theorem fE147 : Ent Try.prog 147 := ⟨Try.call147⟩
theorem fE148 : Ent Try.prog 148 := ⟨Try.call148⟩
theorem fE149 : Ent Try.prog 149 := ⟨Try.call149⟩
theorem fE150 : Ent Try.prog 150 := ⟨Try.call150⟩
theorem fE151 : Ent Try.prog 151 := ⟨Try.call151⟩
theorem fE152 : Ent Try.prog 152 := ⟨Try.call152⟩
theorem fE153 : Ent Try.prog 153 := ⟨Try.call153⟩
theorem fE154 : Ent Try.prog 154 := ⟨Try.call154⟩
theorem fE155 : Ent Try.prog 155 := ⟨Try.call155⟩
theorem fE156 : Ent Try.prog 156 := ⟨Try.call156⟩
theorem fE157 : Ent Try.prog 157 := ⟨Try.call157⟩
theorem fE158 : Ent Try.prog 158 := ⟨Try.call158⟩
theorem fE159 : Ent Try.prog 159 := ⟨Try.call159⟩
theorem fE160 : Ent Try.prog 160 := ⟨Try.call160⟩
theorem fE161 : Ent Try.prog 161 := ⟨Try.call161⟩
theorem fE162 : Ent Try.prog 162 := ⟨Try.call162⟩
theorem fE163 : Ent Try.prog 163 := ⟨Try.call163⟩
theorem fE164 : Ent Try.prog 164 := ⟨Try.call164⟩
theorem fE165 : Ent Try.prog 165 := ⟨Try.call165⟩
theorem fE166 : Ent Try.prog 166 := ⟨Try.call166⟩
theorem fE167 : Ent Try.prog 167 := ⟨Try.call167⟩
theorem fE168 : Ent Try.prog 168 := ⟨Try.call168⟩
theorem fE169 : Ent Try.prog 169 := ⟨Try.call169⟩
theorem fE170 : Ent Try.prog 170 := ⟨Try.call170⟩
theorem fE171 : Ent Try.prog 171 := ⟨Try.call171⟩
theorem fE172 : Ent Try.prog 172 := ⟨Try.call172⟩
theorem fE173 : Ent Try.prog 173 := ⟨Try.call173⟩
theorem fE174 : Ent Try.prog 174 := ⟨Try.call174⟩
theorem fE175 : Ent Try.prog 175 := ⟨Try.call175⟩
theorem fE176 : Ent Try.prog 176 := ⟨Try.call176⟩
theorem fE194 : Ent Try.prog 194 := ⟨Try.call194⟩
theorem fE195 : Ent Try.prog 195 := ⟨Try.call195⟩
theorem fE196 : Ent Try.prog 196 := ⟨Try.call196⟩
theorem fE197 : Ent Try.prog 197 := ⟨Try.call197⟩
theorem fE198 : Ent Try.prog 198 := ⟨Try.call198⟩
theorem fE199 : Ent Try.prog 199 := ⟨Try.call199⟩
theorem fE200 : Ent Try.prog 200 := ⟨Try.call200⟩
theorem fE201 : Ent Try.prog 201 := ⟨Try.call201⟩
attribute [instance] fA0 fS0 fB0 fA1 fS1 fB1 fZ1 fU2 fA2 fS2 fB2 fZ2 fU3 fA3 fS3 fB3 fZ3 fU4 fA4 fS4 fB4 fZ4 fU5 fA5 fS5 fB5 fZ5 fU6 fA6 fS6 fB6 fZ6 fA7 fS7 fB7 fZ7 fF7_0 fF7_1 fF7_2 fF7_3 fL7 fA8 fS8 fB8 fZ8 fF8_0 fF8_1 fF8_2 fF8_3 fL8 fU9 fA9 fS9 fB9 fZ9 fU10 fA10 fS10 fB10 fZ10 fU11 fA11 fS11 fB11 fZ11 fU12 fA12 fS12 fB12 fZ12 fA13 fS13 fB13 fZ13 fF13_0 fF13_1 fL13 fA14 fS14 fB14 fZ14 fF14_0 fF14_1 fL14 fU15 fA15 fS15 fB15 fZ15 fU16 fA16 fS16 fB16 fZ16 fU17 fA17 fS17 fB17 fZ17 fA18 fS18 fB18 fZ18 fF18_0 fL18 fA19 fS19 fB19 fZ19 fF19_0 fL19 fA20 fS20 fB20 fZ20 fU21 fA21 fS21 fB21 fZ21 fU22 fA22 fS22 fB22 fZ22 fU23 fA23 fS23 fB23 fZ23 fU24 fA24 fS24 fB24 fZ24 fA25 fS25 fB25 fZ25 fF25_0 fF25_1 fF25_2 fF25_3 fF25_4 fF25_5 fF25_6 fF25_7 fF25_8 fL25 fA26 fS26 fB26 fZ26 fF26_0 fF26_1 fF26_2 fF26_3 fF26_4 fF26_5 fF26_6 fF26_7 fF26_8 fL26 fA27 fS27 fB27 fZ27 fF27_0 fF27_1 fF27_2 fF27_3 fF27_4 fF27_5 fF27_6 fL27 fA28 fS28 fB28 fZ28 fF28_0 fF28_1 fF28_2 fF28_3 fF28_4 fF28_5 fF28_6 fL28 fU29 fA29 fS29 fB29 fZ29 fA30 fS30 fB30 fZ30 fA31 fS31 fB31 fZ31 fU32 fA32 fS32 fB32 fZ32 fA33 fS33 fB33 fZ33 fA34 fS34 fB34 fZ34 fF34_0 fF34_1 fF34_2 fF34_3 fF34_4 fF34_5 fF34_6 fF34_7 fF34_8 fL34 fA35 fS35 fB35 fZ35 fU36 fA36 fS36 fB36 fZ36 fA37 fS37 fB37 fZ37 fA38 fS38 fB38 fZ38 fA39 fS39 fB39 fZ39 fA40 fS40 fB40 fZ40 fA41 fS41 fB41 fZ41 fA42 fS42 fB42 fA43 fS43 fB43 fZ43 fA44 fS44 fB44 fZ44 fA45 fS45 fB45 fZ45 fU46 fA46 fS46 fB46 fZ46 fU47 fA47 fS47 fB47 fZ47 fA48 fS48 fB48 fZ48 fF48_0 fF48_1 fL48 fA49 fS49 fB49 fZ49 fF49_0 fF49_1 fL49 fA50 fS50 fB50 fZ50 fA51 fS51 fB51 fZ51 fA52 fS52 fB52 fA53 fS53 fB53 fZ53 fA54 fS54 fB54 fA55 fS55 fB55 fZ55 fA56 fS56 fB56 fZ56 fA57 fS57 fB57 fZ57 fA58 fS58 fB58 fZ58 fA59 fS59 fB59 fZ59 fA60 fS60 fB60 fZ60 fA61 fS61 fB61 fZ61 fU62 fA62 fS62 fB62 fZ62 fU63 fA63 fS63 fB63 fZ63 fA64 fS64 fB64 fZ64 fF64_0 fF64_1 fF64_2 fL64 fA65 fS65 fB65 fZ65 fF65_0 fF65_1 fF65_2 fL65 fA66 fS66 fB66 fZ66 fU67 fA67 fS67 fB67 fZ67 fU68 fA68 fS68 fB68 fZ68 fU69 fA69 fS69 fB69 fZ69 fA70 fS70 fB70 fZ70 fF70_0 fF70_1 fL70 fA71 fS71 fB71 fZ71 fF71_0 fF71_1 fL71 fA72 fS72 fB72 fZ72 fF72_0 fF72_1 fF72_2 fF72_3 fF72_4 fF72_5 fL72 fA73 fS73 fB73 fZ73 fF73_0 fF73_1 fF73_2 fF73_3 fF73_4 fF73_5 fL73 fA74 fS74 fB74 fZ74 fF74_0 fF74_1 fF74_2 fF74_3 fF74_4 fF74_5 fL74 fA75 fS75 fB75 fZ75 fF75_0 fF75_1 fF75_2 fF75_3 fF75_4 fF75_5 fL75 fU76 fA76 fS76 fB76 fZ76 fA77 fS77 fB77 fZ77 fA78 fS78 fB78 fZ78 fA79 fS79 fB79 fZ79 fA80 fS80 fB80 fA81 fS81 fB81 fZ81 fA82 fS82 fB82 fA83 fS83 fB83 fZ83 fA84 fS84 fB84 fZ84 fA85 fS85 fB85 fZ85 fF85_0 fF85_1 fF85_2 fL85 fA86 fS86 fB86 fZ86 fF86_0 fF86_1 fF86_2 fL86 fA87 fS87 fB87 fZ87 fF87_0 fF87_1 fF87_2 fL87 fA88 fS88 fB88 fZ88 fF88_0 fF88_1 fF88_2 fL88 fA89 fS89 fB89 fZ89 fF89_0 fF89_1 fL89 fA90 fS90 fB90 fZ90 fF90_0 fF90_1 fL90 fA91 fS91 fB91 fZ91 fA92 fS92 fB92 fZ92 fA93 fS93 fB93 fZ93 fA94 fS94 fB94 fZ94 fU95 fA95 fS95 fB95 fZ95 fU96 fA96 fS96 fB96 fZ96 fA97 fS97 fB97 fZ97 fF97_0 fF97_1 fF97_2 fF97_3 fF97_4 fF97_5 fL97 fA98 fS98 fB98 fZ98 fF98_0 fF98_1 fF98_2 fF98_3 fF98_4 fF98_5 fL98 fU99 fA99 fS99 fB99 fZ99 fA100 fS100 fB100 fZ100 fA101 fS101 fB101 fZ101 fU102 fA102 fS102 fB102 fZ102 fA103 fS103 fB103 fZ103 fA104 fS104 fB104 fZ104 fA105 fS105 fB105 fZ105 fA106 fS106 fB106 fA107 fS107 fB107 fZ107 fA108 fS108 fB108 fZ108 fA109 fS109 fB109 fZ109 fA110 fS110 fB110 fZ110 fA111 fS111 fB111 fZ111 fA112 fS112 fB112 fZ112 fA113 fS113 fB113 fZ113 fA114 fS114 fB114 fZ114 fA115 fS115 fB115 fZ115 fA116 fS116 fB116 fZ116 fA117 fS117 fB117 fZ117 fA118 fS118 fB118 fZ118 fA119 fS119 fB119 fZ119 fA120 fS120 fB120 fZ120 fA121 fS121 fB121 fZ121 fA122 fS122 fB122 fZ122 fF122_0 fF122_1 fL122 fA123 fS123 fB123 fZ123 fF123_0 fF123_1 fL123 fU124 fA124 fS124 fB124 fZ124 fA125 fS125 fB125 fZ125 fA126 fS126 fB126 fZ126 fA127 fS127 fB127 fZ127 fA128 fS128 fB128 fZ128 fA129 fS129 fB129 fZ129 fA130 fS130 fB130 fZ130 fA131 fS131 fB131 fZ131 fF131_0 fF131_1 fF131_2 fL131 fA132 fS132 fB132 fZ132 fF132_0 fF132_1 fF132_2 fL132 fU133 fA133 fS133 fB133 fZ133 fA134 fS134 fB134 fZ134 fA135 fS135 fB135 fZ135 fA136 fS136 fB136 fZ136 fA137 fS137 fB137 fZ137 fA138 fS138 fB138 fZ138 fA139 fS139 fB139 fZ139 fA140 fS140 fB140 fZ140 fA141 fS141 fB141 fZ141 fA142 fS142 fB142 fZ142 fA143 fS143 fB143 fZ143 fU144 fA144 fS144 fB144 fZ144 fU145 fA145 fS145 fB145 fZ145 fU146 fA146 fS146 fB146 fZ146 fA147 fS147 fB147 fZ147 fF147_0 fF147_1 fL147 fA148 fS148 fB148 fZ148 fF148_0 fF148_1 fL148 fA149 fS149 fB149 fZ149 fA150 fS150 fB150 fZ150 fA151 fS151 fB151 fZ151 fA152 fS152 fB152 fZ152 fU153 fA153 fS153 fB153 fZ153 fA154 fS154 fB154 fZ154 fA155 fS155 fB155 fZ155 fF155_0 fF155_1 fF155_2 fL155 fA156 fS156 fB156 fZ156 fF156_0 fF156_1 fF156_2 fL156 fU157 fA157 fS157 fB157 fZ157 fA158 fS158 fB158 fZ158 fU159 fA159 fS159 fB159 fZ159 fA160 fS160 fB160 fZ160 fA161 fS161 fB161 fZ161 fA162 fS162 fB162 fZ162 fA163 fS163 fB163 fZ163 fU164 fA164 fS164 fB164 fZ164 fA165 fS165 fB165 fZ165 fA166 fS166 fB166 fZ166 fA167 fS167 fB167 fZ167 fA168 fS168 fB168 fZ168 fA169 fS169 fB169 fZ169 fA170 fS170 fB170 fZ170 fA171 fS171 fB171 fZ171 fA172 fS172 fB172 fZ172 fA173 fS173 fB173 fZ173 fA174 fS174 fB174 fA175 fS175 fB175 fZ175 fA176 fS176 fB176 fZ176 fA177 fS177 fB177 fZ177 fU178 fA178 fS178 fB178 fZ178 fA179 fS179 fB179 fA180 fS180 fB180 fZ180 fA181 fS181 fB181 fZ181 fA182 fS182 fB182 fZ182 fA183 fS183 fB183 fA184 fS184 fB184 fZ184 fA185 fS185 fB185 fZ185 fU186 fA186 fS186 fB186 fZ186 fA187 fS187 fB187 fZ187 fA188 fS188 fB188 fZ188 fA189 fS189 fB189 fZ189 fA190 fS190 fB190 fZ190 fA191 fS191 fB191 fZ191 fA192 fS192 fB192 fZ192 fA193 fS193 fB193 fZ193 fA194 fS194 fB194 fZ194 fA195 fS195 fB195 fZ195 fA196 fS196 fB196 fZ196 fA197 fS197 fB197 fZ197 fA198 fS198 fB198 fZ198 fA199 fS199 fB199 fZ199 fA200 fS200 fB200 fZ200 fA201 fS201 fB201 fZ201 fA202 fS202 fB202 fZ202 fA203 fS203 fB203 fZ203 fA204 fS204 fB204 fZ204 fA205 fS205 fB205 fZ205 fA206 fS206 fB206 fZ206 fU207 fA207 fS207 fB207 fZ207 fA208 fS208 fB208 fZ208 fU209 fA209 fS209 fB209 fZ209 fA210 fS210 fB210 fZ210 fA211 fS211 fB211 fZ211 fU212 fA212 fS212 fB212 fZ212 fA213 fS213 fB213 fZ213 fA214 fS214 fB214 fZ214 fA215 fS215 fB215 fZ215 fA216 fS216 fB216 fZ216 fA217 fS217 fB217 fZ217 fA218 fS218 fB218 fZ218 fA219 fS219 fB219 fZ219 fA220 fS220 fB220 fZ220 fA221 fS221 fB221 fZ221 fA222 fS222 fB222 fZ222 fA223 fS223 fB223 fZ223 fU224 fA224 fS224 fB224 fZ224 fA225 fS225 fB225 fA226 fS226 fB226 fZ226 fA227 fS227 fB227 fZ227 fA228 fS228 fB228 fZ228 fA229 fS229 fB229 fZ229 fA230 fS230 fB230 fZ230 fA231 fS231 fB231 fZ231 fA232 fS232 fB232 fZ232 fA233 fS233 fB233 fZ233 fF233_0 fF233_1 fF233_2 fF233_3 fL233 fA234 fS234 fB234 fZ234 fF234_0 fF234_1 fF234_2 fF234_3 fL234 fU235 fA235 fS235 fB235 fZ235 fA236 fS236 fB236 fZ236 fL236 fA237 fS237 fB237 fZ237 fL237 fU238 fA238 fS238 fB238 fZ238 fU239 fA239 fS239 fB239 fZ239 fA240 fS240 fB240 fZ240 fU241 fA241 fS241 fB241 fZ241 fU242 fA242 fS242 fB242 fZ242 fU243 fA243 fS243 fB243 fZ243 fA244 fS244 fB244 fZ244 fF244_0 fF244_1 fF244_2 fF244_3 fF244_4 fF244_5 fF244_6 fF244_7 fF244_8 fF244_9 fF244_10 fL244 fA245 fS245 fB245 fZ245 fF245_0 fF245_1 fF245_2 fF245_3 fF245_4 fF245_5 fF245_6 fF245_7 fF245_8 fF245_9 fF245_10 fL245 fA246 fS246 fB246 fZ246 fA247 fS247 fB247 fZ247 fA248 fS248 fB248 fZ248 fA249 fS249 fB249 fZ249 fQ2 fQ3 fQ4 fQ5 fQ6 fQ9 fQ10 fQ11 fQ12 fQ21 fQ24 fQ32 fQ70 fG70 fQ71 fG71 fQ72 fG72 fQ73 fG73 fQ85 fG85 fQ86 fG86 fQ87 fG87 fQ88 fG88 fQ89 fG89 fQ90 fG90 fQ122 fG122 fQ123 fG123 fQ131 fG131 fQ132 fG132 fQ153 fQ155 fG155 fQ156 fG156 fQ178 fQ186 fQ209 fQ238 fQ239 fQ242 fQ243 fE3 fE4 fE5 fE6 fE7 fE8 fE9 fE10 fE11 fE12 fE13 fE14 fE15 fE16 fE17 fE18 fE19 fE20 fE21 fE22 fE23 fE24 fE25 fE26 fE27 fE28 fE29 fE30 fE31 fE32 fE33 fE34 fE35 fE36 fE37 fE38 fE39 fE40 fE41 fE42 fE43 fE44 fE45 fE46 fE47 fE48 fE49 fE50 fE51 fE52 fE53 fE54 fE55 fE56 fE57 fE58 fE59 fE60 fE61 fE62 fE63 fE64 fE65 fE66 fE67 fE68 fE69 fE70 fE71 fE72 fE73 fE74 fE75 fE76 fE77 fE78 fE79 fE80 fE81 fE82 fE83 fE84 fE85 fE86 fE87 fE88 fE89 fE90 fE91 fE92 fE93 fE94 fE95 fE96 fE97 fE98 fE99 fE100 fE101 fE102 fE103 fE104 fE105 fE106 fE107 fE108 fE109 fE110 fE111 fE112 fE113 fE114 fE115 fE116 fE117 fE118 fE119 fE120 fE121 fE122 fE123 fE124 fE126 fE127 fE128 fE129 fE130 fE131 fE132 fE133 fE134 fE135 fE136 fE137 fE138 fE139 fE140 fE141 fE142 fE143 fE144 fE145 fE146 fE147 fE148 fE149 fE150 fE151 fE152 fE153 fE154 fE155 fE156 fE157 fE158 fE159 fE160 fE161 fE162 fE163 fE164 fE165 fE166 fE167 fE168 fE169 fE170 fE171 fE172 fE173 fE174 fE175 fE176 fE194 fE195 fE196 fE197 fE198 fE199 fE200 fE201
theorem mixed : Try.prog.follows .mixedOrders = true := by kernel_rfl
end Go.Proofs.Ytkepgbimlolemaa

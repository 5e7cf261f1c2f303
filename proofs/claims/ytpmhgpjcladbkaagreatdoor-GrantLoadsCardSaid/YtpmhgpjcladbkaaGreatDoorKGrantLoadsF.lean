/- What the law 'GrantLoads' uses of this prover's engine, facts and walks. No condition. -/
import Derived.Test.YtpmhgpjcladbkaaGreatDoorChecked
import Derived.Test.YtpmhgpjcladbkaaGreatDoorKGrantLoadsB
set_option linter.unusedVariables false
namespace Go.Proofs.YtpmhgpjcladbkaaGreatDoor
theorem fU2 : Und Tryz.prog 2 (.int .i64) := ⟨Tryz.underlying2⟩
theorem fA2 : Agg Tryz.prog 2 false := ⟨Tryz.isAgg2⟩
theorem fS2 : Sz Tryz.prog 2 1 := ⟨Tryz.sizeOf2⟩
theorem fU3 : Und Tryz.prog 3 (.int .i64) := ⟨Tryz.underlying3⟩
theorem fA3 : Agg Tryz.prog 3 false := ⟨Tryz.isAgg3⟩
theorem fS3 : Sz Tryz.prog 3 1 := ⟨Tryz.sizeOf3⟩
theorem fZ3 : Zr Tryz.prog 3 (.int .i64 0) := ⟨Tryz.zeroValue3⟩
theorem fU4 : Und Tryz.prog 4 (.bool) := ⟨Tryz.underlying4⟩
theorem fA4 : Agg Tryz.prog 4 false := ⟨Tryz.isAgg4⟩
theorem fS4 : Sz Tryz.prog 4 1 := ⟨Tryz.sizeOf4⟩
theorem fU5 : Und Tryz.prog 5 (.int .u8) := ⟨Tryz.underlying5⟩
theorem fA5 : Agg Tryz.prog 5 false := ⟨Tryz.isAgg5⟩
theorem fS5 : Sz Tryz.prog 5 1 := ⟨Tryz.sizeOf5⟩
theorem fB5 : By Tryz.prog 5 1 := ⟨fun w => ⟨_, Tryz.typeInfo5 w, rfl⟩⟩
theorem fZ5 : Zr Tryz.prog 5 (.int .u8 0) := ⟨Tryz.zeroValue5⟩
theorem fU9 : Und Tryz.prog 9 (.string) := ⟨Tryz.underlying9⟩
theorem fA9 : Agg Tryz.prog 9 false := ⟨Tryz.isAgg9⟩
theorem fS9 : Sz Tryz.prog 9 1 := ⟨Tryz.sizeOf9⟩
theorem fB9 : By Tryz.prog 9 16 := ⟨fun w => ⟨_, Tryz.typeInfo9 w, rfl⟩⟩
theorem fZ9 : Zr Tryz.prog 9 (.string { data := #[] }) := ⟨Tryz.zeroValue9⟩
theorem fU22 : Und Tryz.prog 22 (.slice 28) := ⟨Tryz.underlying22⟩
theorem fA22 : Agg Tryz.prog 22 false := ⟨Tryz.isAgg22⟩
theorem fU23 : Und Tryz.prog 23 (.slice 35) := ⟨Tryz.underlying23⟩
theorem fA23 : Agg Tryz.prog 23 false := ⟨Tryz.isAgg23⟩
theorem fU24 : Und Tryz.prog 24 (.slice 30) := ⟨Tryz.underlying24⟩
theorem fU26 : Und Tryz.prog 26 (.slice 9) := ⟨Tryz.underlying26⟩
theorem fA26 : Agg Tryz.prog 26 false := ⟨Tryz.isAgg26⟩
theorem fS26 : Sz Tryz.prog 26 1 := ⟨Tryz.sizeOf26⟩
theorem fZ26 : Zr Tryz.prog 26 (.slice none 0 0) := ⟨Tryz.zeroValue26⟩
theorem fA28 : Agg Tryz.prog 28 true := ⟨Tryz.isAgg28⟩
theorem fS28 : Sz Tryz.prog 28 3 := ⟨Tryz.sizeOf28⟩
theorem fB28 : By Tryz.prog 28 56 := ⟨fun w => ⟨_, Tryz.typeInfo28 w, rfl⟩⟩
theorem fZ28 : Zr Tryz.prog 28 (.agg [.string { data := #[] }, .string { data := #[] }, .slice none 0 0].toArray) := ⟨Tryz.zeroValue28⟩
theorem fF28_0 : Fld Tryz.prog 28 0 0 := Fld.of Tryz.underlying28 rfl Tryz.sizeOf9 rfl rfl
theorem fF28_1 : Fld Tryz.prog 28 1 1 := Fld.of Tryz.underlying28 rfl Tryz.sizeOf9 rfl rfl
theorem fF28_2 : Fld Tryz.prog 28 2 2 := Fld.of Tryz.underlying28 rfl Tryz.sizeOf26 rfl rfl
theorem fL28 : Bld Tryz.prog 28 [(0, 1), (1, 1), (2, 1)] [.string { data := #[] }, .string { data := #[] }, .slice none 0 0] := ⟨_, Tryz.underlying28, Tryz.zeroValue28, fun w => by simp [Tryz.sizeOf26, Tryz.sizeOf9]⟩
theorem fA30 : Agg Tryz.prog 30 true := ⟨Tryz.isAgg30⟩
theorem fS30 : Sz Tryz.prog 30 3 := ⟨Tryz.sizeOf30⟩
theorem fB30 : By Tryz.prog 30 56 := ⟨fun w => ⟨_, Tryz.typeInfo30 w, rfl⟩⟩
theorem fZ30 : Zr Tryz.prog 30 (.agg [.string { data := #[] }, .string { data := #[] }, .slice none 0 0].toArray) := ⟨Tryz.zeroValue30⟩
theorem fF30_0 : Fld Tryz.prog 30 0 0 := Fld.of Tryz.underlying30 rfl Tryz.sizeOf9 rfl rfl
theorem fF30_1 : Fld Tryz.prog 30 1 1 := Fld.of Tryz.underlying30 rfl Tryz.sizeOf9 rfl rfl
theorem fF30_2 : Fld Tryz.prog 30 2 2 := Fld.of Tryz.underlying30 rfl Tryz.sizeOf26 rfl rfl
theorem fL30 : Bld Tryz.prog 30 [(0, 1), (1, 1), (2, 1)] [.string { data := #[] }, .string { data := #[] }, .slice none 0 0] := ⟨_, Tryz.underlying30, Tryz.zeroValue30, fun w => by simp [Tryz.sizeOf26, Tryz.sizeOf9]⟩
theorem fU31 : Und Tryz.prog 31 (.slice 33) := ⟨Tryz.underlying31⟩
theorem fA33 : Agg Tryz.prog 33 true := ⟨Tryz.isAgg33⟩
theorem fS33 : Sz Tryz.prog 33 9 := ⟨Tryz.sizeOf33⟩
theorem fB33 : By Tryz.prog 33 128 := ⟨fun w => ⟨_, Tryz.typeInfo33 w, rfl⟩⟩
theorem fZ33 : Zr Tryz.prog 33 (.agg [.string { data := #[] }, .string { data := #[] }, .string { data := #[] }, .string { data := #[] }, .slice none 0 0, .string { data := #[] }, .int .i64 0, .int .i64 0, .bool false].toArray) := ⟨Tryz.zeroValue33⟩
theorem fF33_0 : Fld Tryz.prog 33 0 0 := Fld.of Tryz.underlying33 rfl Tryz.sizeOf9 rfl rfl
theorem fF33_1 : Fld Tryz.prog 33 1 1 := Fld.of Tryz.underlying33 rfl Tryz.sizeOf9 rfl rfl
theorem fF33_2 : Fld Tryz.prog 33 2 2 := Fld.of Tryz.underlying33 rfl Tryz.sizeOf9 rfl rfl
theorem fF33_3 : Fld Tryz.prog 33 3 3 := Fld.of Tryz.underlying33 rfl Tryz.sizeOf9 rfl rfl
theorem fF33_4 : Fld Tryz.prog 33 4 4 := Fld.of Tryz.underlying33 rfl Tryz.sizeOf26 rfl rfl
theorem fF33_5 : Fld Tryz.prog 33 5 5 := Fld.of Tryz.underlying33 rfl Tryz.sizeOf9 rfl rfl
theorem fF33_6 : Fld Tryz.prog 33 6 6 := Fld.of Tryz.underlying33 rfl Tryz.sizeOf2 rfl rfl
theorem fF33_7 : Fld Tryz.prog 33 7 7 := Fld.of Tryz.underlying33 rfl Tryz.sizeOf3 rfl rfl
theorem fF33_8 : Fld Tryz.prog 33 8 8 := Fld.of Tryz.underlying33 rfl Tryz.sizeOf4 rfl rfl
theorem fL33 : Bld Tryz.prog 33 [(0, 1), (1, 1), (2, 1), (3, 1), (4, 1), (5, 1), (6, 1), (7, 1), (8, 1)] [.string { data := #[] }, .string { data := #[] }, .string { data := #[] }, .string { data := #[] }, .slice none 0 0, .string { data := #[] }, .int .i64 0, .int .i64 0, .bool false] := ⟨_, Tryz.underlying33, Tryz.zeroValue33, fun w => by simp [Tryz.sizeOf2, Tryz.sizeOf26, Tryz.sizeOf3, Tryz.sizeOf4, Tryz.sizeOf9]⟩
theorem fA35 : Agg Tryz.prog 35 true := ⟨Tryz.isAgg35⟩
theorem fS35 : Sz Tryz.prog 35 9 := ⟨Tryz.sizeOf35⟩
theorem fB35 : By Tryz.prog 35 128 := ⟨fun w => ⟨_, Tryz.typeInfo35 w, rfl⟩⟩
theorem fZ35 : Zr Tryz.prog 35 (.agg [.string { data := #[] }, .string { data := #[] }, .string { data := #[] }, .string { data := #[] }, .slice none 0 0, .string { data := #[] }, .int .i64 0, .int .i64 0, .bool false].toArray) := ⟨Tryz.zeroValue35⟩
theorem fF35_0 : Fld Tryz.prog 35 0 0 := Fld.of Tryz.underlying35 rfl Tryz.sizeOf9 rfl rfl
theorem fF35_1 : Fld Tryz.prog 35 1 1 := Fld.of Tryz.underlying35 rfl Tryz.sizeOf9 rfl rfl
theorem fF35_2 : Fld Tryz.prog 35 2 2 := Fld.of Tryz.underlying35 rfl Tryz.sizeOf9 rfl rfl
theorem fF35_3 : Fld Tryz.prog 35 3 3 := Fld.of Tryz.underlying35 rfl Tryz.sizeOf9 rfl rfl
theorem fF35_4 : Fld Tryz.prog 35 4 4 := Fld.of Tryz.underlying35 rfl Tryz.sizeOf26 rfl rfl
theorem fF35_5 : Fld Tryz.prog 35 5 5 := Fld.of Tryz.underlying35 rfl Tryz.sizeOf9 rfl rfl
theorem fF35_6 : Fld Tryz.prog 35 6 6 := Fld.of Tryz.underlying35 rfl Tryz.sizeOf2 rfl rfl
theorem fF35_7 : Fld Tryz.prog 35 7 7 := Fld.of Tryz.underlying35 rfl Tryz.sizeOf3 rfl rfl
theorem fF35_8 : Fld Tryz.prog 35 8 8 := Fld.of Tryz.underlying35 rfl Tryz.sizeOf4 rfl rfl
theorem fL35 : Bld Tryz.prog 35 [(0, 1), (1, 1), (2, 1), (3, 1), (4, 1), (5, 1), (6, 1), (7, 1), (8, 1)] [.string { data := #[] }, .string { data := #[] }, .string { data := #[] }, .string { data := #[] }, .slice none 0 0, .string { data := #[] }, .int .i64 0, .int .i64 0, .bool false] := ⟨_, Tryz.underlying35, Tryz.zeroValue35, fun w => by simp [Tryz.sizeOf2, Tryz.sizeOf26, Tryz.sizeOf3, Tryz.sizeOf4, Tryz.sizeOf9]⟩
theorem fU37 : Und Tryz.prog 37 (.pointer 53) := ⟨Tryz.underlying37⟩
theorem fF46_0 : Fld Tryz.prog 46 0 0 := Fld.of Tryz.underlying46 rfl Tryz.sizeOf22 rfl rfl
theorem fF46_1 : Fld Tryz.prog 46 1 1 := Fld.of Tryz.underlying46 rfl Tryz.sizeOf23 rfl rfl
theorem fL46 : Bld Tryz.prog 46 [(0, 1), (1, 1)] [.slice none 0 0, .slice none 0 0] := ⟨_, Tryz.underlying46, Tryz.zeroValue46, fun w => by simp [Tryz.sizeOf22, Tryz.sizeOf23]⟩
theorem fU49 : Und Tryz.prog 49 (.map 127 26) := ⟨Tryz.underlying49⟩
theorem fA49 : Agg Tryz.prog 49 false := ⟨Tryz.isAgg49⟩
theorem fU50 : Und Tryz.prog 50 (.map 9 33) := ⟨Tryz.underlying50⟩
theorem fA50 : Agg Tryz.prog 50 false := ⟨Tryz.isAgg50⟩
theorem fU51 : Und Tryz.prog 51 (.pointer 188) := ⟨Tryz.underlying51⟩
theorem fA51 : Agg Tryz.prog 51 false := ⟨Tryz.isAgg51⟩
theorem fF53_0 : Fld Tryz.prog 53 0 0 := Fld.of Tryz.underlying53 rfl Tryz.sizeOf49 rfl rfl
theorem fF53_1 : Fld Tryz.prog 53 1 1 := Fld.of Tryz.underlying53 rfl Tryz.sizeOf50 rfl rfl
theorem fF53_2 : Fld Tryz.prog 53 2 2 := Fld.of Tryz.underlying53 rfl Tryz.sizeOf51 rfl rfl
theorem fL53 : Bld Tryz.prog 53 [(0, 1), (1, 1), (2, 1)] [.map none, .map none, .pointer none] := ⟨_, Tryz.underlying53, Tryz.zeroValue53, fun w => by simp [Tryz.sizeOf49, Tryz.sizeOf50, Tryz.sizeOf51]⟩
theorem fU74 : Und Tryz.prog 74 (.slice 5) := ⟨Tryz.underlying74⟩
theorem fA74 : Agg Tryz.prog 74 false := ⟨Tryz.isAgg74⟩
theorem fS74 : Sz Tryz.prog 74 1 := ⟨Tryz.sizeOf74⟩
theorem fU75 : Und Tryz.prog 75 (.int .u64) := ⟨Tryz.underlying75⟩
theorem fA127 : Agg Tryz.prog 127 true := ⟨Tryz.isAgg127⟩
theorem fS127 : Sz Tryz.prog 127 2 := ⟨Tryz.sizeOf127⟩
theorem fZ127 : Zr Tryz.prog 127 (.agg [.string { data := #[] }, .string { data := #[] }].toArray) := ⟨Tryz.zeroValue127⟩
theorem fF127_0 : Fld Tryz.prog 127 0 0 := Fld.of Tryz.underlying127 rfl Tryz.sizeOf9 rfl rfl
theorem fF127_1 : Fld Tryz.prog 127 1 1 := Fld.of Tryz.underlying127 rfl Tryz.sizeOf9 rfl rfl
theorem fL127 : Bld Tryz.prog 127 [(0, 1), (1, 1)] [.string { data := #[] }, .string { data := #[] }] := ⟨_, Tryz.underlying127, Tryz.zeroValue127, fun w => by simp [Tryz.sizeOf9]⟩
theorem fU175 : Und Tryz.prog 175 (.array 32 5) := ⟨Tryz.underlying175⟩
theorem fA175 : Agg Tryz.prog 175 true := ⟨Tryz.isAgg175⟩
theorem fS175 : Sz Tryz.prog 175 32 := ⟨Tryz.sizeOf175⟩
theorem fZ175 : Zr Tryz.prog 175 (.agg [.int .u8 0, .int .u8 0, .int .u8 0, .int .u8 0, .int .u8 0, .int .u8 0, .int .u8 0, .int .u8 0, .int .u8 0, .int .u8 0, .int .u8 0, .int .u8 0, .int .u8 0, .int .u8 0, .int .u8 0, .int .u8 0, .int .u8 0, .int .u8 0, .int .u8 0, .int .u8 0, .int .u8 0, .int .u8 0, .int .u8 0, .int .u8 0, .int .u8 0, .int .u8 0, .int .u8 0, .int .u8 0, .int .u8 0, .int .u8 0, .int .u8 0, .int .u8 0].toArray) := ⟨Tryz.zeroValue175⟩
theorem fU180 : Und Tryz.prog 180 (.int .u64) := ⟨Tryz.underlying180⟩
theorem fF182_0 : Fld Tryz.prog 182 0 0 := Fld.of Tryz.underlying182 rfl Tryz.sizeOf9 rfl rfl
theorem fF182_1 : Fld Tryz.prog 182 1 1 := Fld.of Tryz.underlying182 rfl Tryz.sizeOf2 rfl rfl
theorem fF182_2 : Fld Tryz.prog 182 2 2 := Fld.of Tryz.underlying182 rfl Tryz.sizeOf3 rfl rfl
theorem fL182 : Bld Tryz.prog 182 [(0, 1), (1, 1), (2, 1)] [.string { data := #[] }, .int .i64 0, .int .i64 0] := ⟨_, Tryz.underlying182, Tryz.zeroValue182, fun w => by simp [Tryz.sizeOf2, Tryz.sizeOf3, Tryz.sizeOf9]⟩
theorem fU183 : Und Tryz.prog 183 (.pointer 182) := ⟨Tryz.underlying183⟩
theorem fA183 : Agg Tryz.prog 183 false := ⟨Tryz.isAgg183⟩
theorem fS183 : Sz Tryz.prog 183 1 := ⟨Tryz.sizeOf183⟩
theorem fB183 : By Tryz.prog 183 8 := ⟨fun w => ⟨_, Tryz.typeInfo183 w, rfl⟩⟩
theorem fZ183 : Zr Tryz.prog 183 (.pointer none) := ⟨Tryz.zeroValue183⟩
theorem fU185 : Und Tryz.prog 185 (.slice 183) := ⟨Tryz.underlying185⟩
theorem fA185 : Agg Tryz.prog 185 false := ⟨Tryz.isAgg185⟩
theorem fS185 : Sz Tryz.prog 185 1 := ⟨Tryz.sizeOf185⟩
theorem fU186 : Und Tryz.prog 186 (.map 9 183) := ⟨Tryz.underlying186⟩
theorem fA186 : Agg Tryz.prog 186 false := ⟨Tryz.isAgg186⟩
theorem fF188_0 : Fld Tryz.prog 188 0 0 := Fld.of Tryz.underlying188 rfl Tryz.sizeOf185 rfl rfl
theorem fF188_1 : Fld Tryz.prog 188 1 1 := Fld.of Tryz.underlying188 rfl Tryz.sizeOf186 rfl rfl
theorem fL188 : Bld Tryz.prog 188 [(0, 1), (1, 1)] [.slice none 0 0, .map none] := ⟨_, Tryz.underlying188, Tryz.zeroValue188, fun w => by simp [Tryz.sizeOf185, Tryz.sizeOf186]⟩
theorem fU190 : Und Tryz.prog 190 (.pointer 185) := ⟨Tryz.underlying190⟩
theorem fU220 : Und Tryz.prog 220 (.slice 3) := ⟨Tryz.underlying220⟩
theorem fU223 : Und Tryz.prog 223 (.int .u32) := ⟨Tryz.underlying223⟩
theorem fA223 : Agg Tryz.prog 223 false := ⟨Tryz.isAgg223⟩
theorem fS223 : Sz Tryz.prog 223 1 := ⟨Tryz.sizeOf223⟩
theorem fB223 : By Tryz.prog 223 4 := ⟨fun w => ⟨_, Tryz.typeInfo223 w, rfl⟩⟩
theorem fZ223 : Zr Tryz.prog 223 (.int .u32 0) := ⟨Tryz.zeroValue223⟩
theorem fU224 : Und Tryz.prog 224 (.slice 223) := ⟨Tryz.underlying224⟩
theorem fU242 : Und Tryz.prog 242 (.array 32 5) := ⟨Tryz.underlying242⟩
theorem fA242 : Agg Tryz.prog 242 true := ⟨Tryz.isAgg242⟩
theorem fS242 : Sz Tryz.prog 242 32 := ⟨Tryz.sizeOf242⟩
theorem fZ242 : Zr Tryz.prog 242 (.agg [.int .u8 0, .int .u8 0, .int .u8 0, .int .u8 0, .int .u8 0, .int .u8 0, .int .u8 0, .int .u8 0, .int .u8 0, .int .u8 0, .int .u8 0, .int .u8 0, .int .u8 0, .int .u8 0, .int .u8 0, .int .u8 0, .int .u8 0, .int .u8 0, .int .u8 0, .int .u8 0, .int .u8 0, .int .u8 0, .int .u8 0, .int .u8 0, .int .u8 0, .int .u8 0, .int .u8 0, .int .u8 0, .int .u8 0, .int .u8 0, .int .u8 0, .int .u8 0].toArray) := ⟨Tryz.zeroValue242⟩
theorem fU276 : Und Tryz.prog 276 (.array 64 223) := ⟨Tryz.underlying276⟩
theorem fA276 : Agg Tryz.prog 276 true := ⟨Tryz.isAgg276⟩
theorem fS276 : Sz Tryz.prog 276 64 := ⟨Tryz.sizeOf276⟩
theorem fZ276 : Zr Tryz.prog 276 (.agg [.int .u32 0, .int .u32 0, .int .u32 0, .int .u32 0, .int .u32 0, .int .u32 0, .int .u32 0, .int .u32 0, .int .u32 0, .int .u32 0, .int .u32 0, .int .u32 0, .int .u32 0, .int .u32 0, .int .u32 0, .int .u32 0, .int .u32 0, .int .u32 0, .int .u32 0, .int .u32 0, .int .u32 0, .int .u32 0, .int .u32 0, .int .u32 0, .int .u32 0, .int .u32 0, .int .u32 0, .int .u32 0, .int .u32 0, .int .u32 0, .int .u32 0, .int .u32 0, .int .u32 0, .int .u32 0, .int .u32 0, .int .u32 0, .int .u32 0, .int .u32 0, .int .u32 0, .int .u32 0, .int .u32 0, .int .u32 0, .int .u32 0, .int .u32 0, .int .u32 0, .int .u32 0, .int .u32 0, .int .u32 0, .int .u32 0, .int .u32 0, .int .u32 0, .int .u32 0, .int .u32 0, .int .u32 0, .int .u32 0, .int .u32 0, .int .u32 0, .int .u32 0, .int .u32 0, .int .u32 0, .int .u32 0, .int .u32 0, .int .u32 0, .int .u32 0].toArray) := ⟨Tryz.zeroValue276⟩
theorem fU278 : Und Tryz.prog 278 (.int .u64) := ⟨Tryz.underlying278⟩
theorem fA278 : Agg Tryz.prog 278 false := ⟨Tryz.isAgg278⟩
theorem fS278 : Sz Tryz.prog 278 1 := ⟨Tryz.sizeOf278⟩
theorem fZ278 : Zr Tryz.prog 278 (.int .u64 0) := ⟨Tryz.zeroValue278⟩
theorem fU285 : Und Tryz.prog 285 (.pointer 320) := ⟨Tryz.underlying285⟩
theorem fU289 : Und Tryz.prog 289 (.pointer 291) := ⟨Tryz.underlying289⟩
theorem fA289 : Agg Tryz.prog 289 false := ⟨Tryz.isAgg289⟩
theorem fS289 : Sz Tryz.prog 289 1 := ⟨Tryz.sizeOf289⟩
theorem fZ291 : Zr Tryz.prog 291 (.agg [.pointer none, .slice none 0 0].toArray) := ⟨Tryz.zeroValue291⟩
theorem fF291_0 : Fld Tryz.prog 291 0 0 := Fld.of Tryz.underlying291 rfl Tryz.sizeOf289 rfl rfl
theorem fF291_1 : Fld Tryz.prog 291 1 1 := Fld.of Tryz.underlying291 rfl Tryz.sizeOf74 rfl rfl
theorem fU318 : Und Tryz.prog 318 (.array 8 223) := ⟨Tryz.underlying318⟩
theorem fA318 : Agg Tryz.prog 318 true := ⟨Tryz.isAgg318⟩
theorem fS318 : Sz Tryz.prog 318 8 := ⟨Tryz.sizeOf318⟩
theorem fZ318 : Zr Tryz.prog 318 (.agg [.int .u32 0, .int .u32 0, .int .u32 0, .int .u32 0, .int .u32 0, .int .u32 0, .int .u32 0, .int .u32 0].toArray) := ⟨Tryz.zeroValue318⟩
theorem fF320_0 : Fld Tryz.prog 320 0 0 := Fld.of Tryz.underlying320 rfl Tryz.sizeOf318 rfl rfl
theorem fF320_1 : Fld Tryz.prog 320 1 8 := Fld.of Tryz.underlying320 rfl Tryz.sizeOf4 rfl rfl
theorem fF320_2 : Fld Tryz.prog 320 2 9 := Fld.of Tryz.underlying320 rfl Tryz.sizeOf74 rfl rfl
theorem fF320_3 : Fld Tryz.prog 320 3 10 := Fld.of Tryz.underlying320 rfl Tryz.sizeOf3 rfl rfl
theorem fL320 : Bld Tryz.prog 320 [(0, 8), (8, 1), (9, 1), (10, 1)] [.int .u32 0, .int .u32 0, .int .u32 0, .int .u32 0, .int .u32 0, .int .u32 0, .int .u32 0, .int .u32 0, .bool false, .slice none 0 0, .int .i64 0] := ⟨_, Tryz.underlying320, Tryz.zeroValue320, fun w => by simp [Tryz.sizeOf3, Tryz.sizeOf318, Tryz.sizeOf4, Tryz.sizeOf74]⟩
theorem fU324 : Und Tryz.prog 324 (.pointer 5) := ⟨Tryz.underlying324⟩
theorem fQ9 : EqT Tryz.prog 9 1 [.s] false := EqT.str fU9 fA9
theorem fQ127 : EqT Tryz.prog 127 2 [.s, .s] true := EqT.struct (n := 1) Tryz.underlying127 Tryz.stoodInHeld127 fA127 fS127 (EqFs.more fQ9 (EqFs.more fQ9 EqFs.nil))
theorem fE11 : Ent Tryz.prog 11 := ⟨Tryz.call11⟩
theorem fE12 : Ent Tryz.prog 12 := ⟨Tryz.call12⟩
theorem fE13 : Ent Tryz.prog 13 := ⟨Tryz.call13⟩
theorem fE14 : Ent Tryz.prog 14 := ⟨Tryz.call14⟩
theorem fE15 : Ent Tryz.prog 15 := ⟨Tryz.call15⟩
theorem fE16 : Ent Tryz.prog 16 := ⟨Tryz.call16⟩
theorem fE17 : Ent Tryz.prog 17 := ⟨Tryz.call17⟩
theorem fE18 : Ent Tryz.prog 18 := ⟨Tryz.call18⟩
theorem fE19 : Ent Tryz.prog 19 := ⟨Tryz.call19⟩
theorem fE22 : Ent Tryz.prog 22 := ⟨Tryz.call22⟩
theorem fE23 : Ent Tryz.prog 23 := ⟨Tryz.call23⟩
theorem fE24 : Ent Tryz.prog 24 := ⟨Tryz.call24⟩
theorem fE25 : Ent Tryz.prog 25 := ⟨Tryz.call25⟩
theorem fE27 : Ent Tryz.prog 27 := ⟨Tryz.call27⟩
theorem fE28 : Ent Tryz.prog 28 := ⟨Tryz.call28⟩
theorem fE29 : Ent Tryz.prog 29 := ⟨Tryz.call29⟩
theorem fE47 : Ent Tryz.prog 47 := ⟨Tryz.call47⟩
theorem fE53 : Ent Tryz.prog 53 := ⟨Tryz.call53⟩
theorem fE54 : Ent Tryz.prog 54 := ⟨Tryz.call54⟩
theorem fE55 : Ent Tryz.prog 55 := ⟨Tryz.call55⟩
theorem fE56 : Ent Tryz.prog 56 := ⟨Tryz.call56⟩
theorem fE57 : Ent Tryz.prog 57 := ⟨Tryz.call57⟩
theorem fE58 : Ent Tryz.prog 58 := ⟨Tryz.call58⟩
theorem fE59 : Ent Tryz.prog 59 := ⟨Tryz.call59⟩
theorem fE60 : Ent Tryz.prog 60 := ⟨Tryz.call60⟩
theorem fE61 : Ent Tryz.prog 61 := ⟨Tryz.call61⟩
theorem fE65 : Ent Tryz.prog 65 := ⟨Tryz.call65⟩
theorem fE66 : Ent Tryz.prog 66 := ⟨Tryz.call66⟩
theorem fE67 : Ent Tryz.prog 67 := ⟨Tryz.call67⟩
theorem fE68 : Ent Tryz.prog 68 := ⟨Tryz.call68⟩
theorem fE69 : Ent Tryz.prog 69 := ⟨Tryz.call69⟩
theorem fE70 : Ent Tryz.prog 70 := ⟨Tryz.call70⟩
theorem fE91 : Ent Tryz.prog 91 := ⟨Tryz.call91⟩
theorem fE106 : Ent Tryz.prog 106 := ⟨Tryz.call106⟩
theorem fE107 : Ent Tryz.prog 107 := ⟨Tryz.call107⟩
theorem fE108 : Ent Tryz.prog 108 := ⟨Tryz.call108⟩
theorem fE109 : Ent Tryz.prog 109 := ⟨Tryz.call109⟩
theorem fE110 : Ent Tryz.prog 110 := ⟨Tryz.call110⟩
theorem fE111 : Ent Tryz.prog 111 := ⟨Tryz.call111⟩
theorem fE114 : Ent Tryz.prog 114 := ⟨Tryz.call114⟩
theorem fE116 : Ent Tryz.prog 116 := ⟨Tryz.call116⟩
theorem fE117 : Ent Tryz.prog 117 := ⟨Tryz.call117⟩
theorem fE118 : Ent Tryz.prog 118 := ⟨Tryz.call118⟩
theorem fE119 : Ent Tryz.prog 119 := ⟨Tryz.call119⟩
theorem fE169 : Ent Tryz.prog 169 := ⟨Tryz.call169⟩
theorem fE170 : Ent Tryz.prog 170 := ⟨Tryz.call170⟩
theorem fE171 : Ent Tryz.prog 171 := ⟨Tryz.call171⟩
theorem fE172 : Ent Tryz.prog 172 := ⟨Tryz.call172⟩
theorem fE173 : Ent Tryz.prog 173 := ⟨Tryz.call173⟩
theorem fE174 : Ent Tryz.prog 174 := ⟨Tryz.call174⟩
theorem fE175 : Ent Tryz.prog 175 := ⟨Tryz.call175⟩
theorem fE176 : Ent Tryz.prog 176 := ⟨Tryz.call176⟩
theorem fE177 : Ent Tryz.prog 177 := ⟨Tryz.call177⟩
theorem fE178 : Ent Tryz.prog 178 := ⟨Tryz.call178⟩
theorem fE179 : Ent Tryz.prog 179 := ⟨Tryz.call179⟩
theorem fE180 : Ent Tryz.prog 180 := ⟨Tryz.call180⟩
theorem fE181 : Ent Tryz.prog 181 := ⟨Tryz.call181⟩
theorem fE182 : Ent Tryz.prog 182 := ⟨Tryz.call182⟩
theorem fE185 : Ent Tryz.prog 185 := ⟨Tryz.call185⟩
theorem fE186 : Ent Tryz.prog 186 := ⟨Tryz.call186⟩
theorem fE187 : Ent Tryz.prog 187 := ⟨Tryz.call187⟩
theorem fE188 : Ent Tryz.prog 188 := ⟨Tryz.call188⟩
theorem fE189 : Ent Tryz.prog 189 := ⟨Tryz.call189⟩
theorem fE190 : Ent Tryz.prog 190 := ⟨Tryz.call190⟩
theorem fE191 : Ent Tryz.prog 191 := ⟨Tryz.call191⟩
theorem fE192 : Ent Tryz.prog 192 := ⟨Tryz.call192⟩
theorem fE193 : Ent Tryz.prog 193 := ⟨Tryz.call193⟩
theorem fE194 : Ent Tryz.prog 194 := ⟨Tryz.call194⟩
theorem fE195 : Ent Tryz.prog 195 := ⟨Tryz.call195⟩
theorem fE196 : Ent Tryz.prog 196 := ⟨Tryz.call196⟩
theorem fE197 : Ent Tryz.prog 197 := ⟨Tryz.call197⟩
theorem fE198 : Ent Tryz.prog 198 := ⟨Tryz.call198⟩
theorem fE199 : Ent Tryz.prog 199 := ⟨Tryz.call199⟩
theorem fE200 : Ent Tryz.prog 200 := ⟨Tryz.call200⟩
theorem fE201 : Ent Tryz.prog 201 := ⟨Tryz.call201⟩
theorem fE202 : Ent Tryz.prog 202 := ⟨Tryz.call202⟩
theorem fE203 : Ent Tryz.prog 203 := ⟨Tryz.call203⟩
theorem fE204 : Ent Tryz.prog 204 := ⟨Tryz.call204⟩
theorem fE205 : Ent Tryz.prog 205 := ⟨Tryz.call205⟩
theorem fE248 : Ent Tryz.prog 248 := ⟨Tryz.call248⟩
theorem fE249 : Ent Tryz.prog 249 := ⟨Tryz.call249⟩
theorem fE250 : Ent Tryz.prog 250 := ⟨Tryz.call250⟩
theorem fE251 : Ent Tryz.prog 251 := ⟨Tryz.call251⟩
theorem fE252 : Ent Tryz.prog 252 := ⟨Tryz.call252⟩
theorem fE253 : Ent Tryz.prog 253 := ⟨Tryz.call253⟩
theorem fE254 : Ent Tryz.prog 254 := ⟨Tryz.call254⟩
theorem fE255 : Ent Tryz.prog 255 := ⟨Tryz.call255⟩
theorem fE256 : Ent Tryz.prog 256 := ⟨Tryz.call256⟩
theorem fE257 : Ent Tryz.prog 257 := ⟨Tryz.call257⟩
theorem fE258 : Ent Tryz.prog 258 := ⟨Tryz.call258⟩
theorem fE259 : Ent Tryz.prog 259 := ⟨Tryz.call259⟩
theorem fE260 : Ent Tryz.prog 260 := ⟨Tryz.call260⟩
theorem fE261 : Ent Tryz.prog 261 := ⟨Tryz.call261⟩
theorem fE262 : Ent Tryz.prog 262 := ⟨Tryz.call262⟩
theorem fE263 : Ent Tryz.prog 263 := ⟨Tryz.call263⟩
theorem fE264 : Ent Tryz.prog 264 := ⟨Tryz.call264⟩
theorem fE265 : Ent Tryz.prog 265 := ⟨Tryz.call265⟩
theorem fE266 : Ent Tryz.prog 266 := ⟨Tryz.call266⟩
theorem fE293 : Ent Tryz.prog 293 := ⟨Tryz.call293⟩
theorem fE295 : Ent Tryz.prog 295 := ⟨Tryz.call295⟩
theorem fE296 : Ent Tryz.prog 296 := ⟨Tryz.call296⟩
theorem fE297 : Ent Tryz.prog 297 := ⟨Tryz.call297⟩
theorem fE298 : Ent Tryz.prog 298 := ⟨Tryz.call298⟩
theorem fE299 : Ent Tryz.prog 299 := ⟨Tryz.call299⟩
theorem fE300 : Ent Tryz.prog 300 := ⟨Tryz.call300⟩
theorem fE310 : Ent Tryz.prog 310 := ⟨Tryz.call310⟩
theorem fE311 : Ent Tryz.prog 311 := ⟨Tryz.call311⟩
theorem fE338 : Ent Tryz.prog 338 := ⟨Tryz.call338⟩
theorem fE339 : Ent Tryz.prog 339 := ⟨Tryz.call339⟩
theorem fE340 : Ent Tryz.prog 340 := ⟨Tryz.call340⟩
theorem fE341 : Ent Tryz.prog 341 := ⟨Tryz.call341⟩
theorem fE342 : Ent Tryz.prog 342 := ⟨Tryz.call342⟩
theorem fE343 : Ent Tryz.prog 343 := ⟨Tryz.call343⟩
theorem fE345 : Ent Tryz.prog 345 := ⟨Tryz.call345⟩
attribute [instance] fU2 fA2 fS2 fU3 fA3 fS3 fZ3 fU4 fA4 fS4 fU5 fA5 fS5 fB5 fZ5 fU9 fA9 fS9 fB9 fZ9 fU22 fA22 fU23 fA23 fU24 fU26 fA26 fS26 fZ26 fA28 fS28 fB28 fZ28 fF28_0 fF28_1 fF28_2 fL28 fA30 fS30 fB30 fZ30 fF30_0 fF30_1 fF30_2 fL30 fU31 fA33 fS33 fB33 fZ33 fF33_0 fF33_1 fF33_2 fF33_3 fF33_4 fF33_5 fF33_6 fF33_7 fF33_8 fL33 fA35 fS35 fB35 fZ35 fF35_0 fF35_1 fF35_2 fF35_3 fF35_4 fF35_5 fF35_6 fF35_7 fF35_8 fL35 fU37 fF46_0 fF46_1 fL46 fU49 fA49 fU50 fA50 fU51 fA51 fF53_0 fF53_1 fF53_2 fL53 fU74 fA74 fS74 fU75 fA127 fS127 fZ127 fF127_0 fF127_1 fL127 fU175 fA175 fS175 fZ175 fU180 fF182_0 fF182_1 fF182_2 fL182 fU183 fA183 fS183 fB183 fZ183 fU185 fA185 fS185 fU186 fA186 fF188_0 fF188_1 fL188 fU190 fU220 fU223 fA223 fS223 fB223 fZ223 fU224 fU242 fA242 fS242 fZ242 fU276 fA276 fS276 fZ276 fU278 fA278 fS278 fZ278 fU285 fU289 fA289 fS289 fZ291 fF291_0 fF291_1 fU318 fA318 fS318 fZ318 fF320_0 fF320_1 fF320_2 fF320_3 fL320 fU324 fQ9 fQ127 fE11 fE12 fE13 fE14 fE15 fE16 fE17 fE18 fE19 fE22 fE23 fE24 fE25 fE27 fE28 fE29 fE47 fE53 fE54 fE55 fE56 fE57 fE58 fE59 fE60 fE61 fE65 fE66 fE67 fE68 fE69 fE70 fE91 fE106 fE107 fE108 fE109 fE110 fE111 fE114 fE116 fE117 fE118 fE119 fE169 fE170 fE171 fE172 fE173 fE174 fE175 fE176 fE177 fE178 fE179 fE180 fE181 fE182 fE185 fE186 fE187 fE188 fE189 fE190 fE191 fE192 fE193 fE194 fE195 fE196 fE197 fE198 fE199 fE200 fE201 fE202 fE203 fE204 fE205 fE248 fE249 fE250 fE251 fE252 fE253 fE254 fE255 fE256 fE257 fE258 fE259 fE260 fE261 fE262 fE263 fE264 fE265 fE266 fE293 fE295 fE296 fE297 fE298 fE299 fE300 fE310 fE311 fE338 fE339 fE340 fE341 fE342 fE343 fE345
theorem mixed : Tryz.prog.follows .mixedOrders = true := by kernel_rfl
end Go.Proofs.YtpmhgpjcladbkaaGreatDoor
set_option linter.unusedVariables false
namespace Go.Proofs.YtpmhgpjcladbkaaGreatDoor
/-- What a heap's interface does. -/
structure HI (P : Program) (R : Rds) (t : TypeId) (v : Value) {α : Type} (lt : α → α → Bool) (I : List α → Seg → Prop) : Prop where
  bnd : ∀ L T, I L T → L.length ≤ 1000000000
  len : ∀ L T, I L T → ISpec P t v "Len" [] R T fun u T' => u = .int .i64 L.length ∧ I L T'
  less : ∀ L T (i k : Nat) x y, I L T → L[i]? = some x → L[k]? = some y → ISpec P t v "Less" [.int .i64 i, .int .i64 k] R T fun u T' => u = .bool (lt x y) ∧ I L T'
  swap : ∀ L T (i k : Nat), I L T → i < L.length → k < L.length → ISpec P t v "Swap" [.int .i64 i, .int .i64 k] R T fun _ T' => I (swp L i k) T'
section
variable {R : Rds} {t : TypeId} {v : Value} {α : Type} {lt : α → α → Bool} {I : List α → Seg → Prop}
theorem up_spec (hi : HI Tryz.prog R t v lt I) (so : SO lt) (L : List α) (T : Seg) (h : I L T) (j : Nat) (hj : j < L.length) :
    Spec Tryz.prog 186 [.iface t v, .int .i64 j] R [T] fun u H' => ∃ T', H' = [T'] ∧ u = .tuple #[] ∧ ∃ L', I L' T' ∧ L'.Perm L ∧ (∀ k, j < k → L'[k]? = L[k]?) ∧ ∀ n, n ≤ L.length → j < n → Up lt L n j → Heap lt L' n := by
  have hb := hi.bnd L T h
  refine Spec.body Tryz.func186 rfl Tryz.results186 Tryz.ntmps186 rfl ?_
  refine .block ?_
  refine .loop (X := Nat × List α × Seg) (fun y => I y.2.1 y.2.2 ∧ y.1 ≤ j ∧ y.2.1.Perm L ∧ (∀ k, j < k → y.2.1[k]? = L[k]?) ∧ ∀ n, n ≤ L.length → j < n → Up lt L n j → Up lt y.2.1 n y.1) (fun y => [(0, .iface t v), (1, .int .i64 (y.1 : Nat))]) (fun y => [y.2.2]) (fun y => y.1) (j, L, T) ⟨h, Nat.le_refl _, .refl _, fun _ _ => rfl, fun _ _ _ h => h⟩ (((EnvLe.nil _).cons rfl).cons rfl) (HLe.refl _) ?_
  rintro ⟨i, L1, T1⟩ ⟨hI, hij, hP, hS, hU⟩
  simp only at hI hij hP hS hU ⊢
  have hl := hP.length_eq
  obtain ⟨x, hx⟩ : ∃ x, L1[i]? = some x := ⟨_, List.getElem?_eq_getElem (by omega)⟩
  obtain ⟨y, hy⟩ : ∃ y, L1[par i]? = some y := ⟨_, List.getElem?_eq_getElem (by unfold par; omega)⟩
  refine .block ?_
  refine .seq (.region ?_)
  refine .q .move ?_
  refine .q (.i64 ((i : Int) - 1) .sub ⟨rfl, by omega, by omega⟩) ?_
  refine .q (.i64 ((par i : Nat) : Int) .quo ⟨tdiv2, by omega, by unfold par; omega⟩) ?_
  refine .q .assign ?_
  refine .nil (seqQ_n ?_)
  refine .seq ?_
  refine .seq (.region ?_)
  refine .q .move ?_
  refine .q .move ?_
  refine .q .eqI ?_
  refine .q .move ?_
  refine TriOps.split (t := 11) rfl (fun g1_3 => ?_) (fun g1_3 => ?_)
  refine TriOps.gF g1_3 ?_
  refine TriOps.gF g1_3 ?_
  refine TriOps.gF g1_3 ?_
  refine TriOps.gF g1_3 ?_
  refine TriOps.gF g1_3 ?_
  refine .q (.pickTh g1_3) ?_
  refine .nil (seqQ_n ?_)
  refine .condT ?_
  refine .exit (seqQ_x (blkQ_y (loopQ_x (blkQ_x ?_))))
  refine retQ_n _ .none (HLe.refl _) ?_
  · have hi0 : par i = i := by simp at g1_3; omega
    refine ⟨_, rfl, rfl, L1, hI, hP, hS, fun n hn hjn hu => ?_⟩
    have h0 : i = 0 := by
      rcases Nat.eq_zero_or_pos i with e | e
      · exact e
      · have := par_lt e; omega
    subst h0
    exact (hU n hn hjn hu).stop0
  refine TriOps.gT g1_3 ?_
  refine .q .move ?_
  refine TriOps.gT g1_3 ?_
  refine .q .move ?_
  refine TriOps.gT g1_3 ?_
  refine .q .move ?_
  refine TriOps.gT g1_3 ?_
  refine TriOps.callI (hi.less L1 T1 i (par i) x y hI hx hy) (fun u T2 hu => ?_)
  obtain ⟨rfl, hI2⟩ := hu
  refine TriOps.gT g1_3 ?_
  refine .q .not ?_
  refine .q (.pickFh g1_3) ?_
  refine .nil (seqQ_n ?_)
  refine .cond rfl (fun h1 => ?_) (fun h1 => ?_)
  refine .exit (seqQ_x (blkQ_y (loopQ_x (blkQ_x ?_))))
  refine retQ_n _ .none (HLe.refl _) ?_
  · refine ⟨_, rfl, rfl, L1, hI2, hP, hS, fun n hn hjn hu => (hU n hn hjn hu).stop fun a b ha hb => ?_⟩
    rw [hy] at ha; rw [hx] at hb
    cases ha; cases hb
    simpa using h1
  refine .skip ?_
  refine seqQ_n ?_
  refine .seq (.region ?_)
  refine .q .move ?_
  refine .q .move ?_
  refine .q .move ?_
  refine TriOps.callI (hi.swap L1 T2 (par i) i hI2 (by unfold par; omega) (by omega)) (fun u T3 hI3 => ?_)
  refine .nil (seqQ_n ?_)
  refine .region ?_
  refine .q .move ?_
  refine .q .assign ?_
  refine .nil ?_
  refine blkQ_n ?_
  · have hlt : lt x y = true := by simpa using h1
    have hi0 : par i ≠ i := by simp at g1_3; omega
    have hi1 : 0 < i := by
      rcases Nat.eq_zero_or_pos i with e | e
      · subst e; exact absurd rfl hi0
      · exact e
    have hpl := par_lt hi1
    exact loopQ_i (par i, swp L1 (par i) i, T3) ⟨hI3, by omega, swp_perm.trans hP, fun k hk => by
      rw [swp_get (by omega) (by omega), if_neg (by omega), if_neg (by omega)]; exact hS k hk, fun n hn hjn hu => (hU n hn hjn hu).step so hi1 (by omega) (by omega) hx hy hlt⟩ hpl (((EnvLe.nil _).cons rfl).cons rfl) (HLe.refl _)
theorem down_spec (hi : HI Tryz.prog R t v lt I) (so : SO lt) (L : List α) (T : Seg) (h : I L T) (i0 n : Nat) (hi0 : i0 ≤ n) (hn : n ≤ L.length) :
    Spec Tryz.prog 185 [.iface t v, .int .i64 i0, .int .i64 n] R [T] fun u H' => ∃ T', H' = [T'] ∧ ∃ L' m, I L' T' ∧ u = .bool m ∧ L'.Perm L ∧ (∀ k, n ≤ k → L'[k]? = L[k]?) ∧ (Hole lt L n i0 → (m = true → Heap lt L' n) ∧ (m = false → Up lt L' n i0)) := by
  have hb := hi.bnd L T h
  refine Spec.body Tryz.func185 rfl Tryz.results185 Tryz.ntmps185 rfl ?_
  refine .seq (.region ?_)
  refine .q .assign ?_
  refine .nil (seqQ_n ?_)
  refine .seq (.region ?_)
  refine .q .move ?_
  refine .q .assign ?_
  refine .nil (seqQ_n ?_)
  refine .seq ?_
  refine .block ?_
  refine .loop (X := Nat × List α × Seg) (fun y => I y.2.1 y.2.2 ∧ i0 ≤ y.1 ∧ y.1 ≤ n ∧ y.2.1.Perm L ∧ (∀ k, n ≤ k → y.2.1[k]? = L[k]?) ∧ (Hole lt L n i0 → Hole lt y.2.1 n y.1 ∧ (y.1 ≠ i0 → HEdge lt y.2.1 (par y.1) y.1))) (fun y => [(0, .iface t v), (1, .int .i64 (i0 : Nat)), (2, .int .i64 (n : Nat)), (7, .int .i64 (y.1 : Nat))]) (fun y => [y.2.2]) (fun y => n - y.1) (i0, L, T) ⟨h, Nat.le_refl _, hi0, .refl _, fun _ _ => rfl, fun h => ⟨h, fun e => absurd rfl e⟩⟩ (((((EnvLe.nil _).cons rfl).cons rfl).cons rfl).cons rfl) (HLe.refl _) ?_
  rintro ⟨i, L1, T1⟩ ⟨hI, hii, hin, hP, hS, hU⟩
  simp only at hI hii hin hP hS hU ⊢
  have hl := hP.length_eq
  refine .block ?_
  refine .seq (.region ?_)
  refine .q .move ?_
  refine .q (.i64 ((2 * i : Nat) : Int) .mul ⟨by omega, by omega, by omega⟩) ?_
  refine .q (.i64 ((2 * i + 1 : Nat) : Int) .add ⟨by omega, by omega, by omega⟩) ?_
  refine .q .assign ?_
  refine .nil (seqQ_n ?_)
  refine .seq ?_
  refine .seq (.region ?_)
  refine .q .move ?_
  refine .q .move ?_
  refine .q .geq ?_
  refine .q .move ?_
  refine TriOps.split (t := 18) rfl (fun g3_3 => ?_) (fun g3_3 => ?_)
  refine TriOps.gF g3_3 ?_
  refine TriOps.gF g3_3 ?_
  refine .q (.pickTh g3_3) ?_
  refine .nil (seqQ_n ?_)
  refine .condT ?_
  have hge : n ≤ 2 * i + 1 := by
    first
      | (simp at g3_3; omega)
      | (simp at h1; omega)
  refine .exit (seqQ_x (blkQ_y (loopQ_x (blkQ_x ?_))))
  refine seqQ_n ?_
  refine .seq (.region ?_)
  refine .q .move ?_
  refine .q .move ?_
  refine .q .gtr ?_
  refine .q .assign ?_
  refine .nil (seqQ_n ?_)
  refine .ret (retQ_r _ (.one (.tmp rfl)) (HLe.refl _) ?_)
  · refine ⟨_, rfl, L1, decide (i0 < i), by assumption, by simp, hP, hS, fun hu => ?_⟩
    have hup : Up lt L1 n i := (hU hu).1.stop fun c h0 hc hp a b ha hb => by
      first
        | (simp only [par] at hp; omega)
        | (rw [hy0] at ha; cases ha; exact so.ntr _ _ _ (hmin c b h0 hc hp hb) (by simpa using h3))
    refine ⟨fun hm => ?_, fun hm => ?_⟩
    · have hm' : i ≠ i0 := by simp at hm; omega
      exact hup.stop ((hU hu).2 hm')
    · have hm' : i = i0 := by simp at hm; omega
      rw [← hm']; exact hup
  refine TriOps.gT g3_3 ?_
  refine .q .move ?_
  refine TriOps.gT g3_3 ?_
  refine .q .lss ?_
  refine .q (.pickFh g3_3) ?_
  refine .nil (seqQ_n ?_)
  refine .cond rfl (fun h1 => ?_) (fun h1 => ?_)
  have hge : n ≤ 2 * i + 1 := by
    first
      | (simp at g3_3; omega)
      | (simp at h1; omega)
  refine .exit (seqQ_x (blkQ_y (loopQ_x (blkQ_x ?_))))
  refine seqQ_n ?_
  refine .seq (.region ?_)
  refine .q .move ?_
  refine .q .move ?_
  refine .q .gtr ?_
  refine .q .assign ?_
  refine .nil (seqQ_n ?_)
  refine .ret (retQ_r _ (.one (.tmp rfl)) (HLe.refl _) ?_)
  · refine ⟨_, rfl, L1, decide (i0 < i), by assumption, by simp, hP, hS, fun hu => ?_⟩
    have hup : Up lt L1 n i := (hU hu).1.stop fun c h0 hc hp a b ha hb => by
      first
        | (simp only [par] at hp; omega)
        | (rw [hy0] at ha; cases ha; exact so.ntr _ _ _ (hmin c b h0 hc hp hb) (by simpa using h3))
    refine ⟨fun hm => ?_, fun hm => ?_⟩
    · have hm' : i ≠ i0 := by simp at hm; omega
      exact hup.stop ((hU hu).2 hm')
    · have hm' : i = i0 := by simp at hm; omega
      rw [← hm']; exact hup
  have hlt : 2 * i + 1 < n := by simp at g3_3; omega
  obtain ⟨y0, hy0⟩ : ∃ y, L1[i]? = some y := ⟨_, List.getElem?_eq_getElem (by omega)⟩
  obtain ⟨x1, hx1⟩ : ∃ y, L1[2 * i + 1]? = some y := ⟨_, List.getElem?_eq_getElem (by omega)⟩
  refine .skip ?_
  refine seqQ_n ?_
  refine .seq (.region ?_)
  refine .q .move ?_
  refine .q .assign ?_
  refine .nil (seqQ_n ?_)
  refine .seq ?_
  refine Tri.cut (X := Nat × Seg × α) (fun z => I L1 z.2.1 ∧ 0 < z.1 ∧ z.1 < n ∧ par z.1 = i ∧ L1[z.1]? = some z.2.2 ∧ ∀ c u, 0 < c → c < n → par c = i → L1[c]? = some u → lt u z.2.2 = false) (fun z => [(0, .iface t v), (1, .int .i64 (i0 : Nat)), (2, .int .i64 (n : Nat)), (7, .int .i64 (i : Nat)), (9, .int .i64 (z.1 : Nat))]) (fun z => [z.2.1]) ?_ ?_
  refine .seq (.region ?_)
  refine .q .move ?_
  refine .q (.i64 ((2 * i + 2 : Nat) : Int) .add ⟨by omega, by omega, by omega⟩) ?_
  refine .q .assign ?_
  refine .nil (seqQ_n ?_)
  refine .seq (.region ?_)
  refine .q .move ?_
  refine .q .move ?_
  refine .q .lss ?_
  refine .q .move ?_
  refine TriOps.split (t := 28) rfl (fun g6_3 => ?_) (fun g6_3 => ?_)
  have hlt2 : 2 * i + 2 < n := by simp at g6_3; omega
  obtain ⟨x2, hx2⟩ : ∃ y, L1[2 * i + 2]? = some y := ⟨_, List.getElem?_eq_getElem (by omega)⟩
  refine TriOps.gT g6_3 ?_
  refine .q .move ?_
  refine TriOps.gT g6_3 ?_
  refine .q .move ?_
  refine TriOps.gT g6_3 ?_
  refine .q .move ?_
  refine TriOps.gT g6_3 ?_
  refine TriOps.callI (hi.less L1 T1 (2 * i + 2) (2 * i + 1) x2 x1 hI hx2 hx1) (fun u T2 hu => ?_)
  obtain ⟨rfl, hI2⟩ := hu
  refine .q (.pickTh g6_3) ?_
  refine .nil (seqQ_n ?_)
  refine .cond rfl (fun h2 => ?_) (fun h2 => ?_)
  refine .region ?_
  refine .q .move ?_
  refine .q .assign ?_
  refine .nil ?_
  · first
      | exact joinQ_n (2 * i + 2, T2, x2) ⟨hI2, by simp only; omega, hlt2, by simp only [par]; omega, hx2, fun c u h0 hc hp hu => by
          have : c = 2 * i + 1 ∨ c = 2 * i + 2 := by simp only [par] at hp; omega
          rcases this with rfl | rfl
          · rw [hx1] at hu; cases hu; exact so.asym (by simpa using h2)
          · rw [hx2] at hu; cases hu; exact so.irr _⟩ ((((((EnvLe.nil _).cons rfl).cons rfl).cons rfl).cons rfl).cons rfl) (HLe.refl _)
      | exact joinQ_n (2 * i + 1, T2, x1) ⟨hI2, by simp only; omega, hlt, by simp only [par]; omega, hx1, fun c u h0 hc hp hu => by
          have : c = 2 * i + 1 ∨ c = 2 * i + 2 := by simp only [par] at hp; omega
          rcases this with rfl | rfl
          · rw [hx1] at hu; cases hu; exact so.irr _
          · rw [hx2] at hu; cases hu; simpa using h2⟩ ((((((EnvLe.nil _).cons rfl).cons rfl).cons rfl).cons rfl).cons rfl) (HLe.refl _)
      | exact joinQ_n (2 * i + 1, T1, x1) ⟨hI, by simp only; omega, hlt, by simp only [par]; omega, hx1, fun c u h0 hc hp hu => by
          have : c = 2 * i + 1 := by simp only [par] at hp; simp at g6_3; omega
          subst this
          rw [hx1] at hu; cases hu; exact so.irr _⟩ ((((((EnvLe.nil _).cons rfl).cons rfl).cons rfl).cons rfl).cons rfl) (HLe.refl _)
  refine .skip ?_
  · first
      | exact joinQ_n (2 * i + 2, T2, x2) ⟨hI2, by simp only; omega, hlt2, by simp only [par]; omega, hx2, fun c u h0 hc hp hu => by
          have : c = 2 * i + 1 ∨ c = 2 * i + 2 := by simp only [par] at hp; omega
          rcases this with rfl | rfl
          · rw [hx1] at hu; cases hu; exact so.asym (by simpa using h2)
          · rw [hx2] at hu; cases hu; exact so.irr _⟩ ((((((EnvLe.nil _).cons rfl).cons rfl).cons rfl).cons rfl).cons rfl) (HLe.refl _)
      | exact joinQ_n (2 * i + 1, T2, x1) ⟨hI2, by simp only; omega, hlt, by simp only [par]; omega, hx1, fun c u h0 hc hp hu => by
          have : c = 2 * i + 1 ∨ c = 2 * i + 2 := by simp only [par] at hp; omega
          rcases this with rfl | rfl
          · rw [hx1] at hu; cases hu; exact so.irr _
          · rw [hx2] at hu; cases hu; simpa using h2⟩ ((((((EnvLe.nil _).cons rfl).cons rfl).cons rfl).cons rfl).cons rfl) (HLe.refl _)
      | exact joinQ_n (2 * i + 1, T1, x1) ⟨hI, by simp only; omega, hlt, by simp only [par]; omega, hx1, fun c u h0 hc hp hu => by
          have : c = 2 * i + 1 := by simp only [par] at hp; simp at g6_3; omega
          subst this
          rw [hx1] at hu; cases hu; exact so.irr _⟩ ((((((EnvLe.nil _).cons rfl).cons rfl).cons rfl).cons rfl).cons rfl) (HLe.refl _)
  refine TriOps.gF g6_3 ?_
  refine TriOps.gF g6_3 ?_
  refine TriOps.gF g6_3 ?_
  refine TriOps.gF g6_3 ?_
  refine .q (.pickFh g6_3) ?_
  refine .nil (seqQ_n ?_)
  refine .condF ?_
  refine .skip ?_
  · first
      | exact joinQ_n (2 * i + 2, T2, x2) ⟨hI2, by simp only; omega, hlt2, by simp only [par]; omega, hx2, fun c u h0 hc hp hu => by
          have : c = 2 * i + 1 ∨ c = 2 * i + 2 := by simp only [par] at hp; omega
          rcases this with rfl | rfl
          · rw [hx1] at hu; cases hu; exact so.asym (by simpa using h2)
          · rw [hx2] at hu; cases hu; exact so.irr _⟩ ((((((EnvLe.nil _).cons rfl).cons rfl).cons rfl).cons rfl).cons rfl) (HLe.refl _)
      | exact joinQ_n (2 * i + 1, T2, x1) ⟨hI2, by simp only; omega, hlt, by simp only [par]; omega, hx1, fun c u h0 hc hp hu => by
          have : c = 2 * i + 1 ∨ c = 2 * i + 2 := by simp only [par] at hp; omega
          rcases this with rfl | rfl
          · rw [hx1] at hu; cases hu; exact so.irr _
          · rw [hx2] at hu; cases hu; simpa using h2⟩ ((((((EnvLe.nil _).cons rfl).cons rfl).cons rfl).cons rfl).cons rfl) (HLe.refl _)
      | exact joinQ_n (2 * i + 1, T1, x1) ⟨hI, by simp only; omega, hlt, by simp only [par]; omega, hx1, fun c u h0 hc hp hu => by
          have : c = 2 * i + 1 := by simp only [par] at hp; simp at g6_3; omega
          subst this
          rw [hx1] at hu; cases hu; exact so.irr _⟩ ((((((EnvLe.nil _).cons rfl).cons rfl).cons rfl).cons rfl).cons rfl) (HLe.refl _)
  intro y hy
  obtain ⟨j, T3, x⟩ := y
  obtain ⟨hI3, hj0, hjn, hjp, hx, hmin⟩ := hy
  simp only at hI3 hj0 hjn hjp hx hmin ⊢
  have hij : i < j := hjp ▸ par_lt hj0
  refine seqQ_n ?_
  refine .seq ?_
  refine .seq (.region ?_)
  refine .q .move ?_
  refine .q .move ?_
  refine .q .move ?_
  refine TriOps.callI (hi.less L1 T3 j i x y0 hI3 hx hy0) (fun u T4 hu => ?_)
  obtain ⟨rfl, hI4⟩ := hu
  refine .q .not ?_
  refine .nil (seqQ_n ?_)
  refine .cond rfl (fun h3 => ?_) (fun h3 => ?_)
  refine .exit (seqQ_x (blkQ_y (loopQ_x (blkQ_x ?_))))
  refine seqQ_n ?_
  refine .seq (.region ?_)
  refine .q .move ?_
  refine .q .move ?_
  refine .q .gtr ?_
  refine .q .assign ?_
  refine .nil (seqQ_n ?_)
  refine .ret (retQ_r _ (.one (.tmp rfl)) (HLe.refl _) ?_)
  · refine ⟨_, rfl, L1, decide (i0 < i), by assumption, by simp, hP, hS, fun hu => ?_⟩
    have hup : Up lt L1 n i := (hU hu).1.stop fun c h0 hc hp a b ha hb => by
      first
        | (simp only [par] at hp; omega)
        | (rw [hy0] at ha; cases ha; exact so.ntr _ _ _ (hmin c b h0 hc hp hb) (by simpa using h3))
    refine ⟨fun hm => ?_, fun hm => ?_⟩
    · have hm' : i ≠ i0 := by simp at hm; omega
      exact hup.stop ((hU hu).2 hm')
    · have hm' : i = i0 := by simp at hm; omega
      rw [← hm']; exact hup
  refine .skip ?_
  refine seqQ_n ?_
  refine .seq (.region ?_)
  refine .q .move ?_
  refine .q .move ?_
  refine .q .move ?_
  refine TriOps.callI (hi.swap L1 T4 i j hI4 (by omega) (by omega)) (fun u T5 hI5 => ?_)
  refine .nil (seqQ_n ?_)
  refine .region ?_
  refine .q .move ?_
  refine .q .assign ?_
  refine .nil ?_
  refine blkQ_n ?_
  · have hl3 : lt x y0 = true := by simpa using h3
    exact loopQ_i (j, swp L1 i j, T5) ⟨hI5, by simp only; omega, by simp only; omega, swp_perm.trans hP, fun k hk => by
      rw [swp_get (by omega) (by omega), if_neg (by omega), if_neg (by omega)]; exact hS k hk, fun hu => by
        have := (hU hu).1.step so hj0 hjn (by omega) hjp hx hy0 hl3 hmin
        exact ⟨this.1, fun _ => this.2⟩⟩ (by simp only; omega) (((((EnvLe.nil _).cons rfl).cons rfl).cons rfl).cons rfl) (HLe.refl _)
theorem fix_spec (hi : HI Tryz.prog R t v lt I) (so : SO lt) (L : List α) (T : Seg) (h : I L T) (i : Nat) (hil : i < L.length) (hh : Hole lt L L.length i) :
    Spec Tryz.prog 169 [.iface t v, .int .i64 i] R [T] fun u H' => ∃ T', H' = [T'] ∧ u = .tuple #[] ∧ ∃ L', I L' T' ∧ L'.Perm L ∧ Heap lt L' L'.length := by
  refine Spec.body Tryz.func169 rfl Tryz.results169 Tryz.ntmps169 rfl ?_
  refine .seq (.region ?_)
  refine .q .move ?_
  refine .q .move ?_
  refine .q .move ?_
  refine TriOps.callI (hi.len L T h) (fun u T1 hu => ?_)
  obtain ⟨rfl, h1⟩ := hu
  refine TriOps.callM (down_spec hi so L T1 h1 i L.length (by omega) (Nat.le_refl _)) (fun u T2 hu => ?_)
  obtain ⟨L2, m, h2, rfl, hp2, hs2, hh2⟩ := hu
  have hl2 := hp2.length_eq
  refine .q .not ?_
  refine .nil (seqQ_n ?_)
  refine .cond rfl (fun h1 => ?_) (fun h1 => ?_)
  have hm : m = false := by simpa using h1
  refine .region ?_
  refine .q .move ?_
  refine .q .move ?_
  refine TriOps.callM (up_spec hi so L2 T2 h2 i (by omega)) (fun u T3 hu => ?_)
  obtain ⟨rfl, L3, h3, hp3, hs3, hh3⟩ := hu
  have hl3 := hp3.length_eq
  refine .nil ?_
  refine retQ_n _ .none (HLe.refl _) ?_
  · exact ⟨_, rfl, rfl, L3, h3, hp3.trans hp2, by rw [hl3, hl2]; exact hh3 _ (by omega) hil ((hh2 hh).2 hm)⟩
  have hm : m = true := by simpa using h1
  refine .skip ?_
  refine retQ_n _ .none (HLe.refl _) ?_
  · exact ⟨_, rfl, rfl, L2, h2, hp2, by rw [hl2]; exact (hh2 hh).1 hm⟩
theorem push_spec (hi : HI Tryz.prog R t v lt I) (so : SO lt) (L : List α) (T : Seg) (x : Value) (a : α) (hp : ISpec Tryz.prog t v "Push" [x] R T fun _ T' => I (L ++ [a]) T') (hh : Heap lt L L.length) :
    Spec Tryz.prog 170 [.iface t v, x] R [T] fun u H' => ∃ T', H' = [T'] ∧ u = .tuple #[] ∧ ∃ L', I L' T' ∧ L'.Perm (L ++ [a]) ∧ Heap lt L' L'.length := by
  refine Spec.body Tryz.func170 rfl Tryz.results170 Tryz.ntmps170 rfl ?_
  refine .seq (.region ?_)
  refine .q .move ?_
  refine .q .move ?_
  refine TriOps.callI hp (fun u T1 h1 => ?_)
  have hb := hi.bnd _ T1 h1
  simp only [List.length_append, List.length_singleton] at hb
  refine .nil (seqQ_n ?_)
  refine .region ?_
  refine .q .move ?_
  refine .q .move ?_
  refine TriOps.callI (hi.len _ T1 h1) (fun u T2 hu => ?_)
  obtain ⟨rfl, h2⟩ := hu
  refine .q (.i64 ((L.length : Nat) : Int) .sub ⟨by simp, by omega, by omega⟩) ?_
  refine TriOps.callM (up_spec hi so _ T2 h2 L.length (by simp)) (fun u T3 hu => ?_)
  obtain ⟨rfl, L3, h3, hp3, hs3, hh3⟩ := hu
  have hl3 := hp3.length_eq
  refine .nil ?_
  refine retQ_n _ .none (HLe.refl _) ?_
  · exact ⟨_, rfl, rfl, L3, h3, hp3, by rw [hl3]; exact hh3 _ (Nat.le_refl _) (by simp) (by simp; exact hh.push a)⟩
end
end Go.Proofs.YtpmhgpjcladbkaaGreatDoor

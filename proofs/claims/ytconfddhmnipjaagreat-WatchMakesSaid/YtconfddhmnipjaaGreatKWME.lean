/- What the law 'WM' uses of this prover's engine, facts and walks. No condition. -/
import Derived.Test.YtconfddhmnipjaaGreatChecked
import Derived.Test.YtconfddhmnipjaaGreatKWMB
set_option linter.unusedVariables false
namespace Go.Proofs.YtconfddhmnipjaaGreat
theorem fU3 : Und Tryz.prog 3 (.int .i64) := ⟨Tryz.underlying3⟩
theorem fA3 : Agg Tryz.prog 3 false := ⟨Tryz.isAgg3⟩
theorem fS3 : Sz Tryz.prog 3 1 := ⟨Tryz.sizeOf3⟩
theorem fZ3 : Zr Tryz.prog 3 (.int .i64 0) := ⟨Tryz.zeroValue3⟩
theorem fU4 : Und Tryz.prog 4 (.bool) := ⟨Tryz.underlying4⟩
theorem fA4 : Agg Tryz.prog 4 false := ⟨Tryz.isAgg4⟩
theorem fZ4 : Zr Tryz.prog 4 (.bool false) := ⟨Tryz.zeroValue4⟩
theorem fU9 : Und Tryz.prog 9 (.string) := ⟨Tryz.underlying9⟩
theorem fA9 : Agg Tryz.prog 9 false := ⟨Tryz.isAgg9⟩
theorem fS9 : Sz Tryz.prog 9 1 := ⟨Tryz.sizeOf9⟩
theorem fZ9 : Zr Tryz.prog 9 (.string { data := #[] }) := ⟨Tryz.zeroValue9⟩
theorem fU22 : Und Tryz.prog 22 (.slice 51) := ⟨Tryz.underlying22⟩
theorem fU23 : Und Tryz.prog 23 (.int .u64) := ⟨Tryz.underlying23⟩
theorem fA23 : Agg Tryz.prog 23 false := ⟨Tryz.isAgg23⟩
theorem fS23 : Sz Tryz.prog 23 1 := ⟨Tryz.sizeOf23⟩
theorem fZ23 : Zr Tryz.prog 23 (.int .u64 0) := ⟨Tryz.zeroValue23⟩
theorem fU24 : Und Tryz.prog 24 (.pointer 62) := ⟨Tryz.underlying24⟩
theorem fA24 : Agg Tryz.prog 24 false := ⟨Tryz.isAgg24⟩
theorem fU28 : Und Tryz.prog 28 (.slice 70) := ⟨Tryz.underlying28⟩
theorem fA28 : Agg Tryz.prog 28 false := ⟨Tryz.isAgg28⟩
theorem fS28 : Sz Tryz.prog 28 1 := ⟨Tryz.sizeOf28⟩
theorem fA33 : Agg Tryz.prog 33 true := ⟨Tryz.isAgg33⟩
theorem fS33 : Sz Tryz.prog 33 2 := ⟨Tryz.sizeOf33⟩
theorem fF33_0 : Fld Tryz.prog 33 0 0 := Fld.of Tryz.underlying33 rfl Tryz.sizeOf9 rfl rfl
theorem fF33_1 : Fld Tryz.prog 33 1 1 := Fld.of Tryz.underlying33 rfl Tryz.sizeOf9 rfl rfl
theorem fL33 : Bld Tryz.prog 33 [(0, 1), (1, 1)] [.string { data := #[] }, .string { data := #[] }] := ⟨_, Tryz.underlying33, Tryz.zeroValue33, fun w => by simp [Tryz.sizeOf9]⟩
theorem fA35 : Agg Tryz.prog 35 true := ⟨Tryz.isAgg35⟩
theorem fS35 : Sz Tryz.prog 35 7 := ⟨Tryz.sizeOf35⟩
theorem fF35_0 : Fld Tryz.prog 35 0 0 := Fld.of Tryz.underlying35 rfl Tryz.sizeOf9 rfl rfl
theorem fF35_1 : Fld Tryz.prog 35 1 1 := Fld.of Tryz.underlying35 rfl Tryz.sizeOf9 rfl rfl
theorem fF35_2 : Fld Tryz.prog 35 2 2 := Fld.of Tryz.underlying35 rfl Tryz.sizeOf9 rfl rfl
theorem fF35_3 : Fld Tryz.prog 35 3 3 := Fld.of Tryz.underlying35 rfl Tryz.sizeOf9 rfl rfl
theorem fF35_4 : Fld Tryz.prog 35 4 4 := Fld.of Tryz.underlying35 rfl Tryz.sizeOf33 rfl rfl
theorem fF35_5 : Fld Tryz.prog 35 5 6 := Fld.of Tryz.underlying35 rfl Tryz.sizeOf9 rfl rfl
theorem fL35 : Bld Tryz.prog 35 [(0, 1), (1, 1), (2, 1), (3, 1), (4, 2), (6, 1)] [.string { data := #[] }, .string { data := #[] }, .string { data := #[] }, .string { data := #[] }, .string { data := #[] }, .string { data := #[] }, .string { data := #[] }] := ⟨_, Tryz.underlying35, Tryz.zeroValue35, fun w => by simp [Tryz.sizeOf33, Tryz.sizeOf9]⟩
theorem fU36 : Und Tryz.prog 36 (.slice 81) := ⟨Tryz.underlying36⟩
theorem fU45 : Und Tryz.prog 45 (.slice 95) := ⟨Tryz.underlying45⟩
theorem fA45 : Agg Tryz.prog 45 false := ⟨Tryz.isAgg45⟩
theorem fS45 : Sz Tryz.prog 45 1 := ⟨Tryz.sizeOf45⟩
theorem fF47_0 : Fld Tryz.prog 47 0 0 := Fld.of Tryz.underlying47 rfl Tryz.sizeOf45 rfl rfl
theorem fF47_1 : Fld Tryz.prog 47 1 1 := Fld.of Tryz.underlying47 rfl Tryz.sizeOf23 rfl rfl
theorem fF47_2 : Fld Tryz.prog 47 2 2 := Fld.of Tryz.underlying47 rfl Tryz.sizeOf23 rfl rfl
theorem fL47 : Bld Tryz.prog 47 [(0, 1), (1, 1), (2, 1)] [.slice none 0 0, .int .u64 0, .int .u64 0] := ⟨_, Tryz.underlying47, Tryz.zeroValue47, fun w => by simp [Tryz.sizeOf23, Tryz.sizeOf45]⟩
theorem fU49 : Und Tryz.prog 49 (.slice 79) := ⟨Tryz.underlying49⟩
theorem fA49 : Agg Tryz.prog 49 false := ⟨Tryz.isAgg49⟩
theorem fS49 : Sz Tryz.prog 49 1 := ⟨Tryz.sizeOf49⟩
theorem fA51 : Agg Tryz.prog 51 true := ⟨Tryz.isAgg51⟩
theorem fS51 : Sz Tryz.prog 51 12 := ⟨Tryz.sizeOf51⟩
theorem fB51 : By Tryz.prog 51 200 := ⟨fun w => ⟨_, Tryz.typeInfo51 w, rfl⟩⟩
theorem fZ51 : Zr Tryz.prog 51 (.agg [.int .i64 0, .slice none 0 0, .slice none 0 0, .slice none 0 0, .string { data := #[] }, .string { data := #[] }, .string { data := #[] }, .string { data := #[] }, .string { data := #[] }, .string { data := #[] }, .string { data := #[] }, .int .u64 0].toArray) := ⟨Tryz.zeroValue51⟩
theorem fF51_0 : Fld Tryz.prog 51 0 0 := Fld.of Tryz.underlying51 rfl Tryz.sizeOf3 rfl rfl
theorem fF51_1 : Fld Tryz.prog 51 1 1 := Fld.of Tryz.underlying51 rfl Tryz.sizeOf28 rfl rfl
theorem fF51_2 : Fld Tryz.prog 51 2 2 := Fld.of Tryz.underlying51 rfl Tryz.sizeOf28 rfl rfl
theorem fF51_3 : Fld Tryz.prog 51 3 3 := Fld.of Tryz.underlying51 rfl Tryz.sizeOf49 rfl rfl
theorem fF51_5 : Fld Tryz.prog 51 5 11 := Fld.of Tryz.underlying51 rfl Tryz.sizeOf23 rfl rfl
theorem fU59 : Und Tryz.prog 59 (.map 64 65) := ⟨Tryz.underlying59⟩
theorem fA59 : Agg Tryz.prog 59 false := ⟨Tryz.isAgg59⟩
theorem fU60 : Und Tryz.prog 60 (.map 68 65) := ⟨Tryz.underlying60⟩
theorem fA60 : Agg Tryz.prog 60 false := ⟨Tryz.isAgg60⟩
theorem fF62_0 : Fld Tryz.prog 62 0 0 := Fld.of Tryz.underlying62 rfl Tryz.sizeOf4 rfl rfl
theorem fF62_1 : Fld Tryz.prog 62 1 1 := Fld.of Tryz.underlying62 rfl Tryz.sizeOf23 rfl rfl
theorem fF62_2 : Fld Tryz.prog 62 2 2 := Fld.of Tryz.underlying62 rfl Tryz.sizeOf23 rfl rfl
theorem fF62_3 : Fld Tryz.prog 62 3 3 := Fld.of Tryz.underlying62 rfl Tryz.sizeOf3 rfl rfl
theorem fF62_4 : Fld Tryz.prog 62 4 4 := Fld.of Tryz.underlying62 rfl Tryz.sizeOf59 rfl rfl
theorem fF62_5 : Fld Tryz.prog 62 5 5 := Fld.of Tryz.underlying62 rfl Tryz.sizeOf60 rfl rfl
theorem fL62 : Bld Tryz.prog 62 [(0, 1), (1, 1), (2, 1), (3, 1), (4, 1), (5, 1)] [.bool false, .int .u64 0, .int .u64 0, .int .i64 0, .map none, .map none] := ⟨_, Tryz.underlying62, Tryz.zeroValue62, fun w => by simp [Tryz.sizeOf23, Tryz.sizeOf3, Tryz.sizeOf4, Tryz.sizeOf59, Tryz.sizeOf60]⟩
theorem fA64 : Agg Tryz.prog 64 true := ⟨Tryz.isAgg64⟩
theorem fS64 : Sz Tryz.prog 64 3 := ⟨Tryz.sizeOf64⟩
theorem fZ64 : Zr Tryz.prog 64 (.agg [.string { data := #[] }, .string { data := #[] }, .string { data := #[] }].toArray) := ⟨Tryz.zeroValue64⟩
theorem fL64 : Bld Tryz.prog 64 [(0, 2), (2, 1)] [.string { data := #[] }, .string { data := #[] }, .string { data := #[] }] := ⟨_, Tryz.underlying64, Tryz.zeroValue64, fun w => by simp [Tryz.sizeOf33, Tryz.sizeOf9]⟩
theorem fU65 : Und Tryz.prog 65 (.slice 91) := ⟨Tryz.underlying65⟩
theorem fZ65 : Zr Tryz.prog 65 (.slice none 0 0) := ⟨Tryz.zeroValue65⟩
theorem fA68 : Agg Tryz.prog 68 true := ⟨Tryz.isAgg68⟩
theorem fS68 : Sz Tryz.prog 68 4 := ⟨Tryz.sizeOf68⟩
theorem fZ68 : Zr Tryz.prog 68 (.agg [.string { data := #[] }, .string { data := #[] }, .string { data := #[] }, .string { data := #[] }].toArray) := ⟨Tryz.zeroValue68⟩
theorem fF68_0 : Fld Tryz.prog 68 0 0 := Fld.of Tryz.underlying68 rfl Tryz.sizeOf9 rfl rfl
theorem fF68_1 : Fld Tryz.prog 68 1 1 := Fld.of Tryz.underlying68 rfl Tryz.sizeOf33 rfl rfl
theorem fF68_2 : Fld Tryz.prog 68 2 3 := Fld.of Tryz.underlying68 rfl Tryz.sizeOf9 rfl rfl
theorem fL68 : Bld Tryz.prog 68 [(0, 1), (1, 2), (3, 1)] [.string { data := #[] }, .string { data := #[] }, .string { data := #[] }, .string { data := #[] }] := ⟨_, Tryz.underlying68, Tryz.zeroValue68, fun w => by simp [Tryz.sizeOf33, Tryz.sizeOf9]⟩
theorem fA70 : Agg Tryz.prog 70 true := ⟨Tryz.isAgg70⟩
theorem fS70 : Sz Tryz.prog 70 7 := ⟨Tryz.sizeOf70⟩
theorem fB70 : By Tryz.prog 70 112 := ⟨fun w => ⟨_, Tryz.typeInfo70 w, rfl⟩⟩
theorem fZ70 : Zr Tryz.prog 70 (.agg [.string { data := #[] }, .string { data := #[] }, .string { data := #[] }, .string { data := #[] }, .string { data := #[] }, .string { data := #[] }, .string { data := #[] }].toArray) := ⟨Tryz.zeroValue70⟩
theorem fF70_0 : Fld Tryz.prog 70 0 0 := Fld.of Tryz.underlying70 rfl Tryz.sizeOf33 rfl rfl
theorem fF70_1 : Fld Tryz.prog 70 1 2 := Fld.of Tryz.underlying70 rfl Tryz.sizeOf9 rfl rfl
theorem fF70_2 : Fld Tryz.prog 70 2 3 := Fld.of Tryz.underlying70 rfl Tryz.sizeOf68 rfl rfl
theorem fL70 : Bld Tryz.prog 70 [(0, 2), (2, 1), (3, 4)] [.string { data := #[] }, .string { data := #[] }, .string { data := #[] }, .string { data := #[] }, .string { data := #[] }, .string { data := #[] }, .string { data := #[] }] := ⟨_, Tryz.underlying70, Tryz.zeroValue70, fun w => by simp [Tryz.sizeOf33, Tryz.sizeOf68, Tryz.sizeOf9]⟩
theorem fU74 : Und Tryz.prog 74 (.slice 77) := ⟨Tryz.underlying74⟩
theorem fA77 : Agg Tryz.prog 77 true := ⟨Tryz.isAgg77⟩
theorem fS77 : Sz Tryz.prog 77 9 := ⟨Tryz.sizeOf77⟩
theorem fB77 : By Tryz.prog 77 128 := ⟨fun w => ⟨_, Tryz.typeInfo77 w, rfl⟩⟩
theorem fZ77 : Zr Tryz.prog 77 (.agg [.string { data := #[] }, .string { data := #[] }, .string { data := #[] }, .string { data := #[] }, .string { data := #[] }, .string { data := #[] }, .string { data := #[] }, .int .u64 0, .int .u64 0].toArray) := ⟨Tryz.zeroValue77⟩
theorem fF77_0 : Fld Tryz.prog 77 0 0 := Fld.of Tryz.underlying77 rfl Tryz.sizeOf70 rfl rfl
theorem fF77_1 : Fld Tryz.prog 77 1 7 := Fld.of Tryz.underlying77 rfl Tryz.sizeOf23 rfl rfl
theorem fF77_2 : Fld Tryz.prog 77 2 8 := Fld.of Tryz.underlying77 rfl Tryz.sizeOf23 rfl rfl
theorem fL77 : Bld Tryz.prog 77 [(0, 7), (7, 1), (8, 1)] [.string { data := #[] }, .string { data := #[] }, .string { data := #[] }, .string { data := #[] }, .string { data := #[] }, .string { data := #[] }, .string { data := #[] }, .int .u64 0, .int .u64 0] := ⟨_, Tryz.underlying77, Tryz.zeroValue77, fun w => by simp [Tryz.sizeOf23, Tryz.sizeOf70]⟩
theorem fA79 : Agg Tryz.prog 79 true := ⟨Tryz.isAgg79⟩
theorem fS79 : Sz Tryz.prog 79 8 := ⟨Tryz.sizeOf79⟩
theorem fZ79 : Zr Tryz.prog 79 (.agg [.bool false, .string { data := #[] }, .string { data := #[] }, .string { data := #[] }, .string { data := #[] }, .string { data := #[] }, .string { data := #[] }, .string { data := #[] }].toArray) := ⟨Tryz.zeroValue79⟩
theorem fF79_0 : Fld Tryz.prog 79 0 0 := Fld.of Tryz.underlying79 rfl Tryz.sizeOf4 rfl rfl
theorem fF79_1 : Fld Tryz.prog 79 1 1 := Fld.of Tryz.underlying79 rfl Tryz.sizeOf70 rfl rfl
theorem fL79 : Bld Tryz.prog 79 [(0, 1), (1, 7)] [.bool false, .string { data := #[] }, .string { data := #[] }, .string { data := #[] }, .string { data := #[] }, .string { data := #[] }, .string { data := #[] }, .string { data := #[] }] := ⟨_, Tryz.underlying79, Tryz.zeroValue79, fun w => by simp [Tryz.sizeOf4, Tryz.sizeOf70]⟩
theorem fA81 : Agg Tryz.prog 81 true := ⟨Tryz.isAgg81⟩
theorem fS81 : Sz Tryz.prog 81 9 := ⟨Tryz.sizeOf81⟩
theorem fB81 : By Tryz.prog 81 128 := ⟨fun w => ⟨_, Tryz.typeInfo81 w, rfl⟩⟩
theorem fZ81 : Zr Tryz.prog 81 (.agg [.int .u64 0, .bool false, .string { data := #[] }, .string { data := #[] }, .string { data := #[] }, .string { data := #[] }, .string { data := #[] }, .string { data := #[] }, .string { data := #[] }].toArray) := ⟨Tryz.zeroValue81⟩
theorem fF81_0 : Fld Tryz.prog 81 0 0 := Fld.of Tryz.underlying81 rfl Tryz.sizeOf23 rfl rfl
theorem fF81_1 : Fld Tryz.prog 81 1 1 := Fld.of Tryz.underlying81 rfl Tryz.sizeOf79 rfl rfl
theorem fL81 : Bld Tryz.prog 81 [(0, 1), (1, 8)] [.int .u64 0, .bool false, .string { data := #[] }, .string { data := #[] }, .string { data := #[] }, .string { data := #[] }, .string { data := #[] }, .string { data := #[] }, .string { data := #[] }] := ⟨_, Tryz.underlying81, Tryz.zeroValue81, fun w => by simp [Tryz.sizeOf23, Tryz.sizeOf79]⟩
theorem fU91 : Und Tryz.prog 91 (.pointer 77) := ⟨Tryz.underlying91⟩
theorem fA91 : Agg Tryz.prog 91 false := ⟨Tryz.isAgg91⟩
theorem fS91 : Sz Tryz.prog 91 1 := ⟨Tryz.sizeOf91⟩
theorem fB91 : By Tryz.prog 91 8 := ⟨fun w => ⟨_, Tryz.typeInfo91 w, rfl⟩⟩
theorem fZ91 : Zr Tryz.prog 91 (.pointer none) := ⟨Tryz.zeroValue91⟩
theorem fA95 : Agg Tryz.prog 95 true := ⟨Tryz.isAgg95⟩
theorem fS95 : Sz Tryz.prog 95 9 := ⟨Tryz.sizeOf95⟩
theorem fB95 : By Tryz.prog 95 128 := ⟨fun w => ⟨_, Tryz.typeInfo95 w, rfl⟩⟩
theorem fZ95 : Zr Tryz.prog 95 (.agg [.string { data := #[] }, .string { data := #[] }, .string { data := #[] }, .string { data := #[] }, .string { data := #[] }, .string { data := #[] }, .string { data := #[] }, .int .u64 0, .int .u64 0].toArray) := ⟨Tryz.zeroValue95⟩
theorem fF95_0 : Fld Tryz.prog 95 0 0 := Fld.of Tryz.underlying95 rfl Tryz.sizeOf70 rfl rfl
theorem fF95_1 : Fld Tryz.prog 95 1 7 := Fld.of Tryz.underlying95 rfl Tryz.sizeOf23 rfl rfl
theorem fF95_2 : Fld Tryz.prog 95 2 8 := Fld.of Tryz.underlying95 rfl Tryz.sizeOf23 rfl rfl
theorem fL95 : Bld Tryz.prog 95 [(0, 7), (7, 1), (8, 1)] [.string { data := #[] }, .string { data := #[] }, .string { data := #[] }, .string { data := #[] }, .string { data := #[] }, .string { data := #[] }, .string { data := #[] }, .int .u64 0, .int .u64 0] := ⟨_, Tryz.underlying95, Tryz.zeroValue95, fun w => by simp [Tryz.sizeOf23, Tryz.sizeOf70]⟩
theorem fU101 : Und Tryz.prog 101 (.int .u64) := ⟨Tryz.underlying101⟩
theorem fA110 : Agg Tryz.prog 110 false := ⟨Tryz.isAgg110⟩
theorem fS110 : Sz Tryz.prog 110 1 := ⟨Tryz.sizeOf110⟩
theorem fZ110 : Zr Tryz.prog 110 (.nilFunc) := ⟨Tryz.zeroValue110⟩
theorem fU111 : Und Tryz.prog 111 (.map 70 4) := ⟨Tryz.underlying111⟩
theorem fU134 : Und Tryz.prog 134 (.slice 3) := ⟨Tryz.underlying134⟩
theorem fU142 : Und Tryz.prog 142 (.int .u64) := ⟨Tryz.underlying142⟩
theorem fA142 : Agg Tryz.prog 142 false := ⟨Tryz.isAgg142⟩
theorem fS142 : Sz Tryz.prog 142 1 := ⟨Tryz.sizeOf142⟩
theorem fZ142 : Zr Tryz.prog 142 (.int .u64 0) := ⟨Tryz.zeroValue142⟩
theorem fU161 : Und Tryz.prog 161 (.slice 9) := ⟨Tryz.underlying161⟩
theorem fQ9 : EqT Tryz.prog 9 1 [.s] false := EqT.str fU9 fA9
theorem fQ33 : EqT Tryz.prog 33 2 [.s, .s] true := EqT.struct (n := 1) Tryz.underlying33 Tryz.stoodInHeld33 fA33 fS33 (EqFs.more fQ9 (EqFs.more fQ9 EqFs.nil))
theorem fQ64 : EqT Tryz.prog 64 3 [.s, .s, .s] true := EqT.struct (n := 2) Tryz.underlying64 Tryz.stoodInHeld64 fA64 fS64 (EqFs.more fQ33 (EqFs.more fQ9 EqFs.nil))
theorem fQ68 : EqT Tryz.prog 68 3 [.s, .s, .s, .s] true := EqT.struct (n := 2) Tryz.underlying68 Tryz.stoodInHeld68 fA68 fS68 (EqFs.more fQ9 (EqFs.more fQ33 (EqFs.more fQ9 EqFs.nil)))
theorem fG68 : EqG Tryz.prog 68 := ⟨Tryz.eqGuardType68⟩
theorem fQ70 : EqT Tryz.prog 70 4 [.s, .s, .s, .s, .s, .s, .s] true := EqT.struct (n := 3) Tryz.underlying70 Tryz.stoodInHeld70 fA70 fS70 (EqFs.more fQ33 (EqFs.more fQ9 (EqFs.more fQ68 EqFs.nil)))
theorem fG70 : EqG Tryz.prog 70 := ⟨Tryz.eqGuardType70⟩
theorem fE4 : Ent Tryz.prog 4 := ⟨Tryz.call4⟩
theorem fE5 : Ent Tryz.prog 5 := ⟨Tryz.call5⟩
theorem fE6 : Ent Tryz.prog 6 := ⟨Tryz.call6⟩
theorem fE7 : Ent Tryz.prog 7 := ⟨Tryz.call7⟩
theorem fE8 : Ent Tryz.prog 8 := ⟨Tryz.call8⟩
theorem fE9 : Ent Tryz.prog 9 := ⟨Tryz.call9⟩
theorem fE10 : Ent Tryz.prog 10 := ⟨Tryz.call10⟩
theorem fE11 : Ent Tryz.prog 11 := ⟨Tryz.call11⟩
theorem fE12 : Ent Tryz.prog 12 := ⟨Tryz.call12⟩
theorem fE13 : Ent Tryz.prog 13 := ⟨Tryz.call13⟩
theorem fE14 : Ent Tryz.prog 14 := ⟨Tryz.call14⟩
theorem fE15 : Ent Tryz.prog 15 := ⟨Tryz.call15⟩
theorem fE16 : Ent Tryz.prog 16 := ⟨Tryz.call16⟩
theorem fE17 : Ent Tryz.prog 17 := ⟨Tryz.call17⟩
theorem fE18 : Ent Tryz.prog 18 := ⟨Tryz.call18⟩
theorem fE19 : Ent Tryz.prog 19 := ⟨Tryz.call19⟩
theorem fE20 : Ent Tryz.prog 20 := ⟨Tryz.call20⟩
theorem fE21 : Ent Tryz.prog 21 := ⟨Tryz.call21⟩
theorem fE22 : Ent Tryz.prog 22 := ⟨Tryz.call22⟩
theorem fE23 : Ent Tryz.prog 23 := ⟨Tryz.call23⟩
theorem fE24 : Ent Tryz.prog 24 := ⟨Tryz.call24⟩
theorem fE25 : Ent Tryz.prog 25 := ⟨Tryz.call25⟩
theorem fE26 : Ent Tryz.prog 26 := ⟨Tryz.call26⟩
theorem fE27 : Ent Tryz.prog 27 := ⟨Tryz.call27⟩
theorem fE28 : Ent Tryz.prog 28 := ⟨Tryz.call28⟩
theorem fE29 : Ent Tryz.prog 29 := ⟨Tryz.call29⟩
theorem fE30 : Ent Tryz.prog 30 := ⟨Tryz.call30⟩
theorem fE31 : Ent Tryz.prog 31 := ⟨Tryz.call31⟩
theorem fE32 : Ent Tryz.prog 32 := ⟨Tryz.call32⟩
theorem fE33 : Ent Tryz.prog 33 := ⟨Tryz.call33⟩
theorem fE34 : Ent Tryz.prog 34 := ⟨Tryz.call34⟩
theorem fE35 : Ent Tryz.prog 35 := ⟨Tryz.call35⟩
theorem fE36 : Ent Tryz.prog 36 := ⟨Tryz.call36⟩
theorem fE37 : Ent Tryz.prog 37 := ⟨Tryz.call37⟩
theorem fE38 : Ent Tryz.prog 38 := ⟨Tryz.call38⟩
theorem fE39 : Ent Tryz.prog 39 := ⟨Tryz.call39⟩
theorem fE40 : Ent Tryz.prog 40 := ⟨Tryz.call40⟩
theorem fE41 : Ent Tryz.prog 41 := ⟨Tryz.call41⟩
theorem fE42 : Ent Tryz.prog 42 := ⟨Tryz.call42⟩
theorem fE43 : Ent Tryz.prog 43 := ⟨Tryz.call43⟩
theorem fE44 : Ent Tryz.prog 44 := ⟨Tryz.call44⟩
theorem fE45 : Ent Tryz.prog 45 := ⟨Tryz.call45⟩
theorem fE46 : Ent Tryz.prog 46 := ⟨Tryz.call46⟩
theorem fE47 : Ent Tryz.prog 47 := ⟨Tryz.call47⟩
theorem fE48 : Ent Tryz.prog 48 := ⟨Tryz.call48⟩
theorem fE49 : Ent Tryz.prog 49 := ⟨Tryz.call49⟩
theorem fE50 : Ent Tryz.prog 50 := ⟨Tryz.call50⟩
theorem fE51 : Ent Tryz.prog 51 := ⟨Tryz.call51⟩
theorem fE54 : Ent Tryz.prog 54 := ⟨Tryz.call54⟩
theorem fE55 : Ent Tryz.prog 55 := ⟨Tryz.call55⟩
theorem fE56 : Ent Tryz.prog 56 := ⟨Tryz.call56⟩
theorem fE57 : Ent Tryz.prog 57 := ⟨Tryz.call57⟩
theorem fE58 : Ent Tryz.prog 58 := ⟨Tryz.call58⟩
theorem fE59 : Ent Tryz.prog 59 := ⟨Tryz.call59⟩
theorem fE60 : Ent Tryz.prog 60 := ⟨Tryz.call60⟩
theorem fE61 : Ent Tryz.prog 61 := ⟨Tryz.call61⟩
theorem fE62 : Ent Tryz.prog 62 := ⟨Tryz.call62⟩
theorem fE63 : Ent Tryz.prog 63 := ⟨Tryz.call63⟩
theorem fE64 : Ent Tryz.prog 64 := ⟨Tryz.call64⟩
theorem fE65 : Ent Tryz.prog 65 := ⟨Tryz.call65⟩
theorem fE66 : Ent Tryz.prog 66 := ⟨Tryz.call66⟩
theorem fE67 : Ent Tryz.prog 67 := ⟨Tryz.call67⟩
theorem fE68 : Ent Tryz.prog 68 := ⟨Tryz.call68⟩
theorem fE69 : Ent Tryz.prog 69 := ⟨Tryz.call69⟩
theorem fE70 : Ent Tryz.prog 70 := ⟨Tryz.call70⟩
theorem fE71 : Ent Tryz.prog 71 := ⟨Tryz.call71⟩
theorem fE72 : Ent Tryz.prog 72 := ⟨Tryz.call72⟩
theorem fE73 : Ent Tryz.prog 73 := ⟨Tryz.call73⟩
theorem fE74 : Ent Tryz.prog 74 := ⟨Tryz.call74⟩
theorem fE77 : Ent Tryz.prog 77 := ⟨Tryz.call77⟩
theorem fE78 : Ent Tryz.prog 78 := ⟨Tryz.call78⟩
theorem fE79 : Ent Tryz.prog 79 := ⟨Tryz.call79⟩
theorem fE80 : Ent Tryz.prog 80 := ⟨Tryz.call80⟩
theorem fE81 : Ent Tryz.prog 81 := ⟨Tryz.call81⟩
theorem fE82 : Ent Tryz.prog 82 := ⟨Tryz.call82⟩
theorem fE83 : Ent Tryz.prog 83 := ⟨Tryz.call83⟩
theorem fE84 : Ent Tryz.prog 84 := ⟨Tryz.call84⟩
theorem fE85 : Ent Tryz.prog 85 := ⟨Tryz.call85⟩
theorem fE86 : Ent Tryz.prog 86 := ⟨Tryz.call86⟩
theorem fE87 : Ent Tryz.prog 87 := ⟨Tryz.call87⟩
theorem fE89 : Ent Tryz.prog 89 := ⟨Tryz.call89⟩
theorem fE90 : Ent Tryz.prog 90 := ⟨Tryz.call90⟩
theorem fE91 : Ent Tryz.prog 91 := ⟨Tryz.call91⟩
theorem fE92 : Ent Tryz.prog 92 := ⟨Tryz.call92⟩
theorem fE93 : Ent Tryz.prog 93 := ⟨Tryz.call93⟩
theorem fE94 : Ent Tryz.prog 94 := ⟨Tryz.call94⟩
theorem fE95 : Ent Tryz.prog 95 := ⟨Tryz.call95⟩
theorem fE96 : Ent Tryz.prog 96 := ⟨Tryz.call96⟩
theorem fE97 : Ent Tryz.prog 97 := ⟨Tryz.call97⟩
theorem fE98 : Ent Tryz.prog 98 := ⟨Tryz.call98⟩
theorem fE99 : Ent Tryz.prog 99 := ⟨Tryz.call99⟩
theorem fE100 : Ent Tryz.prog 100 := ⟨Tryz.call100⟩
theorem fE101 : Ent Tryz.prog 101 := ⟨Tryz.call101⟩
theorem fE102 : Ent Tryz.prog 102 := ⟨Tryz.call102⟩
theorem fE103 : Ent Tryz.prog 103 := ⟨Tryz.call103⟩
theorem fE104 : Ent Tryz.prog 104 := ⟨Tryz.call104⟩
theorem fE105 : Ent Tryz.prog 105 := ⟨Tryz.call105⟩
theorem fE106 : Ent Tryz.prog 106 := ⟨Tryz.call106⟩
theorem fE107 : Ent Tryz.prog 107 := ⟨Tryz.call107⟩
theorem fE108 : Ent Tryz.prog 108 := ⟨Tryz.call108⟩
theorem fE109 : Ent Tryz.prog 109 := ⟨Tryz.call109⟩
theorem fE110 : Ent Tryz.prog 110 := ⟨Tryz.call110⟩
theorem fE111 : Ent Tryz.prog 111 := ⟨Tryz.call111⟩
theorem fE112 : Ent Tryz.prog 112 := ⟨Tryz.call112⟩
theorem fE113 : Ent Tryz.prog 113 := ⟨Tryz.call113⟩
theorem fE114 : Ent Tryz.prog 114 := ⟨Tryz.call114⟩
theorem fE115 : Ent Tryz.prog 115 := ⟨Tryz.call115⟩
theorem fE117 : Ent Tryz.prog 117 := ⟨Tryz.call117⟩
theorem fE118 : Ent Tryz.prog 118 := ⟨Tryz.call118⟩
theorem fE119 : Ent Tryz.prog 119 := ⟨Tryz.call119⟩
theorem fE120 : Ent Tryz.prog 120 := ⟨Tryz.call120⟩
theorem fE121 : Ent Tryz.prog 121 := ⟨Tryz.call121⟩
theorem fE122 : Ent Tryz.prog 122 := ⟨Tryz.call122⟩
theorem fE123 : Ent Tryz.prog 123 := ⟨Tryz.call123⟩
theorem fE125 : Ent Tryz.prog 125 := ⟨Tryz.call125⟩
theorem fE126 : Ent Tryz.prog 126 := ⟨Tryz.call126⟩
theorem fE127 : Ent Tryz.prog 127 := ⟨Tryz.call127⟩
theorem fE128 : Ent Tryz.prog 128 := ⟨Tryz.call128⟩
theorem fE129 : Ent Tryz.prog 129 := ⟨Tryz.call129⟩
theorem fE130 : Ent Tryz.prog 130 := ⟨Tryz.call130⟩
theorem fE131 : Ent Tryz.prog 131 := ⟨Tryz.call131⟩
theorem fE132 : Ent Tryz.prog 132 := ⟨Tryz.call132⟩
theorem fE133 : Ent Tryz.prog 133 := ⟨Tryz.call133⟩
theorem fE134 : Ent Tryz.prog 134 := ⟨Tryz.call134⟩
theorem fE136 : Ent Tryz.prog 136 := ⟨Tryz.call136⟩
theorem fE137 : Ent Tryz.prog 137 := ⟨Tryz.call137⟩
attribute [instance] fU3 fA3 fS3 fZ3 fU4 fA4 fZ4 fU9 fA9 fS9 fZ9 fU22 fU23 fA23 fS23 fZ23 fU24 fA24 fU28 fA28 fS28 fA33 fS33 fF33_0 fF33_1 fL33 fA35 fS35 fF35_0 fF35_1 fF35_2 fF35_3 fF35_4 fF35_5 fL35 fU36 fU45 fA45 fS45 fF47_0 fF47_1 fF47_2 fL47 fU49 fA49 fS49 fA51 fS51 fB51 fZ51 fF51_0 fF51_1 fF51_2 fF51_3 fF51_5 fU59 fA59 fU60 fA60 fF62_0 fF62_1 fF62_2 fF62_3 fF62_4 fF62_5 fL62 fA64 fS64 fZ64 fL64 fU65 fZ65 fA68 fS68 fZ68 fF68_0 fF68_1 fF68_2 fL68 fA70 fS70 fB70 fZ70 fF70_0 fF70_1 fF70_2 fL70 fU74 fA77 fS77 fB77 fZ77 fF77_0 fF77_1 fF77_2 fL77 fA79 fS79 fZ79 fF79_0 fF79_1 fL79 fA81 fS81 fB81 fZ81 fF81_0 fF81_1 fL81 fU91 fA91 fS91 fB91 fZ91 fA95 fS95 fB95 fZ95 fF95_0 fF95_1 fF95_2 fL95 fU101 fA110 fS110 fZ110 fU111 fU134 fU142 fA142 fS142 fZ142 fU161 fQ9 fQ33 fQ64 fQ68 fG68 fQ70 fG70 fE4 fE5 fE6 fE7 fE8 fE9 fE10 fE11 fE12 fE13 fE14 fE15 fE16 fE17 fE18 fE19 fE20 fE21 fE22 fE23 fE24 fE25 fE26 fE27 fE28 fE29 fE30 fE31 fE32 fE33 fE34 fE35 fE36 fE37 fE38 fE39 fE40 fE41 fE42 fE43 fE44 fE45 fE46 fE47 fE48 fE49 fE50 fE51 fE54 fE55 fE56 fE57 fE58 fE59 fE60 fE61 fE62 fE63 fE64 fE65 fE66 fE67 fE68 fE69 fE70 fE71 fE72 fE73 fE74 fE77 fE78 fE79 fE80 fE81 fE82 fE83 fE84 fE85 fE86 fE87 fE89 fE90 fE91 fE92 fE93 fE94 fE95 fE96 fE97 fE98 fE99 fE100 fE101 fE102 fE103 fE104 fE105 fE106 fE107 fE108 fE109 fE110 fE111 fE112 fE113 fE114 fE115 fE117 fE118 fE119 fE120 fE121 fE122 fE123 fE125 fE126 fE127 fE128 fE129 fE130 fE131 fE132 fE133 fE134 fE136 fE137
theorem mixed : Tryz.prog.follows .mixedOrders = true := by kernel_rfl
end Go.Proofs.YtconfddhmnipjaaGreat

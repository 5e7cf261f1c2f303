/- What the law 'RP' uses of this prover's engine, facts and walks. No condition. -/
import Derived.Test.YtkepgbimlolemaaGreatChecked
import Derived.Test.YtkepgbimlolemaaGreatKRPB
set_option linter.unusedVariables false
namespace Go.Proofs.YtkepgbimlolemaaGreat
theorem fU3 : Und Tryz.prog 3 (.int .i64) := ⟨Tryz.underlying3⟩
theorem fA3 : Agg Tryz.prog 3 false := ⟨Tryz.isAgg3⟩
theorem fS3 : Sz Tryz.prog 3 1 := ⟨Tryz.sizeOf3⟩
theorem fZ3 : Zr Tryz.prog 3 (.int .i64 0) := ⟨Tryz.zeroValue3⟩
theorem fU4 : Und Tryz.prog 4 (.bool) := ⟨Tryz.underlying4⟩
theorem fA4 : Agg Tryz.prog 4 false := ⟨Tryz.isAgg4⟩
theorem fZ4 : Zr Tryz.prog 4 (.bool false) := ⟨Tryz.zeroValue4⟩
theorem fU9 : Und Tryz.prog 9 (.string) := ⟨Tryz.underlying9⟩
theorem fA9 : Agg Tryz.prog 9 false := ⟨Tryz.isAgg9⟩
theorem fS9 : Sz Tryz.prog 9 1 := ⟨Tryz.sizeOf9⟩
theorem fZ9 : Zr Tryz.prog 9 (.string { data := #[] }) := ⟨Tryz.zeroValue9⟩
theorem fU23 : Und Tryz.prog 23 (.int .u64) := ⟨Tryz.underlying23⟩
theorem fA23 : Agg Tryz.prog 23 false := ⟨Tryz.isAgg23⟩
theorem fS23 : Sz Tryz.prog 23 1 := ⟨Tryz.sizeOf23⟩
theorem fZ23 : Zr Tryz.prog 23 (.int .u64 0) := ⟨Tryz.zeroValue23⟩
theorem fU24 : Und Tryz.prog 24 (.slice 36) := ⟨Tryz.underlying24⟩
theorem fU25 : Und Tryz.prog 25 (.slice 73) := ⟨Tryz.underlying25⟩
theorem fA27 : Agg Tryz.prog 27 true := ⟨Tryz.isAgg27⟩
theorem fS27 : Sz Tryz.prog 27 2 := ⟨Tryz.sizeOf27⟩
theorem fF27_0 : Fld Tryz.prog 27 0 0 := Fld.of Tryz.underlying27 rfl Tryz.sizeOf9 rfl rfl
theorem fF27_1 : Fld Tryz.prog 27 1 1 := Fld.of Tryz.underlying27 rfl Tryz.sizeOf9 rfl rfl
theorem fL27 : Bld Tryz.prog 27 [(0, 1), (1, 1)] [.string { data := #[] }, .string { data := #[] }] := ⟨_, Tryz.underlying27, Tryz.zeroValue27, fun w => by simp [Tryz.sizeOf9]⟩
theorem fA29 : Agg Tryz.prog 29 true := ⟨Tryz.isAgg29⟩
theorem fS29 : Sz Tryz.prog 29 7 := ⟨Tryz.sizeOf29⟩
theorem fF29_0 : Fld Tryz.prog 29 0 0 := Fld.of Tryz.underlying29 rfl Tryz.sizeOf9 rfl rfl
theorem fF29_1 : Fld Tryz.prog 29 1 1 := Fld.of Tryz.underlying29 rfl Tryz.sizeOf9 rfl rfl
theorem fF29_2 : Fld Tryz.prog 29 2 2 := Fld.of Tryz.underlying29 rfl Tryz.sizeOf9 rfl rfl
theorem fF29_3 : Fld Tryz.prog 29 3 3 := Fld.of Tryz.underlying29 rfl Tryz.sizeOf9 rfl rfl
theorem fF29_4 : Fld Tryz.prog 29 4 4 := Fld.of Tryz.underlying29 rfl Tryz.sizeOf27 rfl rfl
theorem fF29_5 : Fld Tryz.prog 29 5 6 := Fld.of Tryz.underlying29 rfl Tryz.sizeOf9 rfl rfl
theorem fL29 : Bld Tryz.prog 29 [(0, 1), (1, 1), (2, 1), (3, 1), (4, 2), (6, 1)] [.string { data := #[] }, .string { data := #[] }, .string { data := #[] }, .string { data := #[] }, .string { data := #[] }, .string { data := #[] }, .string { data := #[] }] := ⟨_, Tryz.underlying29, Tryz.zeroValue29, fun w => by simp [Tryz.sizeOf27, Tryz.sizeOf9]⟩
theorem fU32 : Und Tryz.prog 32 (.slice 39) := ⟨Tryz.underlying32⟩
theorem fA34 : Agg Tryz.prog 34 true := ⟨Tryz.isAgg34⟩
theorem fS34 : Sz Tryz.prog 34 4 := ⟨Tryz.sizeOf34⟩
theorem fZ34 : Zr Tryz.prog 34 (.agg [.string { data := #[] }, .string { data := #[] }, .string { data := #[] }, .string { data := #[] }].toArray) := ⟨Tryz.zeroValue34⟩
theorem fF34_0 : Fld Tryz.prog 34 0 0 := Fld.of Tryz.underlying34 rfl Tryz.sizeOf9 rfl rfl
theorem fF34_1 : Fld Tryz.prog 34 1 1 := Fld.of Tryz.underlying34 rfl Tryz.sizeOf27 rfl rfl
theorem fF34_2 : Fld Tryz.prog 34 2 3 := Fld.of Tryz.underlying34 rfl Tryz.sizeOf9 rfl rfl
theorem fL34 : Bld Tryz.prog 34 [(0, 1), (1, 2), (3, 1)] [.string { data := #[] }, .string { data := #[] }, .string { data := #[] }, .string { data := #[] }] := ⟨_, Tryz.underlying34, Tryz.zeroValue34, fun w => by simp [Tryz.sizeOf27, Tryz.sizeOf9]⟩
theorem fA36 : Agg Tryz.prog 36 true := ⟨Tryz.isAgg36⟩
theorem fS36 : Sz Tryz.prog 36 7 := ⟨Tryz.sizeOf36⟩
theorem fB36 : By Tryz.prog 36 112 := ⟨fun w => ⟨_, Tryz.typeInfo36 w, rfl⟩⟩
theorem fZ36 : Zr Tryz.prog 36 (.agg [.string { data := #[] }, .string { data := #[] }, .string { data := #[] }, .string { data := #[] }, .string { data := #[] }, .string { data := #[] }, .string { data := #[] }].toArray) := ⟨Tryz.zeroValue36⟩
theorem fF36_0 : Fld Tryz.prog 36 0 0 := Fld.of Tryz.underlying36 rfl Tryz.sizeOf27 rfl rfl
theorem fF36_1 : Fld Tryz.prog 36 1 2 := Fld.of Tryz.underlying36 rfl Tryz.sizeOf9 rfl rfl
theorem fF36_2 : Fld Tryz.prog 36 2 3 := Fld.of Tryz.underlying36 rfl Tryz.sizeOf34 rfl rfl
theorem fL36 : Bld Tryz.prog 36 [(0, 2), (2, 1), (3, 4)] [.string { data := #[] }, .string { data := #[] }, .string { data := #[] }, .string { data := #[] }, .string { data := #[] }, .string { data := #[] }, .string { data := #[] }] := ⟨_, Tryz.underlying36, Tryz.zeroValue36, fun w => by simp [Tryz.sizeOf27, Tryz.sizeOf34, Tryz.sizeOf9]⟩
theorem fA39 : Agg Tryz.prog 39 true := ⟨Tryz.isAgg39⟩
theorem fS39 : Sz Tryz.prog 39 9 := ⟨Tryz.sizeOf39⟩
theorem fB39 : By Tryz.prog 39 128 := ⟨fun w => ⟨_, Tryz.typeInfo39 w, rfl⟩⟩
theorem fZ39 : Zr Tryz.prog 39 (.agg [.string { data := #[] }, .string { data := #[] }, .string { data := #[] }, .string { data := #[] }, .string { data := #[] }, .string { data := #[] }, .string { data := #[] }, .int .u64 0, .int .u64 0].toArray) := ⟨Tryz.zeroValue39⟩
theorem fF39_0 : Fld Tryz.prog 39 0 0 := Fld.of Tryz.underlying39 rfl Tryz.sizeOf36 rfl rfl
theorem fF39_1 : Fld Tryz.prog 39 1 7 := Fld.of Tryz.underlying39 rfl Tryz.sizeOf23 rfl rfl
theorem fF39_2 : Fld Tryz.prog 39 2 8 := Fld.of Tryz.underlying39 rfl Tryz.sizeOf23 rfl rfl
theorem fL39 : Bld Tryz.prog 39 [(0, 7), (7, 1), (8, 1)] [.string { data := #[] }, .string { data := #[] }, .string { data := #[] }, .string { data := #[] }, .string { data := #[] }, .string { data := #[] }, .string { data := #[] }, .int .u64 0, .int .u64 0] := ⟨_, Tryz.underlying39, Tryz.zeroValue39, fun w => by simp [Tryz.sizeOf23, Tryz.sizeOf36]⟩
theorem fU40 : Und Tryz.prog 40 (.pointer 60) := ⟨Tryz.underlying40⟩
theorem fA40 : Agg Tryz.prog 40 false := ⟨Tryz.isAgg40⟩
theorem fU54 : Und Tryz.prog 54 (.slice 75) := ⟨Tryz.underlying54⟩
theorem fU57 : Und Tryz.prog 57 (.map 115 117) := ⟨Tryz.underlying57⟩
theorem fA57 : Agg Tryz.prog 57 false := ⟨Tryz.isAgg57⟩
theorem fU58 : Und Tryz.prog 58 (.map 34 117) := ⟨Tryz.underlying58⟩
theorem fA58 : Agg Tryz.prog 58 false := ⟨Tryz.isAgg58⟩
theorem fF60_0 : Fld Tryz.prog 60 0 0 := Fld.of Tryz.underlying60 rfl Tryz.sizeOf4 rfl rfl
theorem fF60_1 : Fld Tryz.prog 60 1 1 := Fld.of Tryz.underlying60 rfl Tryz.sizeOf23 rfl rfl
theorem fF60_2 : Fld Tryz.prog 60 2 2 := Fld.of Tryz.underlying60 rfl Tryz.sizeOf23 rfl rfl
theorem fF60_3 : Fld Tryz.prog 60 3 3 := Fld.of Tryz.underlying60 rfl Tryz.sizeOf3 rfl rfl
theorem fF60_4 : Fld Tryz.prog 60 4 4 := Fld.of Tryz.underlying60 rfl Tryz.sizeOf57 rfl rfl
theorem fF60_5 : Fld Tryz.prog 60 5 5 := Fld.of Tryz.underlying60 rfl Tryz.sizeOf58 rfl rfl
theorem fL60 : Bld Tryz.prog 60 [(0, 1), (1, 1), (2, 1), (3, 1), (4, 1), (5, 1)] [.bool false, .int .u64 0, .int .u64 0, .int .i64 0, .map none, .map none] := ⟨_, Tryz.underlying60, Tryz.zeroValue60, fun w => by simp [Tryz.sizeOf23, Tryz.sizeOf3, Tryz.sizeOf4, Tryz.sizeOf57, Tryz.sizeOf58]⟩
theorem fU68 : Und Tryz.prog 68 (.slice 3) := ⟨Tryz.underlying68⟩
theorem fA70 : Agg Tryz.prog 70 false := ⟨Tryz.isAgg70⟩
theorem fS70 : Sz Tryz.prog 70 1 := ⟨Tryz.sizeOf70⟩
theorem fZ70 : Zr Tryz.prog 70 (.nilFunc) := ⟨Tryz.zeroValue70⟩
theorem fA73 : Agg Tryz.prog 73 true := ⟨Tryz.isAgg73⟩
theorem fS73 : Sz Tryz.prog 73 8 := ⟨Tryz.sizeOf73⟩
theorem fZ73 : Zr Tryz.prog 73 (.agg [.bool false, .string { data := #[] }, .string { data := #[] }, .string { data := #[] }, .string { data := #[] }, .string { data := #[] }, .string { data := #[] }, .string { data := #[] }].toArray) := ⟨Tryz.zeroValue73⟩
theorem fF73_0 : Fld Tryz.prog 73 0 0 := Fld.of Tryz.underlying73 rfl Tryz.sizeOf4 rfl rfl
theorem fF73_1 : Fld Tryz.prog 73 1 1 := Fld.of Tryz.underlying73 rfl Tryz.sizeOf36 rfl rfl
theorem fL73 : Bld Tryz.prog 73 [(0, 1), (1, 7)] [.bool false, .string { data := #[] }, .string { data := #[] }, .string { data := #[] }, .string { data := #[] }, .string { data := #[] }, .string { data := #[] }, .string { data := #[] }] := ⟨_, Tryz.underlying73, Tryz.zeroValue73, fun w => by simp [Tryz.sizeOf36, Tryz.sizeOf4]⟩
theorem fA75 : Agg Tryz.prog 75 true := ⟨Tryz.isAgg75⟩
theorem fS75 : Sz Tryz.prog 75 9 := ⟨Tryz.sizeOf75⟩
theorem fB75 : By Tryz.prog 75 128 := ⟨fun w => ⟨_, Tryz.typeInfo75 w, rfl⟩⟩
theorem fZ75 : Zr Tryz.prog 75 (.agg [.int .u64 0, .bool false, .string { data := #[] }, .string { data := #[] }, .string { data := #[] }, .string { data := #[] }, .string { data := #[] }, .string { data := #[] }, .string { data := #[] }].toArray) := ⟨Tryz.zeroValue75⟩
theorem fF75_0 : Fld Tryz.prog 75 0 0 := Fld.of Tryz.underlying75 rfl Tryz.sizeOf23 rfl rfl
theorem fF75_1 : Fld Tryz.prog 75 1 1 := Fld.of Tryz.underlying75 rfl Tryz.sizeOf73 rfl rfl
theorem fL75 : Bld Tryz.prog 75 [(0, 1), (1, 8)] [.int .u64 0, .bool false, .string { data := #[] }, .string { data := #[] }, .string { data := #[] }, .string { data := #[] }, .string { data := #[] }, .string { data := #[] }, .string { data := #[] }] := ⟨_, Tryz.underlying75, Tryz.zeroValue75, fun w => by simp [Tryz.sizeOf23, Tryz.sizeOf73]⟩
theorem fU113 : Und Tryz.prog 113 (.pointer 39) := ⟨Tryz.underlying113⟩
theorem fA113 : Agg Tryz.prog 113 false := ⟨Tryz.isAgg113⟩
theorem fS113 : Sz Tryz.prog 113 1 := ⟨Tryz.sizeOf113⟩
theorem fB113 : By Tryz.prog 113 8 := ⟨fun w => ⟨_, Tryz.typeInfo113 w, rfl⟩⟩
theorem fZ113 : Zr Tryz.prog 113 (.pointer none) := ⟨Tryz.zeroValue113⟩
theorem fA115 : Agg Tryz.prog 115 true := ⟨Tryz.isAgg115⟩
theorem fS115 : Sz Tryz.prog 115 3 := ⟨Tryz.sizeOf115⟩
theorem fZ115 : Zr Tryz.prog 115 (.agg [.string { data := #[] }, .string { data := #[] }, .string { data := #[] }].toArray) := ⟨Tryz.zeroValue115⟩
theorem fL115 : Bld Tryz.prog 115 [(0, 2), (2, 1)] [.string { data := #[] }, .string { data := #[] }, .string { data := #[] }] := ⟨_, Tryz.underlying115, Tryz.zeroValue115, fun w => by simp [Tryz.sizeOf27, Tryz.sizeOf9]⟩
theorem fU117 : Und Tryz.prog 117 (.slice 113) := ⟨Tryz.underlying117⟩
theorem fZ117 : Zr Tryz.prog 117 (.slice none 0 0) := ⟨Tryz.zeroValue117⟩
theorem fU118 : Und Tryz.prog 118 (.slice 9) := ⟨Tryz.underlying118⟩
theorem fU131 : Und Tryz.prog 131 (.int .u64) := ⟨Tryz.underlying131⟩
theorem fU141 : Und Tryz.prog 141 (.map 36 4) := ⟨Tryz.underlying141⟩
theorem fU178 : Und Tryz.prog 178 (.int .u64) := ⟨Tryz.underlying178⟩
theorem fA178 : Agg Tryz.prog 178 false := ⟨Tryz.isAgg178⟩
theorem fS178 : Sz Tryz.prog 178 1 := ⟨Tryz.sizeOf178⟩
theorem fZ178 : Zr Tryz.prog 178 (.int .u64 0) := ⟨Tryz.zeroValue178⟩
theorem fQ9 : EqT Tryz.prog 9 1 [.s] false := EqT.str fU9 fA9
theorem fQ27 : EqT Tryz.prog 27 2 [.s, .s] true := EqT.struct (n := 1) Tryz.underlying27 Tryz.stoodInHeld27 fA27 fS27 (EqFs.more fQ9 (EqFs.more fQ9 EqFs.nil))
theorem fQ34 : EqT Tryz.prog 34 3 [.s, .s, .s, .s] true := EqT.struct (n := 2) Tryz.underlying34 Tryz.stoodInHeld34 fA34 fS34 (EqFs.more fQ9 (EqFs.more fQ27 (EqFs.more fQ9 EqFs.nil)))
theorem fG34 : EqG Tryz.prog 34 := ⟨Tryz.eqGuardType34⟩
theorem fQ36 : EqT Tryz.prog 36 4 [.s, .s, .s, .s, .s, .s, .s] true := EqT.struct (n := 3) Tryz.underlying36 Tryz.stoodInHeld36 fA36 fS36 (EqFs.more fQ27 (EqFs.more fQ9 (EqFs.more fQ34 EqFs.nil)))
theorem fG36 : EqG Tryz.prog 36 := ⟨Tryz.eqGuardType36⟩
theorem fQ115 : EqT Tryz.prog 115 3 [.s, .s, .s] true := EqT.struct (n := 2) Tryz.underlying115 Tryz.stoodInHeld115 fA115 fS115 (EqFs.more fQ27 (EqFs.more fQ9 EqFs.nil))
theorem fE14 : Ent Tryz.prog 14 := ⟨Tryz.call14⟩
theorem fE15 : Ent Tryz.prog 15 := ⟨Tryz.call15⟩
theorem fE19 : Ent Tryz.prog 19 := ⟨Tryz.call19⟩
theorem fE20 : Ent Tryz.prog 20 := ⟨Tryz.call20⟩
theorem fE21 : Ent Tryz.prog 21 := ⟨Tryz.call21⟩
theorem fE22 : Ent Tryz.prog 22 := ⟨Tryz.call22⟩
theorem fE23 : Ent Tryz.prog 23 := ⟨Tryz.call23⟩
theorem fE24 : Ent Tryz.prog 24 := ⟨Tryz.call24⟩
theorem fE27 : Ent Tryz.prog 27 := ⟨Tryz.call27⟩
theorem fE28 : Ent Tryz.prog 28 := ⟨Tryz.call28⟩
theorem fE29 : Ent Tryz.prog 29 := ⟨Tryz.call29⟩
theorem fE31 : Ent Tryz.prog 31 := ⟨Tryz.call31⟩
theorem fE32 : Ent Tryz.prog 32 := ⟨Tryz.call32⟩
theorem fE34 : Ent Tryz.prog 34 := ⟨Tryz.call34⟩
theorem fE42 : Ent Tryz.prog 42 := ⟨Tryz.call42⟩
theorem fE43 : Ent Tryz.prog 43 := ⟨Tryz.call43⟩
theorem fE44 : Ent Tryz.prog 44 := ⟨Tryz.call44⟩
theorem fE49 : Ent Tryz.prog 49 := ⟨Tryz.call49⟩
theorem fE50 : Ent Tryz.prog 50 := ⟨Tryz.call50⟩
theorem fE51 : Ent Tryz.prog 51 := ⟨Tryz.call51⟩
theorem fE52 : Ent Tryz.prog 52 := ⟨Tryz.call52⟩
theorem fE53 : Ent Tryz.prog 53 := ⟨Tryz.call53⟩
theorem fE54 : Ent Tryz.prog 54 := ⟨Tryz.call54⟩
theorem fE55 : Ent Tryz.prog 55 := ⟨Tryz.call55⟩
theorem fE56 : Ent Tryz.prog 56 := ⟨Tryz.call56⟩
theorem fE57 : Ent Tryz.prog 57 := ⟨Tryz.call57⟩
theorem fE58 : Ent Tryz.prog 58 := ⟨Tryz.call58⟩
theorem fE59 : Ent Tryz.prog 59 := ⟨Tryz.call59⟩
theorem fE60 : Ent Tryz.prog 60 := ⟨Tryz.call60⟩
theorem fE61 : Ent Tryz.prog 61 := ⟨Tryz.call61⟩
theorem fE62 : Ent Tryz.prog 62 := ⟨Tryz.call62⟩
theorem fE63 : Ent Tryz.prog 63 := ⟨Tryz.call63⟩
theorem fE64 : Ent Tryz.prog 64 := ⟨Tryz.call64⟩
theorem fE65 : Ent Tryz.prog 65 := ⟨Tryz.call65⟩
theorem fE68 : Ent Tryz.prog 68 := ⟨Tryz.call68⟩
theorem fE69 : Ent Tryz.prog 69 := ⟨Tryz.call69⟩
theorem fE70 : Ent Tryz.prog 70 := ⟨Tryz.call70⟩
theorem fE71 : Ent Tryz.prog 71 := ⟨Tryz.call71⟩
theorem fE72 : Ent Tryz.prog 72 := ⟨Tryz.call72⟩
theorem fE73 : Ent Tryz.prog 73 := ⟨Tryz.call73⟩
theorem fE74 : Ent Tryz.prog 74 := ⟨Tryz.call74⟩
theorem fE77 : Ent Tryz.prog 77 := ⟨Tryz.call77⟩
theorem fE78 : Ent Tryz.prog 78 := ⟨Tryz.call78⟩
theorem fE79 : Ent Tryz.prog 79 := ⟨Tryz.call79⟩
theorem fE80 : Ent Tryz.prog 80 := ⟨Tryz.call80⟩
theorem fE86 : Ent Tryz.prog 86 := ⟨Tryz.call86⟩
theorem fE89 : Ent Tryz.prog 89 := ⟨Tryz.call89⟩
theorem fE90 : Ent Tryz.prog 90 := ⟨Tryz.call90⟩
theorem fE91 : Ent Tryz.prog 91 := ⟨Tryz.call91⟩
theorem fE92 : Ent Tryz.prog 92 := ⟨Tryz.call92⟩
theorem fE93 : Ent Tryz.prog 93 := ⟨Tryz.call93⟩
theorem fE94 : Ent Tryz.prog 94 := ⟨Tryz.call94⟩
theorem fE95 : Ent Tryz.prog 95 := ⟨Tryz.call95⟩
theorem fE96 : Ent Tryz.prog 96 := ⟨Tryz.call96⟩
theorem fE98 : Ent Tryz.prog 98 := ⟨Tryz.call98⟩
theorem fE99 : Ent Tryz.prog 99 := ⟨Tryz.call99⟩
theorem fE100 : Ent Tryz.prog 100 := ⟨Tryz.call100⟩
theorem fE101 : Ent Tryz.prog 101 := ⟨Tryz.call101⟩
theorem fE102 : Ent Tryz.prog 102 := ⟨Tryz.call102⟩
theorem fE103 : Ent Tryz.prog 103 := ⟨Tryz.call103⟩
theorem fE104 : Ent Tryz.prog 104 := ⟨Tryz.call104⟩
theorem fE105 : Ent Tryz.prog 105 := ⟨Tryz.call105⟩
theorem fE106 : Ent Tryz.prog 106 := ⟨Tryz.call106⟩
theorem fE107 : Ent Tryz.prog 107 := ⟨Tryz.call107⟩
theorem fE108 : Ent Tryz.prog 108 := ⟨Tryz.call108⟩
theorem fE111 : Ent Tryz.prog 111 := ⟨Tryz.call111⟩
theorem fE117 : Ent Tryz.prog 117 := ⟨Tryz.call117⟩
theorem fE118 : Ent Tryz.prog 118 := ⟨Tryz.call118⟩
theorem fE119 : Ent Tryz.prog 119 := ⟨Tryz.call119⟩
theorem fE120 : Ent Tryz.prog 120 := ⟨Tryz.call120⟩
theorem fE121 : Ent Tryz.prog 121 := ⟨Tryz.call121⟩
theorem fE122 : Ent Tryz.prog 122 := ⟨Tryz.call122⟩
theorem fE123 : Ent Tryz.prog 123 := ⟨Tryz.call123⟩
theorem fE124 : Ent Tryz.prog 124 := ⟨Tryz.call124⟩
theorem fE125 : Ent Tryz.prog 125 := ⟨Tryz.call125⟩
theorem fE126 : Ent Tryz.prog 126 := ⟨Tryz.call126⟩
theorem fE127 : Ent Tryz.prog 127 := ⟨Tryz.call127⟩
theorem fE128 : Ent Tryz.prog 128 := ⟨Tryz.call128⟩
theorem fE129 : Ent Tryz.prog 129 := ⟨Tryz.call129⟩
theorem fE130 : Ent Tryz.prog 130 := ⟨Tryz.call130⟩
theorem fE131 : Ent Tryz.prog 131 := ⟨Tryz.call131⟩
theorem fE132 : Ent Tryz.prog 132 := ⟨Tryz.call132⟩
theorem fE133 : Ent Tryz.prog 133 := ⟨Tryz.call133⟩
theorem fE134 : Ent Tryz.prog 134 := ⟨Tryz.call134⟩
theorem fE135 : Ent Tryz.prog 135 := ⟨Tryz.call135⟩
theorem fE136 : Ent Tryz.prog 136 := ⟨Tryz.call136⟩
theorem fE137 : Ent Tryz.prog 137 := ⟨Tryz.call137⟩
theorem fE138 : Ent Tryz.prog 138 := ⟨Tryz.call138⟩
theorem fE139 : Ent Tryz.prog 139 := ⟨Tryz.call139⟩
theorem fE140 : Ent Tryz.prog 140 := ⟨Tryz.call140⟩
theorem fE141 : Ent Tryz.prog 141 := ⟨Tryz.call141⟩
theorem fE142 : Ent Tryz.prog 142 := ⟨Tryz.call142⟩
theorem fE143 : Ent Tryz.prog 143 := ⟨Tryz.call143⟩
theorem fE144 : Ent Tryz.prog 144 := ⟨Tryz.call144⟩
theorem fE145 : Ent Tryz.prog 145 := ⟨Tryz.call145⟩
theorem fE146 : Ent Tryz.prog 146 := ⟨Tryz.call146⟩
theorem fE148 : Ent Tryz.prog 148 := ⟨Tryz.call148⟩
theorem fE149 : Ent Tryz.prog 149 := ⟨Tryz.call149⟩
theorem fE150 : Ent Tryz.prog 150 := ⟨Tryz.call150⟩
theorem fE151 : Ent Tryz.prog 151 := ⟨Tryz.call151⟩
theorem fE152 : Ent Tryz.prog 152 := ⟨Tryz.call152⟩
theorem fE154 : Ent Tryz.prog 154 := ⟨Tryz.call154⟩
theorem fE155 : Ent Tryz.prog 155 := ⟨Tryz.call155⟩
theorem fE156 : Ent Tryz.prog 156 := ⟨Tryz.call156⟩
theorem fE157 : Ent Tryz.prog 157 := ⟨Tryz.call157⟩
theorem fE158 : Ent Tryz.prog 158 := ⟨Tryz.call158⟩
theorem fE159 : Ent Tryz.prog 159 := ⟨Tryz.call159⟩
theorem fE160 : Ent Tryz.prog 160 := ⟨Tryz.call160⟩
theorem fE161 : Ent Tryz.prog 161 := ⟨Tryz.call161⟩
theorem fE162 : Ent Tryz.prog 162 := ⟨Tryz.call162⟩
theorem fE164 : Ent Tryz.prog 164 := ⟨Tryz.call164⟩
theorem fE165 : Ent Tryz.prog 165 := ⟨Tryz.call165⟩
attribute [instance] fU3 fA3 fS3 fZ3 fU4 fA4 fZ4 fU9 fA9 fS9 fZ9 fU23 fA23 fS23 fZ23 fU24 fU25 fA27 fS27 fF27_0 fF27_1 fL27 fA29 fS29 fF29_0 fF29_1 fF29_2 fF29_3 fF29_4 fF29_5 fL29 fU32 fA34 fS34 fZ34 fF34_0 fF34_1 fF34_2 fL34 fA36 fS36 fB36 fZ36 fF36_0 fF36_1 fF36_2 fL36 fA39 fS39 fB39 fZ39 fF39_0 fF39_1 fF39_2 fL39 fU40 fA40 fU54 fU57 fA57 fU58 fA58 fF60_0 fF60_1 fF60_2 fF60_3 fF60_4 fF60_5 fL60 fU68 fA70 fS70 fZ70 fA73 fS73 fZ73 fF73_0 fF73_1 fL73 fA75 fS75 fB75 fZ75 fF75_0 fF75_1 fL75 fU113 fA113 fS113 fB113 fZ113 fA115 fS115 fZ115 fL115 fU117 fZ117 fU118 fU131 fU141 fU178 fA178 fS178 fZ178 fQ9 fQ27 fQ34 fG34 fQ36 fG36 fQ115 fE14 fE15 fE19 fE20 fE21 fE22 fE23 fE24 fE27 fE28 fE29 fE31 fE32 fE34 fE42 fE43 fE44 fE49 fE50 fE51 fE52 fE53 fE54 fE55 fE56 fE57 fE58 fE59 fE60 fE61 fE62 fE63 fE64 fE65 fE68 fE69 fE70 fE71 fE72 fE73 fE74 fE77 fE78 fE79 fE80 fE86 fE89 fE90 fE91 fE92 fE93 fE94 fE95 fE96 fE98 fE99 fE100 fE101 fE102 fE103 fE104 fE105 fE106 fE107 fE108 fE111 fE117 fE118 fE119 fE120 fE121 fE122 fE123 fE124 fE125 fE126 fE127 fE128 fE129 fE130 fE131 fE132 fE133 fE134 fE135 fE136 fE137 fE138 fE139 fE140 fE141 fE142 fE143 fE144 fE145 fE146 fE148 fE149 fE150 fE151 fE152 fE154 fE155 fE156 fE157 fE158 fE159 fE160 fE161 fE162 fE164 fE165
theorem mixed : Tryz.prog.follows .mixedOrders = true := by kernel_rfl
end Go.Proofs.YtkepgbimlolemaaGreat

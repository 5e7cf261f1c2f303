/- What the law 'MemoNobody' uses. No condition. -/
import Derived.Test.YtenilfmlfldogaaGreatChecked
import Derived.Test.YtenilfmlfldogaaGreatKMemoNobodyB
namespace Go.Proofs.YtenilfmlfldogaaGreat
open Tryz (prog)
set_option linter.unusedVariables false
theorem fU3 : Und prog 3 (.int .i64) := ⟨Tryz.underlying3⟩
theorem fA3 : Agg prog 3 false := ⟨Tryz.isAgg3⟩
theorem fS3 : Sz prog 3 1 := ⟨Tryz.sizeOf3⟩
theorem fB3 : By prog 3 8 := ⟨λ w => ⟨_, Tryz.typeInfo3 w, rfl⟩⟩
theorem fZ3 : Zr prog 3 (.int .i64 0) := ⟨Tryz.zeroValue3⟩
theorem fU4 : Und prog 4 (.bool) := ⟨Tryz.underlying4⟩
theorem fA4 : Agg prog 4 false := ⟨Tryz.isAgg4⟩
theorem fS4 : Sz prog 4 1 := ⟨Tryz.sizeOf4⟩
theorem fB4 : By prog 4 1 := ⟨λ w => ⟨_, Tryz.typeInfo4 w, rfl⟩⟩
theorem fZ4 : Zr prog 4 (.bool false) := ⟨Tryz.zeroValue4⟩
theorem fU9 : Und prog 9 (.string) := ⟨Tryz.underlying9⟩
theorem fA9 : Agg prog 9 false := ⟨Tryz.isAgg9⟩
theorem fS9 : Sz prog 9 1 := ⟨Tryz.sizeOf9⟩
theorem fB9 : By prog 9 16 := ⟨λ w => ⟨_, Tryz.typeInfo9 w, rfl⟩⟩
theorem fZ9 : Zr prog 9 (.string { data := #[] }) := ⟨Tryz.zeroValue9⟩
theorem fU22 : Und prog 22 (.slice 187) := ⟨Tryz.underlying22⟩
theorem fA22 : Agg prog 22 false := ⟨Tryz.isAgg22⟩
theorem fS22 : Sz prog 22 1 := ⟨Tryz.sizeOf22⟩
theorem fU23 : Und prog 23 (.slice 209) := ⟨Tryz.underlying23⟩
theorem fA23 : Agg prog 23 false := ⟨Tryz.isAgg23⟩
theorem fS23 : Sz prog 23 1 := ⟨Tryz.sizeOf23⟩
theorem fA25 : Agg prog 25 true := ⟨Tryz.isAgg25⟩
theorem fS25 : Sz prog 25 2 := ⟨Tryz.sizeOf25⟩
theorem fZ25 : Zr prog 25 (.agg [sZ, sZ].toArray) := ⟨Tryz.zeroValue25⟩
theorem fF25_0 : Fld prog 25 0 0 := Fld.of Tryz.underlying25 rfl Tryz.sizeOf22 rfl rfl
theorem fF25_1 : Fld prog 25 1 1 := Fld.of Tryz.underlying25 rfl Tryz.sizeOf23 rfl rfl
theorem fL25 : Bld prog 25 [(0, 1), (1, 1)] [sZ, sZ] := ⟨_, Tryz.underlying25, Tryz.zeroValue25, λ w => by simp [Tryz.sizeOf22, Tryz.sizeOf23]⟩
theorem fU26 : Und prog 26 (.slice 62) := ⟨Tryz.underlying26⟩
theorem fA26 : Agg prog 26 false := ⟨Tryz.isAgg26⟩
theorem fA28 : Agg prog 28 true := ⟨Tryz.isAgg28⟩
theorem fS28 : Sz prog 28 3 := ⟨Tryz.sizeOf28⟩
theorem fF28_0 : Fld prog 28 0 0 := Fld.of Tryz.underlying28 rfl Tryz.sizeOf25 rfl rfl
theorem fF28_1 : Fld prog 28 1 2 := Fld.of Tryz.underlying28 rfl Tryz.sizeOf26 rfl rfl
theorem fA30 : Agg prog 30 true := ⟨Tryz.isAgg30⟩
theorem fS30 : Sz prog 30 2 := ⟨Tryz.sizeOf30⟩
theorem fF30_0 : Fld prog 30 0 0 := Fld.of Tryz.underlying30 rfl Tryz.sizeOf9 rfl rfl
theorem fF30_1 : Fld prog 30 1 1 := Fld.of Tryz.underlying30 rfl Tryz.sizeOf9 rfl rfl
theorem fU31 : Und prog 31 (.int .u64) := ⟨Tryz.underlying31⟩
theorem fA31 : Agg prog 31 false := ⟨Tryz.isAgg31⟩
theorem fS31 : Sz prog 31 1 := ⟨Tryz.sizeOf31⟩
theorem fU32 : Und prog 32 (.pointer 116) := ⟨Tryz.underlying32⟩
theorem fU33 : Und prog 33 (.pointer 89) := ⟨Tryz.underlying33⟩
theorem fA33 : Agg prog 33 false := ⟨Tryz.isAgg33⟩
theorem fU39 : Und prog 39 (.slice 9) := ⟨Tryz.underlying39⟩
theorem fA39 : Agg prog 39 false := ⟨Tryz.isAgg39⟩
theorem fS39 : Sz prog 39 1 := ⟨Tryz.sizeOf39⟩
theorem fU53 : Und prog 53 (.slice 123) := ⟨Tryz.underlying53⟩
theorem fA53 : Agg prog 53 false := ⟨Tryz.isAgg53⟩
theorem fS53 : Sz prog 53 1 := ⟨Tryz.sizeOf53⟩
theorem fA55 : Agg prog 55 true := ⟨Tryz.isAgg55⟩
theorem fS55 : Sz prog 55 2 := ⟨Tryz.sizeOf55⟩
theorem fZ55 : Zr prog 55 (.agg [sZ, .int .i64 0].toArray) := ⟨Tryz.zeroValue55⟩
theorem fF55_0 : Fld prog 55 0 0 := Fld.of Tryz.underlying55 rfl Tryz.sizeOf53 rfl rfl
theorem fF55_1 : Fld prog 55 1 1 := Fld.of Tryz.underlying55 rfl Tryz.sizeOf3 rfl rfl
theorem fL55 : Bld prog 55 [(0, 1), (1, 1)] [sZ, .int .i64 0] := ⟨_, Tryz.underlying55, Tryz.zeroValue55, λ w => by simp [Tryz.sizeOf3, Tryz.sizeOf53]⟩
theorem fU57 : Und prog 57 (.slice 151) := ⟨Tryz.underlying57⟩
theorem fA57 : Agg prog 57 false := ⟨Tryz.isAgg57⟩
theorem fS57 : Sz prog 57 1 := ⟨Tryz.sizeOf57⟩
theorem fU58 : Und prog 58 (.slice 153) := ⟨Tryz.underlying58⟩
theorem fA58 : Agg prog 58 false := ⟨Tryz.isAgg58⟩
theorem fS58 : Sz prog 58 1 := ⟨Tryz.sizeOf58⟩
theorem fA60 : Agg prog 60 true := ⟨Tryz.isAgg60⟩
theorem fS60 : Sz prog 60 7 := ⟨Tryz.sizeOf60⟩
theorem fF60_0 : Fld prog 60 0 0 := Fld.of Tryz.underlying60 rfl Tryz.sizeOf9 rfl rfl
theorem fF60_1 : Fld prog 60 1 1 := Fld.of Tryz.underlying60 rfl Tryz.sizeOf9 rfl rfl
theorem fF60_2 : Fld prog 60 2 2 := Fld.of Tryz.underlying60 rfl Tryz.sizeOf9 rfl rfl
theorem fF60_3 : Fld prog 60 3 3 := Fld.of Tryz.underlying60 rfl Tryz.sizeOf9 rfl rfl
theorem fF60_4 : Fld prog 60 4 4 := Fld.of Tryz.underlying60 rfl Tryz.sizeOf30 rfl rfl
theorem fF60_5 : Fld prog 60 5 6 := Fld.of Tryz.underlying60 rfl Tryz.sizeOf9 rfl rfl
theorem fL60 : Bld prog 60 [(0, 1), (1, 1), (2, 1), (3, 1), (4, 2), (6, 1)] [.string { data := #[] }, .string { data := #[] }, .string { data := #[] }, .string { data := #[] }, .string { data := #[] }, .string { data := #[] }, .string { data := #[] }] := ⟨_, Tryz.underlying60, Tryz.zeroValue60, λ w => by simp [Tryz.sizeOf30, Tryz.sizeOf9]⟩
theorem fA62 : Agg prog 62 true := ⟨Tryz.isAgg62⟩
theorem fS62 : Sz prog 62 12 := ⟨Tryz.sizeOf62⟩
theorem fB62 : By prog 62 200 := ⟨λ w => ⟨_, Tryz.typeInfo62 w, rfl⟩⟩
theorem fZ62 : Zr prog 62 (.agg [.int .i64 0, sZ, sZ, sZ, .string { data := #[] }, .string { data := #[] }, .string { data := #[] }, .string { data := #[] }, .string { data := #[] }, .string { data := #[] }, .string { data := #[] }, .int .u64 0].toArray) := ⟨Tryz.zeroValue62⟩
theorem fF62_0 : Fld prog 62 0 0 := Fld.of Tryz.underlying62 rfl Tryz.sizeOf3 rfl rfl
theorem fF62_1 : Fld prog 62 1 1 := Fld.of Tryz.underlying62 rfl Tryz.sizeOf57 rfl rfl
theorem fF62_2 : Fld prog 62 2 2 := Fld.of Tryz.underlying62 rfl Tryz.sizeOf57 rfl rfl
theorem fF62_3 : Fld prog 62 3 3 := Fld.of Tryz.underlying62 rfl Tryz.sizeOf58 rfl rfl
theorem fF64_0 : Fld prog 64 0 0 := Fld.of Tryz.underlying64 rfl Tryz.sizeOf30 rfl rfl
theorem fF64_1 : Fld prog 64 1 2 := Fld.of Tryz.underlying64 rfl Tryz.sizeOf9 rfl rfl
theorem fF64_2 : Fld prog 64 2 3 := Fld.of Tryz.underlying64 rfl Tryz.sizeOf9 rfl rfl
theorem fF64_3 : Fld prog 64 3 4 := Fld.of Tryz.underlying64 rfl Tryz.sizeOf31 rfl rfl
theorem fF64_4 : Fld prog 64 4 5 := Fld.of Tryz.underlying64 rfl Tryz.sizeOf3 rfl rfl
theorem fU65 : Und prog 65 (.slice 127) := ⟨Tryz.underlying65⟩
theorem fA65 : Agg prog 65 false := ⟨Tryz.isAgg65⟩
theorem fS65 : Sz prog 65 1 := ⟨Tryz.sizeOf65⟩
theorem fU68 : Und prog 68 (.pointer 72) := ⟨Tryz.underlying68⟩
theorem fA68 : Agg prog 68 false := ⟨Tryz.isAgg68⟩
theorem fU69 : Und prog 69 (.map 75 4) := ⟨Tryz.underlying69⟩
theorem fA69 : Agg prog 69 false := ⟨Tryz.isAgg69⟩
theorem fU70 : Und prog 70 (.slice 75) := ⟨Tryz.underlying70⟩
theorem fA70 : Agg prog 70 false := ⟨Tryz.isAgg70⟩
theorem fS70 : Sz prog 70 1 := ⟨Tryz.sizeOf70⟩
theorem fF72_0 : Fld prog 72 0 0 := Fld.of Tryz.underlying72 rfl Tryz.sizeOf4 rfl rfl
theorem fF72_1 : Fld prog 72 1 1 := Fld.of Tryz.underlying72 rfl Tryz.sizeOf3 rfl rfl
theorem fF72_2 : Fld prog 72 2 2 := Fld.of Tryz.underlying72 rfl Tryz.sizeOf69 rfl rfl
theorem fF72_3 : Fld prog 72 3 3 := Fld.of Tryz.underlying72 rfl Tryz.sizeOf70 rfl rfl
theorem fL72 : Bld prog 72 [(0, 1), (1, 1), (2, 1), (3, 1), (4, 1)] [.bool false, .int .i64 0, .map none, sZ, .int .i64 0] := ⟨_, Tryz.underlying72, Tryz.zeroValue72, λ w => by simp [Tryz.sizeOf3, Tryz.sizeOf4, Tryz.sizeOf69, Tryz.sizeOf70]⟩
theorem fA75 : Agg prog 75 true := ⟨Tryz.isAgg75⟩
theorem fS75 : Sz prog 75 6 := ⟨Tryz.sizeOf75⟩
theorem fB75 : By prog 75 80 := ⟨λ w => ⟨_, Tryz.typeInfo75 w, rfl⟩⟩
theorem fZ75 : Zr prog 75 (.agg [.int .u64 0, .int .i64 0, .string { data := #[] }, .string { data := #[] }, .string { data := #[] }, .string { data := #[] }].toArray) := ⟨Tryz.zeroValue75⟩
theorem fL75 : Bld prog 75 [(0, 1), (1, 1), (2, 2), (4, 1), (5, 1)] [.int .u64 0, .int .i64 0, .string { data := #[] }, .string { data := #[] }, .string { data := #[] }, .string { data := #[] }] := ⟨_, Tryz.underlying75, Tryz.zeroValue75, λ w => by simp [Tryz.sizeOf3, Tryz.sizeOf30, Tryz.sizeOf31, Tryz.sizeOf9]⟩
theorem fU86 : Und prog 86 (.map 262 263) := ⟨Tryz.underlying86⟩
theorem fA86 : Agg prog 86 false := ⟨Tryz.isAgg86⟩
theorem fU87 : Und prog 87 (.map 149 263) := ⟨Tryz.underlying87⟩
theorem fA87 : Agg prog 87 false := ⟨Tryz.isAgg87⟩
theorem fF89_0 : Fld prog 89 0 0 := Fld.of Tryz.underlying89 rfl Tryz.sizeOf4 rfl rfl
theorem fF89_1 : Fld prog 89 1 1 := Fld.of Tryz.underlying89 rfl Tryz.sizeOf31 rfl rfl
theorem fF89_2 : Fld prog 89 2 2 := Fld.of Tryz.underlying89 rfl Tryz.sizeOf31 rfl rfl
theorem fF89_3 : Fld prog 89 3 3 := Fld.of Tryz.underlying89 rfl Tryz.sizeOf3 rfl rfl
theorem fF89_4 : Fld prog 89 4 4 := Fld.of Tryz.underlying89 rfl Tryz.sizeOf86 rfl rfl
theorem fF89_5 : Fld prog 89 5 5 := Fld.of Tryz.underlying89 rfl Tryz.sizeOf87 rfl rfl
theorem fL89 : Bld prog 89 [(0, 1), (1, 1), (2, 1), (3, 1), (4, 1), (5, 1)] [.bool false, .int .u64 0, .int .u64 0, .int .i64 0, .map none, .map none] := ⟨_, Tryz.underlying89, Tryz.zeroValue89, λ w => by simp [Tryz.sizeOf3, Tryz.sizeOf31, Tryz.sizeOf4, Tryz.sizeOf86, Tryz.sizeOf87]⟩
theorem fU106 : Und prog 106 (.slice 4) := ⟨Tryz.underlying106⟩
theorem fA106 : Agg prog 106 false := ⟨Tryz.isAgg106⟩
theorem fU114 : Und prog 114 (.slice 202) := ⟨Tryz.underlying114⟩
theorem fA114 : Agg prog 114 false := ⟨Tryz.isAgg114⟩
theorem fS114 : Sz prog 114 1 := ⟨Tryz.sizeOf114⟩
theorem fF116_0 : Fld prog 116 0 0 := Fld.of Tryz.underlying116 rfl Tryz.sizeOf4 rfl rfl
theorem fF116_1 : Fld prog 116 1 1 := Fld.of Tryz.underlying116 rfl Tryz.sizeOf114 rfl rfl
theorem fF116_2 : Fld prog 116 2 2 := Fld.of Tryz.underlying116 rfl Tryz.sizeOf3 rfl rfl
theorem fL116 : Bld prog 116 [(0, 1), (1, 1), (2, 1)] [.bool false, sZ, .int .i64 0] := ⟨_, Tryz.underlying116, Tryz.zeroValue116, λ w => by simp [Tryz.sizeOf114, Tryz.sizeOf3, Tryz.sizeOf4]⟩
theorem fU119 : Und prog 119 (.slice 168) := ⟨Tryz.underlying119⟩
theorem fA119 : Agg prog 119 false := ⟨Tryz.isAgg119⟩
theorem fS119 : Sz prog 119 1 := ⟨Tryz.sizeOf119⟩
theorem fA123 : Agg prog 123 true := ⟨Tryz.isAgg123⟩
theorem fS123 : Sz prog 123 8 := ⟨Tryz.sizeOf123⟩
theorem fB123 : By prog 123 136 := ⟨λ w => ⟨_, Tryz.typeInfo123 w, rfl⟩⟩
theorem fZ123 : Zr prog 123 (.agg [.string { data := #[] }, .string { data := #[] }, .string { data := #[] }, .bool false, sZ, sZ, sZ, .int .i64 0].toArray) := ⟨Tryz.zeroValue123⟩
theorem fF123_0 : Fld prog 123 0 0 := Fld.of Tryz.underlying123 rfl Tryz.sizeOf30 rfl rfl
theorem fF123_1 : Fld prog 123 1 2 := Fld.of Tryz.underlying123 rfl Tryz.sizeOf9 rfl rfl
theorem fF123_2 : Fld prog 123 2 3 := Fld.of Tryz.underlying123 rfl Tryz.sizeOf4 rfl rfl
theorem fF123_3 : Fld prog 123 3 4 := Fld.of Tryz.underlying123 rfl Tryz.sizeOf119 rfl rfl
theorem fF123_4 : Fld prog 123 4 5 := Fld.of Tryz.underlying123 rfl Tryz.sizeOf39 rfl rfl
theorem fF123_5 : Fld prog 123 5 6 := Fld.of Tryz.underlying123 rfl Tryz.sizeOf65 rfl rfl
theorem fF123_6 : Fld prog 123 6 7 := Fld.of Tryz.underlying123 rfl Tryz.sizeOf3 rfl rfl
theorem fL123 : Bld prog 123 [(0, 2), (2, 1), (3, 1), (4, 1), (5, 1), (6, 1), (7, 1)] [.string { data := #[] }, .string { data := #[] }, .string { data := #[] }, .bool false, sZ, sZ, sZ, .int .i64 0] := ⟨_, Tryz.underlying123, Tryz.zeroValue123, λ w => by simp [Tryz.sizeOf119, Tryz.sizeOf3, Tryz.sizeOf30, Tryz.sizeOf39, Tryz.sizeOf4, Tryz.sizeOf65, Tryz.sizeOf9]⟩
theorem fU124 : Und prog 124 (.slice 241) := ⟨Tryz.underlying124⟩
theorem fA124 : Agg prog 124 false := ⟨Tryz.isAgg124⟩
theorem fS124 : Sz prog 124 1 := ⟨Tryz.sizeOf124⟩
theorem fF126_0 : Fld prog 126 0 0 := Fld.of Tryz.underlying126 rfl Tryz.sizeOf124 rfl rfl
theorem fF126_1 : Fld prog 126 1 1 := Fld.of Tryz.underlying126 rfl Tryz.sizeOf31 rfl rfl
theorem fF126_2 : Fld prog 126 2 2 := Fld.of Tryz.underlying126 rfl Tryz.sizeOf31 rfl rfl
theorem fL126 : Bld prog 126 [(0, 1), (1, 1), (2, 1)] [sZ, .int .u64 0, .int .u64 0] := ⟨_, Tryz.underlying126, Tryz.zeroValue126, λ w => by simp [Tryz.sizeOf124, Tryz.sizeOf31]⟩
theorem fU127 : Und prog 127 (.slice 3) := ⟨Tryz.underlying127⟩
theorem fA127 : Agg prog 127 false := ⟨Tryz.isAgg127⟩
theorem fS127 : Sz prog 127 1 := ⟨Tryz.sizeOf127⟩
theorem fB127 : By prog 127 24 := ⟨λ w => ⟨_, Tryz.typeInfo127 w, rfl⟩⟩
theorem fZ127 : Zr prog 127 (sZ) := ⟨Tryz.zeroValue127⟩
theorem fA149 : Agg prog 149 true := ⟨Tryz.isAgg149⟩
theorem fS149 : Sz prog 149 4 := ⟨Tryz.sizeOf149⟩
theorem fB149 : By prog 149 64 := ⟨λ w => ⟨_, Tryz.typeInfo149 w, rfl⟩⟩
theorem fZ149 : Zr prog 149 (.agg [.string { data := #[] }, .string { data := #[] }, .string { data := #[] }, .string { data := #[] }].toArray) := ⟨Tryz.zeroValue149⟩
theorem fF149_0 : Fld prog 149 0 0 := Fld.of Tryz.underlying149 rfl Tryz.sizeOf9 rfl rfl
theorem fF149_1 : Fld prog 149 1 1 := Fld.of Tryz.underlying149 rfl Tryz.sizeOf30 rfl rfl
theorem fF149_2 : Fld prog 149 2 3 := Fld.of Tryz.underlying149 rfl Tryz.sizeOf9 rfl rfl
theorem fL149 : Bld prog 149 [(0, 1), (1, 2), (3, 1)] [.string { data := #[] }, .string { data := #[] }, .string { data := #[] }, .string { data := #[] }] := ⟨_, Tryz.underlying149, Tryz.zeroValue149, λ w => by simp [Tryz.sizeOf30, Tryz.sizeOf9]⟩
theorem fA151 : Agg prog 151 true := ⟨Tryz.isAgg151⟩
theorem fS151 : Sz prog 151 7 := ⟨Tryz.sizeOf151⟩
theorem fB151 : By prog 151 112 := ⟨λ w => ⟨_, Tryz.typeInfo151 w, rfl⟩⟩
theorem fZ151 : Zr prog 151 (.agg [.string { data := #[] }, .string { data := #[] }, .string { data := #[] }, .string { data := #[] }, .string { data := #[] }, .string { data := #[] }, .string { data := #[] }].toArray) := ⟨Tryz.zeroValue151⟩
theorem fF151_0 : Fld prog 151 0 0 := Fld.of Tryz.underlying151 rfl Tryz.sizeOf30 rfl rfl
theorem fF151_1 : Fld prog 151 1 2 := Fld.of Tryz.underlying151 rfl Tryz.sizeOf9 rfl rfl
theorem fF151_2 : Fld prog 151 2 3 := Fld.of Tryz.underlying151 rfl Tryz.sizeOf149 rfl rfl
theorem fL151 : Bld prog 151 [(0, 2), (2, 1), (3, 4)] [.string { data := #[] }, .string { data := #[] }, .string { data := #[] }, .string { data := #[] }, .string { data := #[] }, .string { data := #[] }, .string { data := #[] }] := ⟨_, Tryz.underlying151, Tryz.zeroValue151, λ w => by simp [Tryz.sizeOf149, Tryz.sizeOf30, Tryz.sizeOf9]⟩
theorem fA153 : Agg prog 153 true := ⟨Tryz.isAgg153⟩
theorem fS153 : Sz prog 153 8 := ⟨Tryz.sizeOf153⟩
theorem fZ153 : Zr prog 153 (.agg [.bool false, .string { data := #[] }, .string { data := #[] }, .string { data := #[] }, .string { data := #[] }, .string { data := #[] }, .string { data := #[] }, .string { data := #[] }].toArray) := ⟨Tryz.zeroValue153⟩
theorem fF153_0 : Fld prog 153 0 0 := Fld.of Tryz.underlying153 rfl Tryz.sizeOf4 rfl rfl
theorem fF153_1 : Fld prog 153 1 1 := Fld.of Tryz.underlying153 rfl Tryz.sizeOf151 rfl rfl
theorem fU164 : Und prog 164 (.slice 149) := ⟨Tryz.underlying164⟩
theorem fA168 : Agg prog 168 true := ⟨Tryz.isAgg168⟩
theorem fS168 : Sz prog 168 5 := ⟨Tryz.sizeOf168⟩
theorem fB168 : By prog 168 56 := ⟨λ w => ⟨_, Tryz.typeInfo168 w, rfl⟩⟩
theorem fZ168 : Zr prog 168 (.agg [.int .i64 0, .string { data := #[] }, .string { data := #[] }, .int .i64 0, .int .i64 0].toArray) := ⟨Tryz.zeroValue168⟩
theorem fF168_0 : Fld prog 168 0 0 := Fld.of Tryz.underlying168 rfl Tryz.sizeOf3 rfl rfl
theorem fF168_1 : Fld prog 168 1 1 := Fld.of Tryz.underlying168 rfl Tryz.sizeOf9 rfl rfl
theorem fF168_2 : Fld prog 168 2 2 := Fld.of Tryz.underlying168 rfl Tryz.sizeOf9 rfl rfl
theorem fF168_3 : Fld prog 168 3 3 := Fld.of Tryz.underlying168 rfl Tryz.sizeOf3 rfl rfl
theorem fF168_4 : Fld prog 168 4 4 := Fld.of Tryz.underlying168 rfl Tryz.sizeOf3 rfl rfl
theorem fU179 : Und prog 179 (.slice 259) := ⟨Tryz.underlying179⟩
theorem fU182 : Und prog 182 (.slice 256) := ⟨Tryz.underlying182⟩
theorem fU185 : Und prog 185 (.slice 207) := ⟨Tryz.underlying185⟩
theorem fA185 : Agg prog 185 false := ⟨Tryz.isAgg185⟩
theorem fS185 : Sz prog 185 1 := ⟨Tryz.sizeOf185⟩
theorem fA187 : Agg prog 187 true := ⟨Tryz.isAgg187⟩
theorem fS187 : Sz prog 187 2 := ⟨Tryz.sizeOf187⟩
theorem fB187 : By prog 187 40 := ⟨λ w => ⟨_, Tryz.typeInfo187 w, rfl⟩⟩
theorem fZ187 : Zr prog 187 (.agg [.string { data := #[] }, sZ].toArray) := ⟨Tryz.zeroValue187⟩
theorem fF187_0 : Fld prog 187 0 0 := Fld.of Tryz.underlying187 rfl Tryz.sizeOf9 rfl rfl
theorem fF187_1 : Fld prog 187 1 1 := Fld.of Tryz.underlying187 rfl Tryz.sizeOf185 rfl rfl
theorem fL187 : Bld prog 187 [(0, 1), (1, 1)] [.string { data := #[] }, sZ] := ⟨_, Tryz.underlying187, Tryz.zeroValue187, λ w => by simp [Tryz.sizeOf185, Tryz.sizeOf9]⟩
theorem fA196 : Agg prog 196 true := ⟨Tryz.isAgg196⟩
theorem fS196 : Sz prog 196 9 := ⟨Tryz.sizeOf196⟩
theorem fF196_0 : Fld prog 196 0 0 := Fld.of Tryz.underlying196 rfl Tryz.sizeOf151 rfl rfl
theorem fF196_1 : Fld prog 196 1 7 := Fld.of Tryz.underlying196 rfl Tryz.sizeOf31 rfl rfl
theorem fF196_2 : Fld prog 196 2 8 := Fld.of Tryz.underlying196 rfl Tryz.sizeOf31 rfl rfl
theorem fL196 : Bld prog 196 [(0, 7), (7, 1), (8, 1)] [.string { data := #[] }, .string { data := #[] }, .string { data := #[] }, .string { data := #[] }, .string { data := #[] }, .string { data := #[] }, .string { data := #[] }, .int .u64 0, .int .u64 0] := ⟨_, Tryz.underlying196, Tryz.zeroValue196, λ w => by simp [Tryz.sizeOf151, Tryz.sizeOf31]⟩
theorem fU197 : Und prog 197 (.pointer 196) := ⟨Tryz.underlying197⟩
theorem fA197 : Agg prog 197 false := ⟨Tryz.isAgg197⟩
theorem fS197 : Sz prog 197 1 := ⟨Tryz.sizeOf197⟩
theorem fB197 : By prog 197 8 := ⟨λ w => ⟨_, Tryz.typeInfo197 w, rfl⟩⟩
theorem fZ197 : Zr prog 197 (.pointer none) := ⟨Tryz.zeroValue197⟩
theorem fF200_0 : Fld prog 200 0 0 := Fld.of Tryz.underlying200 rfl Tryz.sizeOf31 rfl rfl
theorem fF200_1 : Fld prog 200 1 1 := Fld.of Tryz.underlying200 rfl Tryz.sizeOf25 rfl rfl
theorem fL200 : Bld prog 200 [(0, 1), (1, 2)] [.int .u64 0, sZ, sZ] := ⟨_, Tryz.underlying200, Tryz.zeroValue200, λ w => by simp [Tryz.sizeOf25, Tryz.sizeOf31]⟩
theorem fA202 : Agg prog 202 true := ⟨Tryz.isAgg202⟩
theorem fS202 : Sz prog 202 4 := ⟨Tryz.sizeOf202⟩
theorem fB202 : By prog 202 80 := ⟨λ w => ⟨_, Tryz.typeInfo202 w, rfl⟩⟩
theorem fZ202 : Zr prog 202 (.agg [.int .u64 0, sZ, sZ, sZ].toArray) := ⟨Tryz.zeroValue202⟩
theorem fF202_0 : Fld prog 202 0 0 := Fld.of Tryz.underlying202 rfl Tryz.sizeOf200 rfl rfl
theorem fF202_1 : Fld prog 202 1 3 := Fld.of Tryz.underlying202 rfl Tryz.sizeOf65 rfl rfl
theorem fL202 : Bld prog 202 [(0, 3), (3, 1)] [.int .u64 0, sZ, sZ, sZ] := ⟨_, Tryz.underlying202, Tryz.zeroValue202, λ w => by simp [Tryz.sizeOf200, Tryz.sizeOf65]⟩
theorem fU205 : Und prog 205 (.slice 252) := ⟨Tryz.underlying205⟩
theorem fA205 : Agg prog 205 false := ⟨Tryz.isAgg205⟩
theorem fS205 : Sz prog 205 1 := ⟨Tryz.sizeOf205⟩
theorem fA207 : Agg prog 207 true := ⟨Tryz.isAgg207⟩
theorem fS207 : Sz prog 207 3 := ⟨Tryz.sizeOf207⟩
theorem fB207 : By prog 207 64 := ⟨λ w => ⟨_, Tryz.typeInfo207 w, rfl⟩⟩
theorem fZ207 : Zr prog 207 (.agg [.string { data := #[] }, sZ, sZ].toArray) := ⟨Tryz.zeroValue207⟩
theorem fF207_0 : Fld prog 207 0 0 := Fld.of Tryz.underlying207 rfl Tryz.sizeOf9 rfl rfl
theorem fF207_1 : Fld prog 207 1 1 := Fld.of Tryz.underlying207 rfl Tryz.sizeOf205 rfl rfl
theorem fF207_2 : Fld prog 207 2 2 := Fld.of Tryz.underlying207 rfl Tryz.sizeOf119 rfl rfl
theorem fL207 : Bld prog 207 [(0, 1), (1, 1), (2, 1)] [.string { data := #[] }, sZ, sZ] := ⟨_, Tryz.underlying207, Tryz.zeroValue207, λ w => by simp [Tryz.sizeOf119, Tryz.sizeOf205, Tryz.sizeOf9]⟩
theorem fA209 : Agg prog 209 true := ⟨Tryz.isAgg209⟩
theorem fS209 : Sz prog 209 4 := ⟨Tryz.sizeOf209⟩
theorem fB209 : By prog 209 64 := ⟨λ w => ⟨_, Tryz.typeInfo209 w, rfl⟩⟩
theorem fZ209 : Zr prog 209 (.agg [.string { data := #[] }, .string { data := #[] }, .string { data := #[] }, .string { data := #[] }].toArray) := ⟨Tryz.zeroValue209⟩
theorem fF209_0 : Fld prog 209 0 0 := Fld.of Tryz.underlying209 rfl Tryz.sizeOf9 rfl rfl
theorem fF209_1 : Fld prog 209 1 1 := Fld.of Tryz.underlying209 rfl Tryz.sizeOf30 rfl rfl
theorem fF209_2 : Fld prog 209 2 3 := Fld.of Tryz.underlying209 rfl Tryz.sizeOf9 rfl rfl
theorem fU212 : Und prog 212 (.map 252 3) := ⟨Tryz.underlying212⟩
theorem fA212 : Agg prog 212 false := ⟨Tryz.isAgg212⟩
theorem fU215 : Und prog 215 (.map 289 3) := ⟨Tryz.underlying215⟩
theorem fA215 : Agg prog 215 false := ⟨Tryz.isAgg215⟩
theorem fF217_0 : Fld prog 217 0 0 := Fld.of Tryz.underlying217 rfl Tryz.sizeOf25 rfl rfl
theorem fF217_1 : Fld prog 217 1 2 := Fld.of Tryz.underlying217 rfl Tryz.sizeOf212 rfl rfl
theorem fF217_2 : Fld prog 217 2 3 := Fld.of Tryz.underlying217 rfl Tryz.sizeOf33 rfl rfl
theorem fF217_3 : Fld prog 217 3 4 := Fld.of Tryz.underlying217 rfl Tryz.sizeOf31 rfl rfl
theorem fF217_4 : Fld prog 217 4 5 := Fld.of Tryz.underlying217 rfl Tryz.sizeOf215 rfl rfl
theorem fF217_5 : Fld prog 217 5 6 := Fld.of Tryz.underlying217 rfl Tryz.sizeOf55 rfl rfl
theorem fF217_6 : Fld prog 217 6 8 := Fld.of Tryz.underlying217 rfl Tryz.sizeOf3 rfl rfl
theorem fL217 : Bld prog 217 [(0, 2), (2, 1), (3, 1), (4, 1), (5, 1), (6, 2), (8, 1)] [sZ, sZ, .map none, .pointer none, .int .u64 0, .map none, sZ, .int .i64 0, .int .i64 0] := ⟨_, Tryz.underlying217, Tryz.zeroValue217, λ w => by simp [Tryz.sizeOf212, Tryz.sizeOf215, Tryz.sizeOf25, Tryz.sizeOf3, Tryz.sizeOf31, Tryz.sizeOf33, Tryz.sizeOf55]⟩
theorem fU226 : Und prog 226 (.slice 301) := ⟨Tryz.underlying226⟩
theorem fA226 : Agg prog 226 false := ⟨Tryz.isAgg226⟩
theorem fS226 : Sz prog 226 1 := ⟨Tryz.sizeOf226⟩
theorem fF228_0 : Fld prog 228 0 0 := Fld.of Tryz.underlying228 rfl Tryz.sizeOf55 rfl rfl
theorem fF228_1 : Fld prog 228 1 2 := Fld.of Tryz.underlying228 rfl Tryz.sizeOf9 rfl rfl
theorem fF228_2 : Fld prog 228 2 3 := Fld.of Tryz.underlying228 rfl Tryz.sizeOf106 rfl rfl
theorem fF228_3 : Fld prog 228 3 4 := Fld.of Tryz.underlying228 rfl Tryz.sizeOf65 rfl rfl
theorem fF228_4 : Fld prog 228 4 5 := Fld.of Tryz.underlying228 rfl Tryz.sizeOf106 rfl rfl
theorem fF228_5 : Fld prog 228 5 6 := Fld.of Tryz.underlying228 rfl Tryz.sizeOf226 rfl rfl
theorem fL228 : Bld prog 228 [(0, 2), (2, 1), (3, 1), (4, 1), (5, 1), (6, 1)] [sZ, .int .i64 0, .string { data := #[] }, sZ, sZ, sZ, sZ] := ⟨_, Tryz.underlying228, Tryz.zeroValue228, λ w => by simp [Tryz.sizeOf106, Tryz.sizeOf226, Tryz.sizeOf55, Tryz.sizeOf65, Tryz.sizeOf9]⟩
theorem fA241 : Agg prog 241 true := ⟨Tryz.isAgg241⟩
theorem fS241 : Sz prog 241 9 := ⟨Tryz.sizeOf241⟩
theorem fB241 : By prog 241 128 := ⟨λ w => ⟨_, Tryz.typeInfo241 w, rfl⟩⟩
theorem fZ241 : Zr prog 241 (.agg [.string { data := #[] }, .string { data := #[] }, .string { data := #[] }, .string { data := #[] }, .string { data := #[] }, .string { data := #[] }, .string { data := #[] }, .int .u64 0, .int .u64 0].toArray) := ⟨Tryz.zeroValue241⟩
theorem fF241_0 : Fld prog 241 0 0 := Fld.of Tryz.underlying241 rfl Tryz.sizeOf151 rfl rfl
theorem fF241_1 : Fld prog 241 1 7 := Fld.of Tryz.underlying241 rfl Tryz.sizeOf31 rfl rfl
theorem fF241_2 : Fld prog 241 2 8 := Fld.of Tryz.underlying241 rfl Tryz.sizeOf31 rfl rfl
theorem fL241 : Bld prog 241 [(0, 7), (7, 1), (8, 1)] [.string { data := #[] }, .string { data := #[] }, .string { data := #[] }, .string { data := #[] }, .string { data := #[] }, .string { data := #[] }, .string { data := #[] }, .int .u64 0, .int .u64 0] := ⟨_, Tryz.underlying241, Tryz.zeroValue241, λ w => by simp [Tryz.sizeOf151, Tryz.sizeOf31]⟩
theorem fA252 : Agg prog 252 true := ⟨Tryz.isAgg252⟩
theorem fS252 : Sz prog 252 2 := ⟨Tryz.sizeOf252⟩
theorem fB252 : By prog 252 32 := ⟨λ w => ⟨_, Tryz.typeInfo252 w, rfl⟩⟩
theorem fZ252 : Zr prog 252 (.agg [.string { data := #[] }, .string { data := #[] }].toArray) := ⟨Tryz.zeroValue252⟩
theorem fF252_0 : Fld prog 252 0 0 := Fld.of Tryz.underlying252 rfl Tryz.sizeOf9 rfl rfl
theorem fF252_1 : Fld prog 252 1 1 := Fld.of Tryz.underlying252 rfl Tryz.sizeOf9 rfl rfl
theorem fL252 : Bld prog 252 [(0, 1), (1, 1)] [.string { data := #[] }, .string { data := #[] }] := ⟨_, Tryz.underlying252, Tryz.zeroValue252, λ w => by simp [Tryz.sizeOf9]⟩
theorem fS256 : Sz prog 256 4 := ⟨Tryz.sizeOf256⟩
theorem fB256 : By prog 256 80 := ⟨λ w => ⟨_, Tryz.typeInfo256 w, rfl⟩⟩
theorem fZ256 : Zr prog 256 (.agg [.string { data := #[] }, .string { data := #[] }, sZ, sZ].toArray) := ⟨Tryz.zeroValue256⟩
theorem fF256_0 : Fld prog 256 0 0 := Fld.of Tryz.underlying256 rfl Tryz.sizeOf9 rfl rfl
theorem fF256_1 : Fld prog 256 1 1 := Fld.of Tryz.underlying256 rfl Tryz.sizeOf207 rfl rfl
theorem fL256 : Bld prog 256 [(0, 1), (1, 3)] [.string { data := #[] }, .string { data := #[] }, sZ, sZ] := ⟨_, Tryz.underlying256, Tryz.zeroValue256, λ w => by simp [Tryz.sizeOf207, Tryz.sizeOf9]⟩
theorem fA259 : Agg prog 259 true := ⟨Tryz.isAgg259⟩
theorem fS259 : Sz prog 259 3 := ⟨Tryz.sizeOf259⟩
theorem fB259 : By prog 259 24 := ⟨λ w => ⟨_, Tryz.typeInfo259 w, rfl⟩⟩
theorem fZ259 : Zr prog 259 (.agg [.int .i64 0, .int .i64 0, .bool false].toArray) := ⟨Tryz.zeroValue259⟩
theorem fF259_0 : Fld prog 259 0 0 := Fld.of Tryz.underlying259 rfl Tryz.sizeOf3 rfl rfl
theorem fF259_1 : Fld prog 259 1 1 := Fld.of Tryz.underlying259 rfl Tryz.sizeOf3 rfl rfl
theorem fF259_2 : Fld prog 259 2 2 := Fld.of Tryz.underlying259 rfl Tryz.sizeOf4 rfl rfl
theorem fL259 : Bld prog 259 [(0, 1), (1, 1), (2, 1)] [.int .i64 0, .int .i64 0, .bool false] := ⟨_, Tryz.underlying259, Tryz.zeroValue259, λ w => by simp [Tryz.sizeOf3, Tryz.sizeOf4]⟩
theorem fA262 : Agg prog 262 true := ⟨Tryz.isAgg262⟩
theorem fS262 : Sz prog 262 3 := ⟨Tryz.sizeOf262⟩
theorem fZ262 : Zr prog 262 (.agg [.string { data := #[] }, .string { data := #[] }, .string { data := #[] }].toArray) := ⟨Tryz.zeroValue262⟩
theorem fL262 : Bld prog 262 [(0, 2), (2, 1)] [.string { data := #[] }, .string { data := #[] }, .string { data := #[] }] := ⟨_, Tryz.underlying262, Tryz.zeroValue262, λ w => by simp [Tryz.sizeOf30, Tryz.sizeOf9]⟩
theorem fU263 : Und prog 263 (.slice 197) := ⟨Tryz.underlying263⟩
theorem fZ263 : Zr prog 263 (sZ) := ⟨Tryz.zeroValue263⟩
theorem fA271 : Agg prog 271 false := ⟨Tryz.isAgg271⟩
theorem fS271 : Sz prog 271 1 := ⟨Tryz.sizeOf271⟩
theorem fZ271 : Zr prog 271 (.nilFunc) := ⟨Tryz.zeroValue271⟩
theorem fU272 : Und prog 272 (.map 151 4) := ⟨Tryz.underlying272⟩
theorem fU279 : Und prog 279 (.slice 342) := ⟨Tryz.underlying279⟩
theorem fA289 : Agg prog 289 true := ⟨Tryz.isAgg289⟩
theorem fS289 : Sz prog 289 3 := ⟨Tryz.sizeOf289⟩
theorem fZ289 : Zr prog 289 (.agg [.string { data := #[] }, .string { data := #[] }, .string { data := #[] }].toArray) := ⟨Tryz.zeroValue289⟩
theorem fL289 : Bld prog 289 [(0, 2), (2, 1)] [.string { data := #[] }, .string { data := #[] }, .string { data := #[] }] := ⟨_, Tryz.underlying289, Tryz.zeroValue289, λ w => by simp [Tryz.sizeOf30, Tryz.sizeOf9]⟩
theorem fU295 : Und prog 295 (.map 3 4) := ⟨Tryz.underlying295⟩
theorem fU299 : Und prog 299 (.int .u64) := ⟨Tryz.underlying299⟩
theorem fA301 : Agg prog 301 true := ⟨Tryz.isAgg301⟩
theorem fS301 : Sz prog 301 2 := ⟨Tryz.sizeOf301⟩
theorem fB301 : By prog 301 16 := ⟨λ w => ⟨_, Tryz.typeInfo301 w, rfl⟩⟩
theorem fZ301 : Zr prog 301 (.agg [.int .i64 0, .int .i64 0].toArray) := ⟨Tryz.zeroValue301⟩
theorem fF301_0 : Fld prog 301 0 0 := Fld.of Tryz.underlying301 rfl Tryz.sizeOf3 rfl rfl
theorem fF301_1 : Fld prog 301 1 1 := Fld.of Tryz.underlying301 rfl Tryz.sizeOf3 rfl rfl
theorem fL301 : Bld prog 301 [(0, 1), (1, 1)] [.int .i64 0, .int .i64 0] := ⟨_, Tryz.underlying301, Tryz.zeroValue301, λ w => by simp [Tryz.sizeOf3]⟩
theorem fU303 : Und prog 303 (.pointer 226) := ⟨Tryz.underlying303⟩
theorem fU333 : Und prog 333 (.map 252 338) := ⟨Tryz.underlying333⟩
theorem fA333 : Agg prog 333 false := ⟨Tryz.isAgg333⟩
theorem fF335_0 : Fld prog 335 0 0 := Fld.of Tryz.underlying335 rfl Tryz.sizeOf25 rfl rfl
theorem fF335_1 : Fld prog 335 1 2 := Fld.of Tryz.underlying335 rfl Tryz.sizeOf333 rfl rfl
theorem fL335 : Bld prog 335 [(0, 2), (2, 1)] [sZ, sZ, .map none] := ⟨_, Tryz.underlying335, Tryz.zeroValue335, λ w => by simp [Tryz.sizeOf25, Tryz.sizeOf333]⟩
theorem fU336 : Und prog 336 (.map 9 4) := ⟨Tryz.underlying336⟩
theorem fA338 : Agg prog 338 true := ⟨Tryz.isAgg338⟩
theorem fS338 : Sz prog 338 2 := ⟨Tryz.sizeOf338⟩
theorem fB338 : By prog 338 16 := ⟨λ w => ⟨_, Tryz.typeInfo338 w, rfl⟩⟩
theorem fZ338 : Zr prog 338 (.agg [.int .i64 0, .int .i64 0].toArray) := ⟨Tryz.zeroValue338⟩
theorem fF338_0 : Fld prog 338 0 0 := Fld.of Tryz.underlying338 rfl Tryz.sizeOf3 rfl rfl
theorem fF338_1 : Fld prog 338 1 1 := Fld.of Tryz.underlying338 rfl Tryz.sizeOf3 rfl rfl
theorem fL338 : Bld prog 338 [(0, 1), (1, 1)] [.int .i64 0, .int .i64 0] := ⟨_, Tryz.underlying338, Tryz.zeroValue338, λ w => by simp [Tryz.sizeOf3]⟩
theorem fA342 : Agg prog 342 true := ⟨Tryz.isAgg342⟩
theorem fS342 : Sz prog 342 5 := ⟨Tryz.sizeOf342⟩
theorem fB342 : By prog 342 40 := ⟨λ w => ⟨_, Tryz.typeInfo342 w, rfl⟩⟩
theorem fZ342 : Zr prog 342 (.agg [.int .i64 0, .int .i64 0, .int .i64 0, .int .i64 0, .bool false].toArray) := ⟨Tryz.zeroValue342⟩
theorem fF342_0 : Fld prog 342 0 0 := Fld.of Tryz.underlying342 rfl Tryz.sizeOf338 rfl rfl
theorem fF342_1 : Fld prog 342 1 2 := Fld.of Tryz.underlying342 rfl Tryz.sizeOf338 rfl rfl
theorem fF342_2 : Fld prog 342 2 4 := Fld.of Tryz.underlying342 rfl Tryz.sizeOf4 rfl rfl
theorem fL342 : Bld prog 342 [(0, 2), (2, 2), (4, 1)] [.int .i64 0, .int .i64 0, .int .i64 0, .int .i64 0, .bool false] := ⟨_, Tryz.underlying342, Tryz.zeroValue342, λ w => by simp [Tryz.sizeOf338, Tryz.sizeOf4]⟩
theorem fU389 : Und prog 389 (.slice 338) := ⟨Tryz.underlying389⟩
theorem fU393 : Und prog 393 (.int .u64) := ⟨Tryz.underlying393⟩
theorem fA393 : Agg prog 393 false := ⟨Tryz.isAgg393⟩
theorem fS393 : Sz prog 393 1 := ⟨Tryz.sizeOf393⟩
theorem fZ393 : Zr prog 393 (.int .u64 0) := ⟨Tryz.zeroValue393⟩
theorem fQ3 : EqT prog 3 1 [.i .i64] false := EqT.int fU3 fA3
theorem fQ9 : EqT prog 9 1 [.s] false := EqT.str fU9 fA9
theorem fQ30 : EqT prog 30 2 [.s, .s] true := EqT.struct (n := 1) Tryz.underlying30 Tryz.stoodInHeld30 fA30 fS30 (EqFs.more fQ9 (EqFs.more fQ9 EqFs.nil))
theorem fQ31 : EqT prog 31 1 [.i .u64] false := EqT.int fU31 fA31
theorem fQ75 : EqT prog 75 3 [.i .u64, .i .i64, .s, .s, .s, .s] true := EqT.struct (n := 2) Tryz.underlying75 Tryz.stoodInHeld75 fA75 fS75 (EqFs.more fQ31 (EqFs.more fQ3 (EqFs.more fQ30 (EqFs.more fQ9 (EqFs.more fQ9 EqFs.nil)))))
theorem fQ149 : EqT prog 149 3 [.s, .s, .s, .s] true := EqT.struct (n := 2) Tryz.underlying149 Tryz.stoodInHeld149 fA149 fS149 (EqFs.more fQ9 (EqFs.more fQ30 (EqFs.more fQ9 EqFs.nil)))
theorem fG149 : EqG prog 149 := ⟨Tryz.eqGuardType149⟩
theorem fQ151 : EqT prog 151 4 [.s, .s, .s, .s, .s, .s, .s] true := EqT.struct (n := 3) Tryz.underlying151 Tryz.stoodInHeld151 fA151 fS151 (EqFs.more fQ30 (EqFs.more fQ9 (EqFs.more fQ149 EqFs.nil)))
theorem fG151 : EqG prog 151 := ⟨Tryz.eqGuardType151⟩
theorem fQ252 : EqT prog 252 2 [.s, .s] true := EqT.struct (n := 1) Tryz.underlying252 Tryz.stoodInHeld252 fA252 fS252 (EqFs.more fQ9 (EqFs.more fQ9 EqFs.nil))
theorem fG252 : EqG prog 252 := ⟨Tryz.eqGuardType252⟩
theorem fQ262 : EqT prog 262 3 [.s, .s, .s] true := EqT.struct (n := 2) Tryz.underlying262 Tryz.stoodInHeld262 fA262 fS262 (EqFs.more fQ30 (EqFs.more fQ9 EqFs.nil))
theorem fQ289 : EqT prog 289 3 [.s, .s, .s] true := EqT.struct (n := 2) Tryz.underlying289 Tryz.stoodInHeld289 fA289 fS289 (EqFs.more fQ30 (EqFs.more fQ9 EqFs.nil))
theorem fE19 : Ent prog 19 := ⟨Tryz.call19⟩
theorem fE26 : Ent prog 26 := ⟨Tryz.call26⟩
theorem fE27 : Ent prog 27 := ⟨Tryz.call27⟩
theorem fE28 : Ent prog 28 := ⟨Tryz.call28⟩
theorem fE29 : Ent prog 29 := ⟨Tryz.call29⟩
theorem fE30 : Ent prog 30 := ⟨Tryz.call30⟩
theorem fE31 : Ent prog 31 := ⟨Tryz.call31⟩
theorem fE32 : Ent prog 32 := ⟨Tryz.call32⟩
theorem fE33 : Ent prog 33 := ⟨Tryz.call33⟩
theorem fE34 : Ent prog 34 := ⟨Tryz.call34⟩
theorem fE35 : Ent prog 35 := ⟨Tryz.call35⟩
theorem fE36 : Ent prog 36 := ⟨Tryz.call36⟩
theorem fE38 : Ent prog 38 := ⟨Tryz.call38⟩
theorem fE39 : Ent prog 39 := ⟨Tryz.call39⟩
theorem fE40 : Ent prog 40 := ⟨Tryz.call40⟩
theorem fE42 : Ent prog 42 := ⟨Tryz.call42⟩
theorem fE44 : Ent prog 44 := ⟨Tryz.call44⟩
theorem fE47 : Ent prog 47 := ⟨Tryz.call47⟩
theorem fE48 : Ent prog 48 := ⟨Tryz.call48⟩
theorem fE56 : Ent prog 56 := ⟨Tryz.call56⟩
theorem fE58 : Ent prog 58 := ⟨Tryz.call58⟩
theorem fE60 : Ent prog 60 := ⟨Tryz.call60⟩
theorem fE69 : Ent prog 69 := ⟨Tryz.call69⟩
theorem fE82 : Ent prog 82 := ⟨Tryz.call82⟩
theorem fE83 : Ent prog 83 := ⟨Tryz.call83⟩
theorem fE84 : Ent prog 84 := ⟨Tryz.call84⟩
theorem fE85 : Ent prog 85 := ⟨Tryz.call85⟩
theorem fE86 : Ent prog 86 := ⟨Tryz.call86⟩
theorem fE87 : Ent prog 87 := ⟨Tryz.call87⟩
theorem fE91 : Ent prog 91 := ⟨Tryz.call91⟩
theorem fE92 : Ent prog 92 := ⟨Tryz.call92⟩
theorem fE93 : Ent prog 93 := ⟨Tryz.call93⟩
theorem fE94 : Ent prog 94 := ⟨Tryz.call94⟩
theorem fE95 : Ent prog 95 := ⟨Tryz.call95⟩
theorem fE96 : Ent prog 96 := ⟨Tryz.call96⟩
theorem fE97 : Ent prog 97 := ⟨Tryz.call97⟩
theorem fE98 : Ent prog 98 := ⟨Tryz.call98⟩
theorem fE99 : Ent prog 99 := ⟨Tryz.call99⟩
theorem fE100 : Ent prog 100 := ⟨Tryz.call100⟩
theorem fE101 : Ent prog 101 := ⟨Tryz.call101⟩
theorem fE102 : Ent prog 102 := ⟨Tryz.call102⟩
theorem fE103 : Ent prog 103 := ⟨Tryz.call103⟩
theorem fE104 : Ent prog 104 := ⟨Tryz.call104⟩
theorem fE105 : Ent prog 105 := ⟨Tryz.call105⟩
theorem fE106 : Ent prog 106 := ⟨Tryz.call106⟩
theorem fE110 : Ent prog 110 := ⟨Tryz.call110⟩
theorem fE111 : Ent prog 111 := ⟨Tryz.call111⟩
theorem fE112 : Ent prog 112 := ⟨Tryz.call112⟩
theorem fE113 : Ent prog 113 := ⟨Tryz.call113⟩
theorem fE114 : Ent prog 114 := ⟨Tryz.call114⟩
theorem fE119 : Ent prog 119 := ⟨Tryz.call119⟩
theorem fE123 : Ent prog 123 := ⟨Tryz.call123⟩
theorem fE124 : Ent prog 124 := ⟨Tryz.call124⟩
theorem fE125 : Ent prog 125 := ⟨Tryz.call125⟩
theorem fE126 : Ent prog 126 := ⟨Tryz.call126⟩
theorem fE132 : Ent prog 132 := ⟨Tryz.call132⟩
theorem fE133 : Ent prog 133 := ⟨Tryz.call133⟩
theorem fE134 : Ent prog 134 := ⟨Tryz.call134⟩
theorem fE135 : Ent prog 135 := ⟨Tryz.call135⟩
theorem fE136 : Ent prog 136 := ⟨Tryz.call136⟩
theorem fE137 : Ent prog 137 := ⟨Tryz.call137⟩
theorem fE139 : Ent prog 139 := ⟨Tryz.call139⟩
theorem fE140 : Ent prog 140 := ⟨Tryz.call140⟩
theorem fE141 : Ent prog 141 := ⟨Tryz.call141⟩
theorem fE142 : Ent prog 142 := ⟨Tryz.call142⟩
theorem fE143 : Ent prog 143 := ⟨Tryz.call143⟩
theorem fE144 : Ent prog 144 := ⟨Tryz.call144⟩
theorem fE145 : Ent prog 145 := ⟨Tryz.call145⟩
theorem fE146 : Ent prog 146 := ⟨Tryz.call146⟩
theorem fE147 : Ent prog 147 := ⟨Tryz.call147⟩
theorem fE148 : Ent prog 148 := ⟨Tryz.call148⟩
theorem fE149 : Ent prog 149 := ⟨Tryz.call149⟩
theorem fE150 : Ent prog 150 := ⟨Tryz.call150⟩
theorem fE151 : Ent prog 151 := ⟨Tryz.call151⟩
theorem fE152 : Ent prog 152 := ⟨Tryz.call152⟩
theorem fE153 : Ent prog 153 := ⟨Tryz.call153⟩
theorem fE154 : Ent prog 154 := ⟨Tryz.call154⟩
theorem fE155 : Ent prog 155 := ⟨Tryz.call155⟩
theorem fE156 : Ent prog 156 := ⟨Tryz.call156⟩
theorem fE157 : Ent prog 157 := ⟨Tryz.call157⟩
theorem fE158 : Ent prog 158 := ⟨Tryz.call158⟩
theorem fE159 : Ent prog 159 := ⟨Tryz.call159⟩
theorem fE160 : Ent prog 160 := ⟨Tryz.call160⟩
theorem fE161 : Ent prog 161 := ⟨Tryz.call161⟩
theorem fE162 : Ent prog 162 := ⟨Tryz.call162⟩
theorem fE163 : Ent prog 163 := ⟨Tryz.call163⟩
theorem fE164 : Ent prog 164 := ⟨Tryz.call164⟩
theorem fE165 : Ent prog 165 := ⟨Tryz.call165⟩
theorem fE166 : Ent prog 166 := ⟨Tryz.call166⟩
theorem fE168 : Ent prog 168 := ⟨Tryz.call168⟩
theorem fE169 : Ent prog 169 := ⟨Tryz.call169⟩
theorem fE170 : Ent prog 170 := ⟨Tryz.call170⟩
theorem fE171 : Ent prog 171 := ⟨Tryz.call171⟩
theorem fE172 : Ent prog 172 := ⟨Tryz.call172⟩
theorem fE173 : Ent prog 173 := ⟨Tryz.call173⟩
theorem fE180 : Ent prog 180 := ⟨Tryz.call180⟩
theorem fE181 : Ent prog 181 := ⟨Tryz.call181⟩
theorem fE182 : Ent prog 182 := ⟨Tryz.call182⟩
theorem fE183 : Ent prog 183 := ⟨Tryz.call183⟩
theorem fE184 : Ent prog 184 := ⟨Tryz.call184⟩
theorem fE185 : Ent prog 185 := ⟨Tryz.call185⟩
theorem fE186 : Ent prog 186 := ⟨Tryz.call186⟩
theorem fE187 : Ent prog 187 := ⟨Tryz.call187⟩
theorem fE188 : Ent prog 188 := ⟨Tryz.call188⟩
theorem fE189 : Ent prog 189 := ⟨Tryz.call189⟩
theorem fE190 : Ent prog 190 := ⟨Tryz.call190⟩
theorem fE191 : Ent prog 191 := ⟨Tryz.call191⟩
theorem fE192 : Ent prog 192 := ⟨Tryz.call192⟩
theorem fE193 : Ent prog 193 := ⟨Tryz.call193⟩
theorem fE194 : Ent prog 194 := ⟨Tryz.call194⟩
theorem fE195 : Ent prog 195 := ⟨Tryz.call195⟩
theorem fE196 : Ent prog 196 := ⟨Tryz.call196⟩
theorem fE197 : Ent prog 197 := ⟨Tryz.call197⟩
theorem fE198 : Ent prog 198 := ⟨Tryz.call198⟩
theorem fE199 : Ent prog 199 := ⟨Tryz.call199⟩
theorem fE200 : Ent prog 200 := ⟨Tryz.call200⟩
theorem fE201 : Ent prog 201 := ⟨Tryz.call201⟩
theorem fE202 : Ent prog 202 := ⟨Tryz.call202⟩
theorem fE203 : Ent prog 203 := ⟨Tryz.call203⟩
theorem fE215 : Ent prog 215 := ⟨Tryz.call215⟩
theorem fE216 : Ent prog 216 := ⟨Tryz.call216⟩
theorem fE217 : Ent prog 217 := ⟨Tryz.call217⟩
theorem fE218 : Ent prog 218 := ⟨Tryz.call218⟩
theorem fE232 : Ent prog 232 := ⟨Tryz.call232⟩
theorem fE233 : Ent prog 233 := ⟨Tryz.call233⟩
theorem fE234 : Ent prog 234 := ⟨Tryz.call234⟩
theorem fE235 : Ent prog 235 := ⟨Tryz.call235⟩
theorem fE236 : Ent prog 236 := ⟨Tryz.call236⟩
theorem fE237 : Ent prog 237 := ⟨Tryz.call237⟩
theorem fE238 : Ent prog 238 := ⟨Tryz.call238⟩
theorem fE239 : Ent prog 239 := ⟨Tryz.call239⟩
theorem fE240 : Ent prog 240 := ⟨Tryz.call240⟩
theorem fE241 : Ent prog 241 := ⟨Tryz.call241⟩
theorem fE242 : Ent prog 242 := ⟨Tryz.call242⟩
theorem fE243 : Ent prog 243 := ⟨Tryz.call243⟩
theorem fE244 : Ent prog 244 := ⟨Tryz.call244⟩
theorem fE245 : Ent prog 245 := ⟨Tryz.call245⟩
theorem fE246 : Ent prog 246 := ⟨Tryz.call246⟩
theorem fE247 : Ent prog 247 := ⟨Tryz.call247⟩
theorem fE248 : Ent prog 248 := ⟨Tryz.call248⟩
theorem fE249 : Ent prog 249 := ⟨Tryz.call249⟩
theorem fE250 : Ent prog 250 := ⟨Tryz.call250⟩
theorem fE251 : Ent prog 251 := ⟨Tryz.call251⟩
theorem fE252 : Ent prog 252 := ⟨Tryz.call252⟩
theorem fE253 : Ent prog 253 := ⟨Tryz.call253⟩
theorem fE254 : Ent prog 254 := ⟨Tryz.call254⟩
theorem fE255 : Ent prog 255 := ⟨Tryz.call255⟩
theorem fE257 : Ent prog 257 := ⟨Tryz.call257⟩
theorem fE258 : Ent prog 258 := ⟨Tryz.call258⟩
theorem fE268 : Ent prog 268 := ⟨Tryz.call268⟩
theorem fE269 : Ent prog 269 := ⟨Tryz.call269⟩
theorem fE270 : Ent prog 270 := ⟨Tryz.call270⟩
theorem fE271 : Ent prog 271 := ⟨Tryz.call271⟩
theorem fE272 : Ent prog 272 := ⟨Tryz.call272⟩
theorem fE273 : Ent prog 273 := ⟨Tryz.call273⟩
theorem fE274 : Ent prog 274 := ⟨Tryz.call274⟩
theorem fE275 : Ent prog 275 := ⟨Tryz.call275⟩
theorem fE282 : Ent prog 282 := ⟨Tryz.call282⟩
theorem fE284 : Ent prog 284 := ⟨Tryz.call284⟩
theorem fE309 : Ent prog 309 := ⟨Tryz.call309⟩
theorem fE310 : Ent prog 310 := ⟨Tryz.call310⟩
theorem fE311 : Ent prog 311 := ⟨Tryz.call311⟩
theorem fE312 : Ent prog 312 := ⟨Tryz.call312⟩
attribute [instance] fU3 fA3 fS3 fB3 fZ3 fU4 fA4 fS4 fB4 fZ4 fU9 fA9 fS9 fB9 fZ9 fU22 fA22 fS22 fU23 fA23 fS23 fA25 fS25 fZ25 fF25_0 fF25_1 fL25 fU26 fA26 fA28 fS28 fF28_0 fF28_1 fA30 fS30 fF30_0 fF30_1 fU31 fA31 fS31 fU32 fU33 fA33 fU39 fA39 fS39 fU53 fA53 fS53 fA55 fS55 fZ55 fF55_0 fF55_1 fL55 fU57 fA57 fS57 fU58 fA58 fS58 fA60 fS60 fF60_0 fF60_1 fF60_2 fF60_3 fF60_4 fF60_5 fL60 fA62 fS62 fB62 fZ62 fF62_0 fF62_1 fF62_2 fF62_3 fF64_0 fF64_1 fF64_2 fF64_3 fF64_4 fU65 fA65 fS65 fU68 fA68 fU69 fA69 fU70 fA70 fS70 fF72_0 fF72_1 fF72_2 fF72_3 fL72 fA75 fS75 fB75 fZ75 fL75 fU86 fA86 fU87 fA87 fF89_0 fF89_1 fF89_2 fF89_3 fF89_4 fF89_5 fL89 fU106 fA106 fU114 fA114 fS114 fF116_0 fF116_1 fF116_2 fL116 fU119 fA119 fS119 fA123 fS123 fB123 fZ123 fF123_0 fF123_1 fF123_2 fF123_3 fF123_4 fF123_5 fF123_6 fL123 fU124 fA124 fS124 fF126_0 fF126_1 fF126_2 fL126 fU127 fA127 fS127 fB127 fZ127 fA149 fS149 fB149 fZ149 fF149_0 fF149_1 fF149_2 fL149 fA151 fS151 fB151 fZ151 fF151_0 fF151_1 fF151_2 fL151 fA153 fS153 fZ153 fF153_0 fF153_1 fU164 fA168 fS168 fB168 fZ168 fF168_0 fF168_1 fF168_2 fF168_3 fF168_4 fU179 fU182 fU185 fA185 fS185 fA187 fS187 fB187 fZ187 fF187_0 fF187_1 fL187 fA196 fS196 fF196_0 fF196_1 fF196_2 fL196 fU197 fA197 fS197 fB197 fZ197 fF200_0 fF200_1 fL200 fA202 fS202 fB202 fZ202 fF202_0 fF202_1 fL202 fU205 fA205 fS205 fA207 fS207 fB207 fZ207 fF207_0 fF207_1 fF207_2 fL207 fA209 fS209 fB209 fZ209 fF209_0 fF209_1 fF209_2 fU212 fA212 fU215 fA215 fF217_0 fF217_1 fF217_2 fF217_3 fF217_4 fF217_5 fF217_6 fL217 fU226 fA226 fS226 fF228_0 fF228_1 fF228_2 fF228_3 fF228_4 fF228_5 fL228 fA241 fS241 fB241 fZ241 fF241_0 fF241_1 fF241_2 fL241 fA252 fS252 fB252 fZ252 fF252_0 fF252_1 fL252 fS256 fB256 fZ256 fF256_0 fF256_1 fL256 fA259 fS259 fB259 fZ259 fF259_0 fF259_1 fF259_2 fL259 fA262 fS262 fZ262 fL262 fU263 fZ263 fA271 fS271 fZ271 fU272 fU279 fA289 fS289 fZ289 fL289 fU295 fU299 fA301 fS301 fB301 fZ301 fF301_0 fF301_1 fL301 fU303 fU333 fA333 fF335_0 fF335_1 fL335 fU336 fA338 fS338 fB338 fZ338 fF338_0 fF338_1 fL338 fA342 fS342 fB342 fZ342 fF342_0 fF342_1 fF342_2 fL342 fU389 fU393 fA393 fS393 fZ393 fQ3 fQ9 fQ30 fQ31 fQ75 fQ149 fG149 fQ151 fG151 fQ252 fG252 fQ262 fQ289 fE19 fE26 fE27 fE28 fE29 fE30 fE31 fE32 fE33 fE34 fE35 fE36 fE38 fE39 fE40 fE42 fE44 fE47 fE48 fE56 fE58 fE60 fE69 fE82 fE83 fE84 fE85 fE86 fE87 fE91 fE92 fE93 fE94 fE95 fE96 fE97 fE98 fE99 fE100 fE101 fE102 fE103 fE104 fE105 fE106 fE110 fE111 fE112 fE113 fE114 fE119 fE123 fE124 fE125 fE126 fE132 fE133 fE134 fE135 fE136 fE137 fE139 fE140 fE141 fE142 fE143 fE144 fE145 fE146 fE147 fE148 fE149 fE150 fE151 fE152 fE153 fE154 fE155 fE156 fE157 fE158 fE159 fE160 fE161 fE162 fE163 fE164 fE165 fE166 fE168 fE169 fE170 fE171 fE172 fE173 fE180 fE181 fE182 fE183 fE184 fE185 fE186 fE187 fE188 fE189 fE190 fE191 fE192 fE193 fE194 fE195 fE196 fE197 fE198 fE199 fE200 fE201 fE202 fE203 fE215 fE216 fE217 fE218 fE232 fE233 fE234 fE235 fE236 fE237 fE238 fE239 fE240 fE241 fE242 fE243 fE244 fE245 fE246 fE247 fE248 fE249 fE250 fE251 fE252 fE253 fE254 fE255 fE257 fE258 fE268 fE269 fE270 fE271 fE272 fE273 fE274 fE275 fE282 fE284 fE309 fE310 fE311 fE312
theorem mixed : Tryz.prog.follows .mixedOrders = true := by kernel_rfl
structure HpI (P : Program) (R : Rds) (t : TypeId) (v : Value) {α : Type} (lt : α → α → Bool) (I : List α → Seg → Prop) : Prop where
 bnd : ∀ L T, I L T → L.length ≤ 1000000000
 len : ∀ L T, I L T → ISpec P t v "Len" [] R T fun u T' => u = .int .i64 L.length ∧ I L T'
 less : ∀ L T (i k : Nat) x y, I L T → L[i]? = some x → L[k]? = some y → ISpec P t v "Less" [.int .i64 i, .int .i64 k] R T fun u T' => u = .bool (lt x y) ∧ I L T'
 swap : ∀ L T (i k : Nat), I L T → i < L.length → k < L.length → ISpec P t v "Swap" [.int .i64 i, .int .i64 k] R T fun _ T' => I (swp L i k) T'
section
variable {R : Rds} {t : TypeId} {v : Value} {α : Type} {lt : α -> α -> Bool} {I : List α -> Seg -> Prop}
theorem up_spec (hi : HpI Tryz.prog R t v lt I) (so : SO lt) (L : List α) (T : Seg) (h : I L T) (j : Nat) (hj : j < L.length) :
  Spec Tryz.prog 218 [.iface t v, .int .i64 j] R [T] λ u H' => ∃ T', H' = [T'] /\ u = .tuple #[] /\ ∃ L', I L' T' /\ L'.Perm L /\ (∀ k, j < k -> L'[k]? = L[k]?) /\ ∀ n, n <= L.length -> j < n -> Up lt L n j -> Heap lt L' n := by
 have hb := hi.bnd L T h
 refine Spec.body Tryz.func218 rfl Tryz.results218 Tryz.ntmps218 rfl<|.block<|.loop (X := Nat × List α × Seg) (λ y => I y.2.1 y.2.2 /\ y.1 <= j /\ y.2.1.Perm L /\ (∀ k, j < k -> y.2.1[k]? = L[k]?) /\ ∀ n, n <= L.length -> j < n -> Up lt L n j -> Up lt y.2.1 n y.1) (λ y => [(0, .iface t v), (1, iN y.1)]) (λ y => [y.2.2]) (λ y => y.1) (j, L, T) ⟨h, Nat.le_refl _, .refl _, λ _ _ => rfl, λ _ _ _ h => h⟩ kE.c.c rH ?_
 rintro ⟨i, L1, T1⟩ ⟨hI, hij, hP, hS, hU⟩
 simp only at hI hij hP hS hU ⊢
 have hl := hP.length_eq
 obtain ⟨x, hx⟩ : ∃ x, L1[i]? = some x := ⟨_, gge (by omega)⟩
 obtain ⟨y, hy⟩ : ∃ y, L1[par i]? = some y := ⟨_, gge (by unfold par; omega)⟩
 refine .block<|.sr<|.mo rfl<|.q (.i64 ((i : Int) - 1) .sub ⟨rfl, by omega, by omega⟩)<|.q (.i64 ((par i : Nat) : Int) .quo ⟨tdiv2, by omega, by unfold par; omega⟩)<|.ag rfl<|.zs<|.sr<|.mo rfl<|.mo rfl<|.q .eqI<|.mo rfl<|.split (t := 11) rfl (λ g1_3 => ?_) (λ g1_3 => ?_)
 refine .gF g1_3<|.gF g1_3<|.gF g1_3<|.gF g1_3<|.gF g1_3<|.q (.pickTh g1_3)<|.zn<|.condT<|.exit (seqQ_x (blkQ_y (loopQ_x (blkQ_x ?_))))
 refine retQ_n _ .none rH ?_
 ·have hi0 : par i = i := by simp at g1_3; omega
  refine ⟨_, rfl, rfl, L1, hI, hP, hS, λ n hn hjn hu => ?_⟩
  have h0 : i = 0 := by
   rcases Nat.eq_zero_or_pos i with e | e
   ·exact e
   ·have := par_lt e; omega
  subst h0
  exact (hU n hn hjn hu).stop0
 refine .gT g1_3<|.mo rfl<|.gT g1_3<|.mo rfl<|.gT g1_3<|.mo rfl<|.gT g1_3<|.callI (hi.less L1 T1 i (par i) x y hI hx hy) (λ u T2 hu => ?_)
 obtain ⟨rfl, hI2⟩ := hu
 refine .gT g1_3<|.q .not<|.q (.pickFh g1_3)<|.zn<|.cond rfl (λ h1 => ?_) λ h1 => ?_
 refine .exit (seqQ_x (blkQ_y (loopQ_x (blkQ_x ?_))))
 refine retQ_n _ .none rH ?_
 ·refine ⟨_, rfl, rfl, L1, hI2, hP, hS, λ n hn hjn hu => (hU n hn hjn hu).stop λ a b ha hb => ?_⟩
  rw [hy] at ha; rw [hx] at hb
  cases ha; cases hb
  simpa using h1
 refine .kn<|.sr<|.mo rfl<|.mo rfl<|.mo rfl ?_
 refine .callI (hi.swap L1 T2 (par i) i hI2 (by unfold par; omega) (by omega)) (λ u T3 hI3 => ?_)
 refine .zn<|.region<|.mo rfl<|.ag rfl<|.nil<|blkQ_n ?_
 ·have hlt : lt x y = true := by simpa using h1
  have hi0 : par i ≠ i := by simp at g1_3; omega
  have hi1 : 0 < i := by
   rcases Nat.eq_zero_or_pos i with e | e
   ·subst e; exact absurd rfl hi0
   ·exact e
  have hpl := par_lt hi1
  exact loopQ_i (par i, swp L1 (par i) i, T3) ⟨hI3, by omega, swp_perm.trans hP, λ k hk => by
   rw [swp_get (by omega) (by omega), if_neg (by omega), if_neg (by omega)]; exact hS k hk, λ n hn hjn hu => (hU n hn hjn hu).step so hi1 (by omega) (by omega) hx hy hlt⟩ hpl kE.c.c rH
theorem down_spec (hi : HpI Tryz.prog R t v lt I) (so : SO lt) (L : List α) (T : Seg) (h : I L T) (i0 n : Nat) (hi0 : i0 <= n) (hn : n <= L.length) :
  Spec Tryz.prog 215 [.iface t v, .int .i64 i0, .int .i64 n] R [T] λ u H' => ∃ T', H' = [T'] /\ ∃ L' m, I L' T' /\ u = .bool m /\ L'.Perm L /\ (∀ k, n <= k -> L'[k]? = L[k]?) /\ (Hole lt L n i0 -> (m = true -> Heap lt L' n) /\ (m = false -> Up lt L' n i0)) := by
 have hb := hi.bnd L T h
 refine Spec.body Tryz.func215 rfl Tryz.results215 Tryz.ntmps215 rfl<|.sr<|.ag rfl<|.z<|.mo rfl<|.ag rfl<|.zs<|.block<|.loop (X := Nat × List α × Seg) (λ y => I y.2.1 y.2.2 /\ i0 <= y.1 /\ y.1 <= n /\ y.2.1.Perm L /\ (∀ k, n <= k -> y.2.1[k]? = L[k]?) /\ (Hole lt L n i0 -> Hole lt y.2.1 n y.1 /\ (y.1 ≠ i0 -> HEdge lt y.2.1 (par y.1) y.1))) (λ y => [(0, .iface t v), (1, iN i0), (2, iN n), (7, iN y.1)]) (λ y => [y.2.2]) (λ y => n - y.1) (i0, L, T) ⟨h, Nat.le_refl _, hi0, .refl _, λ _ _ => rfl, λ h => ⟨h, λ e => absurd rfl e⟩⟩ kE.c.c.c.c rH ?_
 rintro ⟨i, L1, T1⟩ ⟨hI, hii, hin, hP, hS, hU⟩
 simp only at hI hii hin hP hS hU ⊢
 have hl := hP.length_eq
 refine .block<|.sr<|.mo rfl<|.ia (2 * i) .mul<|.ia (2 * i + 1) .add<|.ag rfl<|.zs<|.sr<|.mo rfl<|.mo rfl<|.q .geq<|.mo rfl<|.split (t := 18) rfl (λ g3_3 => ?_) (λ g3_3 => ?_)
 refine .gF g3_3<|.gF g3_3<|.q (.pickTh g3_3)<|.zn<|.condT ?_
 have hge : n <= 2 * i + 1 := by
  (simp at g3_3; omega)
 refine .exit (seqQ_x (blkQ_y (loopQ_x (blkQ_x ?_))))
 refine seqQ_n<|.sr<|.mo rfl<|.mo rfl<|.q .gtr<|.az rfl<|.ret (retQ_r _ (.one (.tmp rfl)) rH ?_)
 ·refine ⟨_, rfl, L1, decide (i0 < i), by assumption, by simp, hP, hS, λ hu => ?_⟩
  have hup : Up lt L1 n i := (hU hu).1.stop λ c h0 hc hp a b ha hb => by
   (simp only [par] at hp; omega)
  refine ⟨λ hm => ?_, λ hm => ?_⟩
  ·have hm' : i ≠ i0 := by simp at hm; omega
   exact hup.stop ((hU hu).2 hm')
  ·have hm' : i = i0 := by simp at hm; omega
   rw [<- hm']; exact hup
 refine .gT g3_3<|.mo rfl<|.gT g3_3<|.q .lss<|.q (.pickFh g3_3)<|.zn<|.cond rfl (λ h1 => ?_) λ h1 => ?_
 have hge : n <= 2 * i + 1 := by
  (simp at h1; omega)
 refine .exit (seqQ_x (blkQ_y (loopQ_x (blkQ_x ?_))))
 refine seqQ_n<|.sr<|.mo rfl<|.mo rfl<|.q .gtr<|.az rfl<|.ret (retQ_r _ (.one (.tmp rfl)) rH ?_)
 ·refine ⟨_, rfl, L1, decide (i0 < i), by assumption, by simp, hP, hS, λ hu => ?_⟩
  have hup : Up lt L1 n i := (hU hu).1.stop λ c h0 hc hp a b ha hb => by
   (simp only [par] at hp; omega)
  refine ⟨λ hm => ?_, λ hm => ?_⟩
  ·have hm' : i ≠ i0 := by simp at hm; omega
   exact hup.stop ((hU hu).2 hm')
  ·have hm' : i = i0 := by simp at hm; omega
   rw [<- hm']; exact hup
 have hlt : 2 * i + 1 < n := by simp at g3_3; omega
 obtain ⟨y0, hy0⟩ : ∃ y, L1[i]? = some y := ⟨_, gge (by omega)⟩
 obtain ⟨x1, hx1⟩ : ∃ y, L1[2 * i + 1]? = some y := ⟨_, gge (by omega)⟩
 refine .kn<|.sr<|.mo rfl<|.ag rfl<|.zs ?_
 refine Tri.cut (X := Nat × Seg × α) (λ z => I L1 z.2.1 /\ 0 < z.1 /\ z.1 < n /\ par z.1 = i /\ L1[z.1]? = some z.2.2 /\ ∀ c u, 0 < c -> c < n -> par c = i -> L1[c]? = some u -> lt u z.2.2 = false) (λ z => [(0, .iface t v), (1, iN i0), (2, iN n), (7, iN i), (9, iN z.1)]) (λ z => [z.2.1]) ?_ ?_
 refine .sr<|.mo rfl<|.ia (2 * i + 2) .add<|.ag rfl<|.z<|.mo rfl<|.mo rfl<|.q .lss<|.mo rfl<|.split (t := 28) rfl (λ g6_3 => ?_) (λ g6_3 => ?_)
 have hlt2 : 2 * i + 2 < n := by simp at g6_3; omega
 obtain ⟨x2, hx2⟩ : ∃ y, L1[2 * i + 2]? = some y := ⟨_, gge (by omega)⟩
 refine .gT g6_3<|.mo rfl<|.gT g6_3<|.mo rfl<|.gT g6_3<|.mo rfl<|.gT g6_3<|.callI (hi.less L1 T1 (2 * i + 2) (2 * i + 1) x2 x1 hI hx2 hx1) (λ u T2 hu => ?_)
 obtain ⟨rfl, hI2⟩ := hu
 refine .q (.pickTh g6_3)<|.zn<|.cond rfl (λ h2 => ?_) λ h2 => ?_
 refine .region<|.mo rfl<|.ag rfl<|.nil ?_
 ·exact joinQ_n (2 * i + 2, T2, x2) ⟨hI2, by simp only; omega, hlt2, by simp only [par]; omega, hx2, λ c u h0 hc hp hu => by
   have : c = 2 * i + 1 \/ c = 2 * i + 2 := by simp only [par] at hp; omega
   rcases this with rfl | rfl
   ·rw [hx1] at hu; cases hu; exact so.asym (by simpa using h2)
   ·rw [hx2] at hu; cases hu; exact so.irr _⟩ kE.c.c.c.c.c rH
 refine .skip ?_
 ·exact joinQ_n (2 * i + 1, T2, x1) ⟨hI2, by simp only; omega, hlt, by simp only [par]; omega, hx1, λ c u h0 hc hp hu => by
   have : c = 2 * i + 1 \/ c = 2 * i + 2 := by simp only [par] at hp; omega
   rcases this with rfl | rfl
   ·rw [hx1] at hu; cases hu; exact so.irr _
   ·rw [hx2] at hu; cases hu; simpa using h2⟩ kE.c.c.c.c.c rH
 refine .gF g6_3<|.gF g6_3<|.gF g6_3<|.gF g6_3<|.q (.pickFh g6_3)<|.zn<|.condF<|.skip ?_
 ·exact joinQ_n (2 * i + 1, T1, x1) ⟨hI, by simp only; omega, hlt, by simp only [par]; omega, hx1, λ c u h0 hc hp hu => by
   have : c = 2 * i + 1 := by simp only [par] at hp; simp at g6_3; omega
   subst this
   rw [hx1] at hu; cases hu; exact so.irr _⟩ kE.c.c.c.c.c rH
 intro y hy
 obtain ⟨j, T3, x⟩ := y
 obtain ⟨hI3, hj0, hjn, hjp, hx, hmin⟩ := hy
 simp only at hI3 hj0 hjn hjp hx hmin ⊢
 have hij : i < j := hjp ▸ par_lt hj0
 refine seqQ_n<|.seq<|.sr<|.mo rfl<|.mo rfl<|.mo rfl<|.callI (hi.less L1 T3 j i x y0 hI3 hx hy0) (λ u T4 hu => ?_)
 obtain ⟨rfl, hI4⟩ := hu
 refine .q .not<|.zn<|.cond rfl (λ h3 => ?_) λ h3 => ?_
 refine .exit (seqQ_x (blkQ_y (loopQ_x (blkQ_x ?_))))
 refine seqQ_n<|.sr<|.mo rfl<|.mo rfl<|.q .gtr<|.az rfl<|.ret (retQ_r _ (.one (.tmp rfl)) rH ?_)
 ·refine ⟨_, rfl, L1, decide (i0 < i), by assumption, by simp, hP, hS, λ hu => ?_⟩
  have hup : Up lt L1 n i := (hU hu).1.stop λ c h0 hc hp a b ha hb => by
   (rw [hy0] at ha; cases ha; exact so.ntr _ _ _ (hmin c b h0 hc hp hb) (by simpa using h3))
  refine ⟨λ hm => ?_, λ hm => ?_⟩
  ·have hm' : i ≠ i0 := by simp at hm; omega
   exact hup.stop ((hU hu).2 hm')
  ·have hm' : i = i0 := by simp at hm; omega
   rw [<- hm']; exact hup
 refine .kn<|.sr<|.mo rfl<|.mo rfl<|.mo rfl ?_
 refine .callI (hi.swap L1 T4 i j hI4 (by omega) (by omega)) (λ u T5 hI5 => ?_)
 refine .zn<|.region<|.mo rfl<|.ag rfl<|.nil<|blkQ_n ?_
 ·have hl3 : lt x y0 = true := by simpa using h3
  exact loopQ_i (j, swp L1 i j, T5) ⟨hI5, by simp only; omega, by simp only; omega, swp_perm.trans hP, λ k hk => by
   rw [swp_get (by omega) (by omega), if_neg (by omega), if_neg (by omega)]; exact hS k hk, λ hu => by
    have := (hU hu).1.step so hj0 hjn (by omega) hjp hx hy0 hl3 hmin
    exact ⟨this.1, λ _ => this.2⟩⟩ (by simp only; omega) kE.c.c.c.c rH
theorem push_spec (hi : HpI Tryz.prog R t v lt I) (so : SO lt) (L : List α) (T : Seg) (x : Value) (a : α) (hp : ISpec Tryz.prog t v "Push" [x] R T fun _ T' => I (L ++ [a]) T') (hh : Heap lt L L.length) :
  Spec Tryz.prog 173 [.iface t v, x] R [T] fun u H' => ∃ T', H' = [T'] ∧ u = .tuple #[] ∧ ∃ L', I L' T' ∧ L'.Perm (L ++ [a]) ∧ Heap lt L' L'.length := by
 refine Spec.body Tryz.func173 rfl Tryz.results173 Tryz.ntmps173 rfl<|.sr<|.mo rfl<|.mo rfl<|.callI hp (fun u T1 h1 => ?_)
 have hb := hi.bnd _ T1 h1
 simp only [List.length_append, List.length_singleton] at hb
 refine .zn<|.region<|.mo rfl<|.mo rfl<|.callI (hi.len _ T1 h1) (fun u T2 hu => ?_)
 obtain ⟨rfl, h2⟩ := hu
 refine .q (.i64 ((L.length : Nat) : Int) .sub ⟨by simp, by omega, by omega⟩)<|.callM (up_spec hi so _ T2 h2 L.length (by simp)) (fun u T3 hu => ?_)
 obtain ⟨rfl, L3, h3, hp3, hs3, hh3⟩ := hu
 have hl3 := hp3.length_eq
 refine .nil<|retQ_n _ .none (HLe.refl _) ?_
 ·exact ⟨_, rfl, rfl, L3, h3, hp3, by rw [hl3]; exact hh3 _ (Nat.le_refl _) (by simp) (by simp; exact hh.push a)⟩
theorem last_of {L L0 : List α} {n : Nat} {x : α} (hl : L.length = n + 1) (hx : L[n]? = some x) (hp : L.Perm L0) : L = L.take n ++ [x] /\ (L.take n).length = n /\ L0.Perm (x :: L.take n) := by
 have h1 : L = L.take n ++ [x] := by
  apply List.ext_getElem?
  intro k
  rcases Nat.lt_trichotomy k n with h | h | h
  ·rw [List.getElem?_append_left (by simp; omega), List.getElem?_take_of_lt h]
  ·subst h
   rw [List.getElem?_append_right (by simp; omega), hx]
   simp [hl]
  ·rw [List.getElem?_eq_none (by omega), List.getElem?_eq_none (by simp; omega)]
 refine ⟨h1, by simp; omega, hp.symm.trans ?_⟩
 have : (L.take n ++ [x]).Perm (x :: L.take n) := by simp
 rw [<- h1] at this
 exact this
theorem Heap.take_ {L : List α} {n : Nat} (h : Heap lt L n) (hn : n <= L.length) : Heap lt (L.take n) (L.take n).length := by
 have e : (L.take n).length = n := by simp; omega
 rw [e]
 exact h.of_get λ k hk => List.getElem?_take_of_lt hk
theorem pop_spec (hi : HpI Tryz.prog R t v lt I) (so : SO lt) (L : List α) (T : Seg) (h : I L T) (x : α) (hx : L[0]? = some x) (hh : Heap lt L L.length) (px : α → Value) (J : List α → Seg → Prop)
  (hp : ∀ L' T', I (L' ++ [x]) T' → L'.length + 1 = L.length → ISpec Tryz.prog t v "Pop" [] R T' fun u T'' => u = px x ∧ J L' T'') :
  Spec Tryz.prog 169 [.iface t v] R [T] fun u H' => ∃ T', H' = [T'] ∧ u = px x ∧ ∃ L', J L' T' ∧ L.Perm (x :: L') ∧ Heap lt L' L'.length := by
 have hb := hi.bnd L T h
 have hpos : 0 < L.length := (List.getElem?_eq_some_iff.1 hx).1
 obtain ⟨n, hn⟩ : ∃ n, L.length = n + 1 := ⟨L.length - 1, by omega⟩
 refine Spec.body Tryz.func169 rfl Tryz.results169 Tryz.ntmps169 rfl<|.sr<|.ag rfl<|.z<|.mo rfl<|.callI (hi.len L T h) (fun u T1 hu => ?_)
 obtain ⟨rfl, h1⟩ := hu
 refine .q (.i64 ((n : Nat) : Int) .sub ⟨by omega, by omega, by omega⟩)<|.ag rfl<|.z<|.mo rfl<|.mo rfl ?_
 refine .callI (hi.swap L T1 0 n h1 (by omega) (by omega)) (fun u T2 h2 => ?_)
 refine .z<|.mo rfl<|.mo rfl<|.callM (down_spec hi so _ T2 h2 0 n (by omega) (by rw [swp_length]; omega)) (fun u T3 hu => ?_)
 obtain ⟨L3, m, h3, rfl, hp3, hs3, hh3⟩ := hu
 have hx3 : L3[n]? = some x := by rw [hs3 n (Nat.le_refl _), swp_get (by omega) (by omega), if_pos rfl, hx]
 have hl3 := hp3.length_eq
 rw [swp_length] at hl3
 obtain ⟨e1, e2, e3⟩ := last_of (by omega) hx3 (hp3.trans swp_perm)
 have hhole : Hole lt (swp L 0 n) n 0 := (hh.mono (by omega)).hole so (by omega) fun k hk hk0 => by rw [swp_get (by omega) (by omega), if_neg (by omega), if_neg hk0]
 have hH : Heap lt L3 n := by
  cases m with
  | true => exact (hh3 hhole).1 rfl
  | false => exact ((hh3 hhole).2 rfl).stop0
 refine .z<|.mo rfl ?_
 rw [e1] at h3
 refine .callI (hp _ T3 h3 (by omega)) (fun u T4 hu => ?_)
 obtain ⟨rfl, h4⟩ := hu
 refine .ag rfl<|.zn<|.ret (retQ_r _ (.one (.tmp rfl)) (HLe.refl _) ?_)
 ·exact ⟨_, rfl, rfl, _, h4, e3, hH.take_ (by omega)⟩
end
set_option maxRecDepth 4000
namespace Mem
structure Quest where
 rev : Int
 config : Int
 space : ByteArray
 id : ByteArray
 rel : ByteArray
 user : ByteArray
 deriving DecidableEq
def Quest.enc (q : Quest) : List Value := [.int .u64 q.rev, .int .i64 q.config, .string q.space, .string q.id, .string q.rel, .string q.user]
theorem Quest.kinds (q : Quest) : HasK [.i .u64, .i .i64, .s, .s, .s, .s] q.enc := ⟨rfl, rfl, trivial, trivial, trivial, trivial, trivial⟩
theorem Quest.eq (q r : Quest) : cellsEq q.enc r.enc = decide (q = r) := by
 cases q; cases r
 simp only [Quest.enc, cellsEq, cellEq, Quest.mk.injEq]
 rw [Bool.eq_iff_iff]; simp
instance Quest.one (q : Quest) : Ones q.enc := ⟨by simp [Quest.enc, oneCell]⟩
instance Quest.keyP : KeyT prog 75 (λ q : Quest => .agg q.enc.toArray) := KeyT.agg fQ75 Tryz.underlying75 rfl Quest.kinds Quest.eq
structure PM where
 size : Nat
 kept : List (Quest × Bool)
 age : List Quest
 hits : Int
def PM.is (b : Nat) (m : PM) (T : Seg) : Prop := ∃ vm va Tm Ta, T = (b, .cells [.bool true, .int .i64 m.size, vm, va, .int .i64 m.hits].toArray 72 (0, 0)) :: (Tm ++ Ta) /\
 MS (λ q : Quest => .agg q.enc.toArray) Value.bool vm m.kept Tm /\ OS 75 6 Quest.enc va m.age Ta
theorem ok_spec (b : Nat) (mk : Bool) (r : List Value) (R : Rds) (H : Segs) [rc : RC R H (pT b) (.bool mk :: r)] :
  Spec prog 87 [pT b] R H λ v H' => v = .bool mk /\ H' = [] := by
 refine Spec.body Tryz.func87 rfl Tryz.results87 Tryz.ntmps87 rfl<|.sr<|.ag rfl<|.z<|.mo rfl<|.q (.neNilP rfl rfl)<|.mo rfl<|.gt rfl<|.mo rfl<|.gt rfl<|.nc rfl<|.gt rfl<|.fa rfl<|.gt rfl<|.lo rfl<|.q .pickT<|.az rfl<|.ret (rq1 rfl ?_)
 ·exact ⟨rfl, rfl⟩
theorem new_ok (n : Nat) (R : Rds) (h : n <= 65536) : Spec prog 35 [.int .i64 n] R [] λ v H' => ∃ b T, v = .tuple [pT b, .int .i64 0].toArray /\ H' = [T] /\ PM.is b ⟨n, [], [], 0⟩ T := by
 refine Spec.body Tryz.func35 rfl Tryz.results35 Tryz.ntmps35 rfl<|.sr<|.ag rfl<|.ag rfl<|.zs<|.sr<|.mo rfl<|.q .lss<|.mo rfl<|.split (t := 6) rfl (λ g1_2 => ?_) (λ g1_2 => ?_)
 ·simp at g1_2; omega
 refine .gT g1_2<|.mo rfl<|.gT g1_2<|.q .gtr<|.q (.pickFh g1_2)<|.zn<|.cond rfl (λ h1 => ?_) λ h1 => ?_
 ·simp at h1; omega
 refine .kn<|.sr<|.mo rfl ?_
 refine .makeMap (λ b11 => ?_)
 refine .q .bld ?_
 refine .boxA rfl (λ b13 => ?_)
 refine .ag rfl<|.az rfl<|.ret (retQ_r _ (.two (.tmp rfl) (.tmp rfl)) (.one [0, 0] _) ?_)
 ·exact ⟨_, _, rfl, rfl, _, _, [(b11, .map #[] 0)], [], rfl, MS.nil, OS.nil⟩
end Mem
namespace Mem
theorem get_spec (b : Nat) (m : PM) (T : Seg) (hm : PM.is b m T) (q : Quest) (R : Rds) (hr : ∀ p ∈ T, R p.1 p.2) :
  Spec prog 30 [pT b, .agg q.enc.toArray] R [] λ v H' => v = .tuple [.bool ((mget q m.kept).getD false), .bool (mget q m.kept).isSome].toArray /\ H' = [] := by
 obtain ⟨vm, va, Tm, Ta, rfl, h1, h2⟩ := hm
 have pc := PC.of (b := b) (hr (b, _) (List.mem_cons_self ..))
 have rm : ∀ H', RM (Rx R H') (λ q : Quest => .agg q.enc.toArray) Value.bool vm m.kept := λ H' => h1.rm λ p hp => .inl (hr p (by simp [hp]))
 have i1 := h1.one
 refine Spec.body Tryz.func30 rfl Tryz.results30 Tryz.ntmps30 rfl<|.sr ?_
 refine .boxA rfl (λ b3 => ?_)
 refine .ag rfl<|.ag rfl<|.zs<|.sr<|.mo rfl<|.callR (ok_spec b true _ _ _) (λ v hv => ?_)
 subst hv
 refine .q .not<|.zn<|.condF<|.kn<|.seq<|.region_still mixed (by kernel_rfl)<|.mo rfl<|.nc rfl<|.fa rfl<|.lo rfl<|.q (.loadA rfl)<|.q (.lookup2 (rm _) rfl (show _ = some (Value.agg q.enc.toArray) from rfl))<|.mo rfl<|.q .extract<|.q .extract<|.ag rfl<|.ag rfl<|.z<|.mo rfl<|.mo rfl<|.ag rfl<|.az rfl<|.ret (retQ_r _ (.two (.tmp rfl) (.tmp rfl)) (.none _) ?_)
 ·exact ⟨by cases mget q m.kept <;> rfl, rfl⟩
end Mem
namespace Mem
def PM.age1 (m : PM) (q : Quest) : List Quest := if (mget q m.kept).isSome then m.age else m.age ++ [q]
def PM.put (m : PM) (q : Quest) (x : Bool) : PM :=
 if m.size < (m.age1 q).length then match m.age1 q with
  | k :: r => ⟨m.size, mdel k (mset q x m.kept), r, m.hits⟩
  | [] => ⟨m.size, mset q x m.kept, [], m.hits⟩
 else ⟨m.size, mset q x m.kept, m.age1 q, m.hits⟩
theorem put_spec (b : Nat) (m : PM) (T : Seg) (hm : PM.is b m T) (q : Quest) (x : Bool) (R : Rds) (hl : m.age.length <= 1000000) :
  Spec prog 28 [pT b, .agg q.enc.toArray, .bool x] R [T] λ v H' => ∃ T', H' = [T'] /\ v = .tuple #[] /\ PM.is b (m.put q x) T' := by
 obtain ⟨vm, va, Tm, Ta, rfl, hM, hA⟩ := hm
 have i1 := hM.one
 have i2 := hA.oneCell
 refine Spec.segs (H' := [bl b [.bool true, .int .i64 m.size, vm, va, .int .i64 m.hits] 72, Tm, Ta]) (by simp)<|Spec.body Tryz.func28 rfl Tryz.results28 Tryz.ntmps28 rfl<|.sr ?_
 refine .boxA rfl (λ b4 => ?_)
 refine .zs<|.sr<|.mo rfl<|.callR (ok_spec b true _ _ _) (λ v hv => ?_)
 subst hv
 refine .q .not<|.zn<|.condF<|.kn<|.seq<|.seq<|.region_still mixed (by kernel_rfl)<|.mo rfl<|.nc rfl<|.fa rfl<|.lo rfl<|.q (.loadA rfl)<|.q (.lookup2 hM.rx rfl (show _ = some (Value.agg q.enc.toArray) from rfl))<|.mo rfl<|.q .extract<|.q .extract<|.ag rfl<|.ag rfl<|.z<|.mo rfl<|.q .not<|.zn ?_
 refine Tri.cut (X := Value × Seg) (λ y => OS 75 6 Quest.enc y.1 (m.age1 q) y.2) (λ _ => [(0, pT b), (2, .bool x), (4, pT b4)]) (λ y => [bl b4 q.enc 75, bl b [.bool true, .int .i64 m.size, vm, y.1, .int .i64 m.hits] 72, Tm, y.2]) ?_ ?_
 refine .cond rfl (λ h2 => ?_) λ h2 => ?_
 refine .region_all [7, 10] mixed<|.tK 0 rfl .move<|.tO 1 rfl .move<|.tO 2 rfl (.nilCheck rfl)<|.tO 3 rfl (.fieldAddr rfl)<|.tO 4 rfl (.load1 rfl)<|.tO 5 rfl (.loadA rfl)<|.sT 6 rfl ?_
 refine .buildSlice1A (λ b28 => ?_)
 refine .nil<|Next.sub<|.sT 7 rfl<|.append hA (RS.lit1 (x := q) rfl rfl (Quest.one q).h) (by simp; omega) (λ v' T' h3 => ?_)
 have i3 := h3.oneCell
 refine .nil<|Next.mod rfl<|.tK 8 rfl (.nilCheckA rfl)<|.tK 9 rfl (.fieldAddrA rfl)<|.sT 10 rfl<|.store1 rfl rfl<|.nil<|Next.mod rfl<|RA.nil (by kernel_rfl) ?_
 ·exact joinQ_n (v', T') (by simp at h2; simp only [PM.age1, h2]; exact h3) kE.c.c.c (pkH [1, 1, 1, 1])
 refine .skip ?_
 ·exact joinQ_n (va, Ta) (by simp at h2; simp only [PM.age1, h2, if_true]; exact hA) kE.c.c.c rH
 intro x hx
 obtain ⟨va1, Ta1⟩ := x
 have i3 := hx.oneCell
 refine seqQ_n<|.seq<|.region_tail 6 mixed (by kernel_rfl) ?_
 conv => arg 6; dsimp only [List.take]
 refine .mo rfl<|.nc rfl<|.fa rfl<|.lo rfl<|.q (.loadA rfl)<|.mo rfl<|.nil ?_
 refine .update hM rfl (show _ = some (Value.agg q.enc.toArray) from rfl) rfl (λ Tm1 hM1 _ => ?_)
 refine .zs<|.region_still mixed (by kernel_rfl)<|.mo rfl<|.nc rfl<|.fa rfl<|.lo rfl<|.q (.lenO hx)<|.mo rfl<|.nc rfl<|.fa rfl<|.lo rfl<|.q .gtr<|.zn<|.cond rfl (λ h3 => ?_) λ h3 => ?_
 obtain ⟨k, r, he⟩ : ∃ k r, m.age1 q = k :: r := by
  cases hh : m.age1 q with
  | nil => rw [hh] at h3; simp at h3; omega
  | cons k r => exact ⟨k, r, rfl⟩
 have hlt : m.size < (m.age1 q).length := by simpa using h3
 refine .seq<|.region_tail 10 mixed (by kernel_rfl) ?_
 conv => arg 6; dsimp only [List.take]
 refine .mo rfl<|.nc rfl<|.fa rfl<|.lo rfl<|.mo rfl<|.nc rfl<|.fa rfl<|.lo rfl ?_
 refine .indexO 0 hx (z := k) (by rw [he]; rfl) (λ ps => ?_)
 refine .q (.loadA rfl)<|.nil ?_
 refine .delete hM1 rfl (show _ = some (Value.agg k.enc.toArray) from rfl) (λ Tm2 hM2 _ => ?_)
 refine .zn<|.region<|.mo rfl<|.mo rfl<|.nc rfl<|.fa rfl<|.lo rfl<|.sliceO 1 (m.age1 q).length hx ⟨_, rfl⟩ rfl (by omega) (by omega) (λ v2 hA2 => ?_)
 have i4 := hA2.oneCell
 refine .nc rfl<|.fa rfl<|.store1 rfl rfl<|.nil<|retQ_n _ .none (.one [1, 1, 1] _) ?_
 ·refine ⟨_, rfl, rfl, ?_⟩
  rw [he] at hA2
  simp only [List.length_cons, List.drop_succ_cons, List.drop_zero, Nat.add_sub_cancel, List.take_length] at hA2
  unfold PM.put
  rw [if_pos hlt, he]
  exact ⟨_, _, Tm2, Ta1, flat3 _ _ _, hM2, hA2⟩
 have hge : ¬ m.size < (m.age1 q).length := by simpa using h3
 refine .skip<|retQ_n _ .none (.one [1, 1, 1] _) ?_
 ·refine ⟨_, rfl, rfl, ?_⟩
  unfold PM.put
  rw [if_neg hge]
  exact ⟨_, _, Tm1, Ta1, flat3 _ _ _, hM1, hx⟩
end Mem
namespace Mem
def q1 : Quest := ⟨1, 0, .empty, .empty, .empty, .empty⟩
theorem q1_put : (PM.put ⟨2, [], [], 0⟩ q1 true) = ⟨2, [(q1, true)], [q1], 0⟩ := by
 simp [PM.put, PM.age1, mget, mset]
theorem lives_spec (R : Rds) : Spec prog 27 [] R [] λ v H' => v = .bool true /\ H' = [] := by
 refine Spec.body Tryz.func27 rfl Tryz.results27 Tryz.ntmps27 rfl<|.sr<|.ag rfl<|.z<|.callN ((new_ok 2 _ (by omega)).mono λ v H' ⟨b, T, h1, h2, h3⟩ => (⟨T, h2, b, h1, h3⟩ : ∃ T, H' = [T] /\ ∃ b, v = .tuple [pT b, .int .i64 0].toArray /\ PM.is b ⟨2, [], [], 0⟩ T)) (λ v T hv => ?_)
 obtain ⟨b, rfl, hm⟩ := hv
 refine .mo rfl<|.q .extract<|.q .extract<|.ag rfl<|.ag rfl<|.zs<|.sr<|.mo rfl<|.q .neI<|.zn<|.condF<|.kn<|.sr<|.mo rfl<|.q (show Quiet _ _ _ _ _ _ (.agg q1.enc.toArray) from .bld rfl rfl)<|.callM (put_spec b _ T hm q1 true R (by simp)) (λ v T1 hv => ?_)
 obtain ⟨rfl, hm1⟩ := hv
 refine .z<|.mo rfl<|.q (show Quiet _ _ _ _ _ _ (.agg q1.enc.toArray) from .bld rfl rfl)<|.callR (get_spec b _ T1 hm1 q1 _ (λ p hp => .inr (by simpa using hp))) (λ v hv => ?_)
 subst hv
 refine .mo rfl<|.q .extract<|.q .extract<|.ag rfl<|.ag rfl<|.z<|.mo rfl<|.mo rfl<|.split (t := 21) rfl (λ g6_1 => ?_) (λ g6_1 => ?_)
 refine .gT g6_1<|.mo rfl<|.q (.pickTh g6_1)<|.az rfl<|.ret (rq1 rfl ?_)
 ·exact ⟨by rw [q1_put]; simp [mget], rfl⟩
 refine .gF g6_1<|.q (.pickFh g6_1)<|.az rfl<|.ret (rq1 rfl ?_)
 ·exfalso
  rw [q1_put] at g6_1
  simp [mget] at g6_1
end Mem
end Go.Proofs.YtenilfmlfldogaaGreat

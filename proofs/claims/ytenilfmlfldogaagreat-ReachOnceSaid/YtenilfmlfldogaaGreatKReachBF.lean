/- What the law 'ReachB' uses. No condition. -/
import Derived.Test.YtenilfmlfldogaaGreatChecked
import Derived.Test.YtenilfmlfldogaaGreatKReachBB
namespace Go.Proofs.YtenilfmlfldogaaGreat
open Tryz (prog)
set_option linter.unusedVariables false
theorem fU3 : Und prog 3 (.int .i64) := ⟨Tryz.underlying3⟩
theorem fA3 : Agg prog 3 false := ⟨Tryz.isAgg3⟩
theorem fS3 : Sz prog 3 1 := ⟨Tryz.sizeOf3⟩
theorem fB3 : By prog 3 8 := ⟨λ w => ⟨_, Tryz.typeInfo3 w, rfl⟩⟩
theorem fZ3 : Zr prog 3 (.int .i64 0) := ⟨Tryz.zeroValue3⟩
theorem fU4 : Und prog 4 (.bool) := ⟨Tryz.underlying4⟩
theorem fA4 : Agg prog 4 false := ⟨Tryz.isAgg4⟩
theorem fS4 : Sz prog 4 1 := ⟨Tryz.sizeOf4⟩
theorem fB4 : By prog 4 1 := ⟨λ w => ⟨_, Tryz.typeInfo4 w, rfl⟩⟩
theorem fZ4 : Zr prog 4 (.bool false) := ⟨Tryz.zeroValue4⟩
theorem fU9 : Und prog 9 (.string) := ⟨Tryz.underlying9⟩
theorem fA9 : Agg prog 9 false := ⟨Tryz.isAgg9⟩
theorem fS9 : Sz prog 9 1 := ⟨Tryz.sizeOf9⟩
theorem fB9 : By prog 9 16 := ⟨λ w => ⟨_, Tryz.typeInfo9 w, rfl⟩⟩
theorem fZ9 : Zr prog 9 (.string { data := #[] }) := ⟨Tryz.zeroValue9⟩
theorem fU22 : Und prog 22 (.slice 187) := ⟨Tryz.underlying22⟩
theorem fA22 : Agg prog 22 false := ⟨Tryz.isAgg22⟩
theorem fS22 : Sz prog 22 1 := ⟨Tryz.sizeOf22⟩
theorem fU23 : Und prog 23 (.slice 209) := ⟨Tryz.underlying23⟩
theorem fA23 : Agg prog 23 false := ⟨Tryz.isAgg23⟩
theorem fS23 : Sz prog 23 1 := ⟨Tryz.sizeOf23⟩
theorem fA25 : Agg prog 25 true := ⟨Tryz.isAgg25⟩
theorem fS25 : Sz prog 25 2 := ⟨Tryz.sizeOf25⟩
theorem fZ25 : Zr prog 25 (.agg [sZ, sZ].toArray) := ⟨Tryz.zeroValue25⟩
theorem fF25_0 : Fld prog 25 0 0 := Fld.of Tryz.underlying25 rfl Tryz.sizeOf22 rfl rfl
theorem fF25_1 : Fld prog 25 1 1 := Fld.of Tryz.underlying25 rfl Tryz.sizeOf23 rfl rfl
theorem fL25 : Bld prog 25 [(0, 1), (1, 1)] [sZ, sZ] := ⟨_, Tryz.underlying25, Tryz.zeroValue25, λ w => by simp [Tryz.sizeOf22, Tryz.sizeOf23]⟩
theorem fU26 : Und prog 26 (.slice 62) := ⟨Tryz.underlying26⟩
theorem fA26 : Agg prog 26 false := ⟨Tryz.isAgg26⟩
theorem fA28 : Agg prog 28 true := ⟨Tryz.isAgg28⟩
theorem fS28 : Sz prog 28 3 := ⟨Tryz.sizeOf28⟩
theorem fF28_0 : Fld prog 28 0 0 := Fld.of Tryz.underlying28 rfl Tryz.sizeOf25 rfl rfl
theorem fF28_1 : Fld prog 28 1 2 := Fld.of Tryz.underlying28 rfl Tryz.sizeOf26 rfl rfl
theorem fA30 : Agg prog 30 true := ⟨Tryz.isAgg30⟩
theorem fS30 : Sz prog 30 2 := ⟨Tryz.sizeOf30⟩
theorem fF30_0 : Fld prog 30 0 0 := Fld.of Tryz.underlying30 rfl Tryz.sizeOf9 rfl rfl
theorem fF30_1 : Fld prog 30 1 1 := Fld.of Tryz.underlying30 rfl Tryz.sizeOf9 rfl rfl
theorem fL30 : Bld prog 30 [(0, 1), (1, 1)] [.string { data := #[] }, .string { data := #[] }] := ⟨_, Tryz.underlying30, Tryz.zeroValue30, λ w => by simp [Tryz.sizeOf9]⟩
theorem fU31 : Und prog 31 (.int .u64) := ⟨Tryz.underlying31⟩
theorem fA31 : Agg prog 31 false := ⟨Tryz.isAgg31⟩
theorem fS31 : Sz prog 31 1 := ⟨Tryz.sizeOf31⟩
theorem fU32 : Und prog 32 (.pointer 116) := ⟨Tryz.underlying32⟩
theorem fU33 : Und prog 33 (.pointer 89) := ⟨Tryz.underlying33⟩
theorem fA33 : Agg prog 33 false := ⟨Tryz.isAgg33⟩
theorem fU39 : Und prog 39 (.slice 9) := ⟨Tryz.underlying39⟩
theorem fA39 : Agg prog 39 false := ⟨Tryz.isAgg39⟩
theorem fS39 : Sz prog 39 1 := ⟨Tryz.sizeOf39⟩
theorem fU53 : Und prog 53 (.slice 123) := ⟨Tryz.underlying53⟩
theorem fA53 : Agg prog 53 false := ⟨Tryz.isAgg53⟩
theorem fS53 : Sz prog 53 1 := ⟨Tryz.sizeOf53⟩
theorem fA55 : Agg prog 55 true := ⟨Tryz.isAgg55⟩
theorem fS55 : Sz prog 55 2 := ⟨Tryz.sizeOf55⟩
theorem fZ55 : Zr prog 55 (.agg [sZ, .int .i64 0].toArray) := ⟨Tryz.zeroValue55⟩
theorem fF55_0 : Fld prog 55 0 0 := Fld.of Tryz.underlying55 rfl Tryz.sizeOf53 rfl rfl
theorem fF55_1 : Fld prog 55 1 1 := Fld.of Tryz.underlying55 rfl Tryz.sizeOf3 rfl rfl
theorem fL55 : Bld prog 55 [(0, 1), (1, 1)] [sZ, .int .i64 0] := ⟨_, Tryz.underlying55, Tryz.zeroValue55, λ w => by simp [Tryz.sizeOf3, Tryz.sizeOf53]⟩
theorem fU57 : Und prog 57 (.slice 151) := ⟨Tryz.underlying57⟩
theorem fA57 : Agg prog 57 false := ⟨Tryz.isAgg57⟩
theorem fS57 : Sz prog 57 1 := ⟨Tryz.sizeOf57⟩
theorem fU58 : Und prog 58 (.slice 153) := ⟨Tryz.underlying58⟩
theorem fA58 : Agg prog 58 false := ⟨Tryz.isAgg58⟩
theorem fS58 : Sz prog 58 1 := ⟨Tryz.sizeOf58⟩
theorem fA60 : Agg prog 60 true := ⟨Tryz.isAgg60⟩
theorem fS60 : Sz prog 60 7 := ⟨Tryz.sizeOf60⟩
theorem fF60_0 : Fld prog 60 0 0 := Fld.of Tryz.underlying60 rfl Tryz.sizeOf9 rfl rfl
theorem fF60_1 : Fld prog 60 1 1 := Fld.of Tryz.underlying60 rfl Tryz.sizeOf9 rfl rfl
theorem fF60_2 : Fld prog 60 2 2 := Fld.of Tryz.underlying60 rfl Tryz.sizeOf9 rfl rfl
theorem fF60_3 : Fld prog 60 3 3 := Fld.of Tryz.underlying60 rfl Tryz.sizeOf9 rfl rfl
theorem fF60_4 : Fld prog 60 4 4 := Fld.of Tryz.underlying60 rfl Tryz.sizeOf30 rfl rfl
theorem fF60_5 : Fld prog 60 5 6 := Fld.of Tryz.underlying60 rfl Tryz.sizeOf9 rfl rfl
theorem fL60 : Bld prog 60 [(0, 1), (1, 1), (2, 1), (3, 1), (4, 2), (6, 1)] [.string { data := #[] }, .string { data := #[] }, .string { data := #[] }, .string { data := #[] }, .string { data := #[] }, .string { data := #[] }, .string { data := #[] }] := ⟨_, Tryz.underlying60, Tryz.zeroValue60, λ w => by simp [Tryz.sizeOf30, Tryz.sizeOf9]⟩
theorem fA62 : Agg prog 62 true := ⟨Tryz.isAgg62⟩
theorem fS62 : Sz prog 62 12 := ⟨Tryz.sizeOf62⟩
theorem fB62 : By prog 62 200 := ⟨λ w => ⟨_, Tryz.typeInfo62 w, rfl⟩⟩
theorem fZ62 : Zr prog 62 (.agg [.int .i64 0, sZ, sZ, sZ, .string { data := #[] }, .string { data := #[] }, .string { data := #[] }, .string { data := #[] }, .string { data := #[] }, .string { data := #[] }, .string { data := #[] }, .int .u64 0].toArray) := ⟨Tryz.zeroValue62⟩
theorem fF62_0 : Fld prog 62 0 0 := Fld.of Tryz.underlying62 rfl Tryz.sizeOf3 rfl rfl
theorem fF62_1 : Fld prog 62 1 1 := Fld.of Tryz.underlying62 rfl Tryz.sizeOf57 rfl rfl
theorem fF62_2 : Fld prog 62 2 2 := Fld.of Tryz.underlying62 rfl Tryz.sizeOf57 rfl rfl
theorem fF62_3 : Fld prog 62 3 3 := Fld.of Tryz.underlying62 rfl Tryz.sizeOf58 rfl rfl
theorem fU65 : Und prog 65 (.slice 127) := ⟨Tryz.underlying65⟩
theorem fA65 : Agg prog 65 false := ⟨Tryz.isAgg65⟩
theorem fS65 : Sz prog 65 1 := ⟨Tryz.sizeOf65⟩
theorem fU86 : Und prog 86 (.map 262 263) := ⟨Tryz.underlying86⟩
theorem fA86 : Agg prog 86 false := ⟨Tryz.isAgg86⟩
theorem fU87 : Und prog 87 (.map 149 263) := ⟨Tryz.underlying87⟩
theorem fA87 : Agg prog 87 false := ⟨Tryz.isAgg87⟩
theorem fF89_0 : Fld prog 89 0 0 := Fld.of Tryz.underlying89 rfl Tryz.sizeOf4 rfl rfl
theorem fF89_1 : Fld prog 89 1 1 := Fld.of Tryz.underlying89 rfl Tryz.sizeOf31 rfl rfl
theorem fF89_2 : Fld prog 89 2 2 := Fld.of Tryz.underlying89 rfl Tryz.sizeOf31 rfl rfl
theorem fF89_3 : Fld prog 89 3 3 := Fld.of Tryz.underlying89 rfl Tryz.sizeOf3 rfl rfl
theorem fF89_4 : Fld prog 89 4 4 := Fld.of Tryz.underlying89 rfl Tryz.sizeOf86 rfl rfl
theorem fF89_5 : Fld prog 89 5 5 := Fld.of Tryz.underlying89 rfl Tryz.sizeOf87 rfl rfl
theorem fL89 : Bld prog 89 [(0, 1), (1, 1), (2, 1), (3, 1), (4, 1), (5, 1)] [.bool false, .int .u64 0, .int .u64 0, .int .i64 0, .map none, .map none] := ⟨_, Tryz.underlying89, Tryz.zeroValue89, λ w => by simp [Tryz.sizeOf3, Tryz.sizeOf31, Tryz.sizeOf4, Tryz.sizeOf86, Tryz.sizeOf87]⟩
theorem fU106 : Und prog 106 (.slice 4) := ⟨Tryz.underlying106⟩
theorem fU114 : Und prog 114 (.slice 202) := ⟨Tryz.underlying114⟩
theorem fA114 : Agg prog 114 false := ⟨Tryz.isAgg114⟩
theorem fS114 : Sz prog 114 1 := ⟨Tryz.sizeOf114⟩
theorem fF116_0 : Fld prog 116 0 0 := Fld.of Tryz.underlying116 rfl Tryz.sizeOf4 rfl rfl
theorem fF116_1 : Fld prog 116 1 1 := Fld.of Tryz.underlying116 rfl Tryz.sizeOf114 rfl rfl
theorem fF116_2 : Fld prog 116 2 2 := Fld.of Tryz.underlying116 rfl Tryz.sizeOf3 rfl rfl
theorem fL116 : Bld prog 116 [(0, 1), (1, 1), (2, 1)] [.bool false, sZ, .int .i64 0] := ⟨_, Tryz.underlying116, Tryz.zeroValue116, λ w => by simp [Tryz.sizeOf114, Tryz.sizeOf3, Tryz.sizeOf4]⟩
theorem fU119 : Und prog 119 (.slice 168) := ⟨Tryz.underlying119⟩
theorem fA119 : Agg prog 119 false := ⟨Tryz.isAgg119⟩
theorem fS119 : Sz prog 119 1 := ⟨Tryz.sizeOf119⟩
theorem fA121 : Agg prog 121 true := ⟨Tryz.isAgg121⟩
theorem fS121 : Sz prog 121 8 := ⟨Tryz.sizeOf121⟩
theorem fZ121 : Zr prog 121 (.agg [.string { data := #[] }, .string { data := #[] }, .string { data := #[] }, .bool false, sZ, sZ, sZ, .int .i64 0].toArray) := ⟨Tryz.zeroValue121⟩
theorem fF121_0 : Fld prog 121 0 0 := Fld.of Tryz.underlying121 rfl Tryz.sizeOf30 rfl rfl
theorem fF121_1 : Fld prog 121 1 2 := Fld.of Tryz.underlying121 rfl Tryz.sizeOf9 rfl rfl
theorem fF121_2 : Fld prog 121 2 3 := Fld.of Tryz.underlying121 rfl Tryz.sizeOf4 rfl rfl
theorem fF121_3 : Fld prog 121 3 4 := Fld.of Tryz.underlying121 rfl Tryz.sizeOf119 rfl rfl
theorem fF121_4 : Fld prog 121 4 5 := Fld.of Tryz.underlying121 rfl Tryz.sizeOf39 rfl rfl
theorem fF121_5 : Fld prog 121 5 6 := Fld.of Tryz.underlying121 rfl Tryz.sizeOf65 rfl rfl
theorem fF121_6 : Fld prog 121 6 7 := Fld.of Tryz.underlying121 rfl Tryz.sizeOf3 rfl rfl
theorem fL121 : Bld prog 121 [(0, 2), (2, 1), (3, 1), (4, 1), (5, 1), (6, 1), (7, 1)] [.string { data := #[] }, .string { data := #[] }, .string { data := #[] }, .bool false, sZ, sZ, sZ, .int .i64 0] := ⟨_, Tryz.underlying121, Tryz.zeroValue121, λ w => by simp [Tryz.sizeOf119, Tryz.sizeOf3, Tryz.sizeOf30, Tryz.sizeOf39, Tryz.sizeOf4, Tryz.sizeOf65, Tryz.sizeOf9]⟩
theorem fA123 : Agg prog 123 true := ⟨Tryz.isAgg123⟩
theorem fS123 : Sz prog 123 8 := ⟨Tryz.sizeOf123⟩
theorem fB123 : By prog 123 136 := ⟨λ w => ⟨_, Tryz.typeInfo123 w, rfl⟩⟩
theorem fZ123 : Zr prog 123 (.agg [.string { data := #[] }, .string { data := #[] }, .string { data := #[] }, .bool false, sZ, sZ, sZ, .int .i64 0].toArray) := ⟨Tryz.zeroValue123⟩
theorem fF123_0 : Fld prog 123 0 0 := Fld.of Tryz.underlying123 rfl Tryz.sizeOf30 rfl rfl
theorem fF123_1 : Fld prog 123 1 2 := Fld.of Tryz.underlying123 rfl Tryz.sizeOf9 rfl rfl
theorem fF123_2 : Fld prog 123 2 3 := Fld.of Tryz.underlying123 rfl Tryz.sizeOf4 rfl rfl
theorem fF123_3 : Fld prog 123 3 4 := Fld.of Tryz.underlying123 rfl Tryz.sizeOf119 rfl rfl
theorem fF123_4 : Fld prog 123 4 5 := Fld.of Tryz.underlying123 rfl Tryz.sizeOf39 rfl rfl
theorem fF123_5 : Fld prog 123 5 6 := Fld.of Tryz.underlying123 rfl Tryz.sizeOf65 rfl rfl
theorem fF123_6 : Fld prog 123 6 7 := Fld.of Tryz.underlying123 rfl Tryz.sizeOf3 rfl rfl
theorem fL123 : Bld prog 123 [(0, 2), (2, 1), (3, 1), (4, 1), (5, 1), (6, 1), (7, 1)] [.string { data := #[] }, .string { data := #[] }, .string { data := #[] }, .bool false, sZ, sZ, sZ, .int .i64 0] := ⟨_, Tryz.underlying123, Tryz.zeroValue123, λ w => by simp [Tryz.sizeOf119, Tryz.sizeOf3, Tryz.sizeOf30, Tryz.sizeOf39, Tryz.sizeOf4, Tryz.sizeOf65, Tryz.sizeOf9]⟩
theorem fU124 : Und prog 124 (.slice 241) := ⟨Tryz.underlying124⟩
theorem fA124 : Agg prog 124 false := ⟨Tryz.isAgg124⟩
theorem fS124 : Sz prog 124 1 := ⟨Tryz.sizeOf124⟩
theorem fF126_0 : Fld prog 126 0 0 := Fld.of Tryz.underlying126 rfl Tryz.sizeOf124 rfl rfl
theorem fF126_1 : Fld prog 126 1 1 := Fld.of Tryz.underlying126 rfl Tryz.sizeOf31 rfl rfl
theorem fF126_2 : Fld prog 126 2 2 := Fld.of Tryz.underlying126 rfl Tryz.sizeOf31 rfl rfl
theorem fL126 : Bld prog 126 [(0, 1), (1, 1), (2, 1)] [sZ, .int .u64 0, .int .u64 0] := ⟨_, Tryz.underlying126, Tryz.zeroValue126, λ w => by simp [Tryz.sizeOf124, Tryz.sizeOf31]⟩
theorem fU127 : Und prog 127 (.slice 3) := ⟨Tryz.underlying127⟩
theorem fA127 : Agg prog 127 false := ⟨Tryz.isAgg127⟩
theorem fS127 : Sz prog 127 1 := ⟨Tryz.sizeOf127⟩
theorem fB127 : By prog 127 24 := ⟨λ w => ⟨_, Tryz.typeInfo127 w, rfl⟩⟩
theorem fZ127 : Zr prog 127 (sZ) := ⟨Tryz.zeroValue127⟩
theorem fA149 : Agg prog 149 true := ⟨Tryz.isAgg149⟩
theorem fS149 : Sz prog 149 4 := ⟨Tryz.sizeOf149⟩
theorem fB149 : By prog 149 64 := ⟨λ w => ⟨_, Tryz.typeInfo149 w, rfl⟩⟩
theorem fZ149 : Zr prog 149 (.agg [.string { data := #[] }, .string { data := #[] }, .string { data := #[] }, .string { data := #[] }].toArray) := ⟨Tryz.zeroValue149⟩
theorem fF149_0 : Fld prog 149 0 0 := Fld.of Tryz.underlying149 rfl Tryz.sizeOf9 rfl rfl
theorem fF149_1 : Fld prog 149 1 1 := Fld.of Tryz.underlying149 rfl Tryz.sizeOf30 rfl rfl
theorem fF149_2 : Fld prog 149 2 3 := Fld.of Tryz.underlying149 rfl Tryz.sizeOf9 rfl rfl
theorem fL149 : Bld prog 149 [(0, 1), (1, 2), (3, 1)] [.string { data := #[] }, .string { data := #[] }, .string { data := #[] }, .string { data := #[] }] := ⟨_, Tryz.underlying149, Tryz.zeroValue149, λ w => by simp [Tryz.sizeOf30, Tryz.sizeOf9]⟩
theorem fA151 : Agg prog 151 true := ⟨Tryz.isAgg151⟩
theorem fS151 : Sz prog 151 7 := ⟨Tryz.sizeOf151⟩
theorem fB151 : By prog 151 112 := ⟨λ w => ⟨_, Tryz.typeInfo151 w, rfl⟩⟩
theorem fZ151 : Zr prog 151 (.agg [.string { data := #[] }, .string { data := #[] }, .string { data := #[] }, .string { data := #[] }, .string { data := #[] }, .string { data := #[] }, .string { data := #[] }].toArray) := ⟨Tryz.zeroValue151⟩
theorem fF151_0 : Fld prog 151 0 0 := Fld.of Tryz.underlying151 rfl Tryz.sizeOf30 rfl rfl
theorem fF151_1 : Fld prog 151 1 2 := Fld.of Tryz.underlying151 rfl Tryz.sizeOf9 rfl rfl
theorem fF151_2 : Fld prog 151 2 3 := Fld.of Tryz.underlying151 rfl Tryz.sizeOf149 rfl rfl
theorem fL151 : Bld prog 151 [(0, 2), (2, 1), (3, 4)] [.string { data := #[] }, .string { data := #[] }, .string { data := #[] }, .string { data := #[] }, .string { data := #[] }, .string { data := #[] }, .string { data := #[] }] := ⟨_, Tryz.underlying151, Tryz.zeroValue151, λ w => by simp [Tryz.sizeOf149, Tryz.sizeOf30, Tryz.sizeOf9]⟩
theorem fA153 : Agg prog 153 true := ⟨Tryz.isAgg153⟩
theorem fS153 : Sz prog 153 8 := ⟨Tryz.sizeOf153⟩
theorem fZ153 : Zr prog 153 (.agg [.bool false, .string { data := #[] }, .string { data := #[] }, .string { data := #[] }, .string { data := #[] }, .string { data := #[] }, .string { data := #[] }, .string { data := #[] }].toArray) := ⟨Tryz.zeroValue153⟩
theorem fF153_0 : Fld prog 153 0 0 := Fld.of Tryz.underlying153 rfl Tryz.sizeOf4 rfl rfl
theorem fF153_1 : Fld prog 153 1 1 := Fld.of Tryz.underlying153 rfl Tryz.sizeOf151 rfl rfl
theorem fU164 : Und prog 164 (.slice 149) := ⟨Tryz.underlying164⟩
theorem fA168 : Agg prog 168 true := ⟨Tryz.isAgg168⟩
theorem fS168 : Sz prog 168 5 := ⟨Tryz.sizeOf168⟩
theorem fB168 : By prog 168 56 := ⟨λ w => ⟨_, Tryz.typeInfo168 w, rfl⟩⟩
theorem fZ168 : Zr prog 168 (.agg [.int .i64 0, .string { data := #[] }, .string { data := #[] }, .int .i64 0, .int .i64 0].toArray) := ⟨Tryz.zeroValue168⟩
theorem fF168_0 : Fld prog 168 0 0 := Fld.of Tryz.underlying168 rfl Tryz.sizeOf3 rfl rfl
theorem fF168_1 : Fld prog 168 1 1 := Fld.of Tryz.underlying168 rfl Tryz.sizeOf9 rfl rfl
theorem fF168_2 : Fld prog 168 2 2 := Fld.of Tryz.underlying168 rfl Tryz.sizeOf9 rfl rfl
theorem fF168_3 : Fld prog 168 3 3 := Fld.of Tryz.underlying168 rfl Tryz.sizeOf3 rfl rfl
theorem fF168_4 : Fld prog 168 4 4 := Fld.of Tryz.underlying168 rfl Tryz.sizeOf3 rfl rfl
theorem fL168 : Bld prog 168 [(0, 1), (1, 1), (2, 1), (3, 1), (4, 1)] [.int .i64 0, .string { data := #[] }, .string { data := #[] }, .int .i64 0, .int .i64 0] := ⟨_, Tryz.underlying168, Tryz.zeroValue168, λ w => by simp [Tryz.sizeOf3, Tryz.sizeOf9]⟩
theorem fU179 : Und prog 179 (.slice 259) := ⟨Tryz.underlying179⟩
theorem fU182 : Und prog 182 (.slice 256) := ⟨Tryz.underlying182⟩
theorem fU185 : Und prog 185 (.slice 207) := ⟨Tryz.underlying185⟩
theorem fA185 : Agg prog 185 false := ⟨Tryz.isAgg185⟩
theorem fS185 : Sz prog 185 1 := ⟨Tryz.sizeOf185⟩
theorem fA187 : Agg prog 187 true := ⟨Tryz.isAgg187⟩
theorem fS187 : Sz prog 187 2 := ⟨Tryz.sizeOf187⟩
theorem fB187 : By prog 187 40 := ⟨λ w => ⟨_, Tryz.typeInfo187 w, rfl⟩⟩
theorem fZ187 : Zr prog 187 (.agg [.string { data := #[] }, sZ].toArray) := ⟨Tryz.zeroValue187⟩
theorem fF187_0 : Fld prog 187 0 0 := Fld.of Tryz.underlying187 rfl Tryz.sizeOf9 rfl rfl
theorem fF187_1 : Fld prog 187 1 1 := Fld.of Tryz.underlying187 rfl Tryz.sizeOf185 rfl rfl
theorem fL187 : Bld prog 187 [(0, 1), (1, 1)] [.string { data := #[] }, sZ] := ⟨_, Tryz.underlying187, Tryz.zeroValue187, λ w => by simp [Tryz.sizeOf185, Tryz.sizeOf9]⟩
theorem fA196 : Agg prog 196 true := ⟨Tryz.isAgg196⟩
theorem fS196 : Sz prog 196 9 := ⟨Tryz.sizeOf196⟩
theorem fF196_0 : Fld prog 196 0 0 := Fld.of Tryz.underlying196 rfl Tryz.sizeOf151 rfl rfl
theorem fF196_1 : Fld prog 196 1 7 := Fld.of Tryz.underlying196 rfl Tryz.sizeOf31 rfl rfl
theorem fF196_2 : Fld prog 196 2 8 := Fld.of Tryz.underlying196 rfl Tryz.sizeOf31 rfl rfl
theorem fL196 : Bld prog 196 [(0, 7), (7, 1), (8, 1)] [.string { data := #[] }, .string { data := #[] }, .string { data := #[] }, .string { data := #[] }, .string { data := #[] }, .string { data := #[] }, .string { data := #[] }, .int .u64 0, .int .u64 0] := ⟨_, Tryz.underlying196, Tryz.zeroValue196, λ w => by simp [Tryz.sizeOf151, Tryz.sizeOf31]⟩
theorem fU197 : Und prog 197 (.pointer 196) := ⟨Tryz.underlying197⟩
theorem fA197 : Agg prog 197 false := ⟨Tryz.isAgg197⟩
theorem fS197 : Sz prog 197 1 := ⟨Tryz.sizeOf197⟩
theorem fB197 : By prog 197 8 := ⟨λ w => ⟨_, Tryz.typeInfo197 w, rfl⟩⟩
theorem fZ197 : Zr prog 197 (.pointer none) := ⟨Tryz.zeroValue197⟩
theorem fF200_0 : Fld prog 200 0 0 := Fld.of Tryz.underlying200 rfl Tryz.sizeOf31 rfl rfl
theorem fF200_1 : Fld prog 200 1 1 := Fld.of Tryz.underlying200 rfl Tryz.sizeOf25 rfl rfl
theorem fL200 : Bld prog 200 [(0, 1), (1, 2)] [.int .u64 0, sZ, sZ] := ⟨_, Tryz.underlying200, Tryz.zeroValue200, λ w => by simp [Tryz.sizeOf25, Tryz.sizeOf31]⟩
theorem fA202 : Agg prog 202 true := ⟨Tryz.isAgg202⟩
theorem fS202 : Sz prog 202 4 := ⟨Tryz.sizeOf202⟩
theorem fB202 : By prog 202 80 := ⟨λ w => ⟨_, Tryz.typeInfo202 w, rfl⟩⟩
theorem fZ202 : Zr prog 202 (.agg [.int .u64 0, sZ, sZ, sZ].toArray) := ⟨Tryz.zeroValue202⟩
theorem fF202_0 : Fld prog 202 0 0 := Fld.of Tryz.underlying202 rfl Tryz.sizeOf200 rfl rfl
theorem fF202_1 : Fld prog 202 1 3 := Fld.of Tryz.underlying202 rfl Tryz.sizeOf65 rfl rfl
theorem fL202 : Bld prog 202 [(0, 3), (3, 1)] [.int .u64 0, sZ, sZ, sZ] := ⟨_, Tryz.underlying202, Tryz.zeroValue202, λ w => by simp [Tryz.sizeOf200, Tryz.sizeOf65]⟩
theorem fU205 : Und prog 205 (.slice 252) := ⟨Tryz.underlying205⟩
theorem fA205 : Agg prog 205 false := ⟨Tryz.isAgg205⟩
theorem fS205 : Sz prog 205 1 := ⟨Tryz.sizeOf205⟩
theorem fA207 : Agg prog 207 true := ⟨Tryz.isAgg207⟩
theorem fS207 : Sz prog 207 3 := ⟨Tryz.sizeOf207⟩
theorem fB207 : By prog 207 64 := ⟨λ w => ⟨_, Tryz.typeInfo207 w, rfl⟩⟩
theorem fZ207 : Zr prog 207 (.agg [.string { data := #[] }, sZ, sZ].toArray) := ⟨Tryz.zeroValue207⟩
theorem fF207_0 : Fld prog 207 0 0 := Fld.of Tryz.underlying207 rfl Tryz.sizeOf9 rfl rfl
theorem fF207_1 : Fld prog 207 1 1 := Fld.of Tryz.underlying207 rfl Tryz.sizeOf205 rfl rfl
theorem fF207_2 : Fld prog 207 2 2 := Fld.of Tryz.underlying207 rfl Tryz.sizeOf119 rfl rfl
theorem fL207 : Bld prog 207 [(0, 1), (1, 1), (2, 1)] [.string { data := #[] }, sZ, sZ] := ⟨_, Tryz.underlying207, Tryz.zeroValue207, λ w => by simp [Tryz.sizeOf119, Tryz.sizeOf205, Tryz.sizeOf9]⟩
theorem fA209 : Agg prog 209 true := ⟨Tryz.isAgg209⟩
theorem fS209 : Sz prog 209 4 := ⟨Tryz.sizeOf209⟩
theorem fB209 : By prog 209 64 := ⟨λ w => ⟨_, Tryz.typeInfo209 w, rfl⟩⟩
theorem fZ209 : Zr prog 209 (.agg [.string { data := #[] }, .string { data := #[] }, .string { data := #[] }, .string { data := #[] }].toArray) := ⟨Tryz.zeroValue209⟩
theorem fF209_0 : Fld prog 209 0 0 := Fld.of Tryz.underlying209 rfl Tryz.sizeOf9 rfl rfl
theorem fF209_1 : Fld prog 209 1 1 := Fld.of Tryz.underlying209 rfl Tryz.sizeOf30 rfl rfl
theorem fF209_2 : Fld prog 209 2 3 := Fld.of Tryz.underlying209 rfl Tryz.sizeOf9 rfl rfl
theorem fU212 : Und prog 212 (.map 252 3) := ⟨Tryz.underlying212⟩
theorem fA212 : Agg prog 212 false := ⟨Tryz.isAgg212⟩
theorem fU215 : Und prog 215 (.map 289 3) := ⟨Tryz.underlying215⟩
theorem fA215 : Agg prog 215 false := ⟨Tryz.isAgg215⟩
theorem fF217_0 : Fld prog 217 0 0 := Fld.of Tryz.underlying217 rfl Tryz.sizeOf25 rfl rfl
theorem fF217_1 : Fld prog 217 1 2 := Fld.of Tryz.underlying217 rfl Tryz.sizeOf212 rfl rfl
theorem fF217_2 : Fld prog 217 2 3 := Fld.of Tryz.underlying217 rfl Tryz.sizeOf33 rfl rfl
theorem fF217_3 : Fld prog 217 3 4 := Fld.of Tryz.underlying217 rfl Tryz.sizeOf31 rfl rfl
theorem fF217_4 : Fld prog 217 4 5 := Fld.of Tryz.underlying217 rfl Tryz.sizeOf215 rfl rfl
theorem fF217_5 : Fld prog 217 5 6 := Fld.of Tryz.underlying217 rfl Tryz.sizeOf55 rfl rfl
theorem fF217_6 : Fld prog 217 6 8 := Fld.of Tryz.underlying217 rfl Tryz.sizeOf3 rfl rfl
theorem fL217 : Bld prog 217 [(0, 2), (2, 1), (3, 1), (4, 1), (5, 1), (6, 2), (8, 1)] [sZ, sZ, .map none, .pointer none, .int .u64 0, .map none, sZ, .int .i64 0, .int .i64 0] := ⟨_, Tryz.underlying217, Tryz.zeroValue217, λ w => by simp [Tryz.sizeOf212, Tryz.sizeOf215, Tryz.sizeOf25, Tryz.sizeOf3, Tryz.sizeOf31, Tryz.sizeOf33, Tryz.sizeOf55]⟩
theorem fU231 : Und prog 231 (.slice 312) := ⟨Tryz.underlying231⟩
theorem fA231 : Agg prog 231 false := ⟨Tryz.isAgg231⟩
theorem fS231 : Sz prog 231 1 := ⟨Tryz.sizeOf231⟩
theorem fF237_0 : Fld prog 237 0 0 := Fld.of Tryz.underlying237 rfl Tryz.sizeOf231 rfl rfl
theorem fF237_1 : Fld prog 237 1 1 := Fld.of Tryz.underlying237 rfl Tryz.sizeOf4 rfl rfl
theorem fL237 : Bld prog 237 [(0, 1), (1, 1)] [sZ, .bool false] := ⟨_, Tryz.underlying237, Tryz.zeroValue237, λ w => by simp [Tryz.sizeOf231, Tryz.sizeOf4]⟩
theorem fA241 : Agg prog 241 true := ⟨Tryz.isAgg241⟩
theorem fS241 : Sz prog 241 9 := ⟨Tryz.sizeOf241⟩
theorem fB241 : By prog 241 128 := ⟨λ w => ⟨_, Tryz.typeInfo241 w, rfl⟩⟩
theorem fZ241 : Zr prog 241 (.agg [.string { data := #[] }, .string { data := #[] }, .string { data := #[] }, .string { data := #[] }, .string { data := #[] }, .string { data := #[] }, .string { data := #[] }, .int .u64 0, .int .u64 0].toArray) := ⟨Tryz.zeroValue241⟩
theorem fF241_0 : Fld prog 241 0 0 := Fld.of Tryz.underlying241 rfl Tryz.sizeOf151 rfl rfl
theorem fF241_1 : Fld prog 241 1 7 := Fld.of Tryz.underlying241 rfl Tryz.sizeOf31 rfl rfl
theorem fF241_2 : Fld prog 241 2 8 := Fld.of Tryz.underlying241 rfl Tryz.sizeOf31 rfl rfl
theorem fL241 : Bld prog 241 [(0, 7), (7, 1), (8, 1)] [.string { data := #[] }, .string { data := #[] }, .string { data := #[] }, .string { data := #[] }, .string { data := #[] }, .string { data := #[] }, .string { data := #[] }, .int .u64 0, .int .u64 0] := ⟨_, Tryz.underlying241, Tryz.zeroValue241, λ w => by simp [Tryz.sizeOf151, Tryz.sizeOf31]⟩
theorem fA252 : Agg prog 252 true := ⟨Tryz.isAgg252⟩
theorem fS252 : Sz prog 252 2 := ⟨Tryz.sizeOf252⟩
theorem fB252 : By prog 252 32 := ⟨λ w => ⟨_, Tryz.typeInfo252 w, rfl⟩⟩
theorem fZ252 : Zr prog 252 (.agg [.string { data := #[] }, .string { data := #[] }].toArray) := ⟨Tryz.zeroValue252⟩
theorem fF252_0 : Fld prog 252 0 0 := Fld.of Tryz.underlying252 rfl Tryz.sizeOf9 rfl rfl
theorem fF252_1 : Fld prog 252 1 1 := Fld.of Tryz.underlying252 rfl Tryz.sizeOf9 rfl rfl
theorem fL252 : Bld prog 252 [(0, 1), (1, 1)] [.string { data := #[] }, .string { data := #[] }] := ⟨_, Tryz.underlying252, Tryz.zeroValue252, λ w => by simp [Tryz.sizeOf9]⟩
theorem fS256 : Sz prog 256 4 := ⟨Tryz.sizeOf256⟩
theorem fB256 : By prog 256 80 := ⟨λ w => ⟨_, Tryz.typeInfo256 w, rfl⟩⟩
theorem fZ256 : Zr prog 256 (.agg [.string { data := #[] }, .string { data := #[] }, sZ, sZ].toArray) := ⟨Tryz.zeroValue256⟩
theorem fF256_0 : Fld prog 256 0 0 := Fld.of Tryz.underlying256 rfl Tryz.sizeOf9 rfl rfl
theorem fF256_1 : Fld prog 256 1 1 := Fld.of Tryz.underlying256 rfl Tryz.sizeOf207 rfl rfl
theorem fL256 : Bld prog 256 [(0, 1), (1, 3)] [.string { data := #[] }, .string { data := #[] }, sZ, sZ] := ⟨_, Tryz.underlying256, Tryz.zeroValue256, λ w => by simp [Tryz.sizeOf207, Tryz.sizeOf9]⟩
theorem fA259 : Agg prog 259 true := ⟨Tryz.isAgg259⟩
theorem fS259 : Sz prog 259 3 := ⟨Tryz.sizeOf259⟩
theorem fB259 : By prog 259 24 := ⟨λ w => ⟨_, Tryz.typeInfo259 w, rfl⟩⟩
theorem fZ259 : Zr prog 259 (.agg [.int .i64 0, .int .i64 0, .bool false].toArray) := ⟨Tryz.zeroValue259⟩
theorem fF259_0 : Fld prog 259 0 0 := Fld.of Tryz.underlying259 rfl Tryz.sizeOf3 rfl rfl
theorem fF259_1 : Fld prog 259 1 1 := Fld.of Tryz.underlying259 rfl Tryz.sizeOf3 rfl rfl
theorem fF259_2 : Fld prog 259 2 2 := Fld.of Tryz.underlying259 rfl Tryz.sizeOf4 rfl rfl
theorem fL259 : Bld prog 259 [(0, 1), (1, 1), (2, 1)] [.int .i64 0, .int .i64 0, .bool false] := ⟨_, Tryz.underlying259, Tryz.zeroValue259, λ w => by simp [Tryz.sizeOf3, Tryz.sizeOf4]⟩
theorem fA262 : Agg prog 262 true := ⟨Tryz.isAgg262⟩
theorem fS262 : Sz prog 262 3 := ⟨Tryz.sizeOf262⟩
theorem fZ262 : Zr prog 262 (.agg [.string { data := #[] }, .string { data := #[] }, .string { data := #[] }].toArray) := ⟨Tryz.zeroValue262⟩
theorem fL262 : Bld prog 262 [(0, 2), (2, 1)] [.string { data := #[] }, .string { data := #[] }, .string { data := #[] }] := ⟨_, Tryz.underlying262, Tryz.zeroValue262, λ w => by simp [Tryz.sizeOf30, Tryz.sizeOf9]⟩
theorem fU263 : Und prog 263 (.slice 197) := ⟨Tryz.underlying263⟩
theorem fZ263 : Zr prog 263 (sZ) := ⟨Tryz.zeroValue263⟩
theorem fA271 : Agg prog 271 false := ⟨Tryz.isAgg271⟩
theorem fS271 : Sz prog 271 1 := ⟨Tryz.sizeOf271⟩
theorem fZ271 : Zr prog 271 (.nilFunc) := ⟨Tryz.zeroValue271⟩
theorem fU272 : Und prog 272 (.map 151 4) := ⟨Tryz.underlying272⟩
theorem fU279 : Und prog 279 (.slice 342) := ⟨Tryz.underlying279⟩
theorem fA289 : Agg prog 289 true := ⟨Tryz.isAgg289⟩
theorem fS289 : Sz prog 289 3 := ⟨Tryz.sizeOf289⟩
theorem fZ289 : Zr prog 289 (.agg [.string { data := #[] }, .string { data := #[] }, .string { data := #[] }].toArray) := ⟨Tryz.zeroValue289⟩
theorem fL289 : Bld prog 289 [(0, 2), (2, 1)] [.string { data := #[] }, .string { data := #[] }, .string { data := #[] }] := ⟨_, Tryz.underlying289, Tryz.zeroValue289, λ w => by simp [Tryz.sizeOf30, Tryz.sizeOf9]⟩
theorem fU295 : Und prog 295 (.map 3 4) := ⟨Tryz.underlying295⟩
theorem fU299 : Und prog 299 (.int .u64) := ⟨Tryz.underlying299⟩
theorem fF310_0 : Fld prog 310 0 0 := Fld.of Tryz.underlying310 rfl Tryz.sizeOf9 rfl rfl
theorem fF310_1 : Fld prog 310 1 1 := Fld.of Tryz.underlying310 rfl Tryz.sizeOf3 rfl rfl
theorem fL310 : Bld prog 310 [(0, 1), (1, 1)] [.string { data := #[] }, .int .i64 0] := ⟨_, Tryz.underlying310, Tryz.zeroValue310, λ w => by simp [Tryz.sizeOf3, Tryz.sizeOf9]⟩
theorem fA312 : Agg prog 312 true := ⟨Tryz.isAgg312⟩
theorem fS312 : Sz prog 312 3 := ⟨Tryz.sizeOf312⟩
theorem fB312 : By prog 312 32 := ⟨λ w => ⟨_, Tryz.typeInfo312 w, rfl⟩⟩
theorem fZ312 : Zr prog 312 (.agg [.int .i64 0, .string { data := #[] }, .int .i64 0].toArray) := ⟨Tryz.zeroValue312⟩
theorem fF312_0 : Fld prog 312 0 0 := Fld.of Tryz.underlying312 rfl Tryz.sizeOf3 rfl rfl
theorem fF312_1 : Fld prog 312 1 1 := Fld.of Tryz.underlying312 rfl Tryz.sizeOf9 rfl rfl
theorem fL312 : Bld prog 312 [(0, 1), (1, 1), (2, 1)] [.int .i64 0, .string { data := #[] }, .int .i64 0] := ⟨_, Tryz.underlying312, Tryz.zeroValue312, λ w => by simp [Tryz.sizeOf3, Tryz.sizeOf9]⟩
theorem fU333 : Und prog 333 (.map 252 338) := ⟨Tryz.underlying333⟩
theorem fA333 : Agg prog 333 false := ⟨Tryz.isAgg333⟩
theorem fF335_0 : Fld prog 335 0 0 := Fld.of Tryz.underlying335 rfl Tryz.sizeOf25 rfl rfl
theorem fF335_1 : Fld prog 335 1 2 := Fld.of Tryz.underlying335 rfl Tryz.sizeOf333 rfl rfl
theorem fL335 : Bld prog 335 [(0, 2), (2, 1)] [sZ, sZ, .map none] := ⟨_, Tryz.underlying335, Tryz.zeroValue335, λ w => by simp [Tryz.sizeOf25, Tryz.sizeOf333]⟩
theorem fU336 : Und prog 336 (.map 9 4) := ⟨Tryz.underlying336⟩
theorem fA338 : Agg prog 338 true := ⟨Tryz.isAgg338⟩
theorem fS338 : Sz prog 338 2 := ⟨Tryz.sizeOf338⟩
theorem fB338 : By prog 338 16 := ⟨λ w => ⟨_, Tryz.typeInfo338 w, rfl⟩⟩
theorem fZ338 : Zr prog 338 (.agg [.int .i64 0, .int .i64 0].toArray) := ⟨Tryz.zeroValue338⟩
theorem fF338_0 : Fld prog 338 0 0 := Fld.of Tryz.underlying338 rfl Tryz.sizeOf3 rfl rfl
theorem fF338_1 : Fld prog 338 1 1 := Fld.of Tryz.underlying338 rfl Tryz.sizeOf3 rfl rfl
theorem fL338 : Bld prog 338 [(0, 1), (1, 1)] [.int .i64 0, .int .i64 0] := ⟨_, Tryz.underlying338, Tryz.zeroValue338, λ w => by simp [Tryz.sizeOf3]⟩
theorem fA342 : Agg prog 342 true := ⟨Tryz.isAgg342⟩
theorem fS342 : Sz prog 342 5 := ⟨Tryz.sizeOf342⟩
theorem fB342 : By prog 342 40 := ⟨λ w => ⟨_, Tryz.typeInfo342 w, rfl⟩⟩
theorem fZ342 : Zr prog 342 (.agg [.int .i64 0, .int .i64 0, .int .i64 0, .int .i64 0, .bool false].toArray) := ⟨Tryz.zeroValue342⟩
theorem fF342_0 : Fld prog 342 0 0 := Fld.of Tryz.underlying342 rfl Tryz.sizeOf338 rfl rfl
theorem fF342_1 : Fld prog 342 1 2 := Fld.of Tryz.underlying342 rfl Tryz.sizeOf338 rfl rfl
theorem fF342_2 : Fld prog 342 2 4 := Fld.of Tryz.underlying342 rfl Tryz.sizeOf4 rfl rfl
theorem fL342 : Bld prog 342 [(0, 2), (2, 2), (4, 1)] [.int .i64 0, .int .i64 0, .int .i64 0, .int .i64 0, .bool false] := ⟨_, Tryz.underlying342, Tryz.zeroValue342, λ w => by simp [Tryz.sizeOf338, Tryz.sizeOf4]⟩
theorem fU389 : Und prog 389 (.slice 338) := ⟨Tryz.underlying389⟩
theorem fU393 : Und prog 393 (.int .u64) := ⟨Tryz.underlying393⟩
theorem fA393 : Agg prog 393 false := ⟨Tryz.isAgg393⟩
theorem fS393 : Sz prog 393 1 := ⟨Tryz.sizeOf393⟩
theorem fZ393 : Zr prog 393 (.int .u64 0) := ⟨Tryz.zeroValue393⟩
theorem fQ3 : EqT prog 3 1 [.i .i64] false := EqT.int fU3 fA3
theorem fQ9 : EqT prog 9 1 [.s] false := EqT.str fU9 fA9
theorem fQ30 : EqT prog 30 2 [.s, .s] true := EqT.struct (n := 1) Tryz.underlying30 Tryz.stoodInHeld30 fA30 fS30 (EqFs.more fQ9 (EqFs.more fQ9 EqFs.nil))
theorem fG30 : EqG prog 30 := ⟨Tryz.eqGuardType30⟩
theorem fQ149 : EqT prog 149 3 [.s, .s, .s, .s] true := EqT.struct (n := 2) Tryz.underlying149 Tryz.stoodInHeld149 fA149 fS149 (EqFs.more fQ9 (EqFs.more fQ30 (EqFs.more fQ9 EqFs.nil)))
theorem fG149 : EqG prog 149 := ⟨Tryz.eqGuardType149⟩
theorem fQ151 : EqT prog 151 4 [.s, .s, .s, .s, .s, .s, .s] true := EqT.struct (n := 3) Tryz.underlying151 Tryz.stoodInHeld151 fA151 fS151 (EqFs.more fQ30 (EqFs.more fQ9 (EqFs.more fQ149 EqFs.nil)))
theorem fG151 : EqG prog 151 := ⟨Tryz.eqGuardType151⟩
theorem fQ168 : EqT prog 168 2 [.i .i64, .s, .s, .i .i64, .i .i64] true := EqT.struct (n := 1) Tryz.underlying168 Tryz.stoodInHeld168 fA168 fS168 (EqFs.more fQ3 (EqFs.more fQ9 (EqFs.more fQ9 (EqFs.more fQ3 (EqFs.more fQ3 EqFs.nil)))))
theorem fG168 : EqG prog 168 := ⟨Tryz.eqGuardType168⟩
theorem fQ252 : EqT prog 252 2 [.s, .s] true := EqT.struct (n := 1) Tryz.underlying252 Tryz.stoodInHeld252 fA252 fS252 (EqFs.more fQ9 (EqFs.more fQ9 EqFs.nil))
theorem fG252 : EqG prog 252 := ⟨Tryz.eqGuardType252⟩
theorem fQ262 : EqT prog 262 3 [.s, .s, .s] true := EqT.struct (n := 2) Tryz.underlying262 Tryz.stoodInHeld262 fA262 fS262 (EqFs.more fQ30 (EqFs.more fQ9 EqFs.nil))
theorem fQ289 : EqT prog 289 3 [.s, .s, .s] true := EqT.struct (n := 2) Tryz.underlying289 Tryz.stoodInHeld289 fA289 fS289 (EqFs.more fQ30 (EqFs.more fQ9 EqFs.nil))
theorem fE19 : Ent prog 19 := ⟨Tryz.call19⟩
theorem fE26 : Ent prog 26 := ⟨Tryz.call26⟩
theorem fE36 : Ent prog 36 := ⟨Tryz.call36⟩
theorem fE38 : Ent prog 38 := ⟨Tryz.call38⟩
theorem fE39 : Ent prog 39 := ⟨Tryz.call39⟩
theorem fE40 : Ent prog 40 := ⟨Tryz.call40⟩
theorem fE42 : Ent prog 42 := ⟨Tryz.call42⟩
theorem fE44 : Ent prog 44 := ⟨Tryz.call44⟩
theorem fE47 : Ent prog 47 := ⟨Tryz.call47⟩
theorem fE48 : Ent prog 48 := ⟨Tryz.call48⟩
theorem fE49 : Ent prog 49 := ⟨Tryz.call49⟩
theorem fE50 : Ent prog 50 := ⟨Tryz.call50⟩
theorem fE51 : Ent prog 51 := ⟨Tryz.call51⟩
theorem fE52 : Ent prog 52 := ⟨Tryz.call52⟩
theorem fE56 : Ent prog 56 := ⟨Tryz.call56⟩
theorem fE58 : Ent prog 58 := ⟨Tryz.call58⟩
theorem fE64 : Ent prog 64 := ⟨Tryz.call64⟩
theorem fE69 : Ent prog 69 := ⟨Tryz.call69⟩
theorem fE82 : Ent prog 82 := ⟨Tryz.call82⟩
theorem fE83 : Ent prog 83 := ⟨Tryz.call83⟩
theorem fE84 : Ent prog 84 := ⟨Tryz.call84⟩
theorem fE85 : Ent prog 85 := ⟨Tryz.call85⟩
theorem fE86 : Ent prog 86 := ⟨Tryz.call86⟩
theorem fE91 : Ent prog 91 := ⟨Tryz.call91⟩
theorem fE92 : Ent prog 92 := ⟨Tryz.call92⟩
theorem fE93 : Ent prog 93 := ⟨Tryz.call93⟩
theorem fE94 : Ent prog 94 := ⟨Tryz.call94⟩
theorem fE95 : Ent prog 95 := ⟨Tryz.call95⟩
theorem fE96 : Ent prog 96 := ⟨Tryz.call96⟩
theorem fE97 : Ent prog 97 := ⟨Tryz.call97⟩
theorem fE98 : Ent prog 98 := ⟨Tryz.call98⟩
theorem fE99 : Ent prog 99 := ⟨Tryz.call99⟩
theorem fE100 : Ent prog 100 := ⟨Tryz.call100⟩
theorem fE101 : Ent prog 101 := ⟨Tryz.call101⟩
theorem fE102 : Ent prog 102 := ⟨Tryz.call102⟩
theorem fE103 : Ent prog 103 := ⟨Tryz.call103⟩
theorem fE104 : Ent prog 104 := ⟨Tryz.call104⟩
theorem fE105 : Ent prog 105 := ⟨Tryz.call105⟩
theorem fE106 : Ent prog 106 := ⟨Tryz.call106⟩
theorem fE116 : Ent prog 116 := ⟨Tryz.call116⟩
theorem fE117 : Ent prog 117 := ⟨Tryz.call117⟩
theorem fE118 : Ent prog 118 := ⟨Tryz.call118⟩
theorem fE119 : Ent prog 119 := ⟨Tryz.call119⟩
theorem fE123 : Ent prog 123 := ⟨Tryz.call123⟩
theorem fE124 : Ent prog 124 := ⟨Tryz.call124⟩
theorem fE125 : Ent prog 125 := ⟨Tryz.call125⟩
theorem fE126 : Ent prog 126 := ⟨Tryz.call126⟩
theorem fE132 : Ent prog 132 := ⟨Tryz.call132⟩
theorem fE133 : Ent prog 133 := ⟨Tryz.call133⟩
theorem fE134 : Ent prog 134 := ⟨Tryz.call134⟩
theorem fE135 : Ent prog 135 := ⟨Tryz.call135⟩
theorem fE136 : Ent prog 136 := ⟨Tryz.call136⟩
theorem fE137 : Ent prog 137 := ⟨Tryz.call137⟩
theorem fE139 : Ent prog 139 := ⟨Tryz.call139⟩
theorem fE140 : Ent prog 140 := ⟨Tryz.call140⟩
theorem fE141 : Ent prog 141 := ⟨Tryz.call141⟩
theorem fE142 : Ent prog 142 := ⟨Tryz.call142⟩
theorem fE143 : Ent prog 143 := ⟨Tryz.call143⟩
theorem fE144 : Ent prog 144 := ⟨Tryz.call144⟩
theorem fE145 : Ent prog 145 := ⟨Tryz.call145⟩
theorem fE146 : Ent prog 146 := ⟨Tryz.call146⟩
theorem fE147 : Ent prog 147 := ⟨Tryz.call147⟩
theorem fE148 : Ent prog 148 := ⟨Tryz.call148⟩
theorem fE149 : Ent prog 149 := ⟨Tryz.call149⟩
theorem fE150 : Ent prog 150 := ⟨Tryz.call150⟩
theorem fE151 : Ent prog 151 := ⟨Tryz.call151⟩
theorem fE152 : Ent prog 152 := ⟨Tryz.call152⟩
theorem fE153 : Ent prog 153 := ⟨Tryz.call153⟩
theorem fE154 : Ent prog 154 := ⟨Tryz.call154⟩
theorem fE155 : Ent prog 155 := ⟨Tryz.call155⟩
theorem fE156 : Ent prog 156 := ⟨Tryz.call156⟩
theorem fE157 : Ent prog 157 := ⟨Tryz.call157⟩
theorem fE158 : Ent prog 158 := ⟨Tryz.call158⟩
theorem fE159 : Ent prog 159 := ⟨Tryz.call159⟩
theorem fE160 : Ent prog 160 := ⟨Tryz.call160⟩
theorem fE161 : Ent prog 161 := ⟨Tryz.call161⟩
theorem fE162 : Ent prog 162 := ⟨Tryz.call162⟩
theorem fE163 : Ent prog 163 := ⟨Tryz.call163⟩
theorem fE164 : Ent prog 164 := ⟨Tryz.call164⟩
theorem fE165 : Ent prog 165 := ⟨Tryz.call165⟩
theorem fE166 : Ent prog 166 := ⟨Tryz.call166⟩
theorem fE168 : Ent prog 168 := ⟨Tryz.call168⟩
theorem fE174 : Ent prog 174 := ⟨Tryz.call174⟩
theorem fE175 : Ent prog 175 := ⟨Tryz.call175⟩
theorem fE176 : Ent prog 176 := ⟨Tryz.call176⟩
theorem fE177 : Ent prog 177 := ⟨Tryz.call177⟩
theorem fE179 : Ent prog 179 := ⟨Tryz.call179⟩
theorem fE180 : Ent prog 180 := ⟨Tryz.call180⟩
theorem fE181 : Ent prog 181 := ⟨Tryz.call181⟩
theorem fE182 : Ent prog 182 := ⟨Tryz.call182⟩
theorem fE183 : Ent prog 183 := ⟨Tryz.call183⟩
theorem fE184 : Ent prog 184 := ⟨Tryz.call184⟩
theorem fE185 : Ent prog 185 := ⟨Tryz.call185⟩
theorem fE186 : Ent prog 186 := ⟨Tryz.call186⟩
theorem fE187 : Ent prog 187 := ⟨Tryz.call187⟩
theorem fE188 : Ent prog 188 := ⟨Tryz.call188⟩
theorem fE189 : Ent prog 189 := ⟨Tryz.call189⟩
theorem fE190 : Ent prog 190 := ⟨Tryz.call190⟩
theorem fE191 : Ent prog 191 := ⟨Tryz.call191⟩
theorem fE192 : Ent prog 192 := ⟨Tryz.call192⟩
theorem fE193 : Ent prog 193 := ⟨Tryz.call193⟩
theorem fE194 : Ent prog 194 := ⟨Tryz.call194⟩
theorem fE195 : Ent prog 195 := ⟨Tryz.call195⟩
theorem fE196 : Ent prog 196 := ⟨Tryz.call196⟩
theorem fE197 : Ent prog 197 := ⟨Tryz.call197⟩
theorem fE198 : Ent prog 198 := ⟨Tryz.call198⟩
theorem fE199 : Ent prog 199 := ⟨Tryz.call199⟩
theorem fE200 : Ent prog 200 := ⟨Tryz.call200⟩
theorem fE201 : Ent prog 201 := ⟨Tryz.call201⟩
theorem fE202 : Ent prog 202 := ⟨Tryz.call202⟩
theorem fE203 : Ent prog 203 := ⟨Tryz.call203⟩
theorem fE219 : Ent prog 219 := ⟨Tryz.call219⟩
theorem fE220 : Ent prog 220 := ⟨Tryz.call220⟩
theorem fE221 : Ent prog 221 := ⟨Tryz.call221⟩
theorem fE223 : Ent prog 223 := ⟨Tryz.call223⟩
theorem fE225 : Ent prog 225 := ⟨Tryz.call225⟩
theorem fE226 : Ent prog 226 := ⟨Tryz.call226⟩
theorem fE227 : Ent prog 227 := ⟨Tryz.call227⟩
theorem fE228 : Ent prog 228 := ⟨Tryz.call228⟩
theorem fE229 : Ent prog 229 := ⟨Tryz.call229⟩
theorem fE232 : Ent prog 232 := ⟨Tryz.call232⟩
theorem fE233 : Ent prog 233 := ⟨Tryz.call233⟩
theorem fE234 : Ent prog 234 := ⟨Tryz.call234⟩
theorem fE235 : Ent prog 235 := ⟨Tryz.call235⟩
theorem fE236 : Ent prog 236 := ⟨Tryz.call236⟩
theorem fE237 : Ent prog 237 := ⟨Tryz.call237⟩
theorem fE238 : Ent prog 238 := ⟨Tryz.call238⟩
theorem fE239 : Ent prog 239 := ⟨Tryz.call239⟩
theorem fE240 : Ent prog 240 := ⟨Tryz.call240⟩
theorem fE241 : Ent prog 241 := ⟨Tryz.call241⟩
theorem fE242 : Ent prog 242 := ⟨Tryz.call242⟩
theorem fE243 : Ent prog 243 := ⟨Tryz.call243⟩
theorem fE244 : Ent prog 244 := ⟨Tryz.call244⟩
theorem fE245 : Ent prog 245 := ⟨Tryz.call245⟩
theorem fE246 : Ent prog 246 := ⟨Tryz.call246⟩
theorem fE247 : Ent prog 247 := ⟨Tryz.call247⟩
theorem fE248 : Ent prog 248 := ⟨Tryz.call248⟩
theorem fE249 : Ent prog 249 := ⟨Tryz.call249⟩
theorem fE250 : Ent prog 250 := ⟨Tryz.call250⟩
theorem fE251 : Ent prog 251 := ⟨Tryz.call251⟩
theorem fE252 : Ent prog 252 := ⟨Tryz.call252⟩
theorem fE253 : Ent prog 253 := ⟨Tryz.call253⟩
theorem fE254 : Ent prog 254 := ⟨Tryz.call254⟩
theorem fE255 : Ent prog 255 := ⟨Tryz.call255⟩
theorem fE257 : Ent prog 257 := ⟨Tryz.call257⟩
theorem fE258 : Ent prog 258 := ⟨Tryz.call258⟩
theorem fE264 : Ent prog 264 := ⟨Tryz.call264⟩
theorem fE265 : Ent prog 265 := ⟨Tryz.call265⟩
theorem fE266 : Ent prog 266 := ⟨Tryz.call266⟩
theorem fE268 : Ent prog 268 := ⟨Tryz.call268⟩
theorem fE269 : Ent prog 269 := ⟨Tryz.call269⟩
theorem fE270 : Ent prog 270 := ⟨Tryz.call270⟩
theorem fE271 : Ent prog 271 := ⟨Tryz.call271⟩
theorem fE272 : Ent prog 272 := ⟨Tryz.call272⟩
theorem fE273 : Ent prog 273 := ⟨Tryz.call273⟩
theorem fE274 : Ent prog 274 := ⟨Tryz.call274⟩
theorem fE275 : Ent prog 275 := ⟨Tryz.call275⟩
theorem fE278 : Ent prog 278 := ⟨Tryz.call278⟩
theorem fE279 : Ent prog 279 := ⟨Tryz.call279⟩
theorem fE282 : Ent prog 282 := ⟨Tryz.call282⟩
theorem fE284 : Ent prog 284 := ⟨Tryz.call284⟩
theorem fE285 : Ent prog 285 := ⟨Tryz.call285⟩
attribute [instance] fU3 fA3 fS3 fB3 fZ3 fU4 fA4 fS4 fB4 fZ4 fU9 fA9 fS9 fB9 fZ9 fU22 fA22 fS22 fU23 fA23 fS23 fA25 fS25 fZ25 fF25_0 fF25_1 fL25 fU26 fA26 fA28 fS28 fF28_0 fF28_1 fA30 fS30 fF30_0 fF30_1 fL30 fU31 fA31 fS31 fU32 fU33 fA33 fU39 fA39 fS39 fU53 fA53 fS53 fA55 fS55 fZ55 fF55_0 fF55_1 fL55 fU57 fA57 fS57 fU58 fA58 fS58 fA60 fS60 fF60_0 fF60_1 fF60_2 fF60_3 fF60_4 fF60_5 fL60 fA62 fS62 fB62 fZ62 fF62_0 fF62_1 fF62_2 fF62_3 fU65 fA65 fS65 fU86 fA86 fU87 fA87 fF89_0 fF89_1 fF89_2 fF89_3 fF89_4 fF89_5 fL89 fU106 fU114 fA114 fS114 fF116_0 fF116_1 fF116_2 fL116 fU119 fA119 fS119 fA121 fS121 fZ121 fF121_0 fF121_1 fF121_2 fF121_3 fF121_4 fF121_5 fF121_6 fL121 fA123 fS123 fB123 fZ123 fF123_0 fF123_1 fF123_2 fF123_3 fF123_4 fF123_5 fF123_6 fL123 fU124 fA124 fS124 fF126_0 fF126_1 fF126_2 fL126 fU127 fA127 fS127 fB127 fZ127 fA149 fS149 fB149 fZ149 fF149_0 fF149_1 fF149_2 fL149 fA151 fS151 fB151 fZ151 fF151_0 fF151_1 fF151_2 fL151 fA153 fS153 fZ153 fF153_0 fF153_1 fU164 fA168 fS168 fB168 fZ168 fF168_0 fF168_1 fF168_2 fF168_3 fF168_4 fL168 fU179 fU182 fU185 fA185 fS185 fA187 fS187 fB187 fZ187 fF187_0 fF187_1 fL187 fA196 fS196 fF196_0 fF196_1 fF196_2 fL196 fU197 fA197 fS197 fB197 fZ197 fF200_0 fF200_1 fL200 fA202 fS202 fB202 fZ202 fF202_0 fF202_1 fL202 fU205 fA205 fS205 fA207 fS207 fB207 fZ207 fF207_0 fF207_1 fF207_2 fL207 fA209 fS209 fB209 fZ209 fF209_0 fF209_1 fF209_2 fU212 fA212 fU215 fA215 fF217_0 fF217_1 fF217_2 fF217_3 fF217_4 fF217_5 fF217_6 fL217 fU231 fA231 fS231 fF237_0 fF237_1 fL237 fA241 fS241 fB241 fZ241 fF241_0 fF241_1 fF241_2 fL241 fA252 fS252 fB252 fZ252 fF252_0 fF252_1 fL252 fS256 fB256 fZ256 fF256_0 fF256_1 fL256 fA259 fS259 fB259 fZ259 fF259_0 fF259_1 fF259_2 fL259 fA262 fS262 fZ262 fL262 fU263 fZ263 fA271 fS271 fZ271 fU272 fU279 fA289 fS289 fZ289 fL289 fU295 fU299 fF310_0 fF310_1 fL310 fA312 fS312 fB312 fZ312 fF312_0 fF312_1 fL312 fU333 fA333 fF335_0 fF335_1 fL335 fU336 fA338 fS338 fB338 fZ338 fF338_0 fF338_1 fL338 fA342 fS342 fB342 fZ342 fF342_0 fF342_1 fF342_2 fL342 fU389 fU393 fA393 fS393 fZ393 fQ3 fQ9 fQ30 fG30 fQ149 fG149 fQ151 fG151 fQ168 fG168 fQ252 fG252 fQ262 fQ289 fE19 fE26 fE36 fE38 fE39 fE40 fE42 fE44 fE47 fE48 fE49 fE50 fE51 fE52 fE56 fE58 fE64 fE69 fE82 fE83 fE84 fE85 fE86 fE91 fE92 fE93 fE94 fE95 fE96 fE97 fE98 fE99 fE100 fE101 fE102 fE103 fE104 fE105 fE106 fE116 fE117 fE118 fE119 fE123 fE124 fE125 fE126 fE132 fE133 fE134 fE135 fE136 fE137 fE139 fE140 fE141 fE142 fE143 fE144 fE145 fE146 fE147 fE148 fE149 fE150 fE151 fE152 fE153 fE154 fE155 fE156 fE157 fE158 fE159 fE160 fE161 fE162 fE163 fE164 fE165 fE166 fE168 fE174 fE175 fE176 fE177 fE179 fE180 fE181 fE182 fE183 fE184 fE185 fE186 fE187 fE188 fE189 fE190 fE191 fE192 fE193 fE194 fE195 fE196 fE197 fE198 fE199 fE200 fE201 fE202 fE203 fE219 fE220 fE221 fE223 fE225 fE226 fE227 fE228 fE229 fE232 fE233 fE234 fE235 fE236 fE237 fE238 fE239 fE240 fE241 fE242 fE243 fE244 fE245 fE246 fE247 fE248 fE249 fE250 fE251 fE252 fE253 fE254 fE255 fE257 fE258 fE264 fE265 fE266 fE268 fE269 fE270 fE271 fE272 fE273 fE274 fE275 fE278 fE279 fE282 fE284 fE285
theorem mixed : Tryz.prog.follows .mixedOrders = true := by kernel_rfl
end Go.Proofs.YtenilfmlfldogaaGreat

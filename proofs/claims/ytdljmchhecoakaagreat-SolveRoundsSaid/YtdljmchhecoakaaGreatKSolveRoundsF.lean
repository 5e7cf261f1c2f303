/- What the law 'SolveRounds' uses. No condition. -/
import Derived.Test.YtdljmchhecoakaaGreatChecked
import Derived.Test.YtdljmchhecoakaaGreatKSolveRoundsB
namespace Go.Proofs.YtdljmchhecoakaaGreat
open Tryz
set_option linter.unusedVariables false
theorem wQ:bS prog 3 (.int .i64):=⟨underlying3⟩
theorem wE:cH prog 3 false:=⟨isAgg3⟩
theorem H9:Sz prog 3 1:=⟨sizeOf3⟩
theorem CE:By prog 3 8:=⟨λw=>⟨_,typeInfo3 w,rfl⟩⟩
theorem Jj:Zr prog 3 (.int .i64 0):=⟨zeroValue3⟩
theorem Ci:cH prog 4 false:=⟨isAgg4⟩
theorem Ie:Sz prog 4 1:=⟨sizeOf4⟩
theorem CH:By prog 4 1:=⟨λw=>⟨_,typeInfo4 w,rfl⟩⟩
theorem Jn:Zr prog 4 (.bool false):=⟨zeroValue4⟩
theorem sX:bS prog 9 (.string):=⟨underlying9⟩
theorem sV:cH prog 9 false:=⟨isAgg9⟩
theorem Il:Sz prog 9 1:=⟨sizeOf9⟩
theorem CI:By prog 9 16:=⟨λw=>⟨_,typeInfo9 w,rfl⟩⟩
theorem Jq:Zr prog 9 (.string {data:=#[]}):=⟨zeroValue9⟩
theorem IE:bS prog 22 (.slice 164):=⟨underlying22⟩
theorem B6:cH prog 22 false:=⟨isAgg22⟩
theorem HZ:Sz prog 22 1:=⟨sizeOf22⟩
theorem IF:bS prog 23 (.slice 169):=⟨underlying23⟩
theorem B7:cH prog 23 false:=⟨isAgg23⟩
theorem H4:Sz prog 23 1:=⟨sizeOf23⟩
theorem B9:cH prog 25 true:=⟨isAgg25⟩
theorem H6:Sz prog 25 2:=⟨sizeOf25⟩
theorem Jf:Zr prog 25 (.agg [sZ,sZ].toArray):=⟨zeroValue25⟩
theorem GG:aV prog 25 0 0:=aV.of underlying25 rfl sizeOf22 rfl rfl
theorem GH:aV prog 25 1 1:=aV.of underlying25 rfl sizeOf23 rfl rfl
theorem Hx:ew prog 25 [(0,1),(1,1)] [sZ,sZ]:=⟨_,underlying25,zeroValue25,λw=>by simp[sizeOf22,sizeOf23]⟩
theorem IL:bS prog 30 (.pointer 155):=⟨underlying30⟩
theorem IN:bS prog 31 (.pointer 147):=⟨underlying31⟩
theorem Cc:cH prog 31 false:=⟨isAgg31⟩
theorem wF:cH prog 44 true:=⟨isAgg44⟩
theorem wP:Sz prog 44 2:=⟨sizeOf44⟩
theorem Jo:Zr prog 44 (.agg [.string {data:=#[]},.string {data:=#[]}].toArray):=⟨zeroValue44⟩
theorem GW:aV prog 44 0 0:=aV.of underlying44 rfl sizeOf9 rfl rfl
theorem GX:aV prog 44 1 1:=aV.of underlying44 rfl sizeOf9 rfl rfl
theorem HF:ew prog 44 [(0,1),(1,1)] [.string {data:=#[]},.string {data:=#[]}]:=⟨_,underlying44,zeroValue44,λw=>by simp[sizeOf9]⟩
theorem Cj:cH prog 45 false:=⟨isAgg45⟩
theorem Ig:Sz prog 45 1:=⟨sizeOf45⟩
theorem IT:bS prog 46 (.slice 119):=⟨underlying46⟩
theorem IU:bS prog 47 (.slice 121):=⟨underlying47⟩
theorem Ck:cH prog 49 true:=⟨isAgg49⟩
theorem Ih:Sz prog 49 7:=⟨sizeOf49⟩
theorem GY:aV prog 49 0 0:=aV.of underlying49 rfl sizeOf9 rfl rfl
theorem GZ:aV prog 49 1 1:=aV.of underlying49 rfl sizeOf9 rfl rfl
theorem G0:aV prog 49 2 2:=aV.of underlying49 rfl sizeOf9 rfl rfl
theorem G1:aV prog 49 3 3:=aV.of underlying49 rfl sizeOf9 rfl rfl
theorem G2:aV prog 49 4 4:=aV.of underlying49 rfl sizeOf44 rfl rfl
theorem G3:aV prog 49 5 6:=aV.of underlying49 rfl sizeOf9 rfl rfl
theorem HG:ew prog 49 [(0,1),(1,1),(2,1),(3,1),(4,2),(6,1)] [.string {data:=#[]},.string {data:=#[]},.string {data:=#[]},.string {data:=#[]},.string {data:=#[]},.string {data:=#[]},.string {data:=#[]}]:=⟨_,underlying49,zeroValue49,λw=>by simp[sizeOf44,sizeOf9]⟩
theorem IV:bS prog 70 (.slice 4):=⟨underlying70⟩
theorem Cl:cH prog 70 false:=⟨isAgg70⟩
theorem IW:bS prog 76 (.slice 182):=⟨underlying76⟩
theorem Cm:cH prog 76 false:=⟨isAgg76⟩
theorem Ii:Sz prog 76 1:=⟨sizeOf76⟩
theorem IY:bS prog 79 (.slice 95):=⟨underlying79⟩
theorem Cn:cH prog 79 false:=⟨isAgg79⟩
theorem Ij:Sz prog 79 1:=⟨sizeOf79⟩
theorem Co:cH prog 81 true:=⟨isAgg81⟩
theorem Ik:Sz prog 81 2:=⟨sizeOf81⟩
theorem Jp:Zr prog 81 (.agg [sZ,.int .i64 0].toArray):=⟨zeroValue81⟩
theorem G4:aV prog 81 0 0:=aV.of underlying81 rfl sizeOf79 rfl rfl
theorem G5:aV prog 81 1 1:=aV.of underlying81 rfl sizeOf3 rfl rfl
theorem HH:ew prog 81 [(0,1),(1,1)] [sZ,.int .i64 0]:=⟨_,underlying81,zeroValue81,λw=>by simp[sizeOf3,sizeOf79]⟩
theorem IZ:bS prog 90 (.slice 199):=⟨underlying90⟩
theorem Cp:cH prog 90 false:=⟨isAgg90⟩
theorem Im:Sz prog 90 1:=⟨sizeOf90⟩
theorem I0:bS prog 91 (.slice 9):=⟨underlying91⟩
theorem Cq:cH prog 91 false:=⟨isAgg91⟩
theorem Io:Sz prog 91 1:=⟨sizeOf91⟩
theorem Cr:cH prog 95 true:=⟨isAgg95⟩
theorem Ip:Sz prog 95 8:=⟨sizeOf95⟩
theorem CJ:By prog 95 136:=⟨λw=>⟨_,typeInfo95 w,rfl⟩⟩
theorem Jr:Zr prog 95 (.agg [.string {data:=#[]},.string {data:=#[]},.string {data:=#[]},.bool false,sZ,sZ,sZ,.int .i64 0].toArray):=⟨zeroValue95⟩
theorem G6:aV prog 95 0 0:=aV.of underlying95 rfl sizeOf44 rfl rfl
theorem G7:aV prog 95 1 2:=aV.of underlying95 rfl sizeOf9 rfl rfl
theorem G8:aV prog 95 2 3:=aV.of underlying95 rfl sizeOf4 rfl rfl
theorem G9:aV prog 95 3 4:=aV.of underlying95 rfl sizeOf90 rfl rfl
theorem Ha:aV prog 95 4 5:=aV.of underlying95 rfl sizeOf91 rfl rfl
theorem Hb:aV prog 95 5 6:=aV.of underlying95 rfl sizeOf76 rfl rfl
theorem Hc:aV prog 95 6 7:=aV.of underlying95 rfl sizeOf3 rfl rfl
theorem HJ:ew prog 95 [(0,2),(2,1),(3,1),(4,1),(5,1),(6,1),(7,1)] [.string {data:=#[]},.string {data:=#[]},.string {data:=#[]},.bool false,sZ,sZ,sZ,.int .i64 0]:=⟨_,underlying95,zeroValue95,λw=>by simp[sizeOf3,sizeOf4,sizeOf44,sizeOf76,sizeOf9,sizeOf90,sizeOf91]⟩
theorem Iq:bS prog 101 (.slice 226):=⟨underlying101⟩
theorem BO:cH prog 101 false:=⟨isAgg101⟩
theorem FG:aV prog 103 0 0:=aV.of underlying103 rfl sizeOf101 rfl rfl
theorem FH:aV prog 103 1 1:=aV.of underlying103 rfl sizeOf45 rfl rfl
theorem FI:aV prog 103 2 2:=aV.of underlying103 rfl sizeOf45 rfl rfl
theorem wy:cH prog 117 true:=⟨isAgg117⟩
theorem wK:Sz prog 117 4:=⟨sizeOf117⟩
theorem Cs:By prog 117 64:=⟨λw=>⟨_,typeInfo117 w,rfl⟩⟩
theorem I1:Zr prog 117 (.agg [.string {data:=#[]},.string {data:=#[]},.string {data:=#[]},.string {data:=#[]}].toArray):=⟨zeroValue117⟩
theorem FJ:aV prog 117 0 0:=aV.of underlying117 rfl sizeOf9 rfl rfl
theorem FK:aV prog 117 1 1:=aV.of underlying117 rfl sizeOf44 rfl rfl
theorem FL:aV prog 117 2 3:=aV.of underlying117 rfl sizeOf9 rfl rfl
theorem Hg:ew prog 117 [(0,1),(1,2),(3,1)] [.string {data:=#[]},.string {data:=#[]},.string {data:=#[]},.string {data:=#[]}]:=⟨_,underlying117,zeroValue117,λw=>by simp[sizeOf44,sizeOf9]⟩
theorem wz:cH prog 119 true:=⟨isAgg119⟩
theorem wL:Sz prog 119 7:=⟨sizeOf119⟩
theorem Ct:By prog 119 112:=⟨λw=>⟨_,typeInfo119 w,rfl⟩⟩
theorem I2:Zr prog 119 (.agg [.string {data:=#[]},.string {data:=#[]},.string {data:=#[]},.string {data:=#[]},.string {data:=#[]},.string {data:=#[]},.string {data:=#[]}].toArray):=⟨zeroValue119⟩
theorem FM:aV prog 119 0 0:=aV.of underlying119 rfl sizeOf44 rfl rfl
theorem FN:aV prog 119 1 2:=aV.of underlying119 rfl sizeOf9 rfl rfl
theorem FO:aV prog 119 2 3:=aV.of underlying119 rfl sizeOf117 rfl rfl
theorem Hh:ew prog 119 [(0,2),(2,1),(3,4)] [.string {data:=#[]},.string {data:=#[]},.string {data:=#[]},.string {data:=#[]},.string {data:=#[]},.string {data:=#[]},.string {data:=#[]}]:=⟨_,underlying119,zeroValue119,λw=>by simp[sizeOf117,sizeOf44,sizeOf9]⟩
theorem BP:cH prog 121 true:=⟨isAgg121⟩
theorem HK:Sz prog 121 8:=⟨sizeOf121⟩
theorem I3:Zr prog 121 (.agg [.bool false,.string {data:=#[]},.string {data:=#[]},.string {data:=#[]},.string {data:=#[]},.string {data:=#[]},.string {data:=#[]},.string {data:=#[]}].toArray):=⟨zeroValue121⟩
theorem FP:aV prog 121 0 0:=aV.of underlying121 rfl sizeOf4 rfl rfl
theorem FQ:aV prog 121 1 1:=aV.of underlying121 rfl sizeOf119 rfl rfl
theorem Hi:ew prog 121 [(0,1),(1,7)] [.bool false,.string {data:=#[]},.string {data:=#[]},.string {data:=#[]},.string {data:=#[]},.string {data:=#[]},.string {data:=#[]},.string {data:=#[]}]:=⟨_,underlying121,zeroValue121,λw=>by simp[sizeOf119,sizeOf4]⟩
theorem Ir:bS prog 144 (.map 236 238):=⟨underlying144⟩
theorem BQ:cH prog 144 false:=⟨isAgg144⟩
theorem Is:bS prog 145 (.map 117 238):=⟨underlying145⟩
theorem BR:cH prog 145 false:=⟨isAgg145⟩
theorem FR:aV prog 147 0 0:=aV.of underlying147 rfl sizeOf4 rfl rfl
theorem FT:aV prog 147 1 1:=aV.of underlying147 rfl sizeOf45 rfl rfl
theorem FU:aV prog 147 2 2:=aV.of underlying147 rfl sizeOf45 rfl rfl
theorem FV:aV prog 147 3 3:=aV.of underlying147 rfl sizeOf3 rfl rfl
theorem FW:aV prog 147 4 4:=aV.of underlying147 rfl sizeOf144 rfl rfl
theorem FX:aV prog 147 5 5:=aV.of underlying147 rfl sizeOf145 rfl rfl
theorem Hj:ew prog 147 [(0,1),(1,1),(2,1),(3,1),(4,1),(5,1)] [.bool false,.int .u64 0,.int .u64 0,.int .i64 0,.map none,.map none]:=⟨_,underlying147,zeroValue147,λw=>by simp[sizeOf144,sizeOf145,sizeOf3,sizeOf4,sizeOf45]⟩
theorem BS:cH prog 150 true:=⟨isAgg150⟩
theorem HL:Sz prog 150 9:=⟨sizeOf150⟩
theorem FY:aV prog 150 0 0:=aV.of underlying150 rfl sizeOf119 rfl rfl
theorem FZ:aV prog 150 1 7:=aV.of underlying150 rfl sizeOf45 rfl rfl
theorem F0:aV prog 150 2 8:=aV.of underlying150 rfl sizeOf45 rfl rfl
theorem Hk:ew prog 150 [(0,7),(7,1),(8,1)] [.string {data:=#[]},.string {data:=#[]},.string {data:=#[]},.string {data:=#[]},.string {data:=#[]},.string {data:=#[]},.string {data:=#[]},.int .u64 0,.int .u64 0]:=⟨_,underlying150,zeroValue150,λw=>by simp[sizeOf119,sizeOf45]⟩
theorem Iu:bS prog 151 (.pointer 150):=⟨underlying151⟩
theorem BT:cH prog 151 false:=⟨isAgg151⟩
theorem HM:Sz prog 151 1:=⟨sizeOf151⟩
theorem Cu:By prog 151 8:=⟨λw=>⟨_,typeInfo151 w,rfl⟩⟩
theorem I4:Zr prog 151 (.pointer none):=⟨zeroValue151⟩
theorem Iv:bS prog 153 (.slice 159):=⟨underlying153⟩
theorem BU:cH prog 153 false:=⟨isAgg153⟩
theorem HN:Sz prog 153 1:=⟨sizeOf153⟩
theorem F1:aV prog 155 0 0:=aV.of underlying155 rfl sizeOf4 rfl rfl
theorem F2:aV prog 155 1 1:=aV.of underlying155 rfl sizeOf153 rfl rfl
theorem F3:aV prog 155 2 2:=aV.of underlying155 rfl sizeOf3 rfl rfl
theorem Hl:ew prog 155 [(0,1),(1,1),(2,1)] [.bool false,sZ,.int .i64 0]:=⟨_,underlying155,zeroValue155,λw=>by simp[sizeOf153,sizeOf3,sizeOf4]⟩
theorem F4:aV prog 157 0 0:=aV.of underlying157 rfl sizeOf45 rfl rfl
theorem F5:aV prog 157 1 1:=aV.of underlying157 rfl sizeOf25 rfl rfl
theorem Hm:ew prog 157 [(0,1),(1,2)] [.int .u64 0,sZ,sZ]:=⟨_,underlying157,zeroValue157,λw=>by simp[sizeOf25,sizeOf45]⟩
theorem BV:cH prog 159 true:=⟨isAgg159⟩
theorem HO:Sz prog 159 4:=⟨sizeOf159⟩
theorem Cv:By prog 159 80:=⟨λw=>⟨_,typeInfo159 w,rfl⟩⟩
theorem I5:Zr prog 159 (.agg [.int .u64 0,sZ,sZ,sZ].toArray):=⟨zeroValue159⟩
theorem F6:aV prog 159 0 0:=aV.of underlying159 rfl sizeOf157 rfl rfl
theorem F7:aV prog 159 1 3:=aV.of underlying159 rfl sizeOf76 rfl rfl
theorem Hn:ew prog 159 [(0,3),(3,1)] [.int .u64 0,sZ,sZ,sZ]:=⟨_,underlying159,zeroValue159,λw=>by simp[sizeOf157,sizeOf76]⟩
theorem Iw:bS prog 162 (.slice 167):=⟨underlying162⟩
theorem BW:cH prog 162 false:=⟨isAgg162⟩
theorem HP:Sz prog 162 1:=⟨sizeOf162⟩
theorem BX:cH prog 164 true:=⟨isAgg164⟩
theorem HQ:Sz prog 164 2:=⟨sizeOf164⟩
theorem Cw:By prog 164 40:=⟨λw=>⟨_,typeInfo164 w,rfl⟩⟩
theorem I6:Zr prog 164 (.agg [.string {data:=#[]},sZ].toArray):=⟨zeroValue164⟩
theorem F8:aV prog 164 0 0:=aV.of underlying164 rfl sizeOf9 rfl rfl
theorem F9:aV prog 164 1 1:=aV.of underlying164 rfl sizeOf162 rfl rfl
theorem Hp:ew prog 164 [(0,1),(1,1)] [.string {data:=#[]},sZ]:=⟨_,underlying164,zeroValue164,λw=>by simp[sizeOf162,sizeOf9]⟩
theorem Ix:bS prog 165 (.slice 249):=⟨underlying165⟩
theorem wA:cH prog 165 false:=⟨isAgg165⟩
theorem HR:Sz prog 165 1:=⟨sizeOf165⟩
theorem BY:cH prog 167 true:=⟨isAgg167⟩
theorem HS:Sz prog 167 3:=⟨sizeOf167⟩
theorem Cx:By prog 167 64:=⟨λw=>⟨_,typeInfo167 w,rfl⟩⟩
theorem I7:Zr prog 167 (.agg [.string {data:=#[]},sZ,sZ].toArray):=⟨zeroValue167⟩
theorem Ga:aV prog 167 0 0:=aV.of underlying167 rfl sizeOf9 rfl rfl
theorem Gb:aV prog 167 1 1:=aV.of underlying167 rfl sizeOf165 rfl rfl
theorem Gc:aV prog 167 2 2:=aV.of underlying167 rfl sizeOf90 rfl rfl
theorem Hq:ew prog 167 [(0,1),(1,1),(2,1)] [.string {data:=#[]},sZ,sZ]:=⟨_,underlying167,zeroValue167,λw=>by simp[sizeOf165,sizeOf9,sizeOf90]⟩
theorem BZ:cH prog 169 true:=⟨isAgg169⟩
theorem HT:Sz prog 169 4:=⟨sizeOf169⟩
theorem Cy:By prog 169 64:=⟨λw=>⟨_,typeInfo169 w,rfl⟩⟩
theorem I8:Zr prog 169 (.agg [.string {data:=#[]},.string {data:=#[]},.string {data:=#[]},.string {data:=#[]}].toArray):=⟨zeroValue169⟩
theorem Gd:aV prog 169 0 0:=aV.of underlying169 rfl sizeOf9 rfl rfl
theorem Ge:aV prog 169 1 1:=aV.of underlying169 rfl sizeOf44 rfl rfl
theorem Gf:aV prog 169 2 3:=aV.of underlying169 rfl sizeOf9 rfl rfl
theorem Iy:bS prog 182 (.slice 3):=⟨underlying182⟩
theorem B0:cH prog 182 false:=⟨isAgg182⟩
theorem HU:Sz prog 182 1:=⟨sizeOf182⟩
theorem Cz:By prog 182 24:=⟨λw=>⟨_,typeInfo182 w,rfl⟩⟩
theorem I9:Zr prog 182 (sZ):=⟨zeroValue182⟩
theorem Iz:bS prog 185 (.map 249 3):=⟨underlying185⟩
theorem B1:cH prog 185 false:=⟨isAgg185⟩
theorem IA:bS prog 188 (.map 269 3):=⟨underlying188⟩
theorem B2:cH prog 188 false:=⟨isAgg188⟩
theorem Gg:aV prog 190 0 0:=aV.of underlying190 rfl sizeOf25 rfl rfl
theorem Gh:aV prog 190 1 2:=aV.of underlying190 rfl sizeOf185 rfl rfl
theorem Gi:aV prog 190 2 3:=aV.of underlying190 rfl sizeOf31 rfl rfl
theorem Gj:aV prog 190 3 4:=aV.of underlying190 rfl sizeOf45 rfl rfl
theorem Gk:aV prog 190 4 5:=aV.of underlying190 rfl sizeOf188 rfl rfl
theorem Gl:aV prog 190 5 6:=aV.of underlying190 rfl sizeOf81 rfl rfl
theorem Gm:aV prog 190 6 8:=aV.of underlying190 rfl sizeOf3 rfl rfl
theorem Hr:ew prog 190 [(0,2),(2,1),(3,1),(4,1),(5,1),(6,2),(8,1)] [sZ,sZ,.map none,.pointer none,.int .u64 0,.map none,sZ,.int .i64 0,.int .i64 0]:=⟨_,underlying190,zeroValue190,λw=>by simp[sizeOf185,sizeOf188,sizeOf25,sizeOf3,sizeOf31,sizeOf45,sizeOf81]⟩
theorem IB:bS prog 195 (.slice 117):=⟨underlying195⟩
theorem B3:cH prog 199 true:=⟨isAgg199⟩
theorem HW:Sz prog 199 5:=⟨sizeOf199⟩
theorem CA:By prog 199 56:=⟨λw=>⟨_,typeInfo199 w,rfl⟩⟩
theorem Ja:Zr prog 199 (.agg [.int .i64 0,.string {data:=#[]},.string {data:=#[]},.int .i64 0,.int .i64 0].toArray):=⟨zeroValue199⟩
theorem Gn:aV prog 199 0 0:=aV.of underlying199 rfl sizeOf3 rfl rfl
theorem Gp:aV prog 199 1 1:=aV.of underlying199 rfl sizeOf9 rfl rfl
theorem Gq:aV prog 199 2 2:=aV.of underlying199 rfl sizeOf9 rfl rfl
theorem Gr:aV prog 199 3 3:=aV.of underlying199 rfl sizeOf3 rfl rfl
theorem Gs:aV prog 199 4 4:=aV.of underlying199 rfl sizeOf3 rfl rfl
theorem Hs:ew prog 199 [(0,1),(1,1),(2,1),(3,1),(4,1)] [.int .i64 0,.string {data:=#[]},.string {data:=#[]},.int .i64 0,.int .i64 0]:=⟨_,underlying199,zeroValue199,λw=>by simp[sizeOf3,sizeOf9]⟩
theorem IC:bS prog 204 (.slice 280):=⟨underlying204⟩
theorem B4:cH prog 204 false:=⟨isAgg204⟩
theorem HX:Sz prog 204 1:=⟨sizeOf204⟩
theorem Gt:aV prog 206 0 0:=aV.of underlying206 rfl sizeOf81 rfl rfl
theorem Gu:aV prog 206 1 2:=aV.of underlying206 rfl sizeOf9 rfl rfl
theorem Gv:aV prog 206 2 3:=aV.of underlying206 rfl sizeOf70 rfl rfl
theorem Gw:aV prog 206 3 4:=aV.of underlying206 rfl sizeOf76 rfl rfl
theorem Gx:aV prog 206 4 5:=aV.of underlying206 rfl sizeOf70 rfl rfl
theorem Gy:aV prog 206 5 6:=aV.of underlying206 rfl sizeOf204 rfl rfl
theorem Ht:ew prog 206 [(0,2),(2,1),(3,1),(4,1),(5,1),(6,1)] [sZ,.int .i64 0,.string {data:=#[]},sZ,sZ,sZ,sZ]:=⟨_,underlying206,zeroValue206,λw=>by simp[sizeOf204,sizeOf70,sizeOf76,sizeOf81,sizeOf9]⟩
theorem ID:bS prog 209 (.slice 291):=⟨underlying209⟩
theorem B5:cH prog 209 false:=⟨isAgg209⟩
theorem HY:Sz prog 209 1:=⟨sizeOf209⟩
theorem Gz:aV prog 215 0 0:=aV.of underlying215 rfl sizeOf209 rfl rfl
theorem GA:aV prog 215 1 1:=aV.of underlying215 rfl sizeOf4 rfl rfl
theorem Hu:ew prog 215 [(0,1),(1,1)] [sZ,.bool false]:=⟨_,underlying215,zeroValue215,λw=>by simp[sizeOf209,sizeOf4]⟩
theorem H3:Sz prog 226 9:=⟨sizeOf226⟩
theorem GB:aV prog 226 0 0:=aV.of underlying226 rfl sizeOf119 rfl rfl
theorem GC:aV prog 226 2 8:=aV.of underlying226 rfl sizeOf45 rfl rfl
theorem B8:cH prog 231 false:=⟨isAgg231⟩
theorem H5:Sz prog 231 1:=⟨sizeOf231⟩
theorem Jb:Zr prog 231 (.nilFunc):=⟨zeroValue231⟩
theorem IG:bS prog 232 (.map 119 4):=⟨underlying232⟩
theorem wB:cH prog 236 true:=⟨isAgg236⟩
theorem wM:Sz prog 236 3:=⟨sizeOf236⟩
theorem Jc:Zr prog 236 (.agg [.string {data:=#[]},.string {data:=#[]},.string {data:=#[]}].toArray):=⟨zeroValue236⟩
theorem Hv:ew prog 236 [(0,2),(2,1)] [.string {data:=#[]},.string {data:=#[]},.string {data:=#[]}]:=⟨_,underlying236,zeroValue236,λw=>by simp[sizeOf44,sizeOf9]⟩
theorem IH:bS prog 238 (.slice 151):=⟨underlying238⟩
theorem Jd:Zr prog 238 (sZ):=⟨zeroValue238⟩
theorem II:bS prog 242 (.slice 325):=⟨underlying242⟩
theorem wC:cH prog 249 true:=⟨isAgg249⟩
theorem wN:Sz prog 249 2:=⟨sizeOf249⟩
theorem CB:By prog 249 32:=⟨λw=>⟨_,typeInfo249 w,rfl⟩⟩
theorem Je:Zr prog 249 (.agg [.string {data:=#[]},.string {data:=#[]}].toArray):=⟨zeroValue249⟩
theorem GD:aV prog 249 0 0:=aV.of underlying249 rfl sizeOf9 rfl rfl
theorem GF:aV prog 249 1 1:=aV.of underlying249 rfl sizeOf9 rfl rfl
theorem Hw:ew prog 249 [(0,1),(1,1)] [.string {data:=#[]},.string {data:=#[]}]:=⟨_,underlying249,zeroValue249,λw=>by simp[sizeOf9]⟩
theorem wD:cH prog 269 true:=⟨isAgg269⟩
theorem wO:Sz prog 269 3:=⟨sizeOf269⟩
theorem Jg:Zr prog 269 (.agg [.string {data:=#[]},.string {data:=#[]},.string {data:=#[]}].toArray):=⟨zeroValue269⟩
theorem Hy:ew prog 269 [(0,2),(2,1)] [.string {data:=#[]},.string {data:=#[]},.string {data:=#[]}]:=⟨_,underlying269,zeroValue269,λw=>by simp[sizeOf44,sizeOf9]⟩
theorem IJ:bS prog 275 (.map 3 4):=⟨underlying275⟩
theorem Ca:cH prog 280 true:=⟨isAgg280⟩
theorem H7:Sz prog 280 2:=⟨sizeOf280⟩
theorem CC:By prog 280 16:=⟨λw=>⟨_,typeInfo280 w,rfl⟩⟩
theorem Jh:Zr prog 280 (.agg [.int .i64 0,.int .i64 0].toArray):=⟨zeroValue280⟩
theorem GI:aV prog 280 0 0:=aV.of underlying280 rfl sizeOf3 rfl rfl
theorem GJ:aV prog 280 1 1:=aV.of underlying280 rfl sizeOf3 rfl rfl
theorem Hz:ew prog 280 [(0,1),(1,1)] [.int .i64 0,.int .i64 0]:=⟨_,underlying280,zeroValue280,λw=>by simp[sizeOf3]⟩
theorem IK:bS prog 282 (.pointer 204):=⟨underlying282⟩
theorem GK:aV prog 289 0 0:=aV.of underlying289 rfl sizeOf9 rfl rfl
theorem GL:aV prog 289 1 1:=aV.of underlying289 rfl sizeOf3 rfl rfl
theorem HA:ew prog 289 [(0,1),(1,1)] [.string {data:=#[]},.int .i64 0]:=⟨_,underlying289,zeroValue289,λw=>by simp[sizeOf3,sizeOf9]⟩
theorem Cb:cH prog 291 true:=⟨isAgg291⟩
theorem H8:Sz prog 291 3:=⟨sizeOf291⟩
theorem CD:By prog 291 32:=⟨λw=>⟨_,typeInfo291 w,rfl⟩⟩
theorem Ji:Zr prog 291 (.agg [.int .i64 0,.string {data:=#[]},.int .i64 0].toArray):=⟨zeroValue291⟩
theorem GM:aV prog 291 0 0:=aV.of underlying291 rfl sizeOf3 rfl rfl
theorem GN:aV prog 291 1 1:=aV.of underlying291 rfl sizeOf9 rfl rfl
theorem HB:ew prog 291 [(0,1),(1,1),(2,1)] [.int .i64 0,.string {data:=#[]},.int .i64 0]:=⟨_,underlying291,zeroValue291,λw=>by simp[sizeOf3,sizeOf9]⟩
theorem IM:bS prog 306 (.int .u64):=⟨underlying306⟩
theorem IP:bS prog 316 (.map 249 321):=⟨underlying316⟩
theorem Cd:cH prog 316 false:=⟨isAgg316⟩
theorem GO:aV prog 318 0 0:=aV.of underlying318 rfl sizeOf25 rfl rfl
theorem GP:aV prog 318 1 2:=aV.of underlying318 rfl sizeOf316 rfl rfl
theorem HC:ew prog 318 [(0,2),(2,1)] [sZ,sZ,.map none]:=⟨_,underlying318,zeroValue318,λw=>by simp[sizeOf25,sizeOf316]⟩
theorem IQ:bS prog 319 (.map 9 4):=⟨underlying319⟩
theorem Ce:cH prog 321 true:=⟨isAgg321⟩
theorem Ia:Sz prog 321 2:=⟨sizeOf321⟩
theorem CF:By prog 321 16:=⟨λw=>⟨_,typeInfo321 w,rfl⟩⟩
theorem Jk:Zr prog 321 (.agg [.int .i64 0,.int .i64 0].toArray):=⟨zeroValue321⟩
theorem GQ:aV prog 321 0 0:=aV.of underlying321 rfl sizeOf3 rfl rfl
theorem GR:aV prog 321 1 1:=aV.of underlying321 rfl sizeOf3 rfl rfl
theorem HD:ew prog 321 [(0,1),(1,1)] [.int .i64 0,.int .i64 0]:=⟨_,underlying321,zeroValue321,λw=>by simp[sizeOf3]⟩
theorem Cg:cH prog 325 true:=⟨isAgg325⟩
theorem Ib:Sz prog 325 5:=⟨sizeOf325⟩
theorem CG:By prog 325 40:=⟨λw=>⟨_,typeInfo325 w,rfl⟩⟩
theorem Jl:Zr prog 325 (.agg [.int .i64 0,.int .i64 0,.int .i64 0,.int .i64 0,.bool false].toArray):=⟨zeroValue325⟩
theorem GS:aV prog 325 0 0:=aV.of underlying325 rfl sizeOf321 rfl rfl
theorem GU:aV prog 325 1 2:=aV.of underlying325 rfl sizeOf321 rfl rfl
theorem GV:aV prog 325 2 4:=aV.of underlying325 rfl sizeOf4 rfl rfl
theorem HE:ew prog 325 [(0,2),(2,2),(4,1)] [.int .i64 0,.int .i64 0,.int .i64 0,.int .i64 0,.bool false]:=⟨_,underlying325,zeroValue325,λw=>by simp[sizeOf321,sizeOf4]⟩
theorem IR:bS prog 375 (.slice 321):=⟨underlying375⟩
theorem IS:bS prog 385 (.int .u64):=⟨underlying385⟩
theorem Ch:cH prog 385 false:=⟨isAgg385⟩
theorem Ic:Sz prog 385 1:=⟨sizeOf385⟩
theorem Jm:Zr prog 385 (.int .u64 0):=⟨zeroValue385⟩
theorem kS:eL prog 9 1 [.s] false:=eL.str sX sV
theorem o7:eL prog 44 2 [.s,.s] true:=eL.struct (n:=1) underlying44 stoodInHeld44 wF wP (ey.more kS (ey.more kS ey.nil))
theorem sW:eL prog 117 3 [.s,.s,.s,.s] true:=eL.struct (n:=2) underlying117 stoodInHeld117 wy wK (ey.more kS (ey.more o7 (ey.more kS ey.nil)))
theorem Hd:qk prog 117:=⟨eqGuardType117⟩
theorem wG:eL prog 119 4 [.s,.s,.s,.s,.s,.s,.s] true:=eL.struct (n:=3) underlying119 stoodInHeld119 wz wL (ey.more o7 (ey.more kS (ey.more sW ey.nil)))
theorem He:qk prog 119:=⟨eqGuardType119⟩
theorem wH:eL prog 236 3 [.s,.s,.s] true:=eL.struct (n:=2) underlying236 stoodInHeld236 wB wM (ey.more o7 (ey.more kS ey.nil))
theorem wI:eL prog 249 2 [.s,.s] true:=eL.struct (n:=1) underlying249 stoodInHeld249 wC wN (ey.more kS (ey.more kS ey.nil))
theorem Hf:qk prog 249:=⟨eqGuardType249⟩
theorem wJ:eL prog 269 3 [.s,.s,.s] true:=eL.struct (n:=2) underlying269 stoodInHeld269 wD wO (ey.more o7 (ey.more kS ey.nil))
theorem DO:aP prog 19:=⟨call19⟩
theorem DZ:aP prog 20:=⟨call20⟩
theorem EQ:aP prog 26:=⟨call26⟩
theorem EZ:aP prog 27:=⟨call27⟩
theorem E7:aP prog 34:=⟨call34⟩
theorem E8:aP prog 38:=⟨call38⟩
theorem E9:aP prog 42:=⟨call42⟩
theorem Fa:aP prog 46:=⟨call46⟩
theorem Fb:aP prog 47:=⟨call47⟩
theorem Fc:aP prog 48:=⟨call48⟩
theorem Fe:aP prog 49:=⟨call49⟩
theorem Ff:aP prog 61:=⟨call61⟩
theorem Fg:aP prog 62:=⟨call62⟩
theorem Fh:aP prog 63:=⟨call63⟩
theorem Fi:aP prog 64:=⟨call64⟩
theorem Fj:aP prog 65:=⟨call65⟩
theorem Fk:aP prog 66:=⟨call66⟩
theorem Fl:aP prog 67:=⟨call67⟩
theorem Fm:aP prog 68:=⟨call68⟩
theorem Fo:aP prog 73:=⟨call73⟩
theorem Fp:aP prog 74:=⟨call74⟩
theorem Fq:aP prog 75:=⟨call75⟩
theorem Ft:aP prog 81:=⟨call81⟩
theorem Fu:aP prog 82:=⟨call82⟩
theorem Fv:aP prog 83:=⟨call83⟩
theorem Fw:aP prog 84:=⟨call84⟩
theorem Fx:aP prog 85:=⟨call85⟩
theorem Fy:aP prog 91:=⟨call91⟩
theorem Fz:aP prog 92:=⟨call92⟩
theorem FA:aP prog 93:=⟨call93⟩
theorem FB:aP prog 94:=⟨call94⟩
theorem FC:aP prog 95:=⟨call95⟩
theorem FD:aP prog 97:=⟨call97⟩
theorem FE:aP prog 98:=⟨call98⟩
theorem FF:aP prog 99:=⟨call99⟩
theorem CL:aP prog 100:=⟨call100⟩
theorem CM:aP prog 112:=⟨call112⟩
theorem CN:aP prog 113:=⟨call113⟩
theorem CO:aP prog 114:=⟨call114⟩
theorem CP:aP prog 115:=⟨call115⟩
theorem CQ:aP prog 116:=⟨call116⟩
theorem CR:aP prog 117:=⟨call117⟩
theorem CS:aP prog 118:=⟨call118⟩
theorem CT:aP prog 119:=⟨call119⟩
theorem CU:aP prog 120:=⟨call120⟩
theorem CV:aP prog 121:=⟨call121⟩
theorem CW:aP prog 122:=⟨call122⟩
theorem CY:aP prog 123:=⟨call123⟩
theorem CZ:aP prog 124:=⟨call124⟩
theorem C0:aP prog 125:=⟨call125⟩
theorem C1:aP prog 126:=⟨call126⟩
theorem C2:aP prog 128:=⟨call128⟩
theorem C3:aP prog 129:=⟨call129⟩
theorem C4:aP prog 130:=⟨call130⟩
theorem C5:aP prog 131:=⟨call131⟩
theorem C6:aP prog 132:=⟨call132⟩
theorem C7:aP prog 133:=⟨call133⟩
theorem C8:aP prog 134:=⟨call134⟩
theorem C9:aP prog 135:=⟨call135⟩
theorem Da:aP prog 136:=⟨call136⟩
theorem Db:aP prog 143:=⟨call143⟩
theorem Dc:aP prog 144:=⟨call144⟩
theorem Dd:aP prog 145:=⟨call145⟩
theorem De:aP prog 146:=⟨call146⟩
theorem Df:aP prog 149:=⟨call149⟩
theorem Dg:aP prog 150:=⟨call150⟩
theorem Dh:aP prog 151:=⟨call151⟩
theorem Di:aP prog 152:=⟨call152⟩
theorem Dj:aP prog 153:=⟨call153⟩
theorem Dk:aP prog 154:=⟨call154⟩
theorem Dl:aP prog 155:=⟨call155⟩
theorem Dm:aP prog 156:=⟨call156⟩
theorem Dn:aP prog 157:=⟨call157⟩
theorem Dp:aP prog 159:=⟨call159⟩
theorem Dq:aP prog 160:=⟨call160⟩
theorem Dr:aP prog 161:=⟨call161⟩
theorem Ds:aP prog 166:=⟨call166⟩
theorem Dt:aP prog 167:=⟨call167⟩
theorem Du:aP prog 170:=⟨call170⟩
theorem Dv:aP prog 171:=⟨call171⟩
theorem Dw:aP prog 172:=⟨call172⟩
theorem Dx:aP prog 173:=⟨call173⟩
theorem Dy:aP prog 174:=⟨call174⟩
theorem Dz:aP prog 175:=⟨call175⟩
theorem DA:aP prog 176:=⟨call176⟩
theorem DB:aP prog 177:=⟨call177⟩
theorem DC:aP prog 178:=⟨call178⟩
theorem DD:aP prog 179:=⟨call179⟩
theorem DE:aP prog 180:=⟨call180⟩
theorem DF:aP prog 181:=⟨call181⟩
theorem DG:aP prog 182:=⟨call182⟩
theorem DH:aP prog 183:=⟨call183⟩
theorem DJ:aP prog 184:=⟨call184⟩
theorem DK:aP prog 185:=⟨call185⟩
theorem DL:aP prog 186:=⟨call186⟩
theorem DM:aP prog 188:=⟨call188⟩
theorem DN:aP prog 189:=⟨call189⟩
theorem DP:aP prog 190:=⟨call190⟩
theorem DQ:aP prog 191:=⟨call191⟩
theorem DR:aP prog 192:=⟨call192⟩
theorem DT:aP prog 193:=⟨call193⟩
theorem DU:aP prog 194:=⟨call194⟩
theorem DW:aP prog 195:=⟨call195⟩
theorem DX:aP prog 196:=⟨call196⟩
theorem DY:aP prog 198:=⟨call198⟩
theorem D0:aP prog 200:=⟨call200⟩
theorem D1:aP prog 201:=⟨call201⟩
theorem D2:aP prog 202:=⟨call202⟩
theorem D3:aP prog 203:=⟨call203⟩
theorem D4:aP prog 204:=⟨call204⟩
theorem D5:aP prog 207:=⟨call207⟩
theorem D6:aP prog 210:=⟨call210⟩
theorem D7:aP prog 211:=⟨call211⟩
theorem D8:aP prog 212:=⟨call212⟩
theorem D9:aP prog 213:=⟨call213⟩
theorem Ea:aP prog 214:=⟨call214⟩
theorem Eb:aP prog 215:=⟨call215⟩
theorem Ec:aP prog 216:=⟨call216⟩
theorem Ee:aP prog 217:=⟨call217⟩
theorem Ef:aP prog 218:=⟨call218⟩
theorem Eg:aP prog 223:=⟨call223⟩
theorem Eh:aP prog 224:=⟨call224⟩
theorem Ei:aP prog 225:=⟨call225⟩
theorem Ej:aP prog 226:=⟨call226⟩
theorem Ek:aP prog 227:=⟨call227⟩
theorem El:aP prog 228:=⟨call228⟩
theorem Em:aP prog 229:=⟨call229⟩
theorem En:aP prog 230:=⟨call230⟩
theorem Eo:aP prog 231:=⟨call231⟩
theorem Ep:aP prog 232:=⟨call232⟩
theorem Er:aP prog 233:=⟨call233⟩
theorem Et:aP prog 234:=⟨call234⟩
theorem Eu:aP prog 235:=⟨call235⟩
theorem Ev:aP prog 236:=⟨call236⟩
theorem Ew:aP prog 237:=⟨call237⟩
theorem Ex:aP prog 238:=⟨call238⟩
theorem Ey:aP prog 239:=⟨call239⟩
theorem Ez:aP prog 240:=⟨call240⟩
theorem EB:aP prog 241:=⟨call241⟩
theorem EC:aP prog 242:=⟨call242⟩
theorem ED:aP prog 243:=⟨call243⟩
theorem EE:aP prog 246:=⟨call246⟩
theorem EF:aP prog 247:=⟨call247⟩
theorem EG:aP prog 248:=⟨call248⟩
theorem EH:aP prog 250:=⟨call250⟩
theorem EI:aP prog 251:=⟨call251⟩
theorem EJ:aP prog 252:=⟨call252⟩
theorem EK:aP prog 253:=⟨call253⟩
theorem EL:aP prog 254:=⟨call254⟩
theorem EM:aP prog 255:=⟨call255⟩
theorem EN:aP prog 257:=⟨call257⟩
theorem EO:aP prog 258:=⟨call258⟩
theorem EP:aP prog 259:=⟨call259⟩
theorem ER:aP prog 260:=⟨call260⟩
theorem ES:aP prog 261:=⟨call261⟩
theorem ET:aP prog 262:=⟨call262⟩
theorem EU:aP prog 263:=⟨call263⟩
theorem EV:aP prog 265:=⟨call265⟩
theorem EW:aP prog 266:=⟨call266⟩
theorem EX:aP prog 267:=⟨call267⟩
theorem EY:aP prog 269:=⟨call269⟩
theorem E0:aP prog 270:=⟨call270⟩
theorem E1:aP prog 272:=⟨call272⟩
theorem E2:aP prog 273:=⟨call273⟩
theorem E3:aP prog 297:=⟨call297⟩
theorem E4:aP prog 298:=⟨call298⟩
theorem E5:aP prog 299:=⟨call299⟩
theorem E6:aP prog 300:=⟨call300⟩
attribute [instance] wQ wE H9 CE Jj Ci Ie CH Jn sX sV Il CI Jq IE B6 HZ IF B7 H4 B9 H6 Jf GG GH Hx IL IN Cc wF wP Jo GW GX HF Cj Ig IT IU Ck Ih GY GZ G0 G1 G2 G3 HG IV Cl IW Cm Ii IY Cn Ij Co Ik Jp G4 G5 HH IZ Cp Im I0 Cq Io Cr Ip CJ Jr G6 G7 G8 G9 Ha Hb Hc HJ Iq BO FG FH FI wy wK Cs I1 FJ FK FL Hg wz wL Ct I2 FM FN FO Hh BP HK I3 FP FQ Hi Ir BQ Is BR FR FT FU FV FW FX Hj BS HL FY FZ F0 Hk Iu BT HM Cu I4 Iv BU HN F1 F2 F3 Hl F4 F5 Hm BV HO Cv I5 F6 F7 Hn Iw BW HP BX HQ Cw I6 F8 F9 Hp Ix wA HR BY HS Cx I7 Ga Gb Gc Hq BZ HT Cy I8 Gd Ge Gf Iy B0 HU Cz I9 Iz B1 IA B2 Gg Gh Gi Gj Gk Gl Gm Hr IB B3 HW CA Ja Gn Gp Gq Gr Gs Hs IC B4 HX Gt Gu Gv Gw Gx Gy Ht ID B5 HY Gz GA Hu H3 GB GC B8 H5 Jb IG wB wM Jc Hv IH Jd II wC wN CB Je GD GF Hw wD wO Jg Hy IJ Ca H7 CC Jh GI GJ Hz IK GK GL HA Cb H8 CD Ji GM GN HB IM IP Cd GO GP HC IQ Ce Ia CF Jk GQ GR HD Cg Ib CG Jl GS GU GV HE IR IS Ch Ic Jm kS o7 sW Hd wG He wH wI Hf wJ DO DZ EQ EZ E7 E8 E9 Fa Fb Fc Fe Ff Fg Fh Fi Fj Fk Fl Fm Fo Fp Fq Ft Fu Fv Fw Fx Fy Fz FA FB FC FD FE FF CL CM CN CO CP CQ CR CS CT CU CV CW CY CZ C0 C1 C2 C3 C4 C5 C6 C7 C8 C9 Da Db Dc Dd De Df Dg Dh Di Dj Dk Dl Dm Dn Dp Dq Dr Ds Dt Du Dv Dw Dx Dy Dz DA DB DC DD DE DF DG DH DJ DK DL DM DN DP DQ DR DT DU DW DX DY D0 D1 D2 D3 D4 D5 D6 D7 D8 D9 Ea Eb Ec Ee Ef Eg Eh Ei Ej Ek El Em En Eo Ep Er Et Eu Ev Ew Ex Ey Ez EB EC ED EE EF EG EH EI EJ EK EL EM EN EO EP ER ES ET EU EV EW EX EY E0 E1 E2 E3 E4 E5 E6
theorem mixed:prog.follows .mixedOrders=true:=by kernel_rfl
structure oV(P:Program)(R:aw)(t:TypeId)(v:Value){α:Type}(lt:α→α→Bool)(I:List α→ap→Prop):Prop where
 ki:∀L T,I L T→L.length≤1000000000
 len:∀L T,I L T→gi P t v "Len" [] R T fun u T'=>u=.int .i64 L.length∧I L T'
 less:∀L T (i k:Nat) x y,I L T→L[i]? =some x→L[k]? =some y→gi P t v "Less" [.int .i64 i,.int .i64 k] R T fun u T'=>u=.bool (lt x y)∧I L T'
 swap:∀L T (i k:Nat),I L T→i<L.length→k<L.length→gi P t v "Swap" [.int .i64 i,.int .i64 k] R T fun _ T'=>I (cy L i k) T'
section
variable{R:aw}{t:TypeId}{v:Value}{α:Type}{lt:α->α->Bool}{I:List α->ap->Prop}
theorem N1(A:oV prog R t v lt I)(V:SO lt)(L:List α)(T:ap)(h:I L T)(j:Nat)(W:j<L.length):
  Spec prog 193 [.iface t v,.int .i64 j] R [T] λu H'=>∃T',H'=[T']/\u=.tuple #[]/\∃L',I L' T'/\L'.Perm L/\(∀k,j<k->L'[k]? =L[k]?)/\∀n,n<=L.length->j<n->Up lt L n j->eS lt L' n:=by
 have z:=A.ki L T h
 refine Spec.body func193 rfl results193 ntmps193 rfl<|.block<|.loop (X:=Nat×List α×ap) (λy=>I y.2.1 y.2.2/\y.1<=j/\y.2.1.Perm L/\(∀k,j<k->y.2.1[k]? =L[k]?)/\∀n,n<=L.length->j<n->Up lt L n j->Up lt y.2.1 n y.1) (λy=>[(0,.iface t v),(1,iN y.1)]) (λy=>[y.2.2]) (λy=>y.1) (j,L,T) ⟨h,Nat.le_refl _,.refl _,λ_ _=>rfl,λ_ _ _ h=>h⟩ kE.c.c rH ?_
 rintro⟨i,f,H⟩ ⟨w,O,l,p,r⟩
 simp only at w O l p r⊢
 have Y:=l.length_eq
 obtain⟨x,B⟩:∃x,f[i]? =some x:=⟨_,aQ (by omega)⟩
 obtain⟨y,C⟩:∃y,f[bH i]? =some y:=⟨_,aQ (by unfold bH;omega)⟩
 refine .block<|.sr<|.mo rfl<|.q (.i64 ((i:Int)-1) .sub ⟨rfl,by omega,by omega⟩)<|.q (.i64 ((bH i:Nat):Int) .quo ⟨uE,by omega,by unfold bH;omega⟩)<|.ag rfl<|.zs<|.sr<|.mo rfl<|.mo rfl<|.q .cr<|.mo rfl<|.split (t:=11) rfl (λd=>?_) (λd=>?_)
 refine .gF d<|.gF d<|.gF d<|.gF d<|.gF d<|.q (.bx d)<|.zn<|.jo<|.exit (br (iJ (bz (bw ?_))))
 refine fg _ .none rH ?_
 ·have F:bH i=i:=by simp at d;omega
  refine⟨_,rfl,rfl,f,w,l,p,λn o m g=>?_⟩
  have M:i=0:=by
   rcases Nat.eq_zero_or_pos i with e|e
   ·exact e
   ·have:=eX e;omega
  subst M
  exact(r n o m g).zZ
 refine .gT d<|.mo rfl<|.gT d<|.mo rfl<|.gT d<|.mo rfl<|.gT d<|.kM (A.less f H i (bH i) x y w B C) (λu J g=>?_)
 obtain⟨rfl,D⟩:=g
 refine .gT d<|.q .not<|.q (.bs d)<|.zn<|.cond rfl (λs=>?_) λs=>?_
 refine .exit (br (iJ (bz (bw ?_))))
 refine fg _ .none rH ?_
 ·refine⟨_,rfl,rfl,f,D,l,p,λn o m g=>(r n o m g).stop λa b E z=>?_⟩
  rw[C]at E;rw[B]at z
  cases E;cases z
  simpa using s
 refine .kn<|.sr<|.mo rfl<|.mo rfl<|.mo rfl ?_
 refine .kM (A.swap f J (bH i) i D (by unfold bH;omega) (by omega)) (λu K N=>?_)
 refine .zn<|.region<|.mo rfl<|.ag rfl<|.nil<|bg ?_
 ·have S:lt x y=true:=by simpa using s
  have F:bH i≠i:=by simp at d;omega
  have G:0<i:=by
   rcases Nat.eq_zero_or_pos i with e|e
   ·subst e;exact absurd rfl F
   ·exact e
  have U:=eX G
  exact bu (bH i,cy f (bH i) i,K) ⟨N,by omega,rZ.trans l,λk Q=>by
   rw[fq (by omega) (by omega),if_neg (by omega),if_neg (by omega)];exact p k Q,λn o m g=>(r n o m g).step V G (by omega) (by omega) B C S⟩ U kE.c.c rH
theorem BC(K:oV prog R t v lt I)(F:SO lt)(L:List α)(T:ap)(h:I L T)(f n:Nat)(a7:f<=n)(hn:n<=L.length):
  Spec prog 190 [.iface t v,.int .i64 f,.int .i64 n] R [T] λu H'=>∃T',H'=[T']/\∃L' m,I L' T'/\u=.bool m/\L'.Perm L/\(∀k,n<=k->L'[k]? =L[k]?)/\(kG lt L n f->(m=true->eS lt L' n)/\(m=false->Up lt L' n f)):=by
 have J:=K.ki L T h
 refine Spec.body func190 rfl results190 ntmps190 rfl<|.sr<|.ag rfl<|.z<|.mo rfl<|.ag rfl<|.zs<|.block<|.loop (X:=Nat×List α×ap) (λy=>I y.2.1 y.2.2/\f<=y.1/\y.1<=n/\y.2.1.Perm L/\(∀k,n<=k->y.2.1[k]? =L[k]?)/\(kG lt L n f->kG lt y.2.1 n y.1/\(y.1≠f->fv lt y.2.1 (bH y.1) y.1))) (λy=>[(0,.iface t v),(1,iN f),(2,iN n),(7,iN y.1)]) (λy=>[y.2.2]) (λy=>n-y.1) (f,L,T) ⟨h,Nat.le_refl _,a7,.refl _,λ_ _=>rfl,λh=>⟨h,λe=>absurd rfl e⟩⟩ kE.c.c.c.c rH ?_
 rintro⟨i,g,T1⟩ ⟨Q,a8,a9,C,G,w⟩
 simp only at Q a8 a9 C G w⊢
 have hl:=C.length_eq
 refine .block<|.sr<|.mo rfl<|.ia (2*i) .mul<|.ia (2*i+1) .add<|.ag rfl<|.zs<|.sr<|.mo rfl<|.mo rfl<|.q .geq<|.mo rfl<|.split (t:=18) rfl (λs=>?_) (λs=>?_)
 refine .gF s<|.gF s<|.q (.bx s)<|.zn<|.jo ?_
 have a6:n<=2*i+1:=by
  (simp at s;omega)
 refine .exit (br (iJ (bz (bw ?_))))
 refine aB<|.sr<|.mo rfl<|.mo rfl<|.q .gtr<|.az rfl<|.ret (bm _ (.one (.tmp rfl)) rH ?_)
 ·refine⟨_,rfl,g,decide (f<i),by assumption,by simp,C,G,λd=>?_⟩
  have A:Up lt g n i:=(w d).1.stop λc B D r a b H J=>by
   (simp only[bH]at r;omega)
  refine⟨λo=>?_,λo=>?_⟩
  ·have p:i≠f:=by simp at o;omega
   exact A.stop ((w d).2 p)
  ·have p:i=f:=by simp at o;omega
   rw[<-p];exact A
 refine .gT s<|.mo rfl<|.gT s<|.q .lss<|.q (.bs s)<|.zn<|.cond rfl (λh1=>?_) λh1=>?_
 have a6:n<=2*i+1:=by
  (simp at h1;omega)
 refine .exit (br (iJ (bz (bw ?_))))
 refine aB<|.sr<|.mo rfl<|.mo rfl<|.q .gtr<|.az rfl<|.ret (bm _ (.one (.tmp rfl)) rH ?_)
 ·refine⟨_,rfl,g,decide (f<i),by assumption,by simp,C,G,λd=>?_⟩
  have A:Up lt g n i:=(w d).1.stop λc B D r a b H J=>by
   (simp only[bH]at r;omega)
  refine⟨λo=>?_,λo=>?_⟩
  ·have p:i≠f:=by simp at o;omega
   exact A.stop ((w d).2 p)
  ·have p:i=f:=by simp at o;omega
   rw[<-p];exact A
 have a3:2*i+1<n:=by simp at s;omega
 obtain⟨y0,Y⟩:∃y,g[i]? =some y:=⟨_,aQ (by omega)⟩
 obtain⟨Z,E⟩:∃y,g[2*i+1]? =some y:=⟨_,aQ (by omega)⟩
 refine .kn<|.sr<|.mo rfl<|.ag rfl<|.zs ?_
 refine bq.cut (X:=Nat×ap×α) (λz=>I g z.2.1/\0<z.1/\z.1<n/\bH z.1=i/\g[z.1]? =some z.2.2/\∀c u,0<c->c<n->bH c=i->g[c]? =some u->lt u z.2.2=false) (λz=>[(0,.iface t v),(1,iN f),(2,iN n),(7,iN i),(9,iN z.1)]) (λz=>[z.2.1]) ?_ ?_
 refine .sr<|.mo rfl<|.ia (2*i+2) .add<|.ag rfl<|.z<|.mo rfl<|.mo rfl<|.q .lss<|.mo rfl<|.split (t:=28) rfl (λl=>?_) (λl=>?_)
 have b1:2*i+2<n:=by simp at l;omega
 obtain⟨x2,M⟩:∃y,g[2*i+2]? =some y:=⟨_,aQ (by omega)⟩
 refine .gT l<|.mo rfl<|.gT l<|.mo rfl<|.gT l<|.mo rfl<|.gT l<|.kM (K.less g T1 (2*i+2) (2*i+1) x2 Z Q M E) (λu T2 d=>?_)
 obtain⟨rfl,a0⟩:=d
 refine .q (.bx l)<|.zn<|.cond rfl (λN=>?_) λN=>?_
 refine .region<|.mo rfl<|.ag rfl<|.nil ?_
 ·exact aL (2*i+2,T2,x2) ⟨a0,by simp only;omega,b1,by simp only[bH];omega,M,λc u B D r d=>by
   have:c=2*i+1\/c=2*i+2:=by simp only[bH]at r;omega
   rcases this with rfl|rfl
   ·rw[E]at d;cases d;exact F.mi (by simpa using N)
   ·rw[M]at d;cases d;exact F.gp _⟩ kE.c.c.c.c.c rH
 refine .skip ?_
 ·exact aL (2*i+1,T2,Z) ⟨a0,by simp only;omega,a3,by simp only[bH];omega,E,λc u B D r d=>by
   have:c=2*i+1\/c=2*i+2:=by simp only[bH]at r;omega
   rcases this with rfl|rfl
   ·rw[E]at d;cases d;exact F.gp _
   ·rw[M]at d;cases d;simpa using N⟩ kE.c.c.c.c.c rH
 refine .gF l<|.gF l<|.gF l<|.gF l<|.q (.bs l)<|.zn<|.di<|.skip ?_
 ·exact aL (2*i+1,T1,Z) ⟨Q,by simp only;omega,a3,by simp only[bH];omega,E,λc u B D r d=>by
   have:c=2*i+1:=by simp only[bH]at r;simp at l;omega
   subst this
   rw[E]at d;cases d;exact F.gp _⟩ kE.c.c.c.c.c rH
 intro y hy
 obtain⟨j,T3,x⟩:=y
 obtain⟨a1,S,a2,U,W,V⟩:=hy
 simp only at a1 S a2 U W V⊢
 have b2:i<j:=U▸eX S
 refine aB<|.seq<|.sr<|.mo rfl<|.mo rfl<|.mo rfl<|.kM (K.less g T3 j i x y0 a1 W Y) (λu T4 d=>?_)
 obtain⟨rfl,a4⟩:=d
 refine .q .not<|.zn<|.cond rfl (λO=>?_) λO=>?_
 refine .exit (br (iJ (bz (bw ?_))))
 refine aB<|.sr<|.mo rfl<|.mo rfl<|.q .gtr<|.az rfl<|.ret (bm _ (.one (.tmp rfl)) rH ?_)
 ·refine⟨_,rfl,g,decide (f<i),by assumption,by simp,C,G,λd=>?_⟩
  have A:Up lt g n i:=(w d).1.stop λc B D r a b H J=>by
   (rw[Y]at H;cases H;exact F.jx _ _ _ (V c b B D r J) (by simpa using O))
  refine⟨λo=>?_,λo=>?_⟩
  ·have p:i≠f:=by simp at o;omega
   exact A.stop ((w d).2 p)
  ·have p:i=f:=by simp at o;omega
   rw[<-p];exact A
 refine .kn<|.sr<|.mo rfl<|.mo rfl<|.mo rfl ?_
 refine .kM (K.swap g T4 i j a4 (by omega) (by omega)) (λu T5 a5=>?_)
 refine .zn<|.region<|.mo rfl<|.ag rfl<|.nil<|bg ?_
 ·have b0:lt x y0=true:=by simpa using O
  exact bu (j,cy g i j,T5) ⟨a5,by simp only;omega,by simp only;omega,rZ.trans C,λk hk=>by
   rw[fq (by omega) (by omega),if_neg (by omega),if_neg (by omega)];exact G k hk,λd=>by
    have:=(w d).1.step F S a2 (by omega) U W Y b0 V
    exact⟨this.1,λ_=>this.2⟩⟩ (by simp only;omega) kE.c.c.c.c rH
theorem Lk(hi:oV Tryz.prog R t v lt I)(so:SO lt)(L:List α)(T:ap)(x:Value)(a:α)(hp:gi Tryz.prog t v "Push" [x] R T fun _ T'=>I (L++[a]) T')(hh:eS lt L L.length):
  Spec prog 153 [.iface t v,x] R [T] fun u H'=>∃T',H'=[T']∧u=.tuple #[]∧∃L',I L' T'∧L'.Perm (L++[a])∧eS lt L' L'.length:=by
 refine Spec.body func153 rfl results153 ntmps153 rfl<|.sr<|.mo rfl<|.mo rfl<|.kM hp (fun u T1 h1=>?_)
 have hb:=hi.ki _ T1 h1
 simp only[List.length_append,List.length_singleton]at hb
 refine .zn<|.region<|.mo rfl<|.mo rfl<|.kM (hi.len _ T1 h1) (fun u T2 hu=>?_)
 obtain⟨rfl,h2⟩:=hu
 refine .q (.i64 ((L.length:Nat):Int) .sub ⟨by simp,by omega,by omega⟩)<|.bQ (N1 hi so _ T2 h2 L.length (by simp)) (fun u T3 hu=>?_)
 obtain⟨rfl,L3,h3,hp3,hs3,hh3⟩:=hu
 have hl3:=hp3.length_eq
 refine .nil<|fg _ .none (bo.refl _) ?_
 ·exact⟨_,rfl,rfl,L3,h3,hp3,by rw[hl3];exact hh3 _ (Nat.le_refl _) (by simp) (by simp;exact hh.push a)⟩
theorem Kc{L a:List α}{n:Nat}{x:α}(c:L.length=n+1)(e:L[n]? =some x)(d:L.Perm a):L=L.take n++[x]/\(L.take n).length=n/\a.Perm (x::L.take n):=by
 have b:L=L.take n++[x]:=by
  apply List.ext_getElem?
  intro k
  rcases Nat.lt_trichotomy k n with h|h|h
  ·rw[List.getElem?_append_left (by simp;omega),List.getElem?_take_of_lt h]
  ·subst h
   rw[List.getElem?_append_right (by simp;omega),e]
   simp[c]
  ·rw[List.getElem?_eq_none (by omega),List.getElem?_eq_none (by simp;omega)]
 refine⟨b,by simp;omega,d.symm.trans ?_⟩
 have:(L.take n++[x]).Perm (x::L.take n):=by simp
 rw[<-b]at this
 exact this
theorem eS.NJ{L:List α}{n:Nat}(h:eS lt L n)(b:n<=L.length):eS lt (L.take n) (L.take n).length:=by
 have e:(L.take n).length=n:=by simp;omega
 rw[e]
 exact h.fU λk a=>List.getElem?_take_of_lt a
theorem Lh(hi:oV prog R t v lt I)(so:SO lt)(L:List α)(T:ap)(h:I L T)(x:α)(hx:L[0]? =some x)(hh:eS lt L L.length)(px:α→Value)(J:List α→ap→Prop)
  (hp:∀L' T',I (L'++[x]) T'→L'.length+1=L.length→gi Tryz.prog t v "Pop" [] R T' fun u T''=>u=px x∧J L' T''):
  Spec prog 149 [.iface t v] R [T] fun u H'=>∃T',H'=[T']∧u=px x∧∃L',J L' T'∧L.Perm (x::L')∧eS lt L' L'.length:=by
 have hb:=hi.ki L T h
 have hpos:0<L.length:=(List.getElem?_eq_some_iff.1 hx).1
 obtain⟨n,hn⟩:∃n,L.length=n+1:=⟨L.length-1,by omega⟩
 refine Spec.body func149 rfl results149 ntmps149 rfl<|.sr<|.ag rfl<|.z<|.mo rfl<|.kM (hi.len L T h) (fun u T1 hu=>?_)
 obtain⟨rfl,h1⟩:=hu
 refine .q (.i64 ((n:Nat):Int) .sub ⟨by omega,by omega,by omega⟩)<|.ag rfl<|.z<|.mo rfl<|.mo rfl ?_
 refine .kM (hi.swap L T1 0 n h1 (by omega) (by omega)) (fun u T2 h2=>?_)
 refine .z<|.mo rfl<|.mo rfl<|.bQ (BC hi so _ T2 h2 0 n (by omega) (by rw[li];omega)) (fun u T3 hu=>?_)
 obtain⟨L3,m,h3,rfl,hp3,hs3,hh3⟩:=hu
 have hx3:L3[n]? =some x:=by rw[hs3 n (Nat.le_refl _),fq (by omega) (by omega),if_pos rfl,hx]
 have hl3:=hp3.length_eq
 rw[li]at hl3
 obtain⟨e1,e2,e3⟩:=Kc (by omega) hx3 (hp3.trans rZ)
 have hhole:kG lt (cy L 0 n) n 0:=(hh.mono (by omega)).hole so (by omega) fun k hk hk0=>by rw[fq (by omega) (by omega),if_neg (by omega),if_neg hk0]
 have hH:eS lt L3 n:=by
  cases m with
  |true=>exact(hh3 hhole).1 rfl
  |false=>exact((hh3 hhole).2 rfl).zZ
 refine .z<|.mo rfl ?_
 rw[e1]at h3
 refine .kM (hp _ T3 h3 (by omega)) (fun u T4 hu=>?_)
 obtain⟨rfl,h4⟩:=hu
 refine .ag rfl<|.zn<|.ret (bm _ (.one (.tmp rfl)) (bo.refl _) ?_)
 ·exact⟨_,rfl,rfl,_,h4,e3,hH.NJ (by omega)⟩
end
end Go.Proofs.YtdljmchhecoakaaGreat

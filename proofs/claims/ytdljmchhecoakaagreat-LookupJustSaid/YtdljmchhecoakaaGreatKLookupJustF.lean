/- What the law 'LookupJust' uses. No condition. -/
import Derived.Test.YtdljmchhecoakaaGreatChecked
import Derived.Test.YtdljmchhecoakaaGreatKLookupJustB
namespace Go.Proofs.YtdljmchhecoakaaGreat
open Tryz
set_option linter.unusedVariables false
theorem ud:bZ prog 3 (.int .i64):=⟨underlying3⟩
theorem xY:cO prog 3 false:=⟨isAgg3⟩
theorem KI:Sz prog 3 1:=⟨sizeOf3⟩
theorem El:By prog 3 8:=⟨λw=>⟨_,typeInfo3 w,rfl⟩⟩
theorem L7:Zr prog 3 (.int .i64 0):=⟨zeroValue3⟩
theorem yj:bZ prog 4 (.bool):=⟨underlying4⟩
theorem DN:cO prog 4 false:=⟨isAgg4⟩
theorem KM:Sz prog 4 1:=⟨sizeOf4⟩
theorem Eo:By prog 4 1:=⟨λw=>⟨_,typeInfo4 w,rfl⟩⟩
theorem Mb:Zr prog 4 (.bool false):=⟨zeroValue4⟩
theorem rG:bZ prog 9 (.string):=⟨underlying9⟩
theorem tY:cO prog 9 false:=⟨isAgg9⟩
theorem KV:Sz prog 9 1:=⟨sizeOf9⟩
theorem Er:By prog 9 16:=⟨λw=>⟨_,typeInfo9 w,rfl⟩⟩
theorem Me:Zr prog 9 (.string {data:=#[]}):=⟨zeroValue9⟩
theorem Lg:bZ prog 22 (.slice 164):=⟨underlying22⟩
theorem Dx:cO prog 22 false:=⟨isAgg22⟩
theorem Ky:Sz prog 22 1:=⟨sizeOf22⟩
theorem Lh:bZ prog 23 (.slice 169):=⟨underlying23⟩
theorem Dz:cO prog 23 false:=⟨isAgg23⟩
theorem KA:Sz prog 23 1:=⟨sizeOf23⟩
theorem DB:cO prog 25 true:=⟨isAgg25⟩
theorem KC:Sz prog 25 2:=⟨sizeOf25⟩
theorem LW:Zr prog 25 (.agg [sZ,sZ].toArray):=⟨zeroValue25⟩
theorem I3:aY prog 25 0 0:=aY.of underlying25 rfl sizeOf22 rfl rfl
theorem I4:aY prog 25 1 1:=aY.of underlying25 rfl sizeOf23 rfl rfl
theorem J5:eu prog 25 [(0,1),(1,1)] [sZ,sZ]:=⟨_,underlying25,zeroValue25,λw=>by simp[sizeOf22,sizeOf23]⟩
theorem Ll:bZ prog 26 (.slice 51):=⟨underlying26⟩
theorem DC:cO prog 26 false:=⟨isAgg26⟩
theorem DE:cO prog 28 true:=⟨isAgg28⟩
theorem KF:Sz prog 28 3:=⟨sizeOf28⟩
theorem Je:aY prog 28 0 0:=aY.of underlying28 rfl sizeOf25 rfl rfl
theorem Jf:aY prog 28 1 2:=aY.of underlying28 rfl sizeOf26 rfl rfl
theorem Lo:bZ prog 30 (.pointer 155):=⟨underlying30⟩
theorem Lq:bZ prog 31 (.pointer 147):=⟨underlying31⟩
theorem DH:cO prog 31 false:=⟨isAgg31⟩
theorem xZ:cO prog 44 true:=⟨isAgg44⟩
theorem yi:Sz prog 44 2:=⟨sizeOf44⟩
theorem Jp:aY prog 44 0 0:=aY.of underlying44 rfl sizeOf9 rfl rfl
theorem Jq:aY prog 44 1 1:=aY.of underlying44 rfl sizeOf9 rfl rfl
theorem Kf:eu prog 44 [(0,1),(1,1)] [.string {data:=#[]},.string {data:=#[]}]:=⟨_,underlying44,zeroValue44,λw=>by simp[sizeOf9]⟩
theorem Lv:bZ prog 45 (.int .u64):=⟨underlying45⟩
theorem DP:cO prog 45 false:=⟨isAgg45⟩
theorem KN:Sz prog 45 1:=⟨sizeOf45⟩
theorem Lw:bZ prog 46 (.slice 119):=⟨underlying46⟩
theorem DQ:cO prog 46 false:=⟨isAgg46⟩
theorem KO:Sz prog 46 1:=⟨sizeOf46⟩
theorem Lx:bZ prog 47 (.slice 121):=⟨underlying47⟩
theorem DR:cO prog 47 false:=⟨isAgg47⟩
theorem KP:Sz prog 47 1:=⟨sizeOf47⟩
theorem DT:cO prog 49 true:=⟨isAgg49⟩
theorem KQ:Sz prog 49 7:=⟨sizeOf49⟩
theorem Jr:aY prog 49 0 0:=aY.of underlying49 rfl sizeOf9 rfl rfl
theorem Js:aY prog 49 1 1:=aY.of underlying49 rfl sizeOf9 rfl rfl
theorem Jt:aY prog 49 2 2:=aY.of underlying49 rfl sizeOf9 rfl rfl
theorem Ju:aY prog 49 3 3:=aY.of underlying49 rfl sizeOf9 rfl rfl
theorem Jv:aY prog 49 4 4:=aY.of underlying49 rfl sizeOf44 rfl rfl
theorem Jw:aY prog 49 5 6:=aY.of underlying49 rfl sizeOf9 rfl rfl
theorem Kg:eu prog 49 [(0,1),(1,1),(2,1),(3,1),(4,2),(6,1)] [.string {data:=#[]},.string {data:=#[]},.string {data:=#[]},.string {data:=#[]},.string {data:=#[]},.string {data:=#[]},.string {data:=#[]}]:=⟨_,underlying49,zeroValue49,λw=>by simp[sizeOf44,sizeOf9]⟩
theorem DU:cO prog 51 true:=⟨isAgg51⟩
theorem KR:Sz prog 51 12:=⟨sizeOf51⟩
theorem Ep:By prog 51 200:=⟨λw=>⟨_,typeInfo51 w,rfl⟩⟩
theorem Mc:Zr prog 51 (.agg [.int .i64 0,sZ,sZ,sZ,.string {data:=#[]},.string {data:=#[]},.string {data:=#[]},.string {data:=#[]},.string {data:=#[]},.string {data:=#[]},.string {data:=#[]},.int .u64 0].toArray):=⟨zeroValue51⟩
theorem Jx:aY prog 51 0 0:=aY.of underlying51 rfl sizeOf3 rfl rfl
theorem Jy:aY prog 51 1 1:=aY.of underlying51 rfl sizeOf46 rfl rfl
theorem Jz:aY prog 51 2 2:=aY.of underlying51 rfl sizeOf46 rfl rfl
theorem JA:aY prog 51 3 3:=aY.of underlying51 rfl sizeOf47 rfl rfl
theorem Ly:bZ prog 70 (.slice 4):=⟨underlying70⟩
theorem DW:cO prog 70 false:=⟨isAgg70⟩
theorem Lz:bZ prog 76 (.slice 182):=⟨underlying76⟩
theorem DX:cO prog 76 false:=⟨isAgg76⟩
theorem KS:Sz prog 76 1:=⟨sizeOf76⟩
theorem LA:bZ prog 79 (.slice 95):=⟨underlying79⟩
theorem DY:cO prog 79 false:=⟨isAgg79⟩
theorem KT:Sz prog 79 1:=⟨sizeOf79⟩
theorem DZ:cO prog 81 true:=⟨isAgg81⟩
theorem KU:Sz prog 81 2:=⟨sizeOf81⟩
theorem Md:Zr prog 81 (.agg [sZ,.int .i64 0].toArray):=⟨zeroValue81⟩
theorem JB:aY prog 81 0 0:=aY.of underlying81 rfl sizeOf79 rfl rfl
theorem JC:aY prog 81 1 1:=aY.of underlying81 rfl sizeOf3 rfl rfl
theorem Kh:eu prog 81 [(0,1),(1,1)] [sZ,.int .i64 0]:=⟨_,underlying81,zeroValue81,λw=>by simp[sizeOf3,sizeOf79]⟩
theorem LC:bZ prog 90 (.slice 199):=⟨underlying90⟩
theorem D0:cO prog 90 false:=⟨isAgg90⟩
theorem KW:Sz prog 90 1:=⟨sizeOf90⟩
theorem LD:bZ prog 91 (.slice 9):=⟨underlying91⟩
theorem D1:cO prog 91 false:=⟨isAgg91⟩
theorem KX:Sz prog 91 1:=⟨sizeOf91⟩
theorem D2:cO prog 95 true:=⟨isAgg95⟩
theorem KY:Sz prog 95 8:=⟨sizeOf95⟩
theorem Et:By prog 95 136:=⟨λw=>⟨_,typeInfo95 w,rfl⟩⟩
theorem Mg:Zr prog 95 (.agg [.string {data:=#[]},.string {data:=#[]},.string {data:=#[]},.bool false,sZ,sZ,sZ,.int .i64 0].toArray):=⟨zeroValue95⟩
theorem JD:aY prog 95 0 0:=aY.of underlying95 rfl sizeOf44 rfl rfl
theorem JE:aY prog 95 1 2:=aY.of underlying95 rfl sizeOf9 rfl rfl
theorem JF:aY prog 95 2 3:=aY.of underlying95 rfl sizeOf4 rfl rfl
theorem JG:aY prog 95 3 4:=aY.of underlying95 rfl sizeOf90 rfl rfl
theorem JH:aY prog 95 4 5:=aY.of underlying95 rfl sizeOf91 rfl rfl
theorem JI:aY prog 95 5 6:=aY.of underlying95 rfl sizeOf76 rfl rfl
theorem JJ:aY prog 95 6 7:=aY.of underlying95 rfl sizeOf3 rfl rfl
theorem Ki:eu prog 95 [(0,2),(2,1),(3,1),(4,1),(5,1),(6,1),(7,1)] [.string {data:=#[]},.string {data:=#[]},.string {data:=#[]},.bool false,sZ,sZ,sZ,.int .i64 0]:=⟨_,underlying95,zeroValue95,λw=>by simp[sizeOf3,sizeOf4,sizeOf44,sizeOf76,sizeOf9,sizeOf90,sizeOf91]⟩
theorem K0:bZ prog 101 (.slice 226):=⟨underlying101⟩
theorem De:cO prog 101 false:=⟨isAgg101⟩
theorem Kj:Sz prog 101 1:=⟨sizeOf101⟩
theorem HW:aY prog 103 0 0:=aY.of underlying103 rfl sizeOf101 rfl rfl
theorem HX:aY prog 103 1 1:=aY.of underlying103 rfl sizeOf45 rfl rfl
theorem HY:aY prog 103 2 2:=aY.of underlying103 rfl sizeOf45 rfl rfl
theorem JN:eu prog 103 [(0,1),(1,1),(2,1)] [sZ,.int .u64 0,.int .u64 0]:=⟨_,underlying103,zeroValue103,λw=>by simp[sizeOf101,sizeOf45]⟩
theorem xS:cO prog 117 true:=⟨isAgg117⟩
theorem yc:Sz prog 117 4:=⟨sizeOf117⟩
theorem D3:By prog 117 64:=⟨λw=>⟨_,typeInfo117 w,rfl⟩⟩
theorem LF:Zr prog 117 (.agg [.string {data:=#[]},.string {data:=#[]},.string {data:=#[]},.string {data:=#[]}].toArray):=⟨zeroValue117⟩
theorem HZ:aY prog 117 0 0:=aY.of underlying117 rfl sizeOf9 rfl rfl
theorem H3:aY prog 117 1 1:=aY.of underlying117 rfl sizeOf44 rfl rfl
theorem H4:aY prog 117 2 3:=aY.of underlying117 rfl sizeOf9 rfl rfl
theorem JO:eu prog 117 [(0,1),(1,2),(3,1)] [.string {data:=#[]},.string {data:=#[]},.string {data:=#[]},.string {data:=#[]}]:=⟨_,underlying117,zeroValue117,λw=>by simp[sizeOf44,sizeOf9]⟩
theorem xT:cO prog 119 true:=⟨isAgg119⟩
theorem yd:Sz prog 119 7:=⟨sizeOf119⟩
theorem D4:By prog 119 112:=⟨λw=>⟨_,typeInfo119 w,rfl⟩⟩
theorem LG:Zr prog 119 (.agg [.string {data:=#[]},.string {data:=#[]},.string {data:=#[]},.string {data:=#[]},.string {data:=#[]},.string {data:=#[]},.string {data:=#[]}].toArray):=⟨zeroValue119⟩
theorem H5:aY prog 119 0 0:=aY.of underlying119 rfl sizeOf44 rfl rfl
theorem H6:aY prog 119 1 2:=aY.of underlying119 rfl sizeOf9 rfl rfl
theorem H7:aY prog 119 2 3:=aY.of underlying119 rfl sizeOf117 rfl rfl
theorem JP:eu prog 119 [(0,2),(2,1),(3,4)] [.string {data:=#[]},.string {data:=#[]},.string {data:=#[]},.string {data:=#[]},.string {data:=#[]},.string {data:=#[]},.string {data:=#[]}]:=⟨_,underlying119,zeroValue119,λw=>by simp[sizeOf117,sizeOf44,sizeOf9]⟩
theorem Df:cO prog 121 true:=⟨isAgg121⟩
theorem Kk:Sz prog 121 8:=⟨sizeOf121⟩
theorem LH:Zr prog 121 (.agg [.bool false,.string {data:=#[]},.string {data:=#[]},.string {data:=#[]},.string {data:=#[]},.string {data:=#[]},.string {data:=#[]},.string {data:=#[]}].toArray):=⟨zeroValue121⟩
theorem H8:aY prog 121 0 0:=aY.of underlying121 rfl sizeOf4 rfl rfl
theorem H9:aY prog 121 1 1:=aY.of underlying121 rfl sizeOf119 rfl rfl
theorem JQ:eu prog 121 [(0,1),(1,7)] [.bool false,.string {data:=#[]},.string {data:=#[]},.string {data:=#[]},.string {data:=#[]},.string {data:=#[]},.string {data:=#[]},.string {data:=#[]}]:=⟨_,underlying121,zeroValue121,λw=>by simp[sizeOf119,sizeOf4]⟩
theorem K2:bZ prog 144 (.map 236 238):=⟨underlying144⟩
theorem Dg:cO prog 144 false:=⟨isAgg144⟩
theorem K3:bZ prog 145 (.map 117 238):=⟨underlying145⟩
theorem Dh:cO prog 145 false:=⟨isAgg145⟩
theorem Ia:aY prog 147 0 0:=aY.of underlying147 rfl sizeOf4 rfl rfl
theorem Ib:aY prog 147 1 1:=aY.of underlying147 rfl sizeOf45 rfl rfl
theorem Ic:aY prog 147 2 2:=aY.of underlying147 rfl sizeOf45 rfl rfl
theorem Ie:aY prog 147 3 3:=aY.of underlying147 rfl sizeOf3 rfl rfl
theorem Ig:aY prog 147 4 4:=aY.of underlying147 rfl sizeOf144 rfl rfl
theorem Ih:aY prog 147 5 5:=aY.of underlying147 rfl sizeOf145 rfl rfl
theorem JR:eu prog 147 [(0,1),(1,1),(2,1),(3,1),(4,1),(5,1)] [.bool false,.int .u64 0,.int .u64 0,.int .i64 0,.map none,.map none]:=⟨_,underlying147,zeroValue147,λw=>by simp[sizeOf144,sizeOf145,sizeOf3,sizeOf4,sizeOf45]⟩
theorem Di:cO prog 150 true:=⟨isAgg150⟩
theorem Kl:Sz prog 150 9:=⟨sizeOf150⟩
theorem Ii:aY prog 150 0 0:=aY.of underlying150 rfl sizeOf119 rfl rfl
theorem Ij:aY prog 150 1 7:=aY.of underlying150 rfl sizeOf45 rfl rfl
theorem Ik:aY prog 150 2 8:=aY.of underlying150 rfl sizeOf45 rfl rfl
theorem JS:eu prog 150 [(0,7),(7,1),(8,1)] [.string {data:=#[]},.string {data:=#[]},.string {data:=#[]},.string {data:=#[]},.string {data:=#[]},.string {data:=#[]},.string {data:=#[]},.int .u64 0,.int .u64 0]:=⟨_,underlying150,zeroValue150,λw=>by simp[sizeOf119,sizeOf45]⟩
theorem K4:bZ prog 151 (.pointer 150):=⟨underlying151⟩
theorem Dj:cO prog 151 false:=⟨isAgg151⟩
theorem Km:Sz prog 151 1:=⟨sizeOf151⟩
theorem D5:By prog 151 8:=⟨λw=>⟨_,typeInfo151 w,rfl⟩⟩
theorem LI:Zr prog 151 (.pointer none):=⟨zeroValue151⟩
theorem K5:bZ prog 153 (.slice 159):=⟨underlying153⟩
theorem Dk:cO prog 153 false:=⟨isAgg153⟩
theorem Kn:Sz prog 153 1:=⟨sizeOf153⟩
theorem Il:aY prog 155 0 0:=aY.of underlying155 rfl sizeOf4 rfl rfl
theorem Im:aY prog 155 1 1:=aY.of underlying155 rfl sizeOf153 rfl rfl
theorem Io:aY prog 155 2 2:=aY.of underlying155 rfl sizeOf3 rfl rfl
theorem JT:eu prog 155 [(0,1),(1,1),(2,1)] [.bool false,sZ,.int .i64 0]:=⟨_,underlying155,zeroValue155,λw=>by simp[sizeOf153,sizeOf3,sizeOf4]⟩
theorem Ip:aY prog 157 0 0:=aY.of underlying157 rfl sizeOf45 rfl rfl
theorem Iq:aY prog 157 1 1:=aY.of underlying157 rfl sizeOf25 rfl rfl
theorem JU:eu prog 157 [(0,1),(1,2)] [.int .u64 0,sZ,sZ]:=⟨_,underlying157,zeroValue157,λw=>by simp[sizeOf25,sizeOf45]⟩
theorem Dl:cO prog 159 true:=⟨isAgg159⟩
theorem Ko:Sz prog 159 4:=⟨sizeOf159⟩
theorem D6:By prog 159 80:=⟨λw=>⟨_,typeInfo159 w,rfl⟩⟩
theorem LJ:Zr prog 159 (.agg [.int .u64 0,sZ,sZ,sZ].toArray):=⟨zeroValue159⟩
theorem Ir:aY prog 159 0 0:=aY.of underlying159 rfl sizeOf157 rfl rfl
theorem Is:aY prog 159 1 3:=aY.of underlying159 rfl sizeOf76 rfl rfl
theorem JV:eu prog 159 [(0,3),(3,1)] [.int .u64 0,sZ,sZ,sZ]:=⟨_,underlying159,zeroValue159,λw=>by simp[sizeOf157,sizeOf76]⟩
theorem K6:bZ prog 162 (.slice 167):=⟨underlying162⟩
theorem Dm:cO prog 162 false:=⟨isAgg162⟩
theorem Kp:Sz prog 162 1:=⟨sizeOf162⟩
theorem Dn:cO prog 164 true:=⟨isAgg164⟩
theorem Kq:Sz prog 164 2:=⟨sizeOf164⟩
theorem D7:By prog 164 40:=⟨λw=>⟨_,typeInfo164 w,rfl⟩⟩
theorem LK:Zr prog 164 (.agg [.string {data:=#[]},sZ].toArray):=⟨zeroValue164⟩
theorem Iu:aY prog 164 0 0:=aY.of underlying164 rfl sizeOf9 rfl rfl
theorem Iv:aY prog 164 1 1:=aY.of underlying164 rfl sizeOf162 rfl rfl
theorem JW:eu prog 164 [(0,1),(1,1)] [.string {data:=#[]},sZ]:=⟨_,underlying164,zeroValue164,λw=>by simp[sizeOf162,sizeOf9]⟩
theorem K7:bZ prog 165 (.slice 249):=⟨underlying165⟩
theorem xU:cO prog 165 false:=⟨isAgg165⟩
theorem Kr:Sz prog 165 1:=⟨sizeOf165⟩
theorem Dp:cO prog 167 true:=⟨isAgg167⟩
theorem Ks:Sz prog 167 3:=⟨sizeOf167⟩
theorem D8:By prog 167 64:=⟨λw=>⟨_,typeInfo167 w,rfl⟩⟩
theorem LM:Zr prog 167 (.agg [.string {data:=#[]},sZ,sZ].toArray):=⟨zeroValue167⟩
theorem Iw:aY prog 167 0 0:=aY.of underlying167 rfl sizeOf9 rfl rfl
theorem Ix:aY prog 167 1 1:=aY.of underlying167 rfl sizeOf165 rfl rfl
theorem Iy:aY prog 167 2 2:=aY.of underlying167 rfl sizeOf90 rfl rfl
theorem JX:eu prog 167 [(0,1),(1,1),(2,1)] [.string {data:=#[]},sZ,sZ]:=⟨_,underlying167,zeroValue167,λw=>by simp[sizeOf165,sizeOf9,sizeOf90]⟩
theorem Dq:cO prog 169 true:=⟨isAgg169⟩
theorem Kt:Sz prog 169 4:=⟨sizeOf169⟩
theorem D9:By prog 169 64:=⟨λw=>⟨_,typeInfo169 w,rfl⟩⟩
theorem LN:Zr prog 169 (.agg [.string {data:=#[]},.string {data:=#[]},.string {data:=#[]},.string {data:=#[]}].toArray):=⟨zeroValue169⟩
theorem Iz:aY prog 169 0 0:=aY.of underlying169 rfl sizeOf9 rfl rfl
theorem IA:aY prog 169 1 1:=aY.of underlying169 rfl sizeOf44 rfl rfl
theorem IB:aY prog 169 2 3:=aY.of underlying169 rfl sizeOf9 rfl rfl
theorem K8:bZ prog 177 (.slice 266):=⟨underlying177⟩
theorem K9:bZ prog 180 (.slice 263):=⟨underlying180⟩
theorem La:bZ prog 182 (.slice 3):=⟨underlying182⟩
theorem Dr:cO prog 182 false:=⟨isAgg182⟩
theorem Ku:Sz prog 182 1:=⟨sizeOf182⟩
theorem Ec:By prog 182 24:=⟨λw=>⟨_,typeInfo182 w,rfl⟩⟩
theorem LO:Zr prog 182 (sZ):=⟨zeroValue182⟩
theorem Lb:bZ prog 185 (.map 249 3):=⟨underlying185⟩
theorem Ds:cO prog 185 false:=⟨isAgg185⟩
theorem Lc:bZ prog 188 (.map 269 3):=⟨underlying188⟩
theorem Dt:cO prog 188 false:=⟨isAgg188⟩
theorem IC:aY prog 190 0 0:=aY.of underlying190 rfl sizeOf25 rfl rfl
theorem ID:aY prog 190 1 2:=aY.of underlying190 rfl sizeOf185 rfl rfl
theorem IE:aY prog 190 2 3:=aY.of underlying190 rfl sizeOf31 rfl rfl
theorem IF:aY prog 190 3 4:=aY.of underlying190 rfl sizeOf45 rfl rfl
theorem IG:aY prog 190 4 5:=aY.of underlying190 rfl sizeOf188 rfl rfl
theorem IH:aY prog 190 5 6:=aY.of underlying190 rfl sizeOf81 rfl rfl
theorem II:aY prog 190 6 8:=aY.of underlying190 rfl sizeOf3 rfl rfl
theorem JY:eu prog 190 [(0,2),(2,1),(3,1),(4,1),(5,1),(6,2),(8,1)] [sZ,sZ,.map none,.pointer none,.int .u64 0,.map none,sZ,.int .i64 0,.int .i64 0]:=⟨_,underlying190,zeroValue190,λw=>by simp[sizeOf185,sizeOf188,sizeOf25,sizeOf3,sizeOf31,sizeOf45,sizeOf81]⟩
theorem Ld:bZ prog 195 (.slice 117):=⟨underlying195⟩
theorem Du:cO prog 199 true:=⟨isAgg199⟩
theorem Kv:Sz prog 199 5:=⟨sizeOf199⟩
theorem Ee:By prog 199 56:=⟨λw=>⟨_,typeInfo199 w,rfl⟩⟩
theorem LP:Zr prog 199 (.agg [.int .i64 0,.string {data:=#[]},.string {data:=#[]},.int .i64 0,.int .i64 0].toArray):=⟨zeroValue199⟩
theorem IJ:aY prog 199 0 0:=aY.of underlying199 rfl sizeOf3 rfl rfl
theorem IK:aY prog 199 1 1:=aY.of underlying199 rfl sizeOf9 rfl rfl
theorem IL:aY prog 199 2 2:=aY.of underlying199 rfl sizeOf9 rfl rfl
theorem IM:aY prog 199 3 3:=aY.of underlying199 rfl sizeOf3 rfl rfl
theorem IN:aY prog 199 4 4:=aY.of underlying199 rfl sizeOf3 rfl rfl
theorem JZ:eu prog 199 [(0,1),(1,1),(2,1),(3,1),(4,1)] [.int .i64 0,.string {data:=#[]},.string {data:=#[]},.int .i64 0,.int .i64 0]:=⟨_,underlying199,zeroValue199,λw=>by simp[sizeOf3,sizeOf9]⟩
theorem Le:bZ prog 204 (.slice 280):=⟨underlying204⟩
theorem Dv:cO prog 204 false:=⟨isAgg204⟩
theorem Kw:Sz prog 204 1:=⟨sizeOf204⟩
theorem IP:aY prog 206 0 0:=aY.of underlying206 rfl sizeOf81 rfl rfl
theorem IQ:aY prog 206 1 2:=aY.of underlying206 rfl sizeOf9 rfl rfl
theorem IR:aY prog 206 2 3:=aY.of underlying206 rfl sizeOf70 rfl rfl
theorem IS:aY prog 206 3 4:=aY.of underlying206 rfl sizeOf76 rfl rfl
theorem IT:aY prog 206 4 5:=aY.of underlying206 rfl sizeOf70 rfl rfl
theorem IU:aY prog 206 5 6:=aY.of underlying206 rfl sizeOf204 rfl rfl
theorem J0:eu prog 206 [(0,2),(2,1),(3,1),(4,1),(5,1),(6,1)] [sZ,.int .i64 0,.string {data:=#[]},sZ,sZ,sZ,sZ]:=⟨_,underlying206,zeroValue206,λw=>by simp[sizeOf204,sizeOf70,sizeOf76,sizeOf81,sizeOf9]⟩
theorem Lf:bZ prog 209 (.slice 291):=⟨underlying209⟩
theorem Dw:cO prog 209 false:=⟨isAgg209⟩
theorem Kx:Sz prog 209 1:=⟨sizeOf209⟩
theorem IV:aY prog 215 0 0:=aY.of underlying215 rfl sizeOf209 rfl rfl
theorem IW:aY prog 215 1 1:=aY.of underlying215 rfl sizeOf4 rfl rfl
theorem J1:eu prog 215 [(0,1),(1,1)] [sZ,.bool false]:=⟨_,underlying215,zeroValue215,λw=>by simp[sizeOf209,sizeOf4]⟩
theorem Dy:cO prog 226 true:=⟨isAgg226⟩
theorem Kz:Sz prog 226 9:=⟨sizeOf226⟩
theorem Ef:By prog 226 128:=⟨λw=>⟨_,typeInfo226 w,rfl⟩⟩
theorem LQ:Zr prog 226 (.agg [.string {data:=#[]},.string {data:=#[]},.string {data:=#[]},.string {data:=#[]},.string {data:=#[]},.string {data:=#[]},.string {data:=#[]},.int .u64 0,.int .u64 0].toArray):=⟨zeroValue226⟩
theorem IY:aY prog 226 0 0:=aY.of underlying226 rfl sizeOf119 rfl rfl
theorem IZ:aY prog 226 1 7:=aY.of underlying226 rfl sizeOf45 rfl rfl
theorem I0:aY prog 226 2 8:=aY.of underlying226 rfl sizeOf45 rfl rfl
theorem J2:eu prog 226 [(0,7),(7,1),(8,1)] [.string {data:=#[]},.string {data:=#[]},.string {data:=#[]},.string {data:=#[]},.string {data:=#[]},.string {data:=#[]},.string {data:=#[]},.int .u64 0,.int .u64 0]:=⟨_,underlying226,zeroValue226,λw=>by simp[sizeOf119,sizeOf45]⟩
theorem DA:cO prog 231 false:=⟨isAgg231⟩
theorem KB:Sz prog 231 1:=⟨sizeOf231⟩
theorem LR:Zr prog 231 (.nilFunc):=⟨zeroValue231⟩
theorem Li:bZ prog 232 (.map 119 4):=⟨underlying232⟩
theorem xV:cO prog 236 true:=⟨isAgg236⟩
theorem ye:Sz prog 236 3:=⟨sizeOf236⟩
theorem LS:Zr prog 236 (.agg [.string {data:=#[]},.string {data:=#[]},.string {data:=#[]}].toArray):=⟨zeroValue236⟩
theorem J3:eu prog 236 [(0,2),(2,1)] [.string {data:=#[]},.string {data:=#[]},.string {data:=#[]}]:=⟨_,underlying236,zeroValue236,λw=>by simp[sizeOf44,sizeOf9]⟩
theorem Lj:bZ prog 238 (.slice 151):=⟨underlying238⟩
theorem LU:Zr prog 238 (sZ):=⟨zeroValue238⟩
theorem Lk:bZ prog 242 (.slice 325):=⟨underlying242⟩
theorem xW:cO prog 249 true:=⟨isAgg249⟩
theorem yg:Sz prog 249 2:=⟨sizeOf249⟩
theorem Eg:By prog 249 32:=⟨λw=>⟨_,typeInfo249 w,rfl⟩⟩
theorem LV:Zr prog 249 (.agg [.string {data:=#[]},.string {data:=#[]}].toArray):=⟨zeroValue249⟩
theorem I1:aY prog 249 0 0:=aY.of underlying249 rfl sizeOf9 rfl rfl
theorem I2:aY prog 249 1 1:=aY.of underlying249 rfl sizeOf9 rfl rfl
theorem J4:eu prog 249 [(0,1),(1,1)] [.string {data:=#[]},.string {data:=#[]}]:=⟨_,underlying249,zeroValue249,λw=>by simp[sizeOf9]⟩
theorem KD:Sz prog 263 4:=⟨sizeOf263⟩
theorem Eh:By prog 263 80:=⟨λw=>⟨_,typeInfo263 w,rfl⟩⟩
theorem LX:Zr prog 263 (.agg [.string {data:=#[]},.string {data:=#[]},sZ,sZ].toArray):=⟨zeroValue263⟩
theorem I5:aY prog 263 0 0:=aY.of underlying263 rfl sizeOf9 rfl rfl
theorem I6:aY prog 263 1 1:=aY.of underlying263 rfl sizeOf167 rfl rfl
theorem J6:eu prog 263 [(0,1),(1,3)] [.string {data:=#[]},.string {data:=#[]},sZ,sZ]:=⟨_,underlying263,zeroValue263,λw=>by simp[sizeOf167,sizeOf9]⟩
theorem DD:cO prog 266 true:=⟨isAgg266⟩
theorem KE:Sz prog 266 3:=⟨sizeOf266⟩
theorem Ei:By prog 266 24:=⟨λw=>⟨_,typeInfo266 w,rfl⟩⟩
theorem LY:Zr prog 266 (.agg [.int .i64 0,.int .i64 0,.bool false].toArray):=⟨zeroValue266⟩
theorem I7:aY prog 266 0 0:=aY.of underlying266 rfl sizeOf3 rfl rfl
theorem I8:aY prog 266 1 1:=aY.of underlying266 rfl sizeOf3 rfl rfl
theorem I9:aY prog 266 2 2:=aY.of underlying266 rfl sizeOf4 rfl rfl
theorem J7:eu prog 266 [(0,1),(1,1),(2,1)] [.int .i64 0,.int .i64 0,.bool false]:=⟨_,underlying266,zeroValue266,λw=>by simp[sizeOf3,sizeOf4]⟩
theorem xX:cO prog 269 true:=⟨isAgg269⟩
theorem yh:Sz prog 269 3:=⟨sizeOf269⟩
theorem LZ:Zr prog 269 (.agg [.string {data:=#[]},.string {data:=#[]},.string {data:=#[]}].toArray):=⟨zeroValue269⟩
theorem J8:eu prog 269 [(0,2),(2,1)] [.string {data:=#[]},.string {data:=#[]},.string {data:=#[]}]:=⟨_,underlying269,zeroValue269,λw=>by simp[sizeOf44,sizeOf9]⟩
theorem Lm:bZ prog 275 (.map 3 4):=⟨underlying275⟩
theorem DF:cO prog 280 true:=⟨isAgg280⟩
theorem KG:Sz prog 280 2:=⟨sizeOf280⟩
theorem Ej:By prog 280 16:=⟨λw=>⟨_,typeInfo280 w,rfl⟩⟩
theorem L5:Zr prog 280 (.agg [.int .i64 0,.int .i64 0].toArray):=⟨zeroValue280⟩
theorem Ja:aY prog 280 0 0:=aY.of underlying280 rfl sizeOf3 rfl rfl
theorem Jb:aY prog 280 1 1:=aY.of underlying280 rfl sizeOf3 rfl rfl
theorem J9:eu prog 280 [(0,1),(1,1)] [.int .i64 0,.int .i64 0]:=⟨_,underlying280,zeroValue280,λw=>by simp[sizeOf3]⟩
theorem Ln:bZ prog 282 (.pointer 204):=⟨underlying282⟩
theorem Jc:aY prog 289 0 0:=aY.of underlying289 rfl sizeOf9 rfl rfl
theorem Jd:aY prog 289 1 1:=aY.of underlying289 rfl sizeOf3 rfl rfl
theorem Ka:eu prog 289 [(0,1),(1,1)] [.string {data:=#[]},.int .i64 0]:=⟨_,underlying289,zeroValue289,λw=>by simp[sizeOf3,sizeOf9]⟩
theorem DG:cO prog 291 true:=⟨isAgg291⟩
theorem KH:Sz prog 291 3:=⟨sizeOf291⟩
theorem Ek:By prog 291 32:=⟨λw=>⟨_,typeInfo291 w,rfl⟩⟩
theorem L6:Zr prog 291 (.agg [.int .i64 0,.string {data:=#[]},.int .i64 0].toArray):=⟨zeroValue291⟩
theorem Jg:aY prog 291 0 0:=aY.of underlying291 rfl sizeOf3 rfl rfl
theorem Jh:aY prog 291 1 1:=aY.of underlying291 rfl sizeOf9 rfl rfl
theorem Kb:eu prog 291 [(0,1),(1,1),(2,1)] [.int .i64 0,.string {data:=#[]},.int .i64 0]:=⟨_,underlying291,zeroValue291,λw=>by simp[sizeOf3,sizeOf9]⟩
theorem Lp:bZ prog 306 (.int .u64):=⟨underlying306⟩
theorem Lr:bZ prog 316 (.map 249 321):=⟨underlying316⟩
theorem DJ:cO prog 316 false:=⟨isAgg316⟩
theorem Ji:aY prog 318 0 0:=aY.of underlying318 rfl sizeOf25 rfl rfl
theorem Jj:aY prog 318 1 2:=aY.of underlying318 rfl sizeOf316 rfl rfl
theorem Kc:eu prog 318 [(0,2),(2,1)] [sZ,sZ,.map none]:=⟨_,underlying318,zeroValue318,λw=>by simp[sizeOf25,sizeOf316]⟩
theorem Ls:bZ prog 319 (.map 9 4):=⟨underlying319⟩
theorem DK:cO prog 321 true:=⟨isAgg321⟩
theorem KJ:Sz prog 321 2:=⟨sizeOf321⟩
theorem Em:By prog 321 16:=⟨λw=>⟨_,typeInfo321 w,rfl⟩⟩
theorem L8:Zr prog 321 (.agg [.int .i64 0,.int .i64 0].toArray):=⟨zeroValue321⟩
theorem Jk:aY prog 321 0 0:=aY.of underlying321 rfl sizeOf3 rfl rfl
theorem Jl:aY prog 321 1 1:=aY.of underlying321 rfl sizeOf3 rfl rfl
theorem Kd:eu prog 321 [(0,1),(1,1)] [.int .i64 0,.int .i64 0]:=⟨_,underlying321,zeroValue321,λw=>by simp[sizeOf3]⟩
theorem DL:cO prog 325 true:=⟨isAgg325⟩
theorem KK:Sz prog 325 5:=⟨sizeOf325⟩
theorem En:By prog 325 40:=⟨λw=>⟨_,typeInfo325 w,rfl⟩⟩
theorem L9:Zr prog 325 (.agg [.int .i64 0,.int .i64 0,.int .i64 0,.int .i64 0,.bool false].toArray):=⟨zeroValue325⟩
theorem Jm:aY prog 325 0 0:=aY.of underlying325 rfl sizeOf321 rfl rfl
theorem Jn:aY prog 325 1 2:=aY.of underlying325 rfl sizeOf321 rfl rfl
theorem Jo:aY prog 325 2 4:=aY.of underlying325 rfl sizeOf4 rfl rfl
theorem Ke:eu prog 325 [(0,2),(2,2),(4,1)] [.int .i64 0,.int .i64 0,.int .i64 0,.int .i64 0,.bool false]:=⟨_,underlying325,zeroValue325,λw=>by simp[sizeOf321,sizeOf4]⟩
theorem Lt:bZ prog 375 (.slice 321):=⟨underlying375⟩
theorem Lu:bZ prog 385 (.int .u64):=⟨underlying385⟩
theorem DM:cO prog 385 false:=⟨isAgg385⟩
theorem KL:Sz prog 385 1:=⟨sizeOf385⟩
theorem Ma:Zr prog 385 (.int .u64 0):=⟨zeroValue385⟩
theorem l8:fv prog 9 1 [.s] false:=fv.str rG tY
theorem qe:fv prog 44 2 [.s,.s] true:=fv.struct (n:=1) underlying44 stoodInHeld44 xZ yi (eU.more l8 (eU.more l8 eU.nil))
theorem tZ:fv prog 117 3 [.s,.s,.s,.s] true:=fv.struct (n:=2) underlying117 stoodInHeld117 xS yc (eU.more l8 (eU.more qe (eU.more l8 eU.nil)))
theorem JK:q8 prog 117:=⟨eqGuardType117⟩
theorem x1:fv prog 119 4 [.s,.s,.s,.s,.s,.s,.s] true:=fv.struct (n:=3) underlying119 stoodInHeld119 xT yd (eU.more qe (eU.more l8 (eU.more tZ eU.nil)))
theorem JL:q8 prog 119:=⟨eqGuardType119⟩
theorem x9:fv prog 236 3 [.s,.s,.s] true:=fv.struct (n:=2) underlying236 stoodInHeld236 xV ye (eU.more qe (eU.more l8 eU.nil))
theorem ya:fv prog 249 2 [.s,.s] true:=fv.struct (n:=1) underlying249 stoodInHeld249 xW yg (eU.more l8 (eU.more l8 eU.nil))
theorem JM:q8 prog 249:=⟨eqGuardType249⟩
theorem yb:fv prog 269 3 [.s,.s,.s] true:=fv.struct (n:=2) underlying269 stoodInHeld269 xX yh (eU.more qe (eU.more l8 eU.nil))
theorem E8:aS prog 14:=⟨call14⟩
theorem FK:aS prog 18:=⟨call18⟩
theorem FW:aS prog 19:=⟨call19⟩
theorem F5:aS prog 20:=⟨call20⟩
theorem Gl:aS prog 22:=⟨call22⟩
theorem GZ:aS prog 26:=⟨call26⟩
theorem G7:aS prog 27:=⟨call27⟩
theorem Hf:aS prog 32:=⟨call32⟩
theorem Hg:aS prog 34:=⟨call34⟩
theorem Hh:aS prog 39:=⟨call39⟩
theorem Hi:aS prog 40:=⟨call40⟩
theorem Hj:aS prog 42:=⟨call42⟩
theorem Hk:aS prog 47:=⟨call47⟩
theorem Hl:aS prog 48:=⟨call48⟩
theorem Hm:aS prog 49:=⟨call49⟩
theorem Hn:aS prog 54:=⟨call54⟩
theorem Hp:aS prog 55:=⟨call55⟩
theorem Hq:aS prog 58:=⟨call58⟩
theorem Hr:aS prog 61:=⟨call61⟩
theorem Hs:aS prog 62:=⟨call62⟩
theorem Ht:aS prog 63:=⟨call63⟩
theorem Hu:aS prog 64:=⟨call64⟩
theorem Hv:aS prog 65:=⟨call65⟩
theorem Hw:aS prog 66:=⟨call66⟩
theorem Hx:aS prog 67:=⟨call67⟩
theorem Hy:aS prog 68:=⟨call68⟩
theorem Hz:aS prog 73:=⟨call73⟩
theorem HA:aS prog 74:=⟨call74⟩
theorem HB:aS prog 75:=⟨call75⟩
theorem HC:aS prog 76:=⟨call76⟩
theorem HD:aS prog 77:=⟨call77⟩
theorem HE:aS prog 78:=⟨call78⟩
theorem HF:aS prog 79:=⟨call79⟩
theorem HG:aS prog 80:=⟨call80⟩
theorem HH:aS prog 81:=⟨call81⟩
theorem HJ:aS prog 82:=⟨call82⟩
theorem HK:aS prog 83:=⟨call83⟩
theorem HL:aS prog 84:=⟨call84⟩
theorem HM:aS prog 85:=⟨call85⟩
theorem HN:aS prog 91:=⟨call91⟩
theorem HO:aS prog 92:=⟨call92⟩
theorem HP:aS prog 93:=⟨call93⟩
theorem HQ:aS prog 94:=⟨call94⟩
theorem HR:aS prog 95:=⟨call95⟩
theorem HS:aS prog 97:=⟨call97⟩
theorem HT:aS prog 98:=⟨call98⟩
theorem HU:aS prog 99:=⟨call99⟩
theorem Eu:aS prog 100:=⟨call100⟩
theorem Ev:aS prog 102:=⟨call102⟩
theorem Ex:aS prog 103:=⟨call103⟩
theorem Ey:aS prog 105:=⟨call105⟩
theorem Ez:aS prog 106:=⟨call106⟩
theorem EB:aS prog 108:=⟨call108⟩
theorem EC:aS prog 109:=⟨call109⟩
theorem ED:aS prog 110:=⟨call110⟩
theorem EE:aS prog 111:=⟨call111⟩
theorem EF:aS prog 112:=⟨call112⟩
theorem EG:aS prog 113:=⟨call113⟩
theorem EH:aS prog 114:=⟨call114⟩
theorem EI:aS prog 115:=⟨call115⟩
theorem EJ:aS prog 116:=⟨call116⟩
theorem EK:aS prog 117:=⟨call117⟩
theorem EL:aS prog 118:=⟨call118⟩
theorem EM:aS prog 119:=⟨call119⟩
theorem EN:aS prog 120:=⟨call120⟩
theorem EO:aS prog 121:=⟨call121⟩
theorem EP:aS prog 122:=⟨call122⟩
theorem EQ:aS prog 123:=⟨call123⟩
theorem ER:aS prog 124:=⟨call124⟩
theorem ES:aS prog 125:=⟨call125⟩
theorem ET:aS prog 126:=⟨call126⟩
theorem EU:aS prog 128:=⟨call128⟩
theorem EV:aS prog 129:=⟨call129⟩
theorem EW:aS prog 130:=⟨call130⟩
theorem EX:aS prog 131:=⟨call131⟩
theorem EY:aS prog 132:=⟨call132⟩
theorem EZ:aS prog 133:=⟨call133⟩
theorem E0:aS prog 134:=⟨call134⟩
theorem E1:aS prog 135:=⟨call135⟩
theorem E2:aS prog 136:=⟨call136⟩
theorem E3:aS prog 137:=⟨call137⟩
theorem E6:aS prog 138:=⟨call138⟩
theorem E7:aS prog 139:=⟨call139⟩
theorem E9:aS prog 140:=⟨call140⟩
theorem Fa:aS prog 141:=⟨call141⟩
theorem Fb:aS prog 142:=⟨call142⟩
theorem Fc:aS prog 143:=⟨call143⟩
theorem Fe:aS prog 144:=⟨call144⟩
theorem Ff:aS prog 145:=⟨call145⟩
theorem Fg:aS prog 146:=⟨call146⟩
theorem Fh:aS prog 149:=⟨call149⟩
theorem Fi:aS prog 150:=⟨call150⟩
theorem Fj:aS prog 151:=⟨call151⟩
theorem Fk:aS prog 152:=⟨call152⟩
theorem Fl:aS prog 153:=⟨call153⟩
theorem Fm:aS prog 154:=⟨call154⟩
theorem Fo:aS prog 155:=⟨call155⟩
theorem Fp:aS prog 156:=⟨call156⟩
theorem Fq:aS prog 157:=⟨call157⟩
theorem Ft:aS prog 159:=⟨call159⟩
theorem Fu:aS prog 160:=⟨call160⟩
theorem Fv:aS prog 161:=⟨call161⟩
theorem Fw:aS prog 166:=⟨call166⟩
theorem Fx:aS prog 167:=⟨call167⟩
theorem Fy:aS prog 168:=⟨call168⟩
theorem Fz:aS prog 169:=⟨call169⟩
theorem FA:aS prog 170:=⟨call170⟩
theorem FB:aS prog 171:=⟨call171⟩
theorem FC:aS prog 172:=⟨call172⟩
theorem FD:aS prog 173:=⟨call173⟩
theorem FE:aS prog 174:=⟨call174⟩
theorem FF:aS prog 175:=⟨call175⟩
theorem FG:aS prog 176:=⟨call176⟩
theorem FH:aS prog 177:=⟨call177⟩
theorem FI:aS prog 178:=⟨call178⟩
theorem FJ:aS prog 179:=⟨call179⟩
theorem FL:aS prog 180:=⟨call180⟩
theorem FM:aS prog 181:=⟨call181⟩
theorem FN:aS prog 182:=⟨call182⟩
theorem FO:aS prog 183:=⟨call183⟩
theorem FP:aS prog 184:=⟨call184⟩
theorem FQ:aS prog 185:=⟨call185⟩
theorem FR:aS prog 186:=⟨call186⟩
theorem FT:aS prog 187:=⟨call187⟩
theorem FU:aS prog 188:=⟨call188⟩
theorem FV:aS prog 189:=⟨call189⟩
theorem FX:aS prog 190:=⟨call190⟩
theorem FY:aS prog 191:=⟨call191⟩
theorem FZ:aS prog 192:=⟨call192⟩
theorem F0:aS prog 193:=⟨call193⟩
theorem F1:aS prog 194:=⟨call194⟩
theorem F2:aS prog 195:=⟨call195⟩
theorem F3:aS prog 196:=⟨call196⟩
theorem F4:aS prog 198:=⟨call198⟩
theorem F6:aS prog 200:=⟨call200⟩
theorem F7:aS prog 201:=⟨call201⟩
theorem F8:aS prog 202:=⟨call202⟩
theorem F9:aS prog 203:=⟨call203⟩
theorem Ga:aS prog 204:=⟨call204⟩
theorem Gb:aS prog 207:=⟨call207⟩
theorem Gc:aS prog 210:=⟨call210⟩
theorem Gd:aS prog 211:=⟨call211⟩
theorem Ge:aS prog 212:=⟨call212⟩
theorem Gf:aS prog 213:=⟨call213⟩
theorem Gg:aS prog 214:=⟨call214⟩
theorem Gh:aS prog 215:=⟨call215⟩
theorem Gi:aS prog 216:=⟨call216⟩
theorem Gj:aS prog 217:=⟨call217⟩
theorem Gk:aS prog 218:=⟨call218⟩
theorem Gm:aS prog 221:=⟨call221⟩
theorem Gn:aS prog 222:=⟨call222⟩
theorem Gp:aS prog 223:=⟨call223⟩
theorem Gq:aS prog 224:=⟨call224⟩
theorem Gr:aS prog 225:=⟨call225⟩
theorem Gs:aS prog 226:=⟨call226⟩
theorem Gt:aS prog 227:=⟨call227⟩
theorem Gu:aS prog 228:=⟨call228⟩
theorem Gv:aS prog 229:=⟨call229⟩
theorem Gw:aS prog 230:=⟨call230⟩
theorem Gx:aS prog 231:=⟨call231⟩
theorem Gy:aS prog 232:=⟨call232⟩
theorem Gz:aS prog 233:=⟨call233⟩
theorem GA:aS prog 234:=⟨call234⟩
theorem GB:aS prog 235:=⟨call235⟩
theorem GC:aS prog 236:=⟨call236⟩
theorem GD:aS prog 237:=⟨call237⟩
theorem GF:aS prog 238:=⟨call238⟩
theorem GG:aS prog 239:=⟨call239⟩
theorem GH:aS prog 240:=⟨call240⟩
theorem GI:aS prog 241:=⟨call241⟩
theorem GJ:aS prog 242:=⟨call242⟩
theorem GK:aS prog 243:=⟨call243⟩
theorem GL:aS prog 246:=⟨call246⟩
theorem GM:aS prog 247:=⟨call247⟩
theorem GN:aS prog 248:=⟨call248⟩
theorem GO:aS prog 250:=⟨call250⟩
theorem GP:aS prog 251:=⟨call251⟩
theorem GQ:aS prog 252:=⟨call252⟩
theorem GR:aS prog 253:=⟨call253⟩
theorem GS:aS prog 254:=⟨call254⟩
theorem GU:aS prog 255:=⟨call255⟩
theorem GV:aS prog 256:=⟨call256⟩
theorem GW:aS prog 257:=⟨call257⟩
theorem GX:aS prog 258:=⟨call258⟩
theorem GY:aS prog 259:=⟨call259⟩
theorem G0:aS prog 260:=⟨call260⟩
theorem G1:aS prog 261:=⟨call261⟩
theorem G2:aS prog 262:=⟨call262⟩
theorem G3:aS prog 263:=⟨call263⟩
theorem G4:aS prog 265:=⟨call265⟩
theorem G5:aS prog 266:=⟨call266⟩
theorem G6:aS prog 269:=⟨call269⟩
theorem G8:aS prog 270:=⟨call270⟩
theorem G9:aS prog 272:=⟨call272⟩
theorem Ha:aS prog 273:=⟨call273⟩
theorem Hb:aS prog 297:=⟨call297⟩
theorem Hc:aS prog 298:=⟨call298⟩
theorem Hd:aS prog 299:=⟨call299⟩
theorem He:aS prog 300:=⟨call300⟩
attribute [instance] ud xY KI El L7 yj DN KM Eo Mb rG tY KV Er Me Lg Dx Ky Lh Dz KA DB KC LW I3 I4 J5 Ll DC DE KF Je Jf Lo Lq DH xZ yi Jp Jq Kf Lv DP KN Lw DQ KO Lx DR KP DT KQ Jr Js Jt Ju Jv Jw Kg DU KR Ep Mc Jx Jy Jz JA Ly DW Lz DX KS LA DY KT DZ KU Md JB JC Kh LC D0 KW LD D1 KX D2 KY Et Mg JD JE JF JG JH JI JJ Ki K0 De Kj HW HX HY JN xS yc D3 LF HZ H3 H4 JO xT yd D4 LG H5 H6 H7 JP Df Kk LH H8 H9 JQ K2 Dg K3 Dh Ia Ib Ic Ie Ig Ih JR Di Kl Ii Ij Ik JS K4 Dj Km D5 LI K5 Dk Kn Il Im Io JT Ip Iq JU Dl Ko D6 LJ Ir Is JV K6 Dm Kp Dn Kq D7 LK Iu Iv JW K7 xU Kr Dp Ks D8 LM Iw Ix Iy JX Dq Kt D9 LN Iz IA IB K8 K9 La Dr Ku Ec LO Lb Ds Lc Dt IC ID IE IF IG IH II JY Ld Du Kv Ee LP IJ IK IL IM IN JZ Le Dv Kw IP IQ IR IS IT IU J0 Lf Dw Kx IV IW J1 Dy Kz Ef LQ IY IZ I0 J2 DA KB LR Li xV ye LS J3 Lj LU Lk xW yg Eg LV I1 I2 J4 KD Eh LX I5 I6 J6 DD KE Ei LY I7 I8 I9 J7 xX yh LZ J8 Lm DF KG Ej L5 Ja Jb J9 Ln Jc Jd Ka DG KH Ek L6 Jg Jh Kb Lp Lr DJ Ji Jj Kc Ls DK KJ Em L8 Jk Jl Kd DL KK En L9 Jm Jn Jo Ke Lt Lu DM KL Ma l8 qe tZ JK x1 JL x9 ya JM yb E8 FK FW F5 Gl GZ G7 Hf Hg Hh Hi Hj Hk Hl Hm Hn Hp Hq Hr Hs Ht Hu Hv Hw Hx Hy Hz HA HB HC HD HE HF HG HH HJ HK HL HM HN HO HP HQ HR HS HT HU Eu Ev Ex Ey Ez EB EC ED EE EF EG EH EI EJ EK EL EM EN EO EP EQ ER ES ET EU EV EW EX EY EZ E0 E1 E2 E3 E6 E7 E9 Fa Fb Fc Fe Ff Fg Fh Fi Fj Fk Fl Fm Fo Fp Fq Ft Fu Fv Fw Fx Fy Fz FA FB FC FD FE FF FG FH FI FJ FL FM FN FO FP FQ FR FT FU FV FX FY FZ F0 F1 F2 F3 F4 F6 F7 F8 F9 Ga Gb Gc Gd Ge Gf Gg Gh Gi Gj Gk Gm Gn Gp Gq Gr Gs Gt Gu Gv Gw Gx Gy Gz GA GB GC GD GF GG GH GI GJ GK GL GM GN GO GP GQ GR GS GU GV GW GX GY G0 G1 G2 G3 G4 G5 G6 G8 G9 Ha Hb Hc Hd He
theorem mixed:prog.follows .mixedOrders=true:=by kernel_rfl
structure pV(P:Program)(R:ay)(t:TypeId)(v:Value){α:Type}(lt:α→α→Bool)(I:List α→ax→Prop):Prop where
 ly:∀L T,I L T→L.length≤1000000000
 len:∀L T,I L T→hG P t v "Len" [] R T fun u T'=>u=.int .i64 L.length∧I L T'
 less:∀L T (i k:Nat) x y,I L T→L[i]? =some x→L[k]? =some y→hG P t v "Less" [.int .i64 i,.int .i64 k] R T fun u T'=>u=.bool (lt x y)∧I L T'
 swap:∀L T (i k:Nat),I L T→i<L.length→k<L.length→hG P t v "Swap" [.int .i64 i,.int .i64 k] R T fun _ T'=>I (cV L i k) T'
section
variable{R:ay}{t:TypeId}{v:Value}{α:Type}{lt:α->α->Bool}{I:List α->ax->Prop}
theorem Ru(A:pV prog R t v lt I)(V:SO lt)(L:List α)(T:ax)(h:I L T)(j:Nat)(W:j<L.length):
  Spec prog 193 [.iface t v,.int .i64 j] R [T] λu H'=>∃T',H'=[T']/\u=.tuple #[]/\∃L',I L' T'/\L'.Perm L/\(∀k,j<k->L'[k]? =L[k]?)/\∀n,n<=L.length->j<n->Up lt L n j->fz lt L' n:=by
 have z:=A.ly L T h
 refine Spec.body func193 rfl results193 ntmps193 rfl<|.block<|.loop (X:=Nat×List α×ax) (λy=>I y.2.1 y.2.2/\y.1<=j/\y.2.1.Perm L/\(∀k,j<k->y.2.1[k]? =L[k]?)/\∀n,n<=L.length->j<n->Up lt L n j->Up lt y.2.1 n y.1) (λy=>[(0,.iface t v),(1,iN y.1)]) (λy=>[y.2.2]) (λy=>y.1) (j,L,T) ⟨h,Nat.le_refl _,.refl _,λ_ _=>rfl,λ_ _ _ h=>h⟩ kE.c.c rH ?_
 rintro⟨i,f,H⟩ ⟨w,O,l,p,r⟩
 simp only at w O l p r⊢
 have Y:=l.length_eq
 obtain⟨x,B⟩:∃x,f[i]? =some x:=⟨_,aV (by omega)⟩
 obtain⟨y,C⟩:∃y,f[bQ i]? =some y:=⟨_,aV (by unfold bQ;omega)⟩
 refine .block<|.sr<|.mo rfl<|.q (.i64 ((i:Int)-1) .sub ⟨rfl,by omega,by omega⟩)<|.q (.i64 ((bQ i:Nat):Int) .quo ⟨v9,by omega,by unfold bQ;omega⟩)<|.ag rfl<|.zs<|.sr<|.mo rfl<|.mo rfl<|.q .bY<|.mo rfl<|.split (t:=11) rfl (λd=>?_) (λd=>?_)
 refine .gF d<|.gF d<|.gF d<|.gF d<|.gF d<|.q (.aU d)<|.zn<|.gM<|.exit (bo (jB (bs (bp ?_))))
 refine fS _ .none rH ?_
 ·have F:bQ i=i:=by simp at d;omega
  refine⟨_,rfl,rfl,f,w,l,p,λn o m g=>?_⟩
  have M:i=0:=by
   rcases Nat.eq_zero_or_pos i with e|e
   ·exact e
   ·have:=fJ e;omega
  subst M
  exact(r n o m g).Bg
 refine .gT d<|.mo rfl<|.gT d<|.mo rfl<|.gT d<|.mo rfl<|.gT d<|.lY (A.less f H i (bQ i) x y w B C) (λu J g=>?_)
 obtain⟨rfl,D⟩:=g
 refine .gT d<|.q .not<|.q (.aR d)<|.zn<|.cond rfl (λs=>?_) λs=>?_
 refine .exit (bo (jB (bs (bp ?_))))
 refine fS _ .none rH ?_
 ·refine⟨_,rfl,rfl,f,D,l,p,λn o m g=>(r n o m g).stop λa b E z=>?_⟩
  rw[C]at E;rw[B]at z
  cases E;cases z
  simpa using s
 refine .kn<|.sr<|.mo rfl<|.mo rfl<|.mo rfl ?_
 refine .lY (A.swap f J (bQ i) i D (by unfold bQ;omega) (by omega)) (λu K N=>?_)
 refine .zn<|.region<|.mo rfl<|.ag rfl<|.nil<|aX ?_
 ·have S:lt x y=true:=by simpa using s
  have F:bQ i≠i:=by simp at d;omega
  have G:0<i:=by
   rcases Nat.eq_zero_or_pos i with e|e
   ·subst e;exact absurd rfl F
   ·exact e
  have U:=fJ G
  exact bm (bQ i,cV f (bQ i) i,K) ⟨N,by omega,sY.trans l,λk Q=>by
   rw[gg (by omega) (by omega),if_neg (by omega),if_neg (by omega)];exact p k Q,λn o m g=>(r n o m g).step V G (by omega) (by omega) B C S⟩ U kE.c.c rH
theorem C1(K:pV prog R t v lt I)(F:SO lt)(L:List α)(T:ax)(h:I L T)(f n:Nat)(a7:f<=n)(hn:n<=L.length):
  Spec prog 190 [.iface t v,.int .i64 f,.int .i64 n] R [T] λu H'=>∃T',H'=[T']/\∃L' m,I L' T'/\u=.bool m/\L'.Perm L/\(∀k,n<=k->L'[k]? =L[k]?)/\(lR lt L n f->(m=true->fz lt L' n)/\(m=false->Up lt L' n f)):=by
 have J:=K.ly L T h
 refine Spec.body func190 rfl results190 ntmps190 rfl<|.sr<|.ag rfl<|.z<|.mo rfl<|.ag rfl<|.zs<|.block<|.loop (X:=Nat×List α×ax) (λy=>I y.2.1 y.2.2/\f<=y.1/\y.1<=n/\y.2.1.Perm L/\(∀k,n<=k->y.2.1[k]? =L[k]?)/\(lR lt L n f->lR lt y.2.1 n y.1/\(y.1≠f->gi lt y.2.1 (bQ y.1) y.1))) (λy=>[(0,.iface t v),(1,iN f),(2,iN n),(7,iN y.1)]) (λy=>[y.2.2]) (λy=>n-y.1) (f,L,T) ⟨h,Nat.le_refl _,a7,.refl _,λ_ _=>rfl,λh=>⟨h,λe=>absurd rfl e⟩⟩ kE.c.c.c.c rH ?_
 rintro⟨i,g,T1⟩ ⟨Q,a8,a9,C,G,w⟩
 simp only at Q a8 a9 C G w⊢
 have hl:=C.length_eq
 refine .block<|.sr<|.mo rfl<|.ia (2*i) .mul<|.ia (2*i+1) .add<|.ag rfl<|.zs<|.sr<|.mo rfl<|.mo rfl<|.q .geq<|.mo rfl<|.split (t:=18) rfl (λs=>?_) (λs=>?_)
 refine .gF s<|.gF s<|.q (.aU s)<|.zn<|.gM ?_
 have a6:n<=2*i+1:=by
  (simp at s;omega)
 refine .exit (bo (jB (bs (bp ?_))))
 refine aw<|.sr<|.mo rfl<|.mo rfl<|.q .gtr<|.az rfl<|.ret (bj _ (.one (.tmp rfl)) rH ?_)
 ·refine⟨_,rfl,g,decide (f<i),by assumption,by simp,C,G,λd=>?_⟩
  have A:Up lt g n i:=(w d).1.stop λc B D r a b H J=>by
   (simp only[bQ]at r;omega)
  refine⟨λo=>?_,λo=>?_⟩
  ·have p:i≠f:=by simp at o;omega
   exact A.stop ((w d).2 p)
  ·have p:i=f:=by simp at o;omega
   rw[<-p];exact A
 refine .gT s<|.mo rfl<|.gT s<|.q .lss<|.q (.aR s)<|.zn<|.cond rfl (λh1=>?_) λh1=>?_
 have a6:n<=2*i+1:=by
  (simp at h1;omega)
 refine .exit (bo (jB (bs (bp ?_))))
 refine aw<|.sr<|.mo rfl<|.mo rfl<|.q .gtr<|.az rfl<|.ret (bj _ (.one (.tmp rfl)) rH ?_)
 ·refine⟨_,rfl,g,decide (f<i),by assumption,by simp,C,G,λd=>?_⟩
  have A:Up lt g n i:=(w d).1.stop λc B D r a b H J=>by
   (simp only[bQ]at r;omega)
  refine⟨λo=>?_,λo=>?_⟩
  ·have p:i≠f:=by simp at o;omega
   exact A.stop ((w d).2 p)
  ·have p:i=f:=by simp at o;omega
   rw[<-p];exact A
 have a3:2*i+1<n:=by simp at s;omega
 obtain⟨y0,Y⟩:∃y,g[i]? =some y:=⟨_,aV (by omega)⟩
 obtain⟨Z,E⟩:∃y,g[2*i+1]? =some y:=⟨_,aV (by omega)⟩
 refine .kn<|.sr<|.mo rfl<|.ag rfl<|.zs ?_
 refine bx.cut (X:=Nat×ax×α) (λz=>I g z.2.1/\0<z.1/\z.1<n/\bQ z.1=i/\g[z.1]? =some z.2.2/\∀c u,0<c->c<n->bQ c=i->g[c]? =some u->lt u z.2.2=false) (λz=>[(0,.iface t v),(1,iN f),(2,iN n),(7,iN i),(9,iN z.1)]) (λz=>[z.2.1]) ?_ ?_
 refine .sr<|.mo rfl<|.ia (2*i+2) .add<|.ag rfl<|.z<|.mo rfl<|.mo rfl<|.q .lss<|.mo rfl<|.split (t:=28) rfl (λl=>?_) (λl=>?_)
 have b1:2*i+2<n:=by simp at l;omega
 obtain⟨x2,M⟩:∃y,g[2*i+2]? =some y:=⟨_,aV (by omega)⟩
 refine .gT l<|.mo rfl<|.gT l<|.mo rfl<|.gT l<|.mo rfl<|.gT l<|.lY (K.less g T1 (2*i+2) (2*i+1) x2 Z Q M E) (λu T2 d=>?_)
 obtain⟨rfl,a0⟩:=d
 refine .q (.aU l)<|.zn<|.cond rfl (λN=>?_) λN=>?_
 refine .region<|.mo rfl<|.ag rfl<|.nil ?_
 ·exact aG (2*i+2,T2,x2) ⟨a0,by simp only;omega,b1,by simp only[bQ];omega,M,λc u B D r d=>by
   have:c=2*i+1\/c=2*i+2:=by simp only[bQ]at r;omega
   rcases this with rfl|rfl
   ·rw[E]at d;cases d;exact F.lW (by simpa using N)
   ·rw[M]at d;cases d;exact F.hZ _⟩ kE.c.c.c.c.c rH
 refine .skip ?_
 ·exact aG (2*i+1,T2,Z) ⟨a0,by simp only;omega,a3,by simp only[bQ];omega,E,λc u B D r d=>by
   have:c=2*i+1\/c=2*i+2:=by simp only[bQ]at r;omega
   rcases this with rfl|rfl
   ·rw[E]at d;cases d;exact F.hZ _
   ·rw[M]at d;cases d;simpa using N⟩ kE.c.c.c.c.c rH
 refine .gF l<|.gF l<|.gF l<|.gF l<|.q (.aR l)<|.zn<|.cU<|.skip ?_
 ·exact aG (2*i+1,T1,Z) ⟨Q,by simp only;omega,a3,by simp only[bQ];omega,E,λc u B D r d=>by
   have:c=2*i+1:=by simp only[bQ]at r;simp at l;omega
   subst this
   rw[E]at d;cases d;exact F.hZ _⟩ kE.c.c.c.c.c rH
 intro y hy
 obtain⟨j,T3,x⟩:=y
 obtain⟨a1,S,a2,U,W,V⟩:=hy
 simp only at a1 S a2 U W V⊢
 have b2:i<j:=U▸fJ S
 refine aw<|.seq<|.sr<|.mo rfl<|.mo rfl<|.mo rfl<|.lY (K.less g T3 j i x y0 a1 W Y) (λu T4 d=>?_)
 obtain⟨rfl,a4⟩:=d
 refine .q .not<|.zn<|.cond rfl (λO=>?_) λO=>?_
 refine .exit (bo (jB (bs (bp ?_))))
 refine aw<|.sr<|.mo rfl<|.mo rfl<|.q .gtr<|.az rfl<|.ret (bj _ (.one (.tmp rfl)) rH ?_)
 ·refine⟨_,rfl,g,decide (f<i),by assumption,by simp,C,G,λd=>?_⟩
  have A:Up lt g n i:=(w d).1.stop λc B D r a b H J=>by
   (rw[Y]at H;cases H;exact F.kv _ _ _ (V c b B D r J) (by simpa using O))
  refine⟨λo=>?_,λo=>?_⟩
  ·have p:i≠f:=by simp at o;omega
   exact A.stop ((w d).2 p)
  ·have p:i=f:=by simp at o;omega
   rw[<-p];exact A
 refine .kn<|.sr<|.mo rfl<|.mo rfl<|.mo rfl ?_
 refine .lY (K.swap g T4 i j a4 (by omega) (by omega)) (λu T5 a5=>?_)
 refine .zn<|.region<|.mo rfl<|.ag rfl<|.nil<|aX ?_
 ·have b0:lt x y0=true:=by simpa using O
  exact bm (j,cV g i j,T5) ⟨a5,by simp only;omega,by simp only;omega,sY.trans C,λk hk=>by
   rw[gg (by omega) (by omega),if_neg (by omega),if_neg (by omega)];exact G k hk,λd=>by
    have:=(w d).1.step F S a2 (by omega) U W Y b0 V
    exact⟨this.1,λ_=>this.2⟩⟩ (by simp only;omega) kE.c.c.c.c rH
theorem OY(hi:pV Tryz.prog R t v lt I)(so:SO lt)(L:List α)(T:ax)(x:Value)(a:α)(hp:hG Tryz.prog t v "Push" [x] R T fun _ T'=>I (L++[a]) T')(hh:fz lt L L.length):
  Spec prog 153 [.iface t v,x] R [T] fun u H'=>∃T',H'=[T']∧u=.tuple #[]∧∃L',I L' T'∧L'.Perm (L++[a])∧fz lt L' L'.length:=by
 refine Spec.body func153 rfl results153 ntmps153 rfl<|.sr<|.mo rfl<|.mo rfl<|.lY hp (fun u T1 h1=>?_)
 have hb:=hi.ly _ T1 h1
 simp only[List.length_append,List.length_singleton]at hb
 refine .zn<|.region<|.mo rfl<|.mo rfl<|.lY (hi.len _ T1 h1) (fun u T2 hu=>?_)
 obtain⟨rfl,h2⟩:=hu
 refine .q (.i64 ((L.length:Nat):Int) .sub ⟨by simp,by omega,by omega⟩)<|.cr (Ru hi so _ T2 h2 L.length (by simp)) (fun u T3 hu=>?_)
 obtain⟨rfl,L3,h3,hp3,hs3,hh3⟩:=hu
 have hl3:=hp3.length_eq
 refine .nil<|fS _ .none (bz.refl _) ?_
 ·exact⟨_,rfl,rfl,L3,h3,hp3,by rw[hl3];exact hh3 _ (Nat.le_refl _) (by simp) (by simp;exact hh.push a)⟩
theorem Np{L a:List α}{n:Nat}{x:α}(c:L.length=n+1)(e:L[n]? =some x)(d:L.Perm a):L=L.take n++[x]/\(L.take n).length=n/\a.Perm (x::L.take n):=by
 have b:L=L.take n++[x]:=by
  apply List.ext_getElem?
  intro k
  rcases Nat.lt_trichotomy k n with h|h|h
  ·rw[List.getElem?_append_left (by simp;omega),List.getElem?_take_of_lt h]
  ·subst h
   rw[List.getElem?_append_right (by simp;omega),e]
   simp[c]
  ·rw[List.getElem?_eq_none (by omega),List.getElem?_eq_none (by simp;omega)]
 refine⟨b,by simp;omega,d.symm.trans ?_⟩
 have:(L.take n++[x]).Perm (x::L.take n):=by simp
 rw[<-b]at this
 exact this
theorem fz.Q3{L:List α}{n:Nat}(h:fz lt L n)(b:n<=L.length):fz lt (L.take n) (L.take n).length:=by
 have e:(L.take n).length=n:=by simp;omega
 rw[e]
 exact h.gQ λk a=>List.getElem?_take_of_lt a
theorem OU(hi:pV prog R t v lt I)(so:SO lt)(L:List α)(T:ax)(h:I L T)(x:α)(hx:L[0]? =some x)(hh:fz lt L L.length)(px:α→Value)(J:List α→ax→Prop)
  (hp:∀L' T',I (L'++[x]) T'→L'.length+1=L.length→hG Tryz.prog t v "Pop" [] R T' fun u T''=>u=px x∧J L' T''):
  Spec prog 149 [.iface t v] R [T] fun u H'=>∃T',H'=[T']∧u=px x∧∃L',J L' T'∧L.Perm (x::L')∧fz lt L' L'.length:=by
 have hb:=hi.ly L T h
 have hpos:0<L.length:=(List.getElem?_eq_some_iff.1 hx).1
 obtain⟨n,hn⟩:∃n,L.length=n+1:=⟨L.length-1,by omega⟩
 refine Spec.body func149 rfl results149 ntmps149 rfl<|.sr<|.ag rfl<|.z<|.mo rfl<|.lY (hi.len L T h) (fun u T1 hu=>?_)
 obtain⟨rfl,h1⟩:=hu
 refine .q (.i64 ((n:Nat):Int) .sub ⟨by omega,by omega,by omega⟩)<|.ag rfl<|.z<|.mo rfl<|.mo rfl ?_
 refine .lY (hi.swap L T1 0 n h1 (by omega) (by omega)) (fun u T2 h2=>?_)
 refine .z<|.mo rfl<|.mo rfl<|.cr (C1 hi so _ T2 h2 0 n (by omega) (by rw[mh];omega)) (fun u T3 hu=>?_)
 obtain⟨L3,m,h3,rfl,hp3,hs3,hh3⟩:=hu
 have hx3:L3[n]? =some x:=by rw[hs3 n (Nat.le_refl _),gg (by omega) (by omega),if_pos rfl,hx]
 have hl3:=hp3.length_eq
 rw[mh]at hl3
 obtain⟨e1,e2,e3⟩:=Np (by omega) hx3 (hp3.trans sY)
 have hhole:lR lt (cV L 0 n) n 0:=(hh.mono (by omega)).hole so (by omega) fun k hk hk0=>by rw[gg (by omega) (by omega),if_neg (by omega),if_neg hk0]
 have hH:fz lt L3 n:=by
  cases m with
  |true=>exact(hh3 hhole).1 rfl
  |false=>exact((hh3 hhole).2 rfl).Bg
 refine .z<|.mo rfl ?_
 rw[e1]at h3
 refine .lY (hp _ T3 h3 (by omega)) (fun u T4 hu=>?_)
 obtain⟨rfl,h4⟩:=hu
 refine .ag rfl<|.zn<|.ret (bj _ (.one (.tmp rfl)) (bz.refl _) ?_)
 ·exact⟨_,rfl,rfl,_,h4,e3,hH.Q3 (by omega)⟩
end
end Go.Proofs.YtdljmchhecoakaaGreat

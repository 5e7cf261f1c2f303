/- What the law 'ExpA' uses. No condition. -/
import Derived.Test.YtdljmchhecoakaaGreatChecked
import Derived.Test.YtdljmchhecoakaaGreatKExpAB
namespace Go.Proofs.YtdljmchhecoakaaGreat
open Tryz (prog)
set_option linter.unusedVariables false
theorem ur:cq prog 3 (.int .i64):=⟨Tryz.underlying3⟩
theorem yG:cK prog 3 false:=⟨Tryz.isAgg3⟩
theorem Lc:Sz prog 3 1:=⟨Tryz.sizeOf3⟩
theorem EO:By prog 3 8:=⟨λw=>⟨_,Tryz.typeInfo3 w,rfl⟩⟩
theorem MI:Zr prog 3 (.int .i64 0):=⟨Tryz.zeroValue3⟩
theorem yS:cq prog 4 (.bool):=⟨Tryz.underlying4⟩
theorem Ef:cK prog 4 false:=⟨Tryz.isAgg4⟩
theorem Lg:Sz prog 4 1:=⟨Tryz.sizeOf4⟩
theorem ER:By prog 4 1:=⟨λw=>⟨_,Tryz.typeInfo4 w,rfl⟩⟩
theorem MN:Zr prog 4 (.bool false):=⟨Tryz.zeroValue4⟩
theorem rV:cq prog 9 (.string):=⟨Tryz.underlying9⟩
theorem uo:cK prog 9 false:=⟨Tryz.isAgg9⟩
theorem Lr:Sz prog 9 1:=⟨Tryz.sizeOf9⟩
theorem ET:By prog 9 16:=⟨λw=>⟨_,Tryz.typeInfo9 w,rfl⟩⟩
theorem MR:Zr prog 9 (.string {data:=#[]}):=⟨Tryz.zeroValue9⟩
theorem LP:cq prog 22 (.slice 164):=⟨Tryz.underlying22⟩
theorem DY:cK prog 22 false:=⟨Tryz.isAgg22⟩
theorem K3:Sz prog 22 1:=⟨Tryz.sizeOf22⟩
theorem LQ:cq prog 23 (.slice 169):=⟨Tryz.underlying23⟩
theorem D0:cK prog 23 false:=⟨Tryz.isAgg23⟩
theorem K5:Sz prog 23 1:=⟨Tryz.sizeOf23⟩
theorem D2:cK prog 25 true:=⟨Tryz.isAgg25⟩
theorem K7:Sz prog 25 2:=⟨Tryz.sizeOf25⟩
theorem MC:Zr prog 25 (.agg [sZ,sZ].toArray):=⟨Tryz.zeroValue25⟩
theorem Jr:ba prog 25 0 0:=ba.of Tryz.underlying25 rfl Tryz.sizeOf22 rfl rfl
theorem Js:ba prog 25 1 1:=ba.of Tryz.underlying25 rfl Tryz.sizeOf23 rfl rfl
theorem Kz:eJ prog 25 [(0,1),(1,1)] [sZ,sZ]:=⟨_,Tryz.underlying25,Tryz.zeroValue25,λw=>by simp[Tryz.sizeOf22,Tryz.sizeOf23]⟩
theorem LV:cq prog 26 (.slice 51):=⟨Tryz.underlying26⟩
theorem D3:cK prog 26 false:=⟨Tryz.isAgg26⟩
theorem D5:cK prog 28 true:=⟨Tryz.isAgg28⟩
theorem La:Sz prog 28 3:=⟨Tryz.sizeOf28⟩
theorem JA:ba prog 28 0 0:=ba.of Tryz.underlying28 rfl Tryz.sizeOf25 rfl rfl
theorem JB:ba prog 28 1 2:=ba.of Tryz.underlying28 rfl Tryz.sizeOf26 rfl rfl
theorem LY:cq prog 30 (.pointer 155):=⟨Tryz.underlying30⟩
theorem L5:cq prog 31 (.pointer 147):=⟨Tryz.underlying31⟩
theorem D7:cK prog 31 false:=⟨Tryz.isAgg31⟩
theorem yH:cK prog 44 true:=⟨Tryz.isAgg44⟩
theorem yR:Sz prog 44 2:=⟨Tryz.sizeOf44⟩
theorem JK:ba prog 44 0 0:=ba.of Tryz.underlying44 rfl Tryz.sizeOf9 rfl rfl
theorem JL:ba prog 44 1 1:=ba.of Tryz.underlying44 rfl Tryz.sizeOf9 rfl rfl
theorem KH:eJ prog 44 [(0,1),(1,1)] [.string {data:=#[]},.string {data:=#[]}]:=⟨_,Tryz.underlying44,Tryz.zeroValue44,λw=>by simp[Tryz.sizeOf9]⟩
theorem Ma:cq prog 45 (.int .u64):=⟨Tryz.underlying45⟩
theorem Eg:cK prog 45 false:=⟨Tryz.isAgg45⟩
theorem Lh:Sz prog 45 1:=⟨Tryz.sizeOf45⟩
theorem Mb:cq prog 46 (.slice 119):=⟨Tryz.underlying46⟩
theorem Eh:cK prog 46 false:=⟨Tryz.isAgg46⟩
theorem Li:Sz prog 46 1:=⟨Tryz.sizeOf46⟩
theorem Mc:cq prog 47 (.slice 121):=⟨Tryz.underlying47⟩
theorem Ei:cK prog 47 false:=⟨Tryz.isAgg47⟩
theorem Lj:Sz prog 47 1:=⟨Tryz.sizeOf47⟩
theorem Ej:cK prog 49 true:=⟨Tryz.isAgg49⟩
theorem Lk:Sz prog 49 7:=⟨Tryz.sizeOf49⟩
theorem JM:ba prog 49 0 0:=ba.of Tryz.underlying49 rfl Tryz.sizeOf9 rfl rfl
theorem JN:ba prog 49 1 1:=ba.of Tryz.underlying49 rfl Tryz.sizeOf9 rfl rfl
theorem JO:ba prog 49 2 2:=ba.of Tryz.underlying49 rfl Tryz.sizeOf9 rfl rfl
theorem JP:ba prog 49 3 3:=ba.of Tryz.underlying49 rfl Tryz.sizeOf9 rfl rfl
theorem JQ:ba prog 49 4 4:=ba.of Tryz.underlying49 rfl Tryz.sizeOf44 rfl rfl
theorem JR:ba prog 49 5 6:=ba.of Tryz.underlying49 rfl Tryz.sizeOf9 rfl rfl
theorem KI:eJ prog 49 [(0,1),(1,1),(2,1),(3,1),(4,2),(6,1)] [.string {data:=#[]},.string {data:=#[]},.string {data:=#[]},.string {data:=#[]},.string {data:=#[]},.string {data:=#[]},.string {data:=#[]}]:=⟨_,Tryz.underlying49,Tryz.zeroValue49,λw=>by simp[Tryz.sizeOf44,Tryz.sizeOf9]⟩
theorem Ek:cK prog 51 true:=⟨Tryz.isAgg51⟩
theorem Ll:Sz prog 51 12:=⟨Tryz.sizeOf51⟩
theorem ES:By prog 51 200:=⟨λw=>⟨_,Tryz.typeInfo51 w,rfl⟩⟩
theorem MO:Zr prog 51 (.agg [.int .i64 0,sZ,sZ,sZ,.string {data:=#[]},.string {data:=#[]},.string {data:=#[]},.string {data:=#[]},.string {data:=#[]},.string {data:=#[]},.string {data:=#[]},.int .u64 0].toArray):=⟨Tryz.zeroValue51⟩
theorem JS:ba prog 51 0 0:=ba.of Tryz.underlying51 rfl Tryz.sizeOf3 rfl rfl
theorem JT:ba prog 51 1 1:=ba.of Tryz.underlying51 rfl Tryz.sizeOf46 rfl rfl
theorem JU:ba prog 51 2 2:=ba.of Tryz.underlying51 rfl Tryz.sizeOf46 rfl rfl
theorem JW:ba prog 51 3 3:=ba.of Tryz.underlying51 rfl Tryz.sizeOf47 rfl rfl
theorem Md:cq prog 70 (.slice 4):=⟨Tryz.underlying70⟩
theorem El:cK prog 70 false:=⟨Tryz.isAgg70⟩
theorem Me:cq prog 76 (.slice 182):=⟨Tryz.underlying76⟩
theorem Em:cK prog 76 false:=⟨Tryz.isAgg76⟩
theorem Lm:Sz prog 76 1:=⟨Tryz.sizeOf76⟩
theorem Mg:cq prog 79 (.slice 95):=⟨Tryz.underlying79⟩
theorem En:cK prog 79 false:=⟨Tryz.isAgg79⟩
theorem Ln:Sz prog 79 1:=⟨Tryz.sizeOf79⟩
theorem Eo:cK prog 81 true:=⟨Tryz.isAgg81⟩
theorem Lo:Sz prog 81 2:=⟨Tryz.sizeOf81⟩
theorem MP:Zr prog 81 (.agg [sZ,.int .i64 0].toArray):=⟨Tryz.zeroValue81⟩
theorem JX:ba prog 81 0 0:=ba.of Tryz.underlying81 rfl Tryz.sizeOf79 rfl rfl
theorem JY:ba prog 81 1 1:=ba.of Tryz.underlying81 rfl Tryz.sizeOf3 rfl rfl
theorem KJ:eJ prog 81 [(0,1),(1,1)] [sZ,.int .i64 0]:=⟨_,Tryz.underlying81,Tryz.zeroValue81,λw=>by simp[Tryz.sizeOf3,Tryz.sizeOf79]⟩
theorem Mh:cq prog 84 (.slice 93):=⟨Tryz.underlying84⟩
theorem Ep:cK prog 84 false:=⟨Tryz.isAgg84⟩
theorem Lp:Sz prog 84 1:=⟨Tryz.sizeOf84⟩
theorem Er:cK prog 86 true:=⟨Tryz.isAgg86⟩
theorem Lq:Sz prog 86 2:=⟨Tryz.sizeOf86⟩
theorem MQ:Zr prog 86 (.agg [sZ,.int .i64 0].toArray):=⟨Tryz.zeroValue86⟩
theorem JZ:ba prog 86 0 0:=ba.of Tryz.underlying86 rfl Tryz.sizeOf84 rfl rfl
theorem J0:ba prog 86 1 1:=ba.of Tryz.underlying86 rfl Tryz.sizeOf3 rfl rfl
theorem KK:eJ prog 86 [(0,1),(1,1)] [sZ,.int .i64 0]:=⟨_,Tryz.underlying86,Tryz.zeroValue86,λw=>by simp[Tryz.sizeOf3,Tryz.sizeOf84]⟩
theorem Mi:cq prog 90 (.slice 199):=⟨Tryz.underlying90⟩
theorem Et:cK prog 90 false:=⟨Tryz.isAgg90⟩
theorem Ls:Sz prog 90 1:=⟨Tryz.sizeOf90⟩
theorem Mj:cq prog 91 (.slice 9):=⟨Tryz.underlying91⟩
theorem Eu:cK prog 91 false:=⟨Tryz.isAgg91⟩
theorem Lt:Sz prog 91 1:=⟨Tryz.sizeOf91⟩
theorem Ev:cK prog 93 true:=⟨Tryz.isAgg93⟩
theorem Lu:Sz prog 93 8:=⟨Tryz.sizeOf93⟩
theorem EU:By prog 93 136:=⟨λw=>⟨_,Tryz.typeInfo93 w,rfl⟩⟩
theorem MT:Zr prog 93 (.agg [.string {data:=#[]},.string {data:=#[]},.string {data:=#[]},.bool false,sZ,sZ,sZ,.int .i64 0].toArray):=⟨Tryz.zeroValue93⟩
theorem J1:ba prog 93 0 0:=ba.of Tryz.underlying93 rfl Tryz.sizeOf44 rfl rfl
theorem J2:ba prog 93 1 2:=ba.of Tryz.underlying93 rfl Tryz.sizeOf9 rfl rfl
theorem J3:ba prog 93 2 3:=ba.of Tryz.underlying93 rfl Tryz.sizeOf4 rfl rfl
theorem J4:ba prog 93 3 4:=ba.of Tryz.underlying93 rfl Tryz.sizeOf90 rfl rfl
theorem J5:ba prog 93 4 5:=ba.of Tryz.underlying93 rfl Tryz.sizeOf91 rfl rfl
theorem J6:ba prog 93 5 6:=ba.of Tryz.underlying93 rfl Tryz.sizeOf76 rfl rfl
theorem J7:ba prog 93 6 7:=ba.of Tryz.underlying93 rfl Tryz.sizeOf3 rfl rfl
theorem KL:eJ prog 93 [(0,2),(2,1),(3,1),(4,1),(5,1),(6,1),(7,1)] [.string {data:=#[]},.string {data:=#[]},.string {data:=#[]},.bool false,sZ,sZ,sZ,.int .i64 0]:=⟨_,Tryz.underlying93,Tryz.zeroValue93,λw=>by simp[Tryz.sizeOf3,Tryz.sizeOf4,Tryz.sizeOf44,Tryz.sizeOf76,Tryz.sizeOf9,Tryz.sizeOf90,Tryz.sizeOf91]⟩
theorem Ex:cK prog 95 true:=⟨Tryz.isAgg95⟩
theorem Lv:Sz prog 95 8:=⟨Tryz.sizeOf95⟩
theorem EV:By prog 95 136:=⟨λw=>⟨_,Tryz.typeInfo95 w,rfl⟩⟩
theorem MU:Zr prog 95 (.agg [.string {data:=#[]},.string {data:=#[]},.string {data:=#[]},.bool false,sZ,sZ,sZ,.int .i64 0].toArray):=⟨Tryz.zeroValue95⟩
theorem J8:ba prog 95 0 0:=ba.of Tryz.underlying95 rfl Tryz.sizeOf44 rfl rfl
theorem J9:ba prog 95 1 2:=ba.of Tryz.underlying95 rfl Tryz.sizeOf9 rfl rfl
theorem Ka:ba prog 95 2 3:=ba.of Tryz.underlying95 rfl Tryz.sizeOf4 rfl rfl
theorem Kb:ba prog 95 3 4:=ba.of Tryz.underlying95 rfl Tryz.sizeOf90 rfl rfl
theorem Kc:ba prog 95 4 5:=ba.of Tryz.underlying95 rfl Tryz.sizeOf91 rfl rfl
theorem Kd:ba prog 95 5 6:=ba.of Tryz.underlying95 rfl Tryz.sizeOf76 rfl rfl
theorem Ke:ba prog 95 6 7:=ba.of Tryz.underlying95 rfl Tryz.sizeOf3 rfl rfl
theorem KM:eJ prog 95 [(0,2),(2,1),(3,1),(4,1),(5,1),(6,1),(7,1)] [.string {data:=#[]},.string {data:=#[]},.string {data:=#[]},.bool false,sZ,sZ,sZ,.int .i64 0]:=⟨_,Tryz.underlying95,Tryz.zeroValue95,λw=>by simp[Tryz.sizeOf3,Tryz.sizeOf4,Tryz.sizeOf44,Tryz.sizeOf76,Tryz.sizeOf9,Tryz.sizeOf90,Tryz.sizeOf91]⟩
theorem Lx:cq prog 101 (.slice 226):=⟨Tryz.underlying101⟩
theorem DB:cK prog 101 false:=⟨Tryz.isAgg101⟩
theorem KN:Sz prog 101 1:=⟨Tryz.sizeOf101⟩
theorem Io:ba prog 103 0 0:=ba.of Tryz.underlying103 rfl Tryz.sizeOf101 rfl rfl
theorem Ip:ba prog 103 1 1:=ba.of Tryz.underlying103 rfl Tryz.sizeOf45 rfl rfl
theorem Iq:ba prog 103 2 2:=ba.of Tryz.underlying103 rfl Tryz.sizeOf45 rfl rfl
theorem Kj:eJ prog 103 [(0,1),(1,1),(2,1)] [sZ,.int .u64 0,.int .u64 0]:=⟨_,Tryz.underlying103,Tryz.zeroValue103,λw=>by simp[Tryz.sizeOf101,Tryz.sizeOf45]⟩
theorem yA:cK prog 117 true:=⟨Tryz.isAgg117⟩
theorem yM:Sz prog 117 4:=⟨Tryz.sizeOf117⟩
theorem Ey:By prog 117 64:=⟨λw=>⟨_,Tryz.typeInfo117 w,rfl⟩⟩
theorem Mk:Zr prog 117 (.agg [.string {data:=#[]},.string {data:=#[]},.string {data:=#[]},.string {data:=#[]}].toArray):=⟨Tryz.zeroValue117⟩
theorem Ir:ba prog 117 0 0:=ba.of Tryz.underlying117 rfl Tryz.sizeOf9 rfl rfl
theorem Is:ba prog 117 1 1:=ba.of Tryz.underlying117 rfl Tryz.sizeOf44 rfl rfl
theorem Iu:ba prog 117 2 3:=ba.of Tryz.underlying117 rfl Tryz.sizeOf9 rfl rfl
theorem Kk:eJ prog 117 [(0,1),(1,2),(3,1)] [.string {data:=#[]},.string {data:=#[]},.string {data:=#[]},.string {data:=#[]}]:=⟨_,Tryz.underlying117,Tryz.zeroValue117,λw=>by simp[Tryz.sizeOf44,Tryz.sizeOf9]⟩
theorem yB:cK prog 119 true:=⟨Tryz.isAgg119⟩
theorem yN:Sz prog 119 7:=⟨Tryz.sizeOf119⟩
theorem Ez:By prog 119 112:=⟨λw=>⟨_,Tryz.typeInfo119 w,rfl⟩⟩
theorem Ml:Zr prog 119 (.agg [.string {data:=#[]},.string {data:=#[]},.string {data:=#[]},.string {data:=#[]},.string {data:=#[]},.string {data:=#[]},.string {data:=#[]}].toArray):=⟨Tryz.zeroValue119⟩
theorem Iv:ba prog 119 0 0:=ba.of Tryz.underlying119 rfl Tryz.sizeOf44 rfl rfl
theorem Iw:ba prog 119 1 2:=ba.of Tryz.underlying119 rfl Tryz.sizeOf9 rfl rfl
theorem Ix:ba prog 119 2 3:=ba.of Tryz.underlying119 rfl Tryz.sizeOf117 rfl rfl
theorem Kl:eJ prog 119 [(0,2),(2,1),(3,4)] [.string {data:=#[]},.string {data:=#[]},.string {data:=#[]},.string {data:=#[]},.string {data:=#[]},.string {data:=#[]},.string {data:=#[]}]:=⟨_,Tryz.underlying119,Tryz.zeroValue119,λw=>by simp[Tryz.sizeOf117,Tryz.sizeOf44,Tryz.sizeOf9]⟩
theorem DC:cK prog 121 true:=⟨Tryz.isAgg121⟩
theorem KO:Sz prog 121 8:=⟨Tryz.sizeOf121⟩
theorem Mm:Zr prog 121 (.agg [.bool false,.string {data:=#[]},.string {data:=#[]},.string {data:=#[]},.string {data:=#[]},.string {data:=#[]},.string {data:=#[]},.string {data:=#[]}].toArray):=⟨Tryz.zeroValue121⟩
theorem Iy:ba prog 121 0 0:=ba.of Tryz.underlying121 rfl Tryz.sizeOf4 rfl rfl
theorem Iz:ba prog 121 1 1:=ba.of Tryz.underlying121 rfl Tryz.sizeOf119 rfl rfl
theorem Ly:cq prog 144 (.map 236 238):=⟨Tryz.underlying144⟩
theorem DD:cK prog 144 false:=⟨Tryz.isAgg144⟩
theorem Lz:cq prog 145 (.map 117 238):=⟨Tryz.underlying145⟩
theorem DE:cK prog 145 false:=⟨Tryz.isAgg145⟩
theorem IA:ba prog 147 0 0:=ba.of Tryz.underlying147 rfl Tryz.sizeOf4 rfl rfl
theorem IB:ba prog 147 1 1:=ba.of Tryz.underlying147 rfl Tryz.sizeOf45 rfl rfl
theorem IC:ba prog 147 2 2:=ba.of Tryz.underlying147 rfl Tryz.sizeOf45 rfl rfl
theorem ID:ba prog 147 3 3:=ba.of Tryz.underlying147 rfl Tryz.sizeOf3 rfl rfl
theorem IE:ba prog 147 4 4:=ba.of Tryz.underlying147 rfl Tryz.sizeOf144 rfl rfl
theorem IF:ba prog 147 5 5:=ba.of Tryz.underlying147 rfl Tryz.sizeOf145 rfl rfl
theorem Km:eJ prog 147 [(0,1),(1,1),(2,1),(3,1),(4,1),(5,1)] [.bool false,.int .u64 0,.int .u64 0,.int .i64 0,.map none,.map none]:=⟨_,Tryz.underlying147,Tryz.zeroValue147,λw=>by simp[Tryz.sizeOf144,Tryz.sizeOf145,Tryz.sizeOf3,Tryz.sizeOf4,Tryz.sizeOf45]⟩
theorem DF:cK prog 150 true:=⟨Tryz.isAgg150⟩
theorem KP:Sz prog 150 9:=⟨Tryz.sizeOf150⟩
theorem IG:ba prog 150 0 0:=ba.of Tryz.underlying150 rfl Tryz.sizeOf119 rfl rfl
theorem IH:ba prog 150 1 7:=ba.of Tryz.underlying150 rfl Tryz.sizeOf45 rfl rfl
theorem II:ba prog 150 2 8:=ba.of Tryz.underlying150 rfl Tryz.sizeOf45 rfl rfl
theorem Kn:eJ prog 150 [(0,7),(7,1),(8,1)] [.string {data:=#[]},.string {data:=#[]},.string {data:=#[]},.string {data:=#[]},.string {data:=#[]},.string {data:=#[]},.string {data:=#[]},.int .u64 0,.int .u64 0]:=⟨_,Tryz.underlying150,Tryz.zeroValue150,λw=>by simp[Tryz.sizeOf119,Tryz.sizeOf45]⟩
theorem LA:cq prog 151 (.pointer 150):=⟨Tryz.underlying151⟩
theorem DG:cK prog 151 false:=⟨Tryz.isAgg151⟩
theorem KQ:Sz prog 151 1:=⟨Tryz.sizeOf151⟩
theorem EB:By prog 151 8:=⟨λw=>⟨_,Tryz.typeInfo151 w,rfl⟩⟩
theorem Mn:Zr prog 151 (.pointer none):=⟨Tryz.zeroValue151⟩
theorem LC:cq prog 153 (.slice 159):=⟨Tryz.underlying153⟩
theorem DH:cK prog 153 false:=⟨Tryz.isAgg153⟩
theorem KR:Sz prog 153 1:=⟨Tryz.sizeOf153⟩
theorem IJ:ba prog 155 0 0:=ba.of Tryz.underlying155 rfl Tryz.sizeOf4 rfl rfl
theorem IK:ba prog 155 1 1:=ba.of Tryz.underlying155 rfl Tryz.sizeOf153 rfl rfl
theorem IL:ba prog 155 2 2:=ba.of Tryz.underlying155 rfl Tryz.sizeOf3 rfl rfl
theorem Ko:eJ prog 155 [(0,1),(1,1),(2,1)] [.bool false,sZ,.int .i64 0]:=⟨_,Tryz.underlying155,Tryz.zeroValue155,λw=>by simp[Tryz.sizeOf153,Tryz.sizeOf3,Tryz.sizeOf4]⟩
theorem IM:ba prog 157 0 0:=ba.of Tryz.underlying157 rfl Tryz.sizeOf45 rfl rfl
theorem IN:ba prog 157 1 1:=ba.of Tryz.underlying157 rfl Tryz.sizeOf25 rfl rfl
theorem Kp:eJ prog 157 [(0,1),(1,2)] [.int .u64 0,sZ,sZ]:=⟨_,Tryz.underlying157,Tryz.zeroValue157,λw=>by simp[Tryz.sizeOf25,Tryz.sizeOf45]⟩
theorem DJ:cK prog 159 true:=⟨Tryz.isAgg159⟩
theorem KS:Sz prog 159 4:=⟨Tryz.sizeOf159⟩
theorem EC:By prog 159 80:=⟨λw=>⟨_,Tryz.typeInfo159 w,rfl⟩⟩
theorem Mo:Zr prog 159 (.agg [.int .u64 0,sZ,sZ,sZ].toArray):=⟨Tryz.zeroValue159⟩
theorem IP:ba prog 159 0 0:=ba.of Tryz.underlying159 rfl Tryz.sizeOf157 rfl rfl
theorem IQ:ba prog 159 1 3:=ba.of Tryz.underlying159 rfl Tryz.sizeOf76 rfl rfl
theorem Kq:eJ prog 159 [(0,3),(3,1)] [.int .u64 0,sZ,sZ,sZ]:=⟨_,Tryz.underlying159,Tryz.zeroValue159,λw=>by simp[Tryz.sizeOf157,Tryz.sizeOf76]⟩
theorem LD:cq prog 162 (.slice 167):=⟨Tryz.underlying162⟩
theorem DK:cK prog 162 false:=⟨Tryz.isAgg162⟩
theorem KT:Sz prog 162 1:=⟨Tryz.sizeOf162⟩
theorem DL:cK prog 164 true:=⟨Tryz.isAgg164⟩
theorem KU:Sz prog 164 2:=⟨Tryz.sizeOf164⟩
theorem ED:By prog 164 40:=⟨λw=>⟨_,Tryz.typeInfo164 w,rfl⟩⟩
theorem Mp:Zr prog 164 (.agg [.string {data:=#[]},sZ].toArray):=⟨Tryz.zeroValue164⟩
theorem IR:ba prog 164 0 0:=ba.of Tryz.underlying164 rfl Tryz.sizeOf9 rfl rfl
theorem IS:ba prog 164 1 1:=ba.of Tryz.underlying164 rfl Tryz.sizeOf162 rfl rfl
theorem Kr:eJ prog 164 [(0,1),(1,1)] [.string {data:=#[]},sZ]:=⟨_,Tryz.underlying164,Tryz.zeroValue164,λw=>by simp[Tryz.sizeOf162,Tryz.sizeOf9]⟩
theorem LF:cq prog 165 (.slice 249):=⟨Tryz.underlying165⟩
theorem yC:cK prog 165 false:=⟨Tryz.isAgg165⟩
theorem KV:Sz prog 165 1:=⟨Tryz.sizeOf165⟩
theorem DM:cK prog 167 true:=⟨Tryz.isAgg167⟩
theorem KW:Sz prog 167 3:=⟨Tryz.sizeOf167⟩
theorem EE:By prog 167 64:=⟨λw=>⟨_,Tryz.typeInfo167 w,rfl⟩⟩
theorem Mq:Zr prog 167 (.agg [.string {data:=#[]},sZ,sZ].toArray):=⟨Tryz.zeroValue167⟩
theorem IT:ba prog 167 0 0:=ba.of Tryz.underlying167 rfl Tryz.sizeOf9 rfl rfl
theorem IU:ba prog 167 1 1:=ba.of Tryz.underlying167 rfl Tryz.sizeOf165 rfl rfl
theorem IV:ba prog 167 2 2:=ba.of Tryz.underlying167 rfl Tryz.sizeOf90 rfl rfl
theorem Ks:eJ prog 167 [(0,1),(1,1),(2,1)] [.string {data:=#[]},sZ,sZ]:=⟨_,Tryz.underlying167,Tryz.zeroValue167,λw=>by simp[Tryz.sizeOf165,Tryz.sizeOf9,Tryz.sizeOf90]⟩
theorem DN:cK prog 169 true:=⟨Tryz.isAgg169⟩
theorem KX:Sz prog 169 4:=⟨Tryz.sizeOf169⟩
theorem EF:By prog 169 64:=⟨λw=>⟨_,Tryz.typeInfo169 w,rfl⟩⟩
theorem Mt:Zr prog 169 (.agg [.string {data:=#[]},.string {data:=#[]},.string {data:=#[]},.string {data:=#[]}].toArray):=⟨Tryz.zeroValue169⟩
theorem IW:ba prog 169 0 0:=ba.of Tryz.underlying169 rfl Tryz.sizeOf9 rfl rfl
theorem IY:ba prog 169 1 1:=ba.of Tryz.underlying169 rfl Tryz.sizeOf44 rfl rfl
theorem IZ:ba prog 169 2 3:=ba.of Tryz.underlying169 rfl Tryz.sizeOf9 rfl rfl
theorem LG:cq prog 177 (.slice 266):=⟨Tryz.underlying177⟩
theorem LH:cq prog 180 (.slice 263):=⟨Tryz.underlying180⟩
theorem LI:cq prog 182 (.slice 3):=⟨Tryz.underlying182⟩
theorem DP:cK prog 182 false:=⟨Tryz.isAgg182⟩
theorem KY:Sz prog 182 1:=⟨Tryz.sizeOf182⟩
theorem EG:By prog 182 24:=⟨λw=>⟨_,Tryz.typeInfo182 w,rfl⟩⟩
theorem Mu:Zr prog 182 (sZ):=⟨Tryz.zeroValue182⟩
theorem LJ:cq prog 185 (.map 249 3):=⟨Tryz.underlying185⟩
theorem DQ:cK prog 185 false:=⟨Tryz.isAgg185⟩
theorem LK:cq prog 188 (.map 269 3):=⟨Tryz.underlying188⟩
theorem DR:cK prog 188 false:=⟨Tryz.isAgg188⟩
theorem I0:ba prog 190 0 0:=ba.of Tryz.underlying190 rfl Tryz.sizeOf25 rfl rfl
theorem I1:ba prog 190 1 2:=ba.of Tryz.underlying190 rfl Tryz.sizeOf185 rfl rfl
theorem I2:ba prog 190 2 3:=ba.of Tryz.underlying190 rfl Tryz.sizeOf31 rfl rfl
theorem I3:ba prog 190 3 4:=ba.of Tryz.underlying190 rfl Tryz.sizeOf45 rfl rfl
theorem I4:ba prog 190 4 5:=ba.of Tryz.underlying190 rfl Tryz.sizeOf188 rfl rfl
theorem I5:ba prog 190 5 6:=ba.of Tryz.underlying190 rfl Tryz.sizeOf81 rfl rfl
theorem I6:ba prog 190 6 8:=ba.of Tryz.underlying190 rfl Tryz.sizeOf3 rfl rfl
theorem Kt:eJ prog 190 [(0,2),(2,1),(3,1),(4,1),(5,1),(6,2),(8,1)] [sZ,sZ,.map none,.pointer none,.int .u64 0,.map none,sZ,.int .i64 0,.int .i64 0]:=⟨_,Tryz.underlying190,Tryz.zeroValue190,λw=>by simp[Tryz.sizeOf185,Tryz.sizeOf188,Tryz.sizeOf25,Tryz.sizeOf3,Tryz.sizeOf31,Tryz.sizeOf45,Tryz.sizeOf81]⟩
theorem LM:cq prog 195 (.slice 117):=⟨Tryz.underlying195⟩
theorem DT:cK prog 199 true:=⟨Tryz.isAgg199⟩
theorem KZ:Sz prog 199 5:=⟨Tryz.sizeOf199⟩
theorem EH:By prog 199 56:=⟨λw=>⟨_,Tryz.typeInfo199 w,rfl⟩⟩
theorem Mv:Zr prog 199 (.agg [.int .i64 0,.string {data:=#[]},.string {data:=#[]},.int .i64 0,.int .i64 0].toArray):=⟨Tryz.zeroValue199⟩
theorem I7:ba prog 199 0 0:=ba.of Tryz.underlying199 rfl Tryz.sizeOf3 rfl rfl
theorem I8:ba prog 199 1 1:=ba.of Tryz.underlying199 rfl Tryz.sizeOf9 rfl rfl
theorem I9:ba prog 199 2 2:=ba.of Tryz.underlying199 rfl Tryz.sizeOf9 rfl rfl
theorem Ja:ba prog 199 3 3:=ba.of Tryz.underlying199 rfl Tryz.sizeOf3 rfl rfl
theorem Jb:ba prog 199 4 4:=ba.of Tryz.underlying199 rfl Tryz.sizeOf3 rfl rfl
theorem LN:cq prog 204 (.slice 280):=⟨Tryz.underlying204⟩
theorem DU:cK prog 204 false:=⟨Tryz.isAgg204⟩
theorem K0:Sz prog 204 1:=⟨Tryz.sizeOf204⟩
theorem Jc:ba prog 206 0 0:=ba.of Tryz.underlying206 rfl Tryz.sizeOf81 rfl rfl
theorem Jd:ba prog 206 1 2:=ba.of Tryz.underlying206 rfl Tryz.sizeOf9 rfl rfl
theorem Je:ba prog 206 2 3:=ba.of Tryz.underlying206 rfl Tryz.sizeOf70 rfl rfl
theorem Jf:ba prog 206 3 4:=ba.of Tryz.underlying206 rfl Tryz.sizeOf76 rfl rfl
theorem Jg:ba prog 206 4 5:=ba.of Tryz.underlying206 rfl Tryz.sizeOf70 rfl rfl
theorem Jh:ba prog 206 5 6:=ba.of Tryz.underlying206 rfl Tryz.sizeOf204 rfl rfl
theorem Ku:eJ prog 206 [(0,2),(2,1),(3,1),(4,1),(5,1),(6,1)] [sZ,.int .i64 0,.string {data:=#[]},sZ,sZ,sZ,sZ]:=⟨_,Tryz.underlying206,Tryz.zeroValue206,λw=>by simp[Tryz.sizeOf204,Tryz.sizeOf70,Tryz.sizeOf76,Tryz.sizeOf81,Tryz.sizeOf9]⟩
theorem LO:cq prog 217 (.slice 219):=⟨Tryz.underlying217⟩
theorem DW:cK prog 217 false:=⟨Tryz.isAgg217⟩
theorem K1:Sz prog 217 1:=⟨Tryz.sizeOf217⟩
theorem DX:cK prog 219 true:=⟨Tryz.isAgg219⟩
theorem K2:Sz prog 219 6:=⟨Tryz.sizeOf219⟩
theorem EI:By prog 219 88:=⟨λw=>⟨_,Tryz.typeInfo219 w,rfl⟩⟩
theorem Mw:Zr prog 219 (.agg [.int .i64 0,.bool false,.int .i64 0,.string {data:=#[]},sZ,sZ].toArray):=⟨Tryz.zeroValue219⟩
theorem Ji:ba prog 219 0 0:=ba.of Tryz.underlying219 rfl Tryz.sizeOf3 rfl rfl
theorem Jj:ba prog 219 3 3:=ba.of Tryz.underlying219 rfl Tryz.sizeOf9 rfl rfl
theorem Jk:ba prog 219 4 4:=ba.of Tryz.underlying219 rfl Tryz.sizeOf217 rfl rfl
theorem Jl:ba prog 219 5 5:=ba.of Tryz.underlying219 rfl Tryz.sizeOf91 rfl rfl
theorem Kv:eJ prog 219 [(0,1),(1,1),(2,1),(3,1),(4,1),(5,1)] [.int .i64 0,.bool false,.int .i64 0,.string {data:=#[]},sZ,sZ]:=⟨_,Tryz.underlying219,Tryz.zeroValue219,λw=>by simp[Tryz.sizeOf2,Tryz.sizeOf217,Tryz.sizeOf3,Tryz.sizeOf4,Tryz.sizeOf9,Tryz.sizeOf91]⟩
theorem DZ:cK prog 226 true:=⟨Tryz.isAgg226⟩
theorem K4:Sz prog 226 9:=⟨Tryz.sizeOf226⟩
theorem EJ:By prog 226 128:=⟨λw=>⟨_,Tryz.typeInfo226 w,rfl⟩⟩
theorem Mx:Zr prog 226 (.agg [.string {data:=#[]},.string {data:=#[]},.string {data:=#[]},.string {data:=#[]},.string {data:=#[]},.string {data:=#[]},.string {data:=#[]},.int .u64 0,.int .u64 0].toArray):=⟨Tryz.zeroValue226⟩
theorem Jm:ba prog 226 0 0:=ba.of Tryz.underlying226 rfl Tryz.sizeOf119 rfl rfl
theorem Jn:ba prog 226 1 7:=ba.of Tryz.underlying226 rfl Tryz.sizeOf45 rfl rfl
theorem Jo:ba prog 226 2 8:=ba.of Tryz.underlying226 rfl Tryz.sizeOf45 rfl rfl
theorem Kw:eJ prog 226 [(0,7),(7,1),(8,1)] [.string {data:=#[]},.string {data:=#[]},.string {data:=#[]},.string {data:=#[]},.string {data:=#[]},.string {data:=#[]},.string {data:=#[]},.int .u64 0,.int .u64 0]:=⟨_,Tryz.underlying226,Tryz.zeroValue226,λw=>by simp[Tryz.sizeOf119,Tryz.sizeOf45]⟩
theorem D1:cK prog 231 false:=⟨Tryz.isAgg231⟩
theorem K6:Sz prog 231 1:=⟨Tryz.sizeOf231⟩
theorem My:Zr prog 231 (.nilFunc):=⟨Tryz.zeroValue231⟩
theorem LR:cq prog 232 (.map 119 4):=⟨Tryz.underlying232⟩
theorem yD:cK prog 236 true:=⟨Tryz.isAgg236⟩
theorem yO:Sz prog 236 3:=⟨Tryz.sizeOf236⟩
theorem Mz:Zr prog 236 (.agg [.string {data:=#[]},.string {data:=#[]},.string {data:=#[]}].toArray):=⟨Tryz.zeroValue236⟩
theorem Kx:eJ prog 236 [(0,2),(2,1)] [.string {data:=#[]},.string {data:=#[]},.string {data:=#[]}]:=⟨_,Tryz.underlying236,Tryz.zeroValue236,λw=>by simp[Tryz.sizeOf44,Tryz.sizeOf9]⟩
theorem LS:cq prog 238 (.slice 151):=⟨Tryz.underlying238⟩
theorem MA:Zr prog 238 (sZ):=⟨Tryz.zeroValue238⟩
theorem LU:cq prog 242 (.slice 325):=⟨Tryz.underlying242⟩
theorem yE:cK prog 249 true:=⟨Tryz.isAgg249⟩
theorem yP:Sz prog 249 2:=⟨Tryz.sizeOf249⟩
theorem EK:By prog 249 32:=⟨λw=>⟨_,Tryz.typeInfo249 w,rfl⟩⟩
theorem MB:Zr prog 249 (.agg [.string {data:=#[]},.string {data:=#[]}].toArray):=⟨Tryz.zeroValue249⟩
theorem Jp:ba prog 249 0 0:=ba.of Tryz.underlying249 rfl Tryz.sizeOf9 rfl rfl
theorem Jq:ba prog 249 1 1:=ba.of Tryz.underlying249 rfl Tryz.sizeOf9 rfl rfl
theorem Ky:eJ prog 249 [(0,1),(1,1)] [.string {data:=#[]},.string {data:=#[]}]:=⟨_,Tryz.underlying249,Tryz.zeroValue249,λw=>by simp[Tryz.sizeOf9]⟩
theorem K8:Sz prog 263 4:=⟨Tryz.sizeOf263⟩
theorem EL:By prog 263 80:=⟨λw=>⟨_,Tryz.typeInfo263 w,rfl⟩⟩
theorem MD:Zr prog 263 (.agg [.string {data:=#[]},.string {data:=#[]},sZ,sZ].toArray):=⟨Tryz.zeroValue263⟩
theorem Jt:ba prog 263 0 0:=ba.of Tryz.underlying263 rfl Tryz.sizeOf9 rfl rfl
theorem Ju:ba prog 263 1 1:=ba.of Tryz.underlying263 rfl Tryz.sizeOf167 rfl rfl
theorem KA:eJ prog 263 [(0,1),(1,3)] [.string {data:=#[]},.string {data:=#[]},sZ,sZ]:=⟨_,Tryz.underlying263,Tryz.zeroValue263,λw=>by simp[Tryz.sizeOf167,Tryz.sizeOf9]⟩
theorem D4:cK prog 266 true:=⟨Tryz.isAgg266⟩
theorem K9:Sz prog 266 3:=⟨Tryz.sizeOf266⟩
theorem EM:By prog 266 24:=⟨λw=>⟨_,Tryz.typeInfo266 w,rfl⟩⟩
theorem MF:Zr prog 266 (.agg [.int .i64 0,.int .i64 0,.bool false].toArray):=⟨Tryz.zeroValue266⟩
theorem Jv:ba prog 266 0 0:=ba.of Tryz.underlying266 rfl Tryz.sizeOf3 rfl rfl
theorem Jw:ba prog 266 1 1:=ba.of Tryz.underlying266 rfl Tryz.sizeOf3 rfl rfl
theorem Jx:ba prog 266 2 2:=ba.of Tryz.underlying266 rfl Tryz.sizeOf4 rfl rfl
theorem KB:eJ prog 266 [(0,1),(1,1),(2,1)] [.int .i64 0,.int .i64 0,.bool false]:=⟨_,Tryz.underlying266,Tryz.zeroValue266,λw=>by simp[Tryz.sizeOf3,Tryz.sizeOf4]⟩
theorem yF:cK prog 269 true:=⟨Tryz.isAgg269⟩
theorem yQ:Sz prog 269 3:=⟨Tryz.sizeOf269⟩
theorem MG:Zr prog 269 (.agg [.string {data:=#[]},.string {data:=#[]},.string {data:=#[]}].toArray):=⟨Tryz.zeroValue269⟩
theorem KC:eJ prog 269 [(0,2),(2,1)] [.string {data:=#[]},.string {data:=#[]},.string {data:=#[]}]:=⟨_,Tryz.underlying269,Tryz.zeroValue269,λw=>by simp[Tryz.sizeOf44,Tryz.sizeOf9]⟩
theorem LW:cq prog 275 (.map 3 4):=⟨Tryz.underlying275⟩
theorem D6:cK prog 280 true:=⟨Tryz.isAgg280⟩
theorem Lb:Sz prog 280 2:=⟨Tryz.sizeOf280⟩
theorem EN:By prog 280 16:=⟨λw=>⟨_,Tryz.typeInfo280 w,rfl⟩⟩
theorem MH:Zr prog 280 (.agg [.int .i64 0,.int .i64 0].toArray):=⟨Tryz.zeroValue280⟩
theorem Jy:ba prog 280 0 0:=ba.of Tryz.underlying280 rfl Tryz.sizeOf3 rfl rfl
theorem Jz:ba prog 280 1 1:=ba.of Tryz.underlying280 rfl Tryz.sizeOf3 rfl rfl
theorem KD:eJ prog 280 [(0,1),(1,1)] [.int .i64 0,.int .i64 0]:=⟨_,Tryz.underlying280,Tryz.zeroValue280,λw=>by simp[Tryz.sizeOf3]⟩
theorem LX:cq prog 282 (.pointer 204):=⟨Tryz.underlying282⟩
theorem MJ:Zr prog 300 (.agg [.int .i64 0,.bool false,.int .i64 0,.string {data:=#[]},sZ,sZ].toArray):=⟨Tryz.zeroValue300⟩
theorem JC:ba prog 300 0 0:=ba.of Tryz.underlying300 rfl Tryz.sizeOf219 rfl rfl
theorem LZ:cq prog 306 (.int .u64):=⟨Tryz.underlying306⟩
theorem L6:cq prog 316 (.map 249 321):=⟨Tryz.underlying316⟩
theorem D8:cK prog 316 false:=⟨Tryz.isAgg316⟩
theorem JD:ba prog 318 0 0:=ba.of Tryz.underlying318 rfl Tryz.sizeOf25 rfl rfl
theorem JE:ba prog 318 1 2:=ba.of Tryz.underlying318 rfl Tryz.sizeOf316 rfl rfl
theorem KE:eJ prog 318 [(0,2),(2,1)] [sZ,sZ,.map none]:=⟨_,Tryz.underlying318,Tryz.zeroValue318,λw=>by simp[Tryz.sizeOf25,Tryz.sizeOf316]⟩
theorem L7:cq prog 319 (.map 9 4):=⟨Tryz.underlying319⟩
theorem D9:cK prog 321 true:=⟨Tryz.isAgg321⟩
theorem Ld:Sz prog 321 2:=⟨Tryz.sizeOf321⟩
theorem EP:By prog 321 16:=⟨λw=>⟨_,Tryz.typeInfo321 w,rfl⟩⟩
theorem MK:Zr prog 321 (.agg [.int .i64 0,.int .i64 0].toArray):=⟨Tryz.zeroValue321⟩
theorem JF:ba prog 321 0 0:=ba.of Tryz.underlying321 rfl Tryz.sizeOf3 rfl rfl
theorem JG:ba prog 321 1 1:=ba.of Tryz.underlying321 rfl Tryz.sizeOf3 rfl rfl
theorem KF:eJ prog 321 [(0,1),(1,1)] [.int .i64 0,.int .i64 0]:=⟨_,Tryz.underlying321,Tryz.zeroValue321,λw=>by simp[Tryz.sizeOf3]⟩
theorem Ec:cK prog 325 true:=⟨Tryz.isAgg325⟩
theorem Le:Sz prog 325 5:=⟨Tryz.sizeOf325⟩
theorem EQ:By prog 325 40:=⟨λw=>⟨_,Tryz.typeInfo325 w,rfl⟩⟩
theorem ML:Zr prog 325 (.agg [.int .i64 0,.int .i64 0,.int .i64 0,.int .i64 0,.bool false].toArray):=⟨Tryz.zeroValue325⟩
theorem JH:ba prog 325 0 0:=ba.of Tryz.underlying325 rfl Tryz.sizeOf321 rfl rfl
theorem JI:ba prog 325 1 2:=ba.of Tryz.underlying325 rfl Tryz.sizeOf321 rfl rfl
theorem JJ:ba prog 325 2 4:=ba.of Tryz.underlying325 rfl Tryz.sizeOf4 rfl rfl
theorem KG:eJ prog 325 [(0,2),(2,2),(4,1)] [.int .i64 0,.int .i64 0,.int .i64 0,.int .i64 0,.bool false]:=⟨_,Tryz.underlying325,Tryz.zeroValue325,λw=>by simp[Tryz.sizeOf321,Tryz.sizeOf4]⟩
theorem L8:cq prog 375 (.slice 321):=⟨Tryz.underlying375⟩
theorem L9:cq prog 385 (.int .u64):=⟨Tryz.underlying385⟩
theorem Ee:cK prog 385 false:=⟨Tryz.isAgg385⟩
theorem Lf:Sz prog 385 1:=⟨Tryz.sizeOf385⟩
theorem MM:Zr prog 385 (.int .u64 0):=⟨Tryz.zeroValue385⟩
theorem lX:fy prog 9 1 [.s] false:=fy.str rV uo
theorem qy:fy prog 44 2 [.s,.s] true:=fy.struct (n:=1) Tryz.underlying44 Tryz.stoodInHeld44 yH yR (eX.more lX (eX.more lX eX.nil))
theorem Ki:qc prog 44:=⟨Tryz.eqGuardType44⟩
theorem uq:fy prog 117 3 [.s,.s,.s,.s] true:=fy.struct (n:=2) Tryz.underlying117 Tryz.stoodInHeld117 yA yM (eX.more lX (eX.more qy (eX.more lX eX.nil)))
theorem Kf:qc prog 117:=⟨Tryz.eqGuardType117⟩
theorem yI:fy prog 119 4 [.s,.s,.s,.s,.s,.s,.s] true:=fy.struct (n:=3) Tryz.underlying119 Tryz.stoodInHeld119 yB yN (eX.more qy (eX.more lX (eX.more uq eX.nil)))
theorem Kg:qc prog 119:=⟨Tryz.eqGuardType119⟩
theorem yJ:fy prog 236 3 [.s,.s,.s] true:=fy.struct (n:=2) Tryz.underlying236 Tryz.stoodInHeld236 yD yO (eX.more qy (eX.more lX eX.nil))
theorem yK:fy prog 249 2 [.s,.s] true:=fy.struct (n:=1) Tryz.underlying249 Tryz.stoodInHeld249 yE yP (eX.more lX (eX.more lX eX.nil))
theorem Kh:qc prog 249:=⟨Tryz.eqGuardType249⟩
theorem yL:fy prog 269 3 [.s,.s,.s] true:=fy.struct (n:=2) Tryz.underlying269 Tryz.stoodInHeld269 yF yQ (eX.more qy (eX.more lX eX.nil))
theorem FD:aZ prog 14:=⟨Tryz.call14⟩
theorem Gd:aZ prog 18:=⟨Tryz.call18⟩
theorem Gp:aZ prog 19:=⟨Tryz.call19⟩
theorem Gu:aZ prog 20:=⟨Tryz.call20⟩
theorem GI:aZ prog 22:=⟨Tryz.call22⟩
theorem Hh:aZ prog 26:=⟨Tryz.call26⟩
theorem Hn:aZ prog 27:=⟨Tryz.call27⟩
theorem Hv:aZ prog 32:=⟨Tryz.call32⟩
theorem Hw:aZ prog 34:=⟨Tryz.call34⟩
theorem Hx:aZ prog 35:=⟨Tryz.call35⟩
theorem Hy:aZ prog 39:=⟨Tryz.call39⟩
theorem Hz:aZ prog 40:=⟨Tryz.call40⟩
theorem HA:aZ prog 41:=⟨Tryz.call41⟩
theorem HB:aZ prog 42:=⟨Tryz.call42⟩
theorem HC:aZ prog 45:=⟨Tryz.call45⟩
theorem HD:aZ prog 48:=⟨Tryz.call48⟩
theorem HE:aZ prog 49:=⟨Tryz.call49⟩
theorem HF:aZ prog 50:=⟨Tryz.call50⟩
theorem HG:aZ prog 51:=⟨Tryz.call51⟩
theorem HH:aZ prog 52:=⟨Tryz.call52⟩
theorem HJ:aZ prog 53:=⟨Tryz.call53⟩
theorem HK:aZ prog 58:=⟨Tryz.call58⟩
theorem HL:aZ prog 61:=⟨Tryz.call61⟩
theorem HM:aZ prog 62:=⟨Tryz.call62⟩
theorem HN:aZ prog 63:=⟨Tryz.call63⟩
theorem HO:aZ prog 64:=⟨Tryz.call64⟩
theorem HP:aZ prog 65:=⟨Tryz.call65⟩
theorem HQ:aZ prog 66:=⟨Tryz.call66⟩
theorem HR:aZ prog 67:=⟨Tryz.call67⟩
theorem HS:aZ prog 68:=⟨Tryz.call68⟩
theorem HT:aZ prog 73:=⟨Tryz.call73⟩
theorem HU:aZ prog 74:=⟨Tryz.call74⟩
theorem HW:aZ prog 75:=⟨Tryz.call75⟩
theorem HX:aZ prog 76:=⟨Tryz.call76⟩
theorem HY:aZ prog 77:=⟨Tryz.call77⟩
theorem HZ:aZ prog 78:=⟨Tryz.call78⟩
theorem H3:aZ prog 79:=⟨Tryz.call79⟩
theorem H4:aZ prog 80:=⟨Tryz.call80⟩
theorem H5:aZ prog 81:=⟨Tryz.call81⟩
theorem H6:aZ prog 82:=⟨Tryz.call82⟩
theorem H7:aZ prog 83:=⟨Tryz.call83⟩
theorem H8:aZ prog 84:=⟨Tryz.call84⟩
theorem H9:aZ prog 85:=⟨Tryz.call85⟩
theorem Ia:aZ prog 86:=⟨Tryz.call86⟩
theorem Ib:aZ prog 87:=⟨Tryz.call87⟩
theorem Ic:aZ prog 88:=⟨Tryz.call88⟩
theorem Ie:aZ prog 89:=⟨Tryz.call89⟩
theorem Ig:aZ prog 90:=⟨Tryz.call90⟩
theorem Ih:aZ prog 91:=⟨Tryz.call91⟩
theorem Ii:aZ prog 92:=⟨Tryz.call92⟩
theorem Ij:aZ prog 93:=⟨Tryz.call93⟩
theorem Ik:aZ prog 94:=⟨Tryz.call94⟩
theorem Il:aZ prog 95:=⟨Tryz.call95⟩
theorem Im:aZ prog 96:=⟨Tryz.call96⟩
theorem EW:aZ prog 100:=⟨Tryz.call100⟩
theorem EX:aZ prog 101:=⟨Tryz.call101⟩
theorem EY:aZ prog 102:=⟨Tryz.call102⟩
theorem EZ:aZ prog 103:=⟨Tryz.call103⟩
theorem E0:aZ prog 104:=⟨Tryz.call104⟩
theorem E1:aZ prog 107:=⟨Tryz.call107⟩
theorem E2:aZ prog 108:=⟨Tryz.call108⟩
theorem E3:aZ prog 109:=⟨Tryz.call109⟩
theorem E6:aZ prog 110:=⟨Tryz.call110⟩
theorem E7:aZ prog 111:=⟨Tryz.call111⟩
theorem E8:aZ prog 112:=⟨Tryz.call112⟩
theorem E9:aZ prog 113:=⟨Tryz.call113⟩
theorem Fa:aZ prog 114:=⟨Tryz.call114⟩
theorem Fb:aZ prog 115:=⟨Tryz.call115⟩
theorem Fc:aZ prog 116:=⟨Tryz.call116⟩
theorem Fe:aZ prog 117:=⟨Tryz.call117⟩
theorem Ff:aZ prog 118:=⟨Tryz.call118⟩
theorem Fg:aZ prog 119:=⟨Tryz.call119⟩
theorem Fh:aZ prog 120:=⟨Tryz.call120⟩
theorem Fi:aZ prog 121:=⟨Tryz.call121⟩
theorem Fj:aZ prog 122:=⟨Tryz.call122⟩
theorem Fk:aZ prog 123:=⟨Tryz.call123⟩
theorem Fl:aZ prog 124:=⟨Tryz.call124⟩
theorem Fm:aZ prog 125:=⟨Tryz.call125⟩
theorem Fo:aZ prog 126:=⟨Tryz.call126⟩
theorem Fp:aZ prog 128:=⟨Tryz.call128⟩
theorem Fq:aZ prog 129:=⟨Tryz.call129⟩
theorem Ft:aZ prog 130:=⟨Tryz.call130⟩
theorem Fu:aZ prog 131:=⟨Tryz.call131⟩
theorem Fv:aZ prog 132:=⟨Tryz.call132⟩
theorem Fw:aZ prog 133:=⟨Tryz.call133⟩
theorem Fx:aZ prog 134:=⟨Tryz.call134⟩
theorem Fy:aZ prog 135:=⟨Tryz.call135⟩
theorem Fz:aZ prog 136:=⟨Tryz.call136⟩
theorem FA:aZ prog 137:=⟨Tryz.call137⟩
theorem FB:aZ prog 138:=⟨Tryz.call138⟩
theorem FC:aZ prog 139:=⟨Tryz.call139⟩
theorem FE:aZ prog 140:=⟨Tryz.call140⟩
theorem FF:aZ prog 141:=⟨Tryz.call141⟩
theorem FG:aZ prog 142:=⟨Tryz.call142⟩
theorem FH:aZ prog 143:=⟨Tryz.call143⟩
theorem FI:aZ prog 144:=⟨Tryz.call144⟩
theorem FJ:aZ prog 145:=⟨Tryz.call145⟩
theorem FK:aZ prog 146:=⟨Tryz.call146⟩
theorem FL:aZ prog 147:=⟨Tryz.call147⟩
theorem FM:aZ prog 148:=⟨Tryz.call148⟩
theorem FN:aZ prog 149:=⟨Tryz.call149⟩
theorem FO:aZ prog 150:=⟨Tryz.call150⟩
theorem FP:aZ prog 151:=⟨Tryz.call151⟩
theorem FQ:aZ prog 152:=⟨Tryz.call152⟩
theorem FR:aZ prog 153:=⟨Tryz.call153⟩
theorem FT:aZ prog 160:=⟨Tryz.call160⟩
theorem FU:aZ prog 161:=⟨Tryz.call161⟩
theorem FV:aZ prog 162:=⟨Tryz.call162⟩
theorem FW:aZ prog 163:=⟨Tryz.call163⟩
theorem FX:aZ prog 164:=⟨Tryz.call164⟩
theorem FY:aZ prog 165:=⟨Tryz.call165⟩
theorem FZ:aZ prog 166:=⟨Tryz.call166⟩
theorem F0:aZ prog 167:=⟨Tryz.call167⟩
theorem F1:aZ prog 168:=⟨Tryz.call168⟩
theorem F2:aZ prog 169:=⟨Tryz.call169⟩
theorem F3:aZ prog 170:=⟨Tryz.call170⟩
theorem F4:aZ prog 171:=⟨Tryz.call171⟩
theorem F5:aZ prog 172:=⟨Tryz.call172⟩
theorem F6:aZ prog 173:=⟨Tryz.call173⟩
theorem F7:aZ prog 174:=⟨Tryz.call174⟩
theorem F8:aZ prog 175:=⟨Tryz.call175⟩
theorem F9:aZ prog 176:=⟨Tryz.call176⟩
theorem Ga:aZ prog 177:=⟨Tryz.call177⟩
theorem Gb:aZ prog 178:=⟨Tryz.call178⟩
theorem Gc:aZ prog 179:=⟨Tryz.call179⟩
theorem Ge:aZ prog 180:=⟨Tryz.call180⟩
theorem Gf:aZ prog 181:=⟨Tryz.call181⟩
theorem Gg:aZ prog 182:=⟨Tryz.call182⟩
theorem Gh:aZ prog 183:=⟨Tryz.call183⟩
theorem Gi:aZ prog 184:=⟨Tryz.call184⟩
theorem Gj:aZ prog 185:=⟨Tryz.call185⟩
theorem Gk:aZ prog 186:=⟨Tryz.call186⟩
theorem Gl:aZ prog 187:=⟨Tryz.call187⟩
theorem Gm:aZ prog 188:=⟨Tryz.call188⟩
theorem Gn:aZ prog 189:=⟨Tryz.call189⟩
theorem Gq:aZ prog 190:=⟨Tryz.call190⟩
theorem Gr:aZ prog 191:=⟨Tryz.call191⟩
theorem Gs:aZ prog 192:=⟨Tryz.call192⟩
theorem Gt:aZ prog 193:=⟨Tryz.call193⟩
theorem Gv:aZ prog 207:=⟨Tryz.call207⟩
theorem Gw:aZ prog 208:=⟨Tryz.call208⟩
theorem Gx:aZ prog 209:=⟨Tryz.call209⟩
theorem Gy:aZ prog 210:=⟨Tryz.call210⟩
theorem Gz:aZ prog 211:=⟨Tryz.call211⟩
theorem GA:aZ prog 212:=⟨Tryz.call212⟩
theorem GB:aZ prog 213:=⟨Tryz.call213⟩
theorem GC:aZ prog 214:=⟨Tryz.call214⟩
theorem GD:aZ prog 215:=⟨Tryz.call215⟩
theorem GF:aZ prog 216:=⟨Tryz.call216⟩
theorem GG:aZ prog 217:=⟨Tryz.call217⟩
theorem GH:aZ prog 218:=⟨Tryz.call218⟩
theorem GJ:aZ prog 221:=⟨Tryz.call221⟩
theorem GK:aZ prog 222:=⟨Tryz.call222⟩
theorem GL:aZ prog 223:=⟨Tryz.call223⟩
theorem GM:aZ prog 224:=⟨Tryz.call224⟩
theorem GN:aZ prog 225:=⟨Tryz.call225⟩
theorem GO:aZ prog 226:=⟨Tryz.call226⟩
theorem GP:aZ prog 227:=⟨Tryz.call227⟩
theorem GQ:aZ prog 228:=⟨Tryz.call228⟩
theorem GR:aZ prog 229:=⟨Tryz.call229⟩
theorem GS:aZ prog 230:=⟨Tryz.call230⟩
theorem GU:aZ prog 231:=⟨Tryz.call231⟩
theorem GV:aZ prog 232:=⟨Tryz.call232⟩
theorem GW:aZ prog 233:=⟨Tryz.call233⟩
theorem GX:aZ prog 234:=⟨Tryz.call234⟩
theorem GY:aZ prog 235:=⟨Tryz.call235⟩
theorem GZ:aZ prog 236:=⟨Tryz.call236⟩
theorem G0:aZ prog 237:=⟨Tryz.call237⟩
theorem G1:aZ prog 238:=⟨Tryz.call238⟩
theorem G2:aZ prog 239:=⟨Tryz.call239⟩
theorem G3:aZ prog 240:=⟨Tryz.call240⟩
theorem G4:aZ prog 241:=⟨Tryz.call241⟩
theorem G5:aZ prog 242:=⟨Tryz.call242⟩
theorem G6:aZ prog 243:=⟨Tryz.call243⟩
theorem G7:aZ prog 250:=⟨Tryz.call250⟩
theorem G8:aZ prog 251:=⟨Tryz.call251⟩
theorem G9:aZ prog 252:=⟨Tryz.call252⟩
theorem Ha:aZ prog 253:=⟨Tryz.call253⟩
theorem Hb:aZ prog 254:=⟨Tryz.call254⟩
theorem Hc:aZ prog 255:=⟨Tryz.call255⟩
theorem Hd:aZ prog 256:=⟨Tryz.call256⟩
theorem He:aZ prog 257:=⟨Tryz.call257⟩
theorem Hf:aZ prog 258:=⟨Tryz.call258⟩
theorem Hg:aZ prog 259:=⟨Tryz.call259⟩
theorem Hi:aZ prog 260:=⟨Tryz.call260⟩
theorem Hj:aZ prog 261:=⟨Tryz.call261⟩
theorem Hk:aZ prog 262:=⟨Tryz.call262⟩
theorem Hl:aZ prog 263:=⟨Tryz.call263⟩
theorem Hm:aZ prog 269:=⟨Tryz.call269⟩
theorem Hp:aZ prog 270:=⟨Tryz.call270⟩
theorem Hq:aZ prog 272:=⟨Tryz.call272⟩
theorem Hr:aZ prog 297:=⟨Tryz.call297⟩
theorem Hs:aZ prog 298:=⟨Tryz.call298⟩
theorem Ht:aZ prog 299:=⟨Tryz.call299⟩
theorem Hu:aZ prog 300:=⟨Tryz.call300⟩
attribute [instance] ur yG Lc EO MI yS Ef Lg ER MN rV uo Lr ET MR LP DY K3 LQ D0 K5 D2 K7 MC Jr Js Kz LV D3 D5 La JA JB LY L5 D7 yH yR JK JL KH Ma Eg Lh Mb Eh Li Mc Ei Lj Ej Lk JM JN JO JP JQ JR KI Ek Ll ES MO JS JT JU JW Md El Me Em Lm Mg En Ln Eo Lo MP JX JY KJ Mh Ep Lp Er Lq MQ JZ J0 KK Mi Et Ls Mj Eu Lt Ev Lu EU MT J1 J2 J3 J4 J5 J6 J7 KL Ex Lv EV MU J8 J9 Ka Kb Kc Kd Ke KM Lx DB KN Io Ip Iq Kj yA yM Ey Mk Ir Is Iu Kk yB yN Ez Ml Iv Iw Ix Kl DC KO Mm Iy Iz Ly DD Lz DE IA IB IC ID IE IF Km DF KP IG IH II Kn LA DG KQ EB Mn LC DH KR IJ IK IL Ko IM IN Kp DJ KS EC Mo IP IQ Kq LD DK KT DL KU ED Mp IR IS Kr LF yC KV DM KW EE Mq IT IU IV Ks DN KX EF Mt IW IY IZ LG LH LI DP KY EG Mu LJ DQ LK DR I0 I1 I2 I3 I4 I5 I6 Kt LM DT KZ EH Mv I7 I8 I9 Ja Jb LN DU K0 Jc Jd Je Jf Jg Jh Ku LO DW K1 DX K2 EI Mw Ji Jj Jk Jl Kv DZ K4 EJ Mx Jm Jn Jo Kw D1 K6 My LR yD yO Mz Kx LS MA LU yE yP EK MB Jp Jq Ky K8 EL MD Jt Ju KA D4 K9 EM MF Jv Jw Jx KB yF yQ MG KC LW D6 Lb EN MH Jy Jz KD LX MJ JC LZ L6 D8 JD JE KE L7 D9 Ld EP MK JF JG KF Ec Le EQ ML JH JI JJ KG L8 L9 Ee Lf MM lX qy Ki uq Kf yI Kg yJ yK Kh yL FD Gd Gp Gu GI Hh Hn Hv Hw Hx Hy Hz HA HB HC HD HE HF HG HH HJ HK HL HM HN HO HP HQ HR HS HT HU HW HX HY HZ H3 H4 H5 H6 H7 H8 H9 Ia Ib Ic Ie Ig Ih Ii Ij Ik Il Im EW EX EY EZ E0 E1 E2 E3 E6 E7 E8 E9 Fa Fb Fc Fe Ff Fg Fh Fi Fj Fk Fl Fm Fo Fp Fq Ft Fu Fv Fw Fx Fy Fz FA FB FC FE FF FG FH FI FJ FK FL FM FN FO FP FQ FR FT FU FV FW FX FY FZ F0 F1 F2 F3 F4 F5 F6 F7 F8 F9 Ga Gb Gc Ge Gf Gg Gh Gi Gj Gk Gl Gm Gn Gq Gr Gs Gt Gv Gw Gx Gy Gz GA GB GC GD GF GG GH GJ GK GL GM GN GO GP GQ GR GS GU GV GW GX GY GZ G0 G1 G2 G3 G4 G5 G6 G7 G8 G9 Ha Hb Hc Hd He Hf Hg Hi Hj Hk Hl Hm Hp Hq Hr Hs Ht Hu
theorem mixed:Tryz.prog.follows .mixedOrders=true:=by kernel_rfl
structure qe(P:Program)(R:aB)(t:TypeId)(v:Value){α:Type}(lt:α→α→Bool)(I:List α→ay→Prop):Prop where
 lC:∀L T,I L T→L.length≤1000000000
 len:∀L T,I L T→hB P t v "Len" [] R T fun u T'=>u=.int .i64 L.length∧I L T'
 less:∀L T (i k:Nat) x y,I L T→L[i]? =some x→L[k]? =some y→hB P t v "Less" [.int .i64 i,.int .i64 k] R T fun u T'=>u=.bool (lt x y)∧I L T'
 swap:∀L T (i k:Nat),I L T→i<L.length→k<L.length→hB P t v "Swap" [.int .i64 i,.int .i64 k] R T fun _ T'=>I (cX L i k) T'
section
variable{R:aB}{t:TypeId}{v:Value}{α:Type}{lt:α->α->Bool}{I:List α->ay->Prop}
theorem RW(A:qe Tryz.prog R t v lt I)(V:SO lt)(L:List α)(T:ay)(h:I L T)(j:Nat)(W:j<L.length):
  Spec Tryz.prog 193 [.iface t v,.int .i64 j] R [T] λu H'=>∃T',H'=[T']/\u=.tuple #[]/\∃L',I L' T'/\L'.Perm L/\(∀k,j<k->L'[k]? =L[k]?)/\∀n,n<=L.length->j<n->Up lt L n j->fH lt L' n:=by
 have z:=A.lC L T h
 refine Spec.body Tryz.func193 rfl Tryz.results193 Tryz.ntmps193 rfl<|.block<|.loop (X:=Nat×List α×ay) (λy=>I y.2.1 y.2.2/\y.1<=j/\y.2.1.Perm L/\(∀k,j<k->y.2.1[k]? =L[k]?)/\∀n,n<=L.length->j<n->Up lt L n j->Up lt y.2.1 n y.1) (λy=>[(0,.iface t v),(1,iN y.1)]) (λy=>[y.2.2]) (λy=>y.1) (j,L,T) ⟨h,Nat.le_refl _,.refl _,λ_ _=>rfl,λ_ _ _ h=>h⟩ kE.c.c rH ?_
 rintro⟨i,f,H⟩ ⟨w,O,l,p,r⟩
 simp only at w O l p r⊢
 have Y:=l.length_eq
 obtain⟨x,B⟩:∃x,f[i]? =some x:=⟨_,aX (by omega)⟩
 obtain⟨y,C⟩:∃y,f[bV i]? =some y:=⟨_,aX (by unfold bV;omega)⟩
 refine .block<|.sr<|.mo rfl<|.q (.i64 ((i:Int)-1) .sub ⟨rfl,by omega,by omega⟩)<|.q (.i64 ((bV i:Nat):Int) .quo ⟨wW,by omega,by unfold bV;omega⟩)<|.ag rfl<|.zs<|.sr<|.mo rfl<|.mo rfl<|.q .bQ<|.mo rfl<|.split (t:=11) rfl (λd=>?_) (λd=>?_)
 refine .gF d<|.gF d<|.gF d<|.gF d<|.gF d<|.q (.aT d)<|.zn<|.iH<|.exit (bm (jI (bs (bo ?_))))
 refine gg _ .none rH ?_
 ·have F:bV i=i:=by simp at d;omega
  refine⟨_,rfl,rfl,f,w,l,p,λn o m g=>?_⟩
  have M:i=0:=by
   rcases Nat.eq_zero_or_pos i with e|e
   ·exact e
   ·have:=fP e;omega
  subst M
  exact(r n o m g).BF
 refine .gT d<|.mo rfl<|.gT d<|.mo rfl<|.gT d<|.mo rfl<|.gT d<|.lV (A.less f H i (bV i) x y w B C) (λu J g=>?_)
 obtain⟨rfl,D⟩:=g
 refine .gT d<|.q .not<|.q (.aS d)<|.zn<|.cond rfl (λs=>?_) λs=>?_
 refine .exit (bm (jI (bs (bo ?_))))
 refine gg _ .none rH ?_
 ·refine⟨_,rfl,rfl,f,D,l,p,λn o m g=>(r n o m g).stop λa b E z=>?_⟩
  rw[C]at E;rw[B]at z
  cases E;cases z
  simpa using s
 refine .kn<|.sr<|.mo rfl<|.mo rfl<|.mo rfl ?_
 refine .lV (A.swap f J (bV i) i D (by unfold bV;omega) (by omega)) (λu K N=>?_)
 refine .zn<|.region<|.mo rfl<|.ag rfl<|.nil<|aV ?_
 ·have S:lt x y=true:=by simpa using s
  have F:bV i≠i:=by simp at d;omega
  have G:0<i:=by
   rcases Nat.eq_zero_or_pos i with e|e
   ·subst e;exact absurd rfl F
   ·exact e
  have U:=fP G
  exact aW (bV i,cX f (bV i) i,K) ⟨N,by omega,tC.trans l,λk Q=>by
   rw[gh (by omega) (by omega),if_neg (by omega),if_neg (by omega)];exact p k Q,λn o m g=>(r n o m g).step V G (by omega) (by omega) B C S⟩ U kE.c.c rH
theorem Dp(K:qe Tryz.prog R t v lt I)(F:SO lt)(L:List α)(T:ay)(h:I L T)(f n:Nat)(a7:f<=n)(hn:n<=L.length):
  Spec Tryz.prog 190 [.iface t v,.int .i64 f,.int .i64 n] R [T] λu H'=>∃T',H'=[T']/\∃L' m,I L' T'/\u=.bool m/\L'.Perm L/\(∀k,n<=k->L'[k]? =L[k]?)/\(lQ lt L n f->(m=true->fH lt L' n)/\(m=false->Up lt L' n f)):=by
 have J:=K.lC L T h
 refine Spec.body Tryz.func190 rfl Tryz.results190 Tryz.ntmps190 rfl ?_
 refine .sr<|.ag rfl<|.z<|.mo rfl<|.ag rfl<|.zs<|.block ?_
 refine .loop (X:=Nat×List α×ay) (λy=>I y.2.1 y.2.2/\f<=y.1/\y.1<=n/\y.2.1.Perm L/\(∀k,n<=k->y.2.1[k]? =L[k]?)/\(lQ lt L n f->lQ lt y.2.1 n y.1/\(y.1≠f->gi lt y.2.1 (bV y.1) y.1))) (λy=>[(0,.iface t v),(1,iN f),(2,iN n),(7,iN y.1)]) (λy=>[y.2.2]) (λy=>n-y.1) (f,L,T) ⟨h,Nat.le_refl _,a7,.refl _,λ_ _=>rfl,λh=>⟨h,λe=>absurd rfl e⟩⟩ kE.c.c.c.c rH ?_
 rintro⟨i,g,T1⟩ ⟨Q,a8,a9,C,G,w⟩
 simp only at Q a8 a9 C G w⊢
 have hl:=C.length_eq
 refine .block<|.sr<|.mo rfl ?_
 refine .ia (2*i) .mul ?_
 refine .ia (2*i+1) .add ?_
 refine .ag rfl<|.zs<|.sr<|.mo rfl<|.mo rfl<|.q .geq<|.mo rfl ?_
 refine .split (t:=18) rfl (λs=>?_) (λs=>?_)
 refine .gF s<|.gF s<|.q (.aT s) ?_
 refine .zn<|.iH ?_
 have a6:n<=2*i+1:=by
  (simp at s;omega)
 refine .exit (bm (jI (bs (bo ?_))))
 refine av<|.sr<|.mo rfl<|.mo rfl<|.q .gtr<|.az rfl ?_
 refine .ret (bp _ (.one (.tmp rfl)) rH ?_)
 ·refine⟨_,rfl,g,decide (f<i),by assumption,by simp,C,G,λd=>?_⟩
  have A:Up lt g n i:=(w d).1.stop λc B D r a b H J=>by
   (simp only[bV]at r;omega)
  refine⟨λo=>?_,λo=>?_⟩
  ·have p:i≠f:=by simp at o;omega
   exact A.stop ((w d).2 p)
  ·have p:i=f:=by simp at o;omega
   rw[<-p];exact A
 refine .gT s<|.mo rfl<|.gT s<|.q .lss<|.q (.aS s) ?_
 refine .zn ?_
 refine .cond rfl (λh1=>?_) λh1=>?_
 have a6:n<=2*i+1:=by
  (simp at h1;omega)
 refine .exit (bm (jI (bs (bo ?_))))
 refine av<|.sr<|.mo rfl<|.mo rfl<|.q .gtr<|.az rfl ?_
 refine .ret (bp _ (.one (.tmp rfl)) rH ?_)
 ·refine⟨_,rfl,g,decide (f<i),by assumption,by simp,C,G,λd=>?_⟩
  have A:Up lt g n i:=(w d).1.stop λc B D r a b H J=>by
   (simp only[bV]at r;omega)
  refine⟨λo=>?_,λo=>?_⟩
  ·have p:i≠f:=by simp at o;omega
   exact A.stop ((w d).2 p)
  ·have p:i=f:=by simp at o;omega
   rw[<-p];exact A
 have a3:2*i+1<n:=by simp at s;omega
 obtain⟨y0,Y⟩:∃y,g[i]? =some y:=⟨_,aX (by omega)⟩
 obtain⟨Z,E⟩:∃y,g[2*i+1]? =some y:=⟨_,aX (by omega)⟩
 refine .kn<|.sr<|.mo rfl<|.ag rfl<|.zs ?_
 refine bz.cut (X:=Nat×ay×α) (λz=>I g z.2.1/\0<z.1/\z.1<n/\bV z.1=i/\g[z.1]? =some z.2.2/\∀c u,0<c->c<n->bV c=i->g[c]? =some u->lt u z.2.2=false) (λz=>[(0,.iface t v),(1,iN f),(2,iN n),(7,iN i),(9,iN z.1)]) (λz=>[z.2.1]) ?_ ?_
 refine .sr<|.mo rfl ?_
 refine .ia (2*i+2) .add ?_
 refine .ag rfl<|.z<|.mo rfl<|.mo rfl<|.q .lss<|.mo rfl ?_
 refine .split (t:=28) rfl (λl=>?_) (λl=>?_)
 have b1:2*i+2<n:=by simp at l;omega
 obtain⟨x2,M⟩:∃y,g[2*i+2]? =some y:=⟨_,aX (by omega)⟩
 refine .gT l<|.mo rfl<|.gT l<|.mo rfl<|.gT l<|.mo rfl<|.gT l ?_
 refine .lV (K.less g T1 (2*i+2) (2*i+1) x2 Z Q M E) (λu T2 d=>?_)
 obtain⟨rfl,a0⟩:=d
 refine .q (.aT l) ?_
 refine .zn ?_
 refine .cond rfl (λN=>?_) λN=>?_
 refine .region<|.mo rfl<|.ag rfl<|.nil ?_
 ·exact aF (2*i+2,T2,x2) ⟨a0,by simp only;omega,b1,by simp only[bV];omega,M,λc u B D r d=>by
   have:c=2*i+1\/c=2*i+2:=by simp only[bV]at r;omega
   rcases this with rfl|rfl
   ·rw[E]at d;cases d;exact F.lT (by simpa using N)
   ·rw[M]at d;cases d;exact F.ig _⟩ kE.c.c.c.c.c rH
 refine .skip ?_
 ·exact aF (2*i+1,T2,Z) ⟨a0,by simp only;omega,a3,by simp only[bV];omega,E,λc u B D r d=>by
   have:c=2*i+1\/c=2*i+2:=by simp only[bV]at r;omega
   rcases this with rfl|rfl
   ·rw[E]at d;cases d;exact F.ig _
   ·rw[M]at d;cases d;simpa using N⟩ kE.c.c.c.c.c rH
 refine .gF l<|.gF l<|.gF l<|.gF l<|.q (.aS l) ?_
 refine .zn<|.cP<|.skip ?_
 ·exact aF (2*i+1,T1,Z) ⟨Q,by simp only;omega,a3,by simp only[bV];omega,E,λc u B D r d=>by
   have:c=2*i+1:=by simp only[bV]at r;simp at l;omega
   subst this
   rw[E]at d;cases d;exact F.ig _⟩ kE.c.c.c.c.c rH
 intro y hy
 obtain⟨j,T3,x⟩:=y
 obtain⟨a1,S,a2,U,W,V⟩:=hy
 simp only at a1 S a2 U W V⊢
 have b2:i<j:=U▸fP S
 refine av<|.seq<|.sr<|.mo rfl<|.mo rfl<|.mo rfl ?_
 refine .lV (K.less g T3 j i x y0 a1 W Y) (λu T4 d=>?_)
 obtain⟨rfl,a4⟩:=d
 refine .q .not<|.zn ?_
 refine .cond rfl (λO=>?_) λO=>?_
 refine .exit (bm (jI (bs (bo ?_))))
 refine av<|.sr<|.mo rfl<|.mo rfl<|.q .gtr<|.az rfl ?_
 refine .ret (bp _ (.one (.tmp rfl)) rH ?_)
 ·refine⟨_,rfl,g,decide (f<i),by assumption,by simp,C,G,λd=>?_⟩
  have A:Up lt g n i:=(w d).1.stop λc B D r a b H J=>by
   (rw[Y]at H;cases H;exact F.kD _ _ _ (V c b B D r J) (by simpa using O))
  refine⟨λo=>?_,λo=>?_⟩
  ·have p:i≠f:=by simp at o;omega
   exact A.stop ((w d).2 p)
  ·have p:i=f:=by simp at o;omega
   rw[<-p];exact A
 refine .kn<|.sr<|.mo rfl<|.mo rfl<|.mo rfl ?_
 refine .lV (K.swap g T4 i j a4 (by omega) (by omega)) (λu T5 a5=>?_)
 refine .zn<|.region<|.mo rfl<|.ag rfl<|.nil<|aV ?_
 ·have b0:lt x y0=true:=by simpa using O
  exact aW (j,cX g i j,T5) ⟨a5,by simp only;omega,by simp only;omega,tC.trans C,λk hk=>by
   rw[gh (by omega) (by omega),if_neg (by omega),if_neg (by omega)];exact G k hk,λd=>by
    have:=(w d).1.step F S a2 (by omega) U W Y b0 V
    exact⟨this.1,λ_=>this.2⟩⟩ (by simp only;omega) kE.c.c.c.c rH
theorem O0(hi:qe Tryz.prog R t v lt I)(so:SO lt)(L:List α)(T:ay)(x:Value)(a:α)(hp:hB Tryz.prog t v "Push" [x] R T fun _ T'=>I (L++[a]) T')(hh:fH lt L L.length):
  Spec Tryz.prog 153 [.iface t v,x] R [T] fun u H'=>∃T',H'=[T']∧u=.tuple #[]∧∃L',I L' T'∧L'.Perm (L++[a])∧fH lt L' L'.length:=by
 refine Spec.body Tryz.func153 rfl Tryz.results153 Tryz.ntmps153 rfl<|.sr<|.mo rfl<|.mo rfl<|.lV hp (fun u T1 h1=>?_)
 have hb:=hi.lC _ T1 h1
 simp only[List.length_append,List.length_singleton]at hb
 refine .zn<|.region<|.mo rfl<|.mo rfl<|.lV (hi.len _ T1 h1) (fun u T2 hu=>?_)
 obtain⟨rfl,h2⟩:=hu
 refine .q (.i64 ((L.length:Nat):Int) .sub ⟨by simp,by omega,by omega⟩)<|.dg (RW hi so _ T2 h2 L.length (by simp)) (fun u T3 hu=>?_)
 obtain⟨rfl,L3,h3,hp3,hs3,hh3⟩:=hu
 have hl3:=hp3.length_eq
 refine .nil<|gg _ .none (bf.refl _) ?_
 ·exact⟨_,rfl,rfl,L3,h3,hp3,by rw[hl3];exact hh3 _ (Nat.le_refl _) (by simp) (by simp;exact hh.push a)⟩
theorem NJ{L a:List α}{n:Nat}{x:α}(c:L.length=n+1)(e:L[n]? =some x)(d:L.Perm a):L=L.take n++[x]/\(L.take n).length=n/\a.Perm (x::L.take n):=by
 have b:L=L.take n++[x]:=by
  apply List.ext_getElem?
  intro k
  rcases Nat.lt_trichotomy k n with h|h|h
  ·rw[List.getElem?_append_left (by simp;omega),List.getElem?_take_of_lt h]
  ·subst h
   rw[List.getElem?_append_right (by simp;omega),e]
   simp[c]
  ·rw[List.getElem?_eq_none (by omega),List.getElem?_eq_none (by simp;omega)]
 refine⟨b,by simp;omega,d.symm.trans ?_⟩
 have:(L.take n++[x]).Perm (x::L.take n):=by simp
 rw[<-b]at this
 exact this
theorem fH.Ro{L:List α}{n:Nat}(h:fH lt L n)(b:n<=L.length):fH lt (L.take n) (L.take n).length:=by
 have e:(L.take n).length=n:=by simp;omega
 rw[e]
 exact h.gQ λk a=>List.getElem?_take_of_lt a
theorem OZ(hi:qe Tryz.prog R t v lt I)(so:SO lt)(L:List α)(T:ay)(h:I L T)(x:α)(hx:L[0]? =some x)(hh:fH lt L L.length)(px:α→Value)(J:List α→ay→Prop)
  (hp:∀L' T',I (L'++[x]) T'→L'.length+1=L.length→hB Tryz.prog t v "Pop" [] R T' fun u T''=>u=px x∧J L' T''):
  Spec Tryz.prog 149 [.iface t v] R [T] fun u H'=>∃T',H'=[T']∧u=px x∧∃L',J L' T'∧L.Perm (x::L')∧fH lt L' L'.length:=by
 have hb:=hi.lC L T h
 have hpos:0<L.length:=(List.getElem?_eq_some_iff.1 hx).1
 obtain⟨n,hn⟩:∃n,L.length=n+1:=⟨L.length-1,by omega⟩
 refine Spec.body Tryz.func149 rfl Tryz.results149 Tryz.ntmps149 rfl<|.sr<|.ag rfl<|.z<|.mo rfl<|.lV (hi.len L T h) (fun u T1 hu=>?_)
 obtain⟨rfl,h1⟩:=hu
 refine .q (.i64 ((n:Nat):Int) .sub ⟨by omega,by omega,by omega⟩)<|.ag rfl<|.z<|.mo rfl<|.mo rfl ?_
 refine .lV (hi.swap L T1 0 n h1 (by omega) (by omega)) (fun u T2 h2=>?_)
 refine .z<|.mo rfl<|.mo rfl<|.dg (Dp hi so _ T2 h2 0 n (by omega) (by rw[mq];omega)) (fun u T3 hu=>?_)
 obtain⟨L3,m,h3,rfl,hp3,hs3,hh3⟩:=hu
 have hx3:L3[n]? =some x:=by rw[hs3 n (Nat.le_refl _),gh (by omega) (by omega),if_pos rfl,hx]
 have hl3:=hp3.length_eq
 rw[mq]at hl3
 obtain⟨e1,e2,e3⟩:=NJ (by omega) hx3 (hp3.trans tC)
 have hhole:lQ lt (cX L 0 n) n 0:=(hh.mono (by omega)).hole so (by omega) fun k hk hk0=>by rw[gh (by omega) (by omega),if_neg (by omega),if_neg hk0]
 have hH:fH lt L3 n:=by
  cases m with
  |true=>exact(hh3 hhole).1 rfl
  |false=>exact((hh3 hhole).2 rfl).BF
 refine .z<|.mo rfl ?_
 rw[e1]at h3
 refine .lV (hp _ T3 h3 (by omega)) (fun u T4 hu=>?_)
 obtain⟨rfl,h4⟩:=hu
 refine .ag rfl<|.zn<|.ret (bp _ (.one (.tmp rfl)) (bf.refl _) ?_)
 ·exact⟨_,rfl,rfl,_,h4,e3,hH.Ro (by omega)⟩
end
end Go.Proofs.YtdljmchhecoakaaGreat

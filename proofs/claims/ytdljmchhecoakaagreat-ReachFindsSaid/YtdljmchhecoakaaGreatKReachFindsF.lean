/- What the law 'ReachFinds' uses. No condition. -/
import Derived.Test.YtdljmchhecoakaaGreatChecked
import Derived.Test.YtdljmchhecoakaaGreatKReachFindsB
namespace Go.Proofs.YtdljmchhecoakaaGreat
open Tryz (prog)
set_option linter.unusedVariables false
theorem qu:ca prog 3 (.int .i64):=⟨Tryz.underlying3⟩
theorem sP:cJ prog 3 false:=⟨Tryz.isAgg3⟩
theorem Ie:Sz prog 3 1:=⟨Tryz.sizeOf3⟩
theorem Cd:By prog 3 8:=⟨λw=>⟨_,Tryz.typeInfo3 w,rfl⟩⟩
theorem Jz:Zr prog 3 (.int .i64 0):=⟨Tryz.zeroValue3⟩
theorem wQ:ca prog 4 (.bool):=⟨Tryz.underlying4⟩
theorem BK:cJ prog 4 false:=⟨Tryz.isAgg4⟩
theorem Ij:Sz prog 4 1:=⟨Tryz.sizeOf4⟩
theorem Ch:By prog 4 1:=⟨λw=>⟨_,Tryz.typeInfo4 w,rfl⟩⟩
theorem JD:Zr prog 4 (.bool false):=⟨Tryz.zeroValue4⟩
theorem qv:ca prog 9 (.string):=⟨Tryz.underlying9⟩
theorem sQ:cJ prog 9 false:=⟨Tryz.isAgg9⟩
theorem Iw:Sz prog 9 1:=⟨Tryz.sizeOf9⟩
theorem Cj:By prog 9 16:=⟨λw=>⟨_,Tryz.typeInfo9 w,rfl⟩⟩
theorem JH:Zr prog 9 (.string {data:=#[]}):=⟨Tryz.zeroValue9⟩
theorem IR:ca prog 22 (.slice 164):=⟨Tryz.underlying22⟩
theorem Bv:cJ prog 22 false:=⟨Tryz.isAgg22⟩
theorem H4:Sz prog 22 1:=⟨Tryz.sizeOf22⟩
theorem IS:ca prog 23 (.slice 169):=⟨Tryz.underlying23⟩
theorem Bx:cJ prog 23 false:=⟨Tryz.isAgg23⟩
theorem H6:Sz prog 23 1:=⟨Tryz.sizeOf23⟩
theorem BA:cJ prog 25 true:=⟨Tryz.isAgg25⟩
theorem H8:Sz prog 25 2:=⟨Tryz.sizeOf25⟩
theorem Ju:Zr prog 25 (.agg [sZ,sZ].toArray):=⟨Tryz.zeroValue25⟩
theorem Gj:aT prog 25 0 0:=aT.of Tryz.underlying25 rfl Tryz.sizeOf22 rfl rfl
theorem Gk:aT prog 25 1 1:=aT.of Tryz.underlying25 rfl Tryz.sizeOf23 rfl rfl
theorem Hw:ee prog 25 [(0,1),(1,1)] [sZ,sZ]:=⟨_,Tryz.underlying25,Tryz.zeroValue25,λw=>by simp[Tryz.sizeOf22,Tryz.sizeOf23]⟩
theorem IW:ca prog 26 (.slice 51):=⟨Tryz.underlying26⟩
theorem BB:cJ prog 26 false:=⟨Tryz.isAgg26⟩
theorem BD:cJ prog 28 true:=⟨Tryz.isAgg28⟩
theorem Ib:Sz prog 28 3:=⟨Tryz.sizeOf28⟩
theorem Gt:aT prog 28 0 0:=aT.of Tryz.underlying28 rfl Tryz.sizeOf25 rfl rfl
theorem Gu:aT prog 28 1 2:=aT.of Tryz.underlying28 rfl Tryz.sizeOf26 rfl rfl
theorem IZ:ca prog 30 (.pointer 155):=⟨Tryz.underlying30⟩
theorem I1:ca prog 31 (.pointer 147):=⟨Tryz.underlying31⟩
theorem BF:cJ prog 31 false:=⟨Tryz.isAgg31⟩
theorem wE:cJ prog 44 true:=⟨Tryz.isAgg44⟩
theorem wP:Sz prog 44 2:=⟨Tryz.sizeOf44⟩
theorem GF:aT prog 44 0 0:=aT.of Tryz.underlying44 rfl Tryz.sizeOf9 rfl rfl
theorem GG:aT prog 44 1 1:=aT.of Tryz.underlying44 rfl Tryz.sizeOf9 rfl rfl
theorem HF:ee prog 44 [(0,1),(1,1)] [.string {data:=#[]},.string {data:=#[]}]:=⟨_,Tryz.underlying44,Tryz.zeroValue44,λw=>by simp[Tryz.sizeOf9]⟩
theorem I6:ca prog 45 (.int .u64):=⟨Tryz.underlying45⟩
theorem BL:cJ prog 45 false:=⟨Tryz.isAgg45⟩
theorem Ik:Sz prog 45 1:=⟨Tryz.sizeOf45⟩
theorem I7:ca prog 46 (.slice 119):=⟨Tryz.underlying46⟩
theorem BM:cJ prog 46 false:=⟨Tryz.isAgg46⟩
theorem Il:Sz prog 46 1:=⟨Tryz.sizeOf46⟩
theorem I8:ca prog 47 (.slice 121):=⟨Tryz.underlying47⟩
theorem BN:cJ prog 47 false:=⟨Tryz.isAgg47⟩
theorem Im:Sz prog 47 1:=⟨Tryz.sizeOf47⟩
theorem BO:cJ prog 49 true:=⟨Tryz.isAgg49⟩
theorem Io:Sz prog 49 7:=⟨Tryz.sizeOf49⟩
theorem GH:aT prog 49 0 0:=aT.of Tryz.underlying49 rfl Tryz.sizeOf9 rfl rfl
theorem GI:aT prog 49 1 1:=aT.of Tryz.underlying49 rfl Tryz.sizeOf9 rfl rfl
theorem GJ:aT prog 49 2 2:=aT.of Tryz.underlying49 rfl Tryz.sizeOf9 rfl rfl
theorem GK:aT prog 49 3 3:=aT.of Tryz.underlying49 rfl Tryz.sizeOf9 rfl rfl
theorem GL:aT prog 49 4 4:=aT.of Tryz.underlying49 rfl Tryz.sizeOf44 rfl rfl
theorem GM:aT prog 49 5 6:=aT.of Tryz.underlying49 rfl Tryz.sizeOf9 rfl rfl
theorem HG:ee prog 49 [(0,1),(1,1),(2,1),(3,1),(4,2),(6,1)] [.string {data:=#[]},.string {data:=#[]},.string {data:=#[]},.string {data:=#[]},.string {data:=#[]},.string {data:=#[]},.string {data:=#[]}]:=⟨_,Tryz.underlying49,Tryz.zeroValue49,λw=>by simp[Tryz.sizeOf44,Tryz.sizeOf9]⟩
theorem BP:cJ prog 51 true:=⟨Tryz.isAgg51⟩
theorem Ip:Sz prog 51 12:=⟨Tryz.sizeOf51⟩
theorem Ci:By prog 51 200:=⟨λw=>⟨_,Tryz.typeInfo51 w,rfl⟩⟩
theorem JE:Zr prog 51 (.agg [.int .i64 0,sZ,sZ,sZ,.string {data:=#[]},.string {data:=#[]},.string {data:=#[]},.string {data:=#[]},.string {data:=#[]},.string {data:=#[]},.string {data:=#[]},.int .u64 0].toArray):=⟨Tryz.zeroValue51⟩
theorem GN:aT prog 51 0 0:=aT.of Tryz.underlying51 rfl Tryz.sizeOf3 rfl rfl
theorem GO:aT prog 51 1 1:=aT.of Tryz.underlying51 rfl Tryz.sizeOf46 rfl rfl
theorem GP:aT prog 51 2 2:=aT.of Tryz.underlying51 rfl Tryz.sizeOf46 rfl rfl
theorem GQ:aT prog 51 3 3:=aT.of Tryz.underlying51 rfl Tryz.sizeOf47 rfl rfl
theorem I9:ca prog 70 (.slice 4):=⟨Tryz.underlying70⟩
theorem Ja:ca prog 76 (.slice 182):=⟨Tryz.underlying76⟩
theorem BQ:cJ prog 76 false:=⟨Tryz.isAgg76⟩
theorem Iq:Sz prog 76 1:=⟨Tryz.sizeOf76⟩
theorem Jb:ca prog 79 (.slice 95):=⟨Tryz.underlying79⟩
theorem BR:cJ prog 79 false:=⟨Tryz.isAgg79⟩
theorem Ir:Sz prog 79 1:=⟨Tryz.sizeOf79⟩
theorem BS:cJ prog 81 true:=⟨Tryz.isAgg81⟩
theorem Is:Sz prog 81 2:=⟨Tryz.sizeOf81⟩
theorem JF:Zr prog 81 (.agg [sZ,.int .i64 0].toArray):=⟨Tryz.zeroValue81⟩
theorem GR:aT prog 81 0 0:=aT.of Tryz.underlying81 rfl Tryz.sizeOf79 rfl rfl
theorem GS:aT prog 81 1 1:=aT.of Tryz.underlying81 rfl Tryz.sizeOf3 rfl rfl
theorem HH:ee prog 81 [(0,1),(1,1)] [sZ,.int .i64 0]:=⟨_,Tryz.underlying81,Tryz.zeroValue81,λw=>by simp[Tryz.sizeOf3,Tryz.sizeOf79]⟩
theorem Jc:ca prog 84 (.slice 93):=⟨Tryz.underlying84⟩
theorem BT:cJ prog 84 false:=⟨Tryz.isAgg84⟩
theorem Iu:Sz prog 84 1:=⟨Tryz.sizeOf84⟩
theorem BU:cJ prog 86 true:=⟨Tryz.isAgg86⟩
theorem Iv:Sz prog 86 2:=⟨Tryz.sizeOf86⟩
theorem JG:Zr prog 86 (.agg [sZ,.int .i64 0].toArray):=⟨Tryz.zeroValue86⟩
theorem GU:aT prog 86 0 0:=aT.of Tryz.underlying86 rfl Tryz.sizeOf84 rfl rfl
theorem GV:aT prog 86 1 1:=aT.of Tryz.underlying86 rfl Tryz.sizeOf3 rfl rfl
theorem HJ:ee prog 86 [(0,1),(1,1)] [sZ,.int .i64 0]:=⟨_,Tryz.underlying86,Tryz.zeroValue86,λw=>by simp[Tryz.sizeOf3,Tryz.sizeOf84]⟩
theorem Jd:ca prog 90 (.slice 199):=⟨Tryz.underlying90⟩
theorem BV:cJ prog 90 false:=⟨Tryz.isAgg90⟩
theorem Ix:Sz prog 90 1:=⟨Tryz.sizeOf90⟩
theorem Je:ca prog 91 (.slice 9):=⟨Tryz.underlying91⟩
theorem BW:cJ prog 91 false:=⟨Tryz.isAgg91⟩
theorem Iy:Sz prog 91 1:=⟨Tryz.sizeOf91⟩
theorem BX:cJ prog 93 true:=⟨Tryz.isAgg93⟩
theorem Iz:Sz prog 93 8:=⟨Tryz.sizeOf93⟩
theorem Ck:By prog 93 136:=⟨λw=>⟨_,Tryz.typeInfo93 w,rfl⟩⟩
theorem JI:Zr prog 93 (.agg [.string {data:=#[]},.string {data:=#[]},.string {data:=#[]},.bool false,sZ,sZ,sZ,.int .i64 0].toArray):=⟨Tryz.zeroValue93⟩
theorem GW:aT prog 93 0 0:=aT.of Tryz.underlying93 rfl Tryz.sizeOf44 rfl rfl
theorem GX:aT prog 93 1 2:=aT.of Tryz.underlying93 rfl Tryz.sizeOf9 rfl rfl
theorem GY:aT prog 93 2 3:=aT.of Tryz.underlying93 rfl Tryz.sizeOf4 rfl rfl
theorem GZ:aT prog 93 3 4:=aT.of Tryz.underlying93 rfl Tryz.sizeOf90 rfl rfl
theorem G0:aT prog 93 4 5:=aT.of Tryz.underlying93 rfl Tryz.sizeOf91 rfl rfl
theorem G1:aT prog 93 5 6:=aT.of Tryz.underlying93 rfl Tryz.sizeOf76 rfl rfl
theorem G2:aT prog 93 6 7:=aT.of Tryz.underlying93 rfl Tryz.sizeOf3 rfl rfl
theorem HK:ee prog 93 [(0,2),(2,1),(3,1),(4,1),(5,1),(6,1),(7,1)] [.string {data:=#[]},.string {data:=#[]},.string {data:=#[]},.bool false,sZ,sZ,sZ,.int .i64 0]:=⟨_,Tryz.underlying93,Tryz.zeroValue93,λw=>by simp[Tryz.sizeOf3,Tryz.sizeOf4,Tryz.sizeOf44,Tryz.sizeOf76,Tryz.sizeOf9,Tryz.sizeOf90,Tryz.sizeOf91]⟩
theorem BY:cJ prog 95 true:=⟨Tryz.isAgg95⟩
theorem IA:Sz prog 95 8:=⟨Tryz.sizeOf95⟩
theorem Cl:By prog 95 136:=⟨λw=>⟨_,Tryz.typeInfo95 w,rfl⟩⟩
theorem JJ:Zr prog 95 (.agg [.string {data:=#[]},.string {data:=#[]},.string {data:=#[]},.bool false,sZ,sZ,sZ,.int .i64 0].toArray):=⟨Tryz.zeroValue95⟩
theorem G3:aT prog 95 0 0:=aT.of Tryz.underlying95 rfl Tryz.sizeOf44 rfl rfl
theorem G4:aT prog 95 1 2:=aT.of Tryz.underlying95 rfl Tryz.sizeOf9 rfl rfl
theorem G5:aT prog 95 2 3:=aT.of Tryz.underlying95 rfl Tryz.sizeOf4 rfl rfl
theorem G6:aT prog 95 3 4:=aT.of Tryz.underlying95 rfl Tryz.sizeOf90 rfl rfl
theorem G7:aT prog 95 4 5:=aT.of Tryz.underlying95 rfl Tryz.sizeOf91 rfl rfl
theorem G8:aT prog 95 5 6:=aT.of Tryz.underlying95 rfl Tryz.sizeOf76 rfl rfl
theorem G9:aT prog 95 6 7:=aT.of Tryz.underlying95 rfl Tryz.sizeOf3 rfl rfl
theorem HL:ee prog 95 [(0,2),(2,1),(3,1),(4,1),(5,1),(6,1),(7,1)] [.string {data:=#[]},.string {data:=#[]},.string {data:=#[]},.bool false,sZ,sZ,sZ,.int .i64 0]:=⟨_,Tryz.underlying95,Tryz.zeroValue95,λw=>by simp[Tryz.sizeOf3,Tryz.sizeOf4,Tryz.sizeOf44,Tryz.sizeOf76,Tryz.sizeOf9,Tryz.sizeOf90,Tryz.sizeOf91]⟩
theorem IC:ca prog 101 (.slice 226):=⟨Tryz.underlying101⟩
theorem Bf:cJ prog 101 false:=⟨Tryz.isAgg101⟩
theorem HN:Sz prog 101 1:=⟨Tryz.sizeOf101⟩
theorem Fo:aT prog 103 0 0:=aT.of Tryz.underlying103 rfl Tryz.sizeOf101 rfl rfl
theorem Fp:aT prog 103 1 1:=aT.of Tryz.underlying103 rfl Tryz.sizeOf45 rfl rfl
theorem Fq:aT prog 103 2 2:=aT.of Tryz.underlying103 rfl Tryz.sizeOf45 rfl rfl
theorem Hf:ee prog 103 [(0,1),(1,1),(2,1)] [sZ,.int .u64 0,.int .u64 0]:=⟨_,Tryz.underlying103,Tryz.zeroValue103,λw=>by simp[Tryz.sizeOf101,Tryz.sizeOf45]⟩
theorem wx:cJ prog 117 true:=⟨Tryz.isAgg117⟩
theorem wJ:Sz prog 117 4:=⟨Tryz.sizeOf117⟩
theorem BZ:By prog 117 64:=⟨λw=>⟨_,Tryz.typeInfo117 w,rfl⟩⟩
theorem Jf:Zr prog 117 (.agg [.string {data:=#[]},.string {data:=#[]},.string {data:=#[]},.string {data:=#[]}].toArray):=⟨Tryz.zeroValue117⟩
theorem Ft:aT prog 117 0 0:=aT.of Tryz.underlying117 rfl Tryz.sizeOf9 rfl rfl
theorem Fu:aT prog 117 1 1:=aT.of Tryz.underlying117 rfl Tryz.sizeOf44 rfl rfl
theorem Fv:aT prog 117 2 3:=aT.of Tryz.underlying117 rfl Tryz.sizeOf9 rfl rfl
theorem Hg:ee prog 117 [(0,1),(1,2),(3,1)] [.string {data:=#[]},.string {data:=#[]},.string {data:=#[]},.string {data:=#[]}]:=⟨_,Tryz.underlying117,Tryz.zeroValue117,λw=>by simp[Tryz.sizeOf44,Tryz.sizeOf9]⟩
theorem wy:cJ prog 119 true:=⟨Tryz.isAgg119⟩
theorem wK:Sz prog 119 7:=⟨Tryz.sizeOf119⟩
theorem B0:By prog 119 112:=⟨λw=>⟨_,Tryz.typeInfo119 w,rfl⟩⟩
theorem Jg:Zr prog 119 (.agg [.string {data:=#[]},.string {data:=#[]},.string {data:=#[]},.string {data:=#[]},.string {data:=#[]},.string {data:=#[]},.string {data:=#[]}].toArray):=⟨Tryz.zeroValue119⟩
theorem Fw:aT prog 119 0 0:=aT.of Tryz.underlying119 rfl Tryz.sizeOf44 rfl rfl
theorem Fx:aT prog 119 1 2:=aT.of Tryz.underlying119 rfl Tryz.sizeOf9 rfl rfl
theorem Fy:aT prog 119 2 3:=aT.of Tryz.underlying119 rfl Tryz.sizeOf117 rfl rfl
theorem Hh:ee prog 119 [(0,2),(2,1),(3,4)] [.string {data:=#[]},.string {data:=#[]},.string {data:=#[]},.string {data:=#[]},.string {data:=#[]},.string {data:=#[]},.string {data:=#[]}]:=⟨_,Tryz.underlying119,Tryz.zeroValue119,λw=>by simp[Tryz.sizeOf117,Tryz.sizeOf44,Tryz.sizeOf9]⟩
theorem Bg:cJ prog 121 true:=⟨Tryz.isAgg121⟩
theorem HO:Sz prog 121 8:=⟨Tryz.sizeOf121⟩
theorem Jh:Zr prog 121 (.agg [.bool false,.string {data:=#[]},.string {data:=#[]},.string {data:=#[]},.string {data:=#[]},.string {data:=#[]},.string {data:=#[]},.string {data:=#[]}].toArray):=⟨Tryz.zeroValue121⟩
theorem Fz:aT prog 121 0 0:=aT.of Tryz.underlying121 rfl Tryz.sizeOf4 rfl rfl
theorem FA:aT prog 121 1 1:=aT.of Tryz.underlying121 rfl Tryz.sizeOf119 rfl rfl
theorem ID:ca prog 144 (.map 236 238):=⟨Tryz.underlying144⟩
theorem Bh:cJ prog 144 false:=⟨Tryz.isAgg144⟩
theorem IE:ca prog 145 (.map 117 238):=⟨Tryz.underlying145⟩
theorem Bi:cJ prog 145 false:=⟨Tryz.isAgg145⟩
theorem FB:aT prog 147 0 0:=aT.of Tryz.underlying147 rfl Tryz.sizeOf4 rfl rfl
theorem FC:aT prog 147 1 1:=aT.of Tryz.underlying147 rfl Tryz.sizeOf45 rfl rfl
theorem FD:aT prog 147 2 2:=aT.of Tryz.underlying147 rfl Tryz.sizeOf45 rfl rfl
theorem FE:aT prog 147 3 3:=aT.of Tryz.underlying147 rfl Tryz.sizeOf3 rfl rfl
theorem FF:aT prog 147 4 4:=aT.of Tryz.underlying147 rfl Tryz.sizeOf144 rfl rfl
theorem FG:aT prog 147 5 5:=aT.of Tryz.underlying147 rfl Tryz.sizeOf145 rfl rfl
theorem Hi:ee prog 147 [(0,1),(1,1),(2,1),(3,1),(4,1),(5,1)] [.bool false,.int .u64 0,.int .u64 0,.int .i64 0,.map none,.map none]:=⟨_,Tryz.underlying147,Tryz.zeroValue147,λw=>by simp[Tryz.sizeOf144,Tryz.sizeOf145,Tryz.sizeOf3,Tryz.sizeOf4,Tryz.sizeOf45]⟩
theorem Bj:cJ prog 150 true:=⟨Tryz.isAgg150⟩
theorem HP:Sz prog 150 9:=⟨Tryz.sizeOf150⟩
theorem FH:aT prog 150 0 0:=aT.of Tryz.underlying150 rfl Tryz.sizeOf119 rfl rfl
theorem FI:aT prog 150 1 7:=aT.of Tryz.underlying150 rfl Tryz.sizeOf45 rfl rfl
theorem FJ:aT prog 150 2 8:=aT.of Tryz.underlying150 rfl Tryz.sizeOf45 rfl rfl
theorem Hj:ee prog 150 [(0,7),(7,1),(8,1)] [.string {data:=#[]},.string {data:=#[]},.string {data:=#[]},.string {data:=#[]},.string {data:=#[]},.string {data:=#[]},.string {data:=#[]},.int .u64 0,.int .u64 0]:=⟨_,Tryz.underlying150,Tryz.zeroValue150,λw=>by simp[Tryz.sizeOf119,Tryz.sizeOf45]⟩
theorem IF:ca prog 151 (.pointer 150):=⟨Tryz.underlying151⟩
theorem Bk:cJ prog 151 false:=⟨Tryz.isAgg151⟩
theorem HQ:Sz prog 151 1:=⟨Tryz.sizeOf151⟩
theorem B1:By prog 151 8:=⟨λw=>⟨_,Tryz.typeInfo151 w,rfl⟩⟩
theorem Ji:Zr prog 151 (.pointer none):=⟨Tryz.zeroValue151⟩
theorem IG:ca prog 153 (.slice 159):=⟨Tryz.underlying153⟩
theorem Bl:cJ prog 153 false:=⟨Tryz.isAgg153⟩
theorem HR:Sz prog 153 1:=⟨Tryz.sizeOf153⟩
theorem FK:aT prog 155 0 0:=aT.of Tryz.underlying155 rfl Tryz.sizeOf4 rfl rfl
theorem FL:aT prog 155 1 1:=aT.of Tryz.underlying155 rfl Tryz.sizeOf153 rfl rfl
theorem FM:aT prog 155 2 2:=aT.of Tryz.underlying155 rfl Tryz.sizeOf3 rfl rfl
theorem Hk:ee prog 155 [(0,1),(1,1),(2,1)] [.bool false,sZ,.int .i64 0]:=⟨_,Tryz.underlying155,Tryz.zeroValue155,λw=>by simp[Tryz.sizeOf153,Tryz.sizeOf3,Tryz.sizeOf4]⟩
theorem FN:aT prog 157 0 0:=aT.of Tryz.underlying157 rfl Tryz.sizeOf45 rfl rfl
theorem FO:aT prog 157 1 1:=aT.of Tryz.underlying157 rfl Tryz.sizeOf25 rfl rfl
theorem Hl:ee prog 157 [(0,1),(1,2)] [.int .u64 0,sZ,sZ]:=⟨_,Tryz.underlying157,Tryz.zeroValue157,λw=>by simp[Tryz.sizeOf25,Tryz.sizeOf45]⟩
theorem Bm:cJ prog 159 true:=⟨Tryz.isAgg159⟩
theorem HS:Sz prog 159 4:=⟨Tryz.sizeOf159⟩
theorem B2:By prog 159 80:=⟨λw=>⟨_,Tryz.typeInfo159 w,rfl⟩⟩
theorem Jj:Zr prog 159 (.agg [.int .u64 0,sZ,sZ,sZ].toArray):=⟨Tryz.zeroValue159⟩
theorem FP:aT prog 159 0 0:=aT.of Tryz.underlying159 rfl Tryz.sizeOf157 rfl rfl
theorem FQ:aT prog 159 1 3:=aT.of Tryz.underlying159 rfl Tryz.sizeOf76 rfl rfl
theorem Hm:ee prog 159 [(0,3),(3,1)] [.int .u64 0,sZ,sZ,sZ]:=⟨_,Tryz.underlying159,Tryz.zeroValue159,λw=>by simp[Tryz.sizeOf157,Tryz.sizeOf76]⟩
theorem IH:ca prog 162 (.slice 167):=⟨Tryz.underlying162⟩
theorem Bn:cJ prog 162 false:=⟨Tryz.isAgg162⟩
theorem HT:Sz prog 162 1:=⟨Tryz.sizeOf162⟩
theorem Bo:cJ prog 164 true:=⟨Tryz.isAgg164⟩
theorem HU:Sz prog 164 2:=⟨Tryz.sizeOf164⟩
theorem B3:By prog 164 40:=⟨λw=>⟨_,Tryz.typeInfo164 w,rfl⟩⟩
theorem Jk:Zr prog 164 (.agg [.string {data:=#[]},sZ].toArray):=⟨Tryz.zeroValue164⟩
theorem FR:aT prog 164 0 0:=aT.of Tryz.underlying164 rfl Tryz.sizeOf9 rfl rfl
theorem FT:aT prog 164 1 1:=aT.of Tryz.underlying164 rfl Tryz.sizeOf162 rfl rfl
theorem Hn:ee prog 164 [(0,1),(1,1)] [.string {data:=#[]},sZ]:=⟨_,Tryz.underlying164,Tryz.zeroValue164,λw=>by simp[Tryz.sizeOf162,Tryz.sizeOf9]⟩
theorem II:ca prog 165 (.slice 249):=⟨Tryz.underlying165⟩
theorem wz:cJ prog 165 false:=⟨Tryz.isAgg165⟩
theorem HW:Sz prog 165 1:=⟨Tryz.sizeOf165⟩
theorem Bp:cJ prog 167 true:=⟨Tryz.isAgg167⟩
theorem HX:Sz prog 167 3:=⟨Tryz.sizeOf167⟩
theorem B4:By prog 167 64:=⟨λw=>⟨_,Tryz.typeInfo167 w,rfl⟩⟩
theorem Jl:Zr prog 167 (.agg [.string {data:=#[]},sZ,sZ].toArray):=⟨Tryz.zeroValue167⟩
theorem FU:aT prog 167 0 0:=aT.of Tryz.underlying167 rfl Tryz.sizeOf9 rfl rfl
theorem FV:aT prog 167 1 1:=aT.of Tryz.underlying167 rfl Tryz.sizeOf165 rfl rfl
theorem FW:aT prog 167 2 2:=aT.of Tryz.underlying167 rfl Tryz.sizeOf90 rfl rfl
theorem Hp:ee prog 167 [(0,1),(1,1),(2,1)] [.string {data:=#[]},sZ,sZ]:=⟨_,Tryz.underlying167,Tryz.zeroValue167,λw=>by simp[Tryz.sizeOf165,Tryz.sizeOf9,Tryz.sizeOf90]⟩
theorem Bq:cJ prog 169 true:=⟨Tryz.isAgg169⟩
theorem HY:Sz prog 169 4:=⟨Tryz.sizeOf169⟩
theorem B5:By prog 169 64:=⟨λw=>⟨_,Tryz.typeInfo169 w,rfl⟩⟩
theorem Jm:Zr prog 169 (.agg [.string {data:=#[]},.string {data:=#[]},.string {data:=#[]},.string {data:=#[]}].toArray):=⟨Tryz.zeroValue169⟩
theorem FX:aT prog 169 0 0:=aT.of Tryz.underlying169 rfl Tryz.sizeOf9 rfl rfl
theorem FY:aT prog 169 1 1:=aT.of Tryz.underlying169 rfl Tryz.sizeOf44 rfl rfl
theorem FZ:aT prog 169 2 3:=aT.of Tryz.underlying169 rfl Tryz.sizeOf9 rfl rfl
theorem IJ:ca prog 177 (.slice 266):=⟨Tryz.underlying177⟩
theorem IK:ca prog 180 (.slice 263):=⟨Tryz.underlying180⟩
theorem IL:ca prog 182 (.slice 3):=⟨Tryz.underlying182⟩
theorem Br:cJ prog 182 false:=⟨Tryz.isAgg182⟩
theorem HZ:Sz prog 182 1:=⟨Tryz.sizeOf182⟩
theorem B6:By prog 182 24:=⟨λw=>⟨_,Tryz.typeInfo182 w,rfl⟩⟩
theorem Jn:Zr prog 182 (sZ):=⟨Tryz.zeroValue182⟩
theorem IM:ca prog 185 (.map 249 3):=⟨Tryz.underlying185⟩
theorem Bs:cJ prog 185 false:=⟨Tryz.isAgg185⟩
theorem IN:ca prog 188 (.map 269 3):=⟨Tryz.underlying188⟩
theorem Bt:cJ prog 188 false:=⟨Tryz.isAgg188⟩
theorem F0:aT prog 190 0 0:=aT.of Tryz.underlying190 rfl Tryz.sizeOf25 rfl rfl
theorem F1:aT prog 190 1 2:=aT.of Tryz.underlying190 rfl Tryz.sizeOf185 rfl rfl
theorem F2:aT prog 190 2 3:=aT.of Tryz.underlying190 rfl Tryz.sizeOf31 rfl rfl
theorem F3:aT prog 190 3 4:=aT.of Tryz.underlying190 rfl Tryz.sizeOf45 rfl rfl
theorem F4:aT prog 190 4 5:=aT.of Tryz.underlying190 rfl Tryz.sizeOf188 rfl rfl
theorem F5:aT prog 190 5 6:=aT.of Tryz.underlying190 rfl Tryz.sizeOf81 rfl rfl
theorem F6:aT prog 190 6 8:=aT.of Tryz.underlying190 rfl Tryz.sizeOf3 rfl rfl
theorem Hq:ee prog 190 [(0,2),(2,1),(3,1),(4,1),(5,1),(6,2),(8,1)] [sZ,sZ,.map none,.pointer none,.int .u64 0,.map none,sZ,.int .i64 0,.int .i64 0]:=⟨_,Tryz.underlying190,Tryz.zeroValue190,λw=>by simp[Tryz.sizeOf185,Tryz.sizeOf188,Tryz.sizeOf25,Tryz.sizeOf3,Tryz.sizeOf31,Tryz.sizeOf45,Tryz.sizeOf81]⟩
theorem IP:ca prog 195 (.slice 117):=⟨Tryz.underlying195⟩
theorem wA:cJ prog 199 true:=⟨Tryz.isAgg199⟩
theorem wL:Sz prog 199 5:=⟨Tryz.sizeOf199⟩
theorem B7:By prog 199 56:=⟨λw=>⟨_,Tryz.typeInfo199 w,rfl⟩⟩
theorem Jo:Zr prog 199 (.agg [.int .i64 0,.string {data:=#[]},.string {data:=#[]},.int .i64 0,.int .i64 0].toArray):=⟨Tryz.zeroValue199⟩
theorem F7:aT prog 199 0 0:=aT.of Tryz.underlying199 rfl Tryz.sizeOf3 rfl rfl
theorem F8:aT prog 199 1 1:=aT.of Tryz.underlying199 rfl Tryz.sizeOf9 rfl rfl
theorem F9:aT prog 199 2 2:=aT.of Tryz.underlying199 rfl Tryz.sizeOf9 rfl rfl
theorem Ga:aT prog 199 3 3:=aT.of Tryz.underlying199 rfl Tryz.sizeOf3 rfl rfl
theorem Gb:aT prog 199 4 4:=aT.of Tryz.underlying199 rfl Tryz.sizeOf3 rfl rfl
theorem Hr:ee prog 199 [(0,1),(1,1),(2,1),(3,1),(4,1)] [.int .i64 0,.string {data:=#[]},.string {data:=#[]},.int .i64 0,.int .i64 0]:=⟨_,Tryz.underlying199,Tryz.zeroValue199,λw=>by simp[Tryz.sizeOf3,Tryz.sizeOf9]⟩
theorem IQ:ca prog 209 (.slice 291):=⟨Tryz.underlying209⟩
theorem Bu:cJ prog 209 false:=⟨Tryz.isAgg209⟩
theorem H3:Sz prog 209 1:=⟨Tryz.sizeOf209⟩
theorem Gc:aT prog 215 0 0:=aT.of Tryz.underlying215 rfl Tryz.sizeOf209 rfl rfl
theorem Gd:aT prog 215 1 1:=aT.of Tryz.underlying215 rfl Tryz.sizeOf4 rfl rfl
theorem Hs:ee prog 215 [(0,1),(1,1)] [sZ,.bool false]:=⟨_,Tryz.underlying215,Tryz.zeroValue215,λw=>by simp[Tryz.sizeOf209,Tryz.sizeOf4]⟩
theorem Bw:cJ prog 226 true:=⟨Tryz.isAgg226⟩
theorem H5:Sz prog 226 9:=⟨Tryz.sizeOf226⟩
theorem B8:By prog 226 128:=⟨λw=>⟨_,Tryz.typeInfo226 w,rfl⟩⟩
theorem Jp:Zr prog 226 (.agg [.string {data:=#[]},.string {data:=#[]},.string {data:=#[]},.string {data:=#[]},.string {data:=#[]},.string {data:=#[]},.string {data:=#[]},.int .u64 0,.int .u64 0].toArray):=⟨Tryz.zeroValue226⟩
theorem Ge:aT prog 226 0 0:=aT.of Tryz.underlying226 rfl Tryz.sizeOf119 rfl rfl
theorem Gf:aT prog 226 1 7:=aT.of Tryz.underlying226 rfl Tryz.sizeOf45 rfl rfl
theorem Gg:aT prog 226 2 8:=aT.of Tryz.underlying226 rfl Tryz.sizeOf45 rfl rfl
theorem Ht:ee prog 226 [(0,7),(7,1),(8,1)] [.string {data:=#[]},.string {data:=#[]},.string {data:=#[]},.string {data:=#[]},.string {data:=#[]},.string {data:=#[]},.string {data:=#[]},.int .u64 0,.int .u64 0]:=⟨_,Tryz.underlying226,Tryz.zeroValue226,λw=>by simp[Tryz.sizeOf119,Tryz.sizeOf45]⟩
theorem Bz:cJ prog 231 false:=⟨Tryz.isAgg231⟩
theorem H7:Sz prog 231 1:=⟨Tryz.sizeOf231⟩
theorem Jq:Zr prog 231 (.nilFunc):=⟨Tryz.zeroValue231⟩
theorem IT:ca prog 232 (.map 119 4):=⟨Tryz.underlying232⟩
theorem wB:cJ prog 236 true:=⟨Tryz.isAgg236⟩
theorem wM:Sz prog 236 3:=⟨Tryz.sizeOf236⟩
theorem Jr:Zr prog 236 (.agg [.string {data:=#[]},.string {data:=#[]},.string {data:=#[]}].toArray):=⟨Tryz.zeroValue236⟩
theorem Hu:ee prog 236 [(0,2),(2,1)] [.string {data:=#[]},.string {data:=#[]},.string {data:=#[]}]:=⟨_,Tryz.underlying236,Tryz.zeroValue236,λw=>by simp[Tryz.sizeOf44,Tryz.sizeOf9]⟩
theorem IU:ca prog 238 (.slice 151):=⟨Tryz.underlying238⟩
theorem Js:Zr prog 238 (sZ):=⟨Tryz.zeroValue238⟩
theorem IV:ca prog 242 (.slice 325):=⟨Tryz.underlying242⟩
theorem wC:cJ prog 249 true:=⟨Tryz.isAgg249⟩
theorem wN:Sz prog 249 2:=⟨Tryz.sizeOf249⟩
theorem B9:By prog 249 32:=⟨λw=>⟨_,Tryz.typeInfo249 w,rfl⟩⟩
theorem Jt:Zr prog 249 (.agg [.string {data:=#[]},.string {data:=#[]}].toArray):=⟨Tryz.zeroValue249⟩
theorem Gh:aT prog 249 0 0:=aT.of Tryz.underlying249 rfl Tryz.sizeOf9 rfl rfl
theorem Gi:aT prog 249 1 1:=aT.of Tryz.underlying249 rfl Tryz.sizeOf9 rfl rfl
theorem Hv:ee prog 249 [(0,1),(1,1)] [.string {data:=#[]},.string {data:=#[]}]:=⟨_,Tryz.underlying249,Tryz.zeroValue249,λw=>by simp[Tryz.sizeOf9]⟩
theorem H9:Sz prog 263 4:=⟨Tryz.sizeOf263⟩
theorem Ca:By prog 263 80:=⟨λw=>⟨_,Tryz.typeInfo263 w,rfl⟩⟩
theorem Jv:Zr prog 263 (.agg [.string {data:=#[]},.string {data:=#[]},sZ,sZ].toArray):=⟨Tryz.zeroValue263⟩
theorem Gl:aT prog 263 0 0:=aT.of Tryz.underlying263 rfl Tryz.sizeOf9 rfl rfl
theorem Gm:aT prog 263 1 1:=aT.of Tryz.underlying263 rfl Tryz.sizeOf167 rfl rfl
theorem Hx:ee prog 263 [(0,1),(1,3)] [.string {data:=#[]},.string {data:=#[]},sZ,sZ]:=⟨_,Tryz.underlying263,Tryz.zeroValue263,λw=>by simp[Tryz.sizeOf167,Tryz.sizeOf9]⟩
theorem BC:cJ prog 266 true:=⟨Tryz.isAgg266⟩
theorem Ia:Sz prog 266 3:=⟨Tryz.sizeOf266⟩
theorem Cb:By prog 266 24:=⟨λw=>⟨_,Tryz.typeInfo266 w,rfl⟩⟩
theorem Jw:Zr prog 266 (.agg [.int .i64 0,.int .i64 0,.bool false].toArray):=⟨Tryz.zeroValue266⟩
theorem Gn:aT prog 266 0 0:=aT.of Tryz.underlying266 rfl Tryz.sizeOf3 rfl rfl
theorem Gp:aT prog 266 1 1:=aT.of Tryz.underlying266 rfl Tryz.sizeOf3 rfl rfl
theorem Gq:aT prog 266 2 2:=aT.of Tryz.underlying266 rfl Tryz.sizeOf4 rfl rfl
theorem Hy:ee prog 266 [(0,1),(1,1),(2,1)] [.int .i64 0,.int .i64 0,.bool false]:=⟨_,Tryz.underlying266,Tryz.zeroValue266,λw=>by simp[Tryz.sizeOf3,Tryz.sizeOf4]⟩
theorem wD:cJ prog 269 true:=⟨Tryz.isAgg269⟩
theorem wO:Sz prog 269 3:=⟨Tryz.sizeOf269⟩
theorem Jx:Zr prog 269 (.agg [.string {data:=#[]},.string {data:=#[]},.string {data:=#[]}].toArray):=⟨Tryz.zeroValue269⟩
theorem Hz:ee prog 269 [(0,2),(2,1)] [.string {data:=#[]},.string {data:=#[]},.string {data:=#[]}]:=⟨_,Tryz.underlying269,Tryz.zeroValue269,λw=>by simp[Tryz.sizeOf44,Tryz.sizeOf9]⟩
theorem IY:ca prog 275 (.map 3 4):=⟨Tryz.underlying275⟩
theorem Gr:aT prog 289 0 0:=aT.of Tryz.underlying289 rfl Tryz.sizeOf9 rfl rfl
theorem Gs:aT prog 289 1 1:=aT.of Tryz.underlying289 rfl Tryz.sizeOf3 rfl rfl
theorem HA:ee prog 289 [(0,1),(1,1)] [.string {data:=#[]},.int .i64 0]:=⟨_,Tryz.underlying289,Tryz.zeroValue289,λw=>by simp[Tryz.sizeOf3,Tryz.sizeOf9]⟩
theorem BE:cJ prog 291 true:=⟨Tryz.isAgg291⟩
theorem Ic:Sz prog 291 3:=⟨Tryz.sizeOf291⟩
theorem Cc:By prog 291 32:=⟨λw=>⟨_,Tryz.typeInfo291 w,rfl⟩⟩
theorem Jy:Zr prog 291 (.agg [.int .i64 0,.string {data:=#[]},.int .i64 0].toArray):=⟨Tryz.zeroValue291⟩
theorem Gv:aT prog 291 0 0:=aT.of Tryz.underlying291 rfl Tryz.sizeOf3 rfl rfl
theorem Gw:aT prog 291 1 1:=aT.of Tryz.underlying291 rfl Tryz.sizeOf9 rfl rfl
theorem HB:ee prog 291 [(0,1),(1,1),(2,1)] [.int .i64 0,.string {data:=#[]},.int .i64 0]:=⟨_,Tryz.underlying291,Tryz.zeroValue291,λw=>by simp[Tryz.sizeOf3,Tryz.sizeOf9]⟩
theorem I0:ca prog 306 (.int .u64):=⟨Tryz.underlying306⟩
theorem I2:ca prog 316 (.map 249 321):=⟨Tryz.underlying316⟩
theorem BG:cJ prog 316 false:=⟨Tryz.isAgg316⟩
theorem Gx:aT prog 318 0 0:=aT.of Tryz.underlying318 rfl Tryz.sizeOf25 rfl rfl
theorem Gy:aT prog 318 1 2:=aT.of Tryz.underlying318 rfl Tryz.sizeOf316 rfl rfl
theorem HC:ee prog 318 [(0,2),(2,1)] [sZ,sZ,.map none]:=⟨_,Tryz.underlying318,Tryz.zeroValue318,λw=>by simp[Tryz.sizeOf25,Tryz.sizeOf316]⟩
theorem I3:ca prog 319 (.map 9 4):=⟨Tryz.underlying319⟩
theorem BH:cJ prog 321 true:=⟨Tryz.isAgg321⟩
theorem Ig:Sz prog 321 2:=⟨Tryz.sizeOf321⟩
theorem Ce:By prog 321 16:=⟨λw=>⟨_,Tryz.typeInfo321 w,rfl⟩⟩
theorem JA:Zr prog 321 (.agg [.int .i64 0,.int .i64 0].toArray):=⟨Tryz.zeroValue321⟩
theorem Gz:aT prog 321 0 0:=aT.of Tryz.underlying321 rfl Tryz.sizeOf3 rfl rfl
theorem GA:aT prog 321 1 1:=aT.of Tryz.underlying321 rfl Tryz.sizeOf3 rfl rfl
theorem HD:ee prog 321 [(0,1),(1,1)] [.int .i64 0,.int .i64 0]:=⟨_,Tryz.underlying321,Tryz.zeroValue321,λw=>by simp[Tryz.sizeOf3]⟩
theorem BI:cJ prog 325 true:=⟨Tryz.isAgg325⟩
theorem Ih:Sz prog 325 5:=⟨Tryz.sizeOf325⟩
theorem Cg:By prog 325 40:=⟨λw=>⟨_,Tryz.typeInfo325 w,rfl⟩⟩
theorem JB:Zr prog 325 (.agg [.int .i64 0,.int .i64 0,.int .i64 0,.int .i64 0,.bool false].toArray):=⟨Tryz.zeroValue325⟩
theorem GB:aT prog 325 0 0:=aT.of Tryz.underlying325 rfl Tryz.sizeOf321 rfl rfl
theorem GC:aT prog 325 1 2:=aT.of Tryz.underlying325 rfl Tryz.sizeOf321 rfl rfl
theorem GD:aT prog 325 2 4:=aT.of Tryz.underlying325 rfl Tryz.sizeOf4 rfl rfl
theorem HE:ee prog 325 [(0,2),(2,2),(4,1)] [.int .i64 0,.int .i64 0,.int .i64 0,.int .i64 0,.bool false]:=⟨_,Tryz.underlying325,Tryz.zeroValue325,λw=>by simp[Tryz.sizeOf321,Tryz.sizeOf4]⟩
theorem I4:ca prog 375 (.slice 321):=⟨Tryz.underlying375⟩
theorem I5:ca prog 385 (.int .u64):=⟨Tryz.underlying385⟩
theorem BJ:cJ prog 385 false:=⟨Tryz.isAgg385⟩
theorem Ii:Sz prog 385 1:=⟨Tryz.sizeOf385⟩
theorem JC:Zr prog 385 (.int .u64 0):=⟨Tryz.zeroValue385⟩
theorem qt:eg prog 3 1 [.i .i64] false:=eg.int qu sP
theorem jH:eg prog 9 1 [.s] false:=eg.str qv sQ
theorem oL:eg prog 44 2 [.s,.s] true:=eg.struct (n:=1) Tryz.underlying44 Tryz.stoodInHeld44 wE wP (dX.more jH (dX.more jH dX.nil))
theorem He:my prog 44:=⟨Tryz.eqGuardType44⟩
theorem sR:eg prog 117 3 [.s,.s,.s,.s] true:=eg.struct (n:=2) Tryz.underlying117 Tryz.stoodInHeld117 wx wJ (dX.more jH (dX.more oL (dX.more jH dX.nil)))
theorem Ha:my prog 117:=⟨Tryz.eqGuardType117⟩
theorem wF:eg prog 119 4 [.s,.s,.s,.s,.s,.s,.s] true:=eg.struct (n:=3) Tryz.underlying119 Tryz.stoodInHeld119 wy wK (dX.more oL (dX.more jH (dX.more sR dX.nil)))
theorem Hb:my prog 119:=⟨Tryz.eqGuardType119⟩
theorem HM:eg prog 199 2 [.i .i64,.s,.s,.i .i64,.i .i64] true:=eg.struct (n:=1) Tryz.underlying199 Tryz.stoodInHeld199 wA wL (dX.more qt (dX.more jH (dX.more jH (dX.more qt (dX.more qt dX.nil)))))
theorem Hc:my prog 199:=⟨Tryz.eqGuardType199⟩
theorem wG:eg prog 236 3 [.s,.s,.s] true:=eg.struct (n:=2) Tryz.underlying236 Tryz.stoodInHeld236 wB wM (dX.more oL (dX.more jH dX.nil))
theorem wH:eg prog 249 2 [.s,.s] true:=eg.struct (n:=1) Tryz.underlying249 Tryz.stoodInHeld249 wC wN (dX.more jH (dX.more jH dX.nil))
theorem Hd:my prog 249:=⟨Tryz.eqGuardType249⟩
theorem wI:eg prog 269 3 [.s,.s,.s] true:=eg.struct (n:=2) Tryz.underlying269 Tryz.stoodInHeld269 wD wO (dX.more oL (dX.more jH dX.nil))
theorem CU:aW prog 14:=⟨Tryz.call14⟩
theorem Dq:aW prog 18:=⟨Tryz.call18⟩
theorem DB:aW prog 19:=⟨Tryz.call19⟩
theorem DG:aW prog 20:=⟨Tryz.call20⟩
theorem DP:aW prog 22:=⟨Tryz.call22⟩
theorem EB:aW prog 27:=⟨Tryz.call27⟩
theorem EF:aW prog 32:=⟨Tryz.call32⟩
theorem EG:aW prog 33:=⟨Tryz.call33⟩
theorem EH:aW prog 34:=⟨Tryz.call34⟩
theorem EI:aW prog 35:=⟨Tryz.call35⟩
theorem EJ:aW prog 36:=⟨Tryz.call36⟩
theorem EK:aW prog 37:=⟨Tryz.call37⟩
theorem EL:aW prog 39:=⟨Tryz.call39⟩
theorem EM:aW prog 40:=⟨Tryz.call40⟩
theorem EN:aW prog 47:=⟨Tryz.call47⟩
theorem EO:aW prog 48:=⟨Tryz.call48⟩
theorem EP:aW prog 49:=⟨Tryz.call49⟩
theorem EQ:aW prog 58:=⟨Tryz.call58⟩
theorem ER:aW prog 61:=⟨Tryz.call61⟩
theorem ES:aW prog 62:=⟨Tryz.call62⟩
theorem ET:aW prog 63:=⟨Tryz.call63⟩
theorem EU:aW prog 64:=⟨Tryz.call64⟩
theorem EV:aW prog 65:=⟨Tryz.call65⟩
theorem EW:aW prog 66:=⟨Tryz.call66⟩
theorem EX:aW prog 67:=⟨Tryz.call67⟩
theorem EY:aW prog 68:=⟨Tryz.call68⟩
theorem EZ:aW prog 73:=⟨Tryz.call73⟩
theorem E0:aW prog 74:=⟨Tryz.call74⟩
theorem E1:aW prog 75:=⟨Tryz.call75⟩
theorem E2:aW prog 76:=⟨Tryz.call76⟩
theorem E3:aW prog 77:=⟨Tryz.call77⟩
theorem E6:aW prog 78:=⟨Tryz.call78⟩
theorem E7:aW prog 79:=⟨Tryz.call79⟩
theorem E8:aW prog 80:=⟨Tryz.call80⟩
theorem E9:aW prog 81:=⟨Tryz.call81⟩
theorem Fa:aW prog 82:=⟨Tryz.call82⟩
theorem Fb:aW prog 83:=⟨Tryz.call83⟩
theorem Fc:aW prog 84:=⟨Tryz.call84⟩
theorem Fe:aW prog 85:=⟨Tryz.call85⟩
theorem Ff:aW prog 86:=⟨Tryz.call86⟩
theorem Fg:aW prog 87:=⟨Tryz.call87⟩
theorem Fh:aW prog 88:=⟨Tryz.call88⟩
theorem Fi:aW prog 89:=⟨Tryz.call89⟩
theorem Fj:aW prog 90:=⟨Tryz.call90⟩
theorem Fk:aW prog 97:=⟨Tryz.call97⟩
theorem Fl:aW prog 98:=⟨Tryz.call98⟩
theorem Fm:aW prog 99:=⟨Tryz.call99⟩
theorem Cm:aW prog 100:=⟨Tryz.call100⟩
theorem Cn:aW prog 107:=⟨Tryz.call107⟩
theorem Co:aW prog 108:=⟨Tryz.call108⟩
theorem Cp:aW prog 109:=⟨Tryz.call109⟩
theorem Cq:aW prog 110:=⟨Tryz.call110⟩
theorem Cr:aW prog 111:=⟨Tryz.call111⟩
theorem Cs:aW prog 112:=⟨Tryz.call112⟩
theorem Ct:aW prog 113:=⟨Tryz.call113⟩
theorem Cu:aW prog 114:=⟨Tryz.call114⟩
theorem Cv:aW prog 115:=⟨Tryz.call115⟩
theorem Cw:aW prog 116:=⟨Tryz.call116⟩
theorem Cx:aW prog 117:=⟨Tryz.call117⟩
theorem Cy:aW prog 118:=⟨Tryz.call118⟩
theorem Cz:aW prog 119:=⟨Tryz.call119⟩
theorem CA:aW prog 120:=⟨Tryz.call120⟩
theorem CB:aW prog 121:=⟨Tryz.call121⟩
theorem CC:aW prog 122:=⟨Tryz.call122⟩
theorem CD:aW prog 123:=⟨Tryz.call123⟩
theorem CE:aW prog 124:=⟨Tryz.call124⟩
theorem CF:aW prog 125:=⟨Tryz.call125⟩
theorem CG:aW prog 126:=⟨Tryz.call126⟩
theorem CH:aW prog 128:=⟨Tryz.call128⟩
theorem CI:aW prog 129:=⟨Tryz.call129⟩
theorem CJ:aW prog 130:=⟨Tryz.call130⟩
theorem CL:aW prog 131:=⟨Tryz.call131⟩
theorem CM:aW prog 132:=⟨Tryz.call132⟩
theorem CN:aW prog 133:=⟨Tryz.call133⟩
theorem CO:aW prog 134:=⟨Tryz.call134⟩
theorem CP:aW prog 135:=⟨Tryz.call135⟩
theorem CQ:aW prog 136:=⟨Tryz.call136⟩
theorem CR:aW prog 137:=⟨Tryz.call137⟩
theorem CS:aW prog 138:=⟨Tryz.call138⟩
theorem CT:aW prog 139:=⟨Tryz.call139⟩
theorem CV:aW prog 140:=⟨Tryz.call140⟩
theorem CW:aW prog 141:=⟨Tryz.call141⟩
theorem CX:aW prog 142:=⟨Tryz.call142⟩
theorem CY:aW prog 143:=⟨Tryz.call143⟩
theorem CZ:aW prog 144:=⟨Tryz.call144⟩
theorem C0:aW prog 145:=⟨Tryz.call145⟩
theorem C1:aW prog 146:=⟨Tryz.call146⟩
theorem C2:aW prog 147:=⟨Tryz.call147⟩
theorem C3:aW prog 148:=⟨Tryz.call148⟩
theorem C4:aW prog 154:=⟨Tryz.call154⟩
theorem C5:aW prog 155:=⟨Tryz.call155⟩
theorem C6:aW prog 156:=⟨Tryz.call156⟩
theorem C7:aW prog 157:=⟨Tryz.call157⟩
theorem C8:aW prog 159:=⟨Tryz.call159⟩
theorem C9:aW prog 160:=⟨Tryz.call160⟩
theorem Da:aW prog 161:=⟨Tryz.call161⟩
theorem Db:aW prog 167:=⟨Tryz.call167⟩
theorem Dc:aW prog 168:=⟨Tryz.call168⟩
theorem De:aW prog 169:=⟨Tryz.call169⟩
theorem Df:aW prog 170:=⟨Tryz.call170⟩
theorem Dg:aW prog 171:=⟨Tryz.call171⟩
theorem Dh:aW prog 172:=⟨Tryz.call172⟩
theorem Di:aW prog 173:=⟨Tryz.call173⟩
theorem Dj:aW prog 174:=⟨Tryz.call174⟩
theorem Dk:aW prog 175:=⟨Tryz.call175⟩
theorem Dl:aW prog 176:=⟨Tryz.call176⟩
theorem Dm:aW prog 177:=⟨Tryz.call177⟩
theorem Dn:aW prog 178:=⟨Tryz.call178⟩
theorem Dp:aW prog 179:=⟨Tryz.call179⟩
theorem Dr:aW prog 180:=⟨Tryz.call180⟩
theorem Ds:aW prog 181:=⟨Tryz.call181⟩
theorem Dt:aW prog 182:=⟨Tryz.call182⟩
theorem Du:aW prog 183:=⟨Tryz.call183⟩
theorem Dv:aW prog 184:=⟨Tryz.call184⟩
theorem Dw:aW prog 185:=⟨Tryz.call185⟩
theorem Dx:aW prog 186:=⟨Tryz.call186⟩
theorem Dy:aW prog 187:=⟨Tryz.call187⟩
theorem Dz:aW prog 188:=⟨Tryz.call188⟩
theorem DA:aW prog 189:=⟨Tryz.call189⟩
theorem DC:aW prog 194:=⟨Tryz.call194⟩
theorem DD:aW prog 195:=⟨Tryz.call195⟩
theorem DE:aW prog 196:=⟨Tryz.call196⟩
theorem DF:aW prog 198:=⟨Tryz.call198⟩
theorem DH:aW prog 200:=⟨Tryz.call200⟩
theorem DJ:aW prog 201:=⟨Tryz.call201⟩
theorem DK:aW prog 202:=⟨Tryz.call202⟩
theorem DL:aW prog 203:=⟨Tryz.call203⟩
theorem DM:aW prog 204:=⟨Tryz.call204⟩
theorem DN:aW prog 207:=⟨Tryz.call207⟩
theorem DQ:aW prog 221:=⟨Tryz.call221⟩
theorem DR:aW prog 222:=⟨Tryz.call222⟩
theorem DT:aW prog 223:=⟨Tryz.call223⟩
theorem DU:aW prog 224:=⟨Tryz.call224⟩
theorem DW:aW prog 225:=⟨Tryz.call225⟩
theorem DX:aW prog 226:=⟨Tryz.call226⟩
theorem DY:aW prog 227:=⟨Tryz.call227⟩
theorem DZ:aW prog 228:=⟨Tryz.call228⟩
theorem D0:aW prog 229:=⟨Tryz.call229⟩
theorem D1:aW prog 230:=⟨Tryz.call230⟩
theorem D2:aW prog 231:=⟨Tryz.call231⟩
theorem D3:aW prog 232:=⟨Tryz.call232⟩
theorem D4:aW prog 233:=⟨Tryz.call233⟩
theorem D5:aW prog 234:=⟨Tryz.call234⟩
theorem D6:aW prog 235:=⟨Tryz.call235⟩
theorem D7:aW prog 236:=⟨Tryz.call236⟩
theorem D8:aW prog 237:=⟨Tryz.call237⟩
theorem D9:aW prog 238:=⟨Tryz.call238⟩
theorem Ec:aW prog 239:=⟨Tryz.call239⟩
theorem Ee:aW prog 240:=⟨Tryz.call240⟩
theorem Ef:aW prog 241:=⟨Tryz.call241⟩
theorem Eg:aW prog 242:=⟨Tryz.call242⟩
theorem Eh:aW prog 243:=⟨Tryz.call243⟩
theorem Ei:aW prog 246:=⟨Tryz.call246⟩
theorem Ej:aW prog 247:=⟨Tryz.call247⟩
theorem Ek:aW prog 248:=⟨Tryz.call248⟩
theorem El:aW prog 251:=⟨Tryz.call251⟩
theorem Em:aW prog 252:=⟨Tryz.call252⟩
theorem En:aW prog 256:=⟨Tryz.call256⟩
theorem Eo:aW prog 257:=⟨Tryz.call257⟩
theorem Ep:aW prog 258:=⟨Tryz.call258⟩
theorem Er:aW prog 259:=⟨Tryz.call259⟩
theorem Et:aW prog 260:=⟨Tryz.call260⟩
theorem Eu:aW prog 261:=⟨Tryz.call261⟩
theorem Ev:aW prog 262:=⟨Tryz.call262⟩
theorem Ex:aW prog 263:=⟨Tryz.call263⟩
theorem Ey:aW prog 265:=⟨Tryz.call265⟩
theorem Ez:aW prog 266:=⟨Tryz.call266⟩
theorem EC:aW prog 270:=⟨Tryz.call270⟩
theorem ED:aW prog 272:=⟨Tryz.call272⟩
theorem EE:aW prog 273:=⟨Tryz.call273⟩
attribute [instance] qu sP Ie Cd Jz wQ BK Ij Ch JD qv sQ Iw Cj JH IR Bv H4 IS Bx H6 BA H8 Ju Gj Gk Hw IW BB BD Ib Gt Gu IZ I1 BF wE wP GF GG HF I6 BL Ik I7 BM Il I8 BN Im BO Io GH GI GJ GK GL GM HG BP Ip Ci JE GN GO GP GQ I9 Ja BQ Iq Jb BR Ir BS Is JF GR GS HH Jc BT Iu BU Iv JG GU GV HJ Jd BV Ix Je BW Iy BX Iz Ck JI GW GX GY GZ G0 G1 G2 HK BY IA Cl JJ G3 G4 G5 G6 G7 G8 G9 HL IC Bf HN Fo Fp Fq Hf wx wJ BZ Jf Ft Fu Fv Hg wy wK B0 Jg Fw Fx Fy Hh Bg HO Jh Fz FA ID Bh IE Bi FB FC FD FE FF FG Hi Bj HP FH FI FJ Hj IF Bk HQ B1 Ji IG Bl HR FK FL FM Hk FN FO Hl Bm HS B2 Jj FP FQ Hm IH Bn HT Bo HU B3 Jk FR FT Hn II wz HW Bp HX B4 Jl FU FV FW Hp Bq HY B5 Jm FX FY FZ IJ IK IL Br HZ B6 Jn IM Bs IN Bt F0 F1 F2 F3 F4 F5 F6 Hq IP wA wL B7 Jo F7 F8 F9 Ga Gb Hr IQ Bu H3 Gc Gd Hs Bw H5 B8 Jp Ge Gf Gg Ht Bz H7 Jq IT wB wM Jr Hu IU Js IV wC wN B9 Jt Gh Gi Hv H9 Ca Jv Gl Gm Hx BC Ia Cb Jw Gn Gp Gq Hy wD wO Jx Hz IY Gr Gs HA BE Ic Cc Jy Gv Gw HB I0 I2 BG Gx Gy HC I3 BH Ig Ce JA Gz GA HD BI Ih Cg JB GB GC GD HE I4 I5 BJ Ii JC qt jH oL He sR Ha wF Hb HM Hc wG wH Hd wI CU Dq DB DG DP EB EF EG EH EI EJ EK EL EM EN EO EP EQ ER ES ET EU EV EW EX EY EZ E0 E1 E2 E3 E6 E7 E8 E9 Fa Fb Fc Fe Ff Fg Fh Fi Fj Fk Fl Fm Cm Cn Co Cp Cq Cr Cs Ct Cu Cv Cw Cx Cy Cz CA CB CC CD CE CF CG CH CI CJ CL CM CN CO CP CQ CR CS CT CV CW CX CY CZ C0 C1 C2 C3 C4 C5 C6 C7 C8 C9 Da Db Dc De Df Dg Dh Di Dj Dk Dl Dm Dn Dp Dr Ds Dt Du Dv Dw Dx Dy Dz DA DC DD DE DF DH DJ DK DL DM DN DQ DR DT DU DW DX DY DZ D0 D1 D2 D3 D4 D5 D6 D7 D8 D9 Ec Ee Ef Eg Eh Ei Ej Ek El Em En Eo Ep Er Et Eu Ev Ex Ey Ez EC ED EE
theorem mixed:Tryz.prog.follows .mixedOrders=true:=by kernel_rfl
end Go.Proofs.YtdljmchhecoakaaGreat

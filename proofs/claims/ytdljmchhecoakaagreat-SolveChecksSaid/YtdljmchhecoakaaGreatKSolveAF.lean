/- What the law 'SolveA' uses. No condition. -/
import Derived.Test.YtdljmchhecoakaaGreatChecked
import Derived.Test.YtdljmchhecoakaaGreatKSolveAB
namespace Go.Proofs.YtdljmchhecoakaaGreat
open Tryz (prog)
set_option linter.unusedVariables false
theorem vF:cq prog 3 (.int .i64):=⟨Tryz.underlying3⟩
theorem yZ:cR prog 3 false:=⟨Tryz.isAgg3⟩
theorem LR:Sz prog 3 1:=⟨Tryz.sizeOf3⟩
theorem Fp:By prog 3 8:=⟨λw=>⟨_,Tryz.typeInfo3 w,rfl⟩⟩
theorem Nv:Zr prog 3 (.int .i64 0):=⟨Tryz.zeroValue3⟩
theorem zl:cq prog 4 (.bool):=⟨Tryz.underlying4⟩
theorem ER:cR prog 4 false:=⟨Tryz.isAgg4⟩
theorem LW:Sz prog 4 1:=⟨Tryz.sizeOf4⟩
theorem Fu:By prog 4 1:=⟨λw=>⟨_,Tryz.typeInfo4 w,rfl⟩⟩
theorem Nz:Zr prog 4 (.bool false):=⟨Tryz.zeroValue4⟩
theorem sY:cq prog 9 (.string):=⟨Tryz.underlying9⟩
theorem vD:cR prog 9 false:=⟨Tryz.isAgg9⟩
theorem Mc:Sz prog 9 1:=⟨Tryz.sizeOf9⟩
theorem Fw:By prog 9 16:=⟨λw=>⟨_,Tryz.typeInfo9 w,rfl⟩⟩
theorem NF:Zr prog 9 (.string {data:=#[]}):=⟨Tryz.zeroValue9⟩
theorem MA:cq prog 22 (.slice 164):=⟨Tryz.underlying22⟩
theorem EC:cR prog 22 false:=⟨Tryz.isAgg22⟩
theorem LG:Sz prog 22 1:=⟨Tryz.sizeOf22⟩
theorem MB:cq prog 23 (.slice 169):=⟨Tryz.underlying23⟩
theorem EE:cR prog 23 false:=⟨Tryz.isAgg23⟩
theorem LI:Sz prog 23 1:=⟨Tryz.sizeOf23⟩
theorem EG:cR prog 25 true:=⟨Tryz.isAgg25⟩
theorem LK:Sz prog 25 2:=⟨Tryz.sizeOf25⟩
theorem Np:Zr prog 25 (.agg [sZ,sZ].toArray):=⟨Tryz.zeroValue25⟩
theorem JV:aX prog 25 0 0:=aX.of Tryz.underlying25 rfl Tryz.sizeOf22 rfl rfl
theorem JW:aX prog 25 1 1:=aX.of Tryz.underlying25 rfl Tryz.sizeOf23 rfl rfl
theorem K9:ey prog 25 [(0,1),(1,1)] [sZ,sZ]:=⟨_,Tryz.underlying25,Tryz.zeroValue25,λw=>by simp[Tryz.sizeOf22,Tryz.sizeOf23]⟩
theorem MG:cq prog 26 (.slice 51):=⟨Tryz.underlying26⟩
theorem EH:cR prog 26 false:=⟨Tryz.isAgg26⟩
theorem EJ:cR prog 28 true:=⟨Tryz.isAgg28⟩
theorem LO:Sz prog 28 3:=⟨Tryz.sizeOf28⟩
theorem J6:aX prog 28 0 0:=aX.of Tryz.underlying28 rfl Tryz.sizeOf25 rfl rfl
theorem J7:aX prog 28 1 2:=aX.of Tryz.underlying28 rfl Tryz.sizeOf26 rfl rfl
theorem MJ:cq prog 30 (.pointer 155):=⟨Tryz.underlying30⟩
theorem ML:cq prog 31 (.pointer 147):=⟨Tryz.underlying31⟩
theorem EM:cR prog 31 false:=⟨Tryz.isAgg31⟩
theorem y6:cR prog 44 true:=⟨Tryz.isAgg44⟩
theorem zk:Sz prog 44 2:=⟨Tryz.sizeOf44⟩
theorem NB:Zr prog 44 (.agg [.string {data:=#[]},.string {data:=#[]}].toArray):=⟨Tryz.zeroValue44⟩
theorem Kh:aX prog 44 0 0:=aX.of Tryz.underlying44 rfl Tryz.sizeOf9 rfl rfl
theorem Ki:aX prog 44 1 1:=aX.of Tryz.underlying44 rfl Tryz.sizeOf9 rfl rfl
theorem Lj:ey prog 44 [(0,1),(1,1)] [.string {data:=#[]},.string {data:=#[]}]:=⟨_,Tryz.underlying44,Tryz.zeroValue44,λw=>by simp[Tryz.sizeOf9]⟩
theorem MQ:cq prog 45 (.int .u64):=⟨Tryz.underlying45⟩
theorem ES:cR prog 45 false:=⟨Tryz.isAgg45⟩
theorem LX:Sz prog 45 1:=⟨Tryz.sizeOf45⟩
theorem MR:cq prog 46 (.slice 119):=⟨Tryz.underlying46⟩
theorem ET:cR prog 46 false:=⟨Tryz.isAgg46⟩
theorem LY:Sz prog 46 1:=⟨Tryz.sizeOf46⟩
theorem MT:cq prog 47 (.slice 121):=⟨Tryz.underlying47⟩
theorem EU:cR prog 47 false:=⟨Tryz.isAgg47⟩
theorem LZ:Sz prog 47 1:=⟨Tryz.sizeOf47⟩
theorem EV:cR prog 49 true:=⟨Tryz.isAgg49⟩
theorem L5:Sz prog 49 7:=⟨Tryz.sizeOf49⟩
theorem Kj:aX prog 49 0 0:=aX.of Tryz.underlying49 rfl Tryz.sizeOf9 rfl rfl
theorem Kk:aX prog 49 1 1:=aX.of Tryz.underlying49 rfl Tryz.sizeOf9 rfl rfl
theorem Kl:aX prog 49 2 2:=aX.of Tryz.underlying49 rfl Tryz.sizeOf9 rfl rfl
theorem Km:aX prog 49 3 3:=aX.of Tryz.underlying49 rfl Tryz.sizeOf9 rfl rfl
theorem Kn:aX prog 49 4 4:=aX.of Tryz.underlying49 rfl Tryz.sizeOf44 rfl rfl
theorem Ko:aX prog 49 5 6:=aX.of Tryz.underlying49 rfl Tryz.sizeOf9 rfl rfl
theorem Lk:ey prog 49 [(0,1),(1,1),(2,1),(3,1),(4,2),(6,1)] [.string {data:=#[]},.string {data:=#[]},.string {data:=#[]},.string {data:=#[]},.string {data:=#[]},.string {data:=#[]},.string {data:=#[]}]:=⟨_,Tryz.underlying49,Tryz.zeroValue49,λw=>by simp[Tryz.sizeOf44,Tryz.sizeOf9]⟩
theorem EW:cR prog 51 true:=⟨Tryz.isAgg51⟩
theorem L6:Sz prog 51 12:=⟨Tryz.sizeOf51⟩
theorem Fv:By prog 51 200:=⟨λw=>⟨_,Tryz.typeInfo51 w,rfl⟩⟩
theorem NC:Zr prog 51 (.agg [.int .i64 0,sZ,sZ,sZ,.string {data:=#[]},.string {data:=#[]},.string {data:=#[]},.string {data:=#[]},.string {data:=#[]},.string {data:=#[]},.string {data:=#[]},.int .u64 0].toArray):=⟨Tryz.zeroValue51⟩
theorem Kp:aX prog 51 0 0:=aX.of Tryz.underlying51 rfl Tryz.sizeOf3 rfl rfl
theorem Kq:aX prog 51 1 1:=aX.of Tryz.underlying51 rfl Tryz.sizeOf46 rfl rfl
theorem Kr:aX prog 51 2 2:=aX.of Tryz.underlying51 rfl Tryz.sizeOf46 rfl rfl
theorem Ks:aX prog 51 3 3:=aX.of Tryz.underlying51 rfl Tryz.sizeOf47 rfl rfl
theorem MU:cq prog 70 (.slice 4):=⟨Tryz.underlying70⟩
theorem EX:cR prog 70 false:=⟨Tryz.isAgg70⟩
theorem MV:cq prog 76 (.slice 182):=⟨Tryz.underlying76⟩
theorem EY:cR prog 76 false:=⟨Tryz.isAgg76⟩
theorem L7:Sz prog 76 1:=⟨Tryz.sizeOf76⟩
theorem MW:cq prog 79 (.slice 95):=⟨Tryz.underlying79⟩
theorem EZ:cR prog 79 false:=⟨Tryz.isAgg79⟩
theorem L8:Sz prog 79 1:=⟨Tryz.sizeOf79⟩
theorem E0:cR prog 81 true:=⟨Tryz.isAgg81⟩
theorem L9:Sz prog 81 2:=⟨Tryz.sizeOf81⟩
theorem ND:Zr prog 81 (.agg [sZ,.int .i64 0].toArray):=⟨Tryz.zeroValue81⟩
theorem Kt:aX prog 81 0 0:=aX.of Tryz.underlying81 rfl Tryz.sizeOf79 rfl rfl
theorem Ku:aX prog 81 1 1:=aX.of Tryz.underlying81 rfl Tryz.sizeOf3 rfl rfl
theorem Ll:ey prog 81 [(0,1),(1,1)] [sZ,.int .i64 0]:=⟨_,Tryz.underlying81,Tryz.zeroValue81,λw=>by simp[Tryz.sizeOf3,Tryz.sizeOf79]⟩
theorem MX:cq prog 84 (.slice 93):=⟨Tryz.underlying84⟩
theorem y7:cR prog 84 false:=⟨Tryz.isAgg84⟩
theorem Ma:Sz prog 84 1:=⟨Tryz.sizeOf84⟩
theorem E1:cR prog 86 true:=⟨Tryz.isAgg86⟩
theorem Mb:Sz prog 86 2:=⟨Tryz.sizeOf86⟩
theorem NE:Zr prog 86 (.agg [sZ,.int .i64 0].toArray):=⟨Tryz.zeroValue86⟩
theorem Kv:aX prog 86 0 0:=aX.of Tryz.underlying86 rfl Tryz.sizeOf84 rfl rfl
theorem Kw:aX prog 86 1 1:=aX.of Tryz.underlying86 rfl Tryz.sizeOf3 rfl rfl
theorem Lm:ey prog 86 [(0,1),(1,1)] [sZ,.int .i64 0]:=⟨_,Tryz.underlying86,Tryz.zeroValue86,λw=>by simp[Tryz.sizeOf3,Tryz.sizeOf84]⟩
theorem MY:cq prog 90 (.slice 199):=⟨Tryz.underlying90⟩
theorem E2:cR prog 90 false:=⟨Tryz.isAgg90⟩
theorem Md:Sz prog 90 1:=⟨Tryz.sizeOf90⟩
theorem MZ:cq prog 91 (.slice 9):=⟨Tryz.underlying91⟩
theorem E3:cR prog 91 false:=⟨Tryz.isAgg91⟩
theorem Me:Sz prog 91 1:=⟨Tryz.sizeOf91⟩
theorem E6:cR prog 93 true:=⟨Tryz.isAgg93⟩
theorem Mg:Sz prog 93 8:=⟨Tryz.sizeOf93⟩
theorem Fx:By prog 93 136:=⟨λw=>⟨_,Tryz.typeInfo93 w,rfl⟩⟩
theorem NG:Zr prog 93 (.agg [.string {data:=#[]},.string {data:=#[]},.string {data:=#[]},.bool false,sZ,sZ,sZ,.int .i64 0].toArray):=⟨Tryz.zeroValue93⟩
theorem Kx:aX prog 93 0 0:=aX.of Tryz.underlying93 rfl Tryz.sizeOf44 rfl rfl
theorem Ky:aX prog 93 1 2:=aX.of Tryz.underlying93 rfl Tryz.sizeOf9 rfl rfl
theorem Kz:aX prog 93 2 3:=aX.of Tryz.underlying93 rfl Tryz.sizeOf4 rfl rfl
theorem KA:aX prog 93 3 4:=aX.of Tryz.underlying93 rfl Tryz.sizeOf90 rfl rfl
theorem KB:aX prog 93 4 5:=aX.of Tryz.underlying93 rfl Tryz.sizeOf91 rfl rfl
theorem KC:aX prog 93 5 6:=aX.of Tryz.underlying93 rfl Tryz.sizeOf76 rfl rfl
theorem KD:aX prog 93 6 7:=aX.of Tryz.underlying93 rfl Tryz.sizeOf3 rfl rfl
theorem Ln:ey prog 93 [(0,2),(2,1),(3,1),(4,1),(5,1),(6,1),(7,1)] [.string {data:=#[]},.string {data:=#[]},.string {data:=#[]},.bool false,sZ,sZ,sZ,.int .i64 0]:=⟨_,Tryz.underlying93,Tryz.zeroValue93,λw=>by simp[Tryz.sizeOf3,Tryz.sizeOf4,Tryz.sizeOf44,Tryz.sizeOf76,Tryz.sizeOf9,Tryz.sizeOf90,Tryz.sizeOf91]⟩
theorem E7:cR prog 95 true:=⟨Tryz.isAgg95⟩
theorem Mh:Sz prog 95 8:=⟨Tryz.sizeOf95⟩
theorem Fy:By prog 95 136:=⟨λw=>⟨_,Tryz.typeInfo95 w,rfl⟩⟩
theorem NH:Zr prog 95 (.agg [.string {data:=#[]},.string {data:=#[]},.string {data:=#[]},.bool false,sZ,sZ,sZ,.int .i64 0].toArray):=⟨Tryz.zeroValue95⟩
theorem KE:aX prog 95 0 0:=aX.of Tryz.underlying95 rfl Tryz.sizeOf44 rfl rfl
theorem KF:aX prog 95 1 2:=aX.of Tryz.underlying95 rfl Tryz.sizeOf9 rfl rfl
theorem KG:aX prog 95 2 3:=aX.of Tryz.underlying95 rfl Tryz.sizeOf4 rfl rfl
theorem KH:aX prog 95 3 4:=aX.of Tryz.underlying95 rfl Tryz.sizeOf90 rfl rfl
theorem KI:aX prog 95 4 5:=aX.of Tryz.underlying95 rfl Tryz.sizeOf91 rfl rfl
theorem KJ:aX prog 95 5 6:=aX.of Tryz.underlying95 rfl Tryz.sizeOf76 rfl rfl
theorem KK:aX prog 95 6 7:=aX.of Tryz.underlying95 rfl Tryz.sizeOf3 rfl rfl
theorem Lo:ey prog 95 [(0,2),(2,1),(3,1),(4,1),(5,1),(6,1),(7,1)] [.string {data:=#[]},.string {data:=#[]},.string {data:=#[]},.bool false,sZ,sZ,sZ,.int .i64 0]:=⟨_,Tryz.underlying95,Tryz.zeroValue95,λw=>by simp[Tryz.sizeOf3,Tryz.sizeOf4,Tryz.sizeOf44,Tryz.sizeOf76,Tryz.sizeOf9,Tryz.sizeOf90,Tryz.sizeOf91]⟩
theorem Mj:cq prog 101 (.slice 226):=⟨Tryz.underlying101⟩
theorem Eg:cR prog 101 false:=⟨Tryz.isAgg101⟩
theorem Lp:Sz prog 101 1:=⟨Tryz.sizeOf101⟩
theorem IW:aX prog 103 0 0:=aX.of Tryz.underlying103 rfl Tryz.sizeOf101 rfl rfl
theorem IY:aX prog 103 1 1:=aX.of Tryz.underlying103 rfl Tryz.sizeOf45 rfl rfl
theorem IZ:aX prog 103 2 2:=aX.of Tryz.underlying103 rfl Tryz.sizeOf45 rfl rfl
theorem KP:ey prog 103 [(0,1),(1,1),(2,1)] [sZ,.int .u64 0,.int .u64 0]:=⟨_,Tryz.underlying103,Tryz.zeroValue103,λw=>by simp[Tryz.sizeOf101,Tryz.sizeOf45]⟩
theorem yT:cR prog 117 true:=⟨Tryz.isAgg117⟩
theorem zf:Sz prog 117 4:=⟨Tryz.sizeOf117⟩
theorem E8:By prog 117 64:=⟨λw=>⟨_,Tryz.typeInfo117 w,rfl⟩⟩
theorem M6:Zr prog 117 (.agg [.string {data:=#[]},.string {data:=#[]},.string {data:=#[]},.string {data:=#[]}].toArray):=⟨Tryz.zeroValue117⟩
theorem I0:aX prog 117 0 0:=aX.of Tryz.underlying117 rfl Tryz.sizeOf9 rfl rfl
theorem I1:aX prog 117 1 1:=aX.of Tryz.underlying117 rfl Tryz.sizeOf44 rfl rfl
theorem I2:aX prog 117 2 3:=aX.of Tryz.underlying117 rfl Tryz.sizeOf9 rfl rfl
theorem KQ:ey prog 117 [(0,1),(1,2),(3,1)] [.string {data:=#[]},.string {data:=#[]},.string {data:=#[]},.string {data:=#[]}]:=⟨_,Tryz.underlying117,Tryz.zeroValue117,λw=>by simp[Tryz.sizeOf44,Tryz.sizeOf9]⟩
theorem yU:cR prog 119 true:=⟨Tryz.isAgg119⟩
theorem zg:Sz prog 119 7:=⟨Tryz.sizeOf119⟩
theorem E9:By prog 119 112:=⟨λw=>⟨_,Tryz.typeInfo119 w,rfl⟩⟩
theorem M7:Zr prog 119 (.agg [.string {data:=#[]},.string {data:=#[]},.string {data:=#[]},.string {data:=#[]},.string {data:=#[]},.string {data:=#[]},.string {data:=#[]}].toArray):=⟨Tryz.zeroValue119⟩
theorem I3:aX prog 119 0 0:=aX.of Tryz.underlying119 rfl Tryz.sizeOf44 rfl rfl
theorem I4:aX prog 119 1 2:=aX.of Tryz.underlying119 rfl Tryz.sizeOf9 rfl rfl
theorem I5:aX prog 119 2 3:=aX.of Tryz.underlying119 rfl Tryz.sizeOf117 rfl rfl
theorem KR:ey prog 119 [(0,2),(2,1),(3,4)] [.string {data:=#[]},.string {data:=#[]},.string {data:=#[]},.string {data:=#[]},.string {data:=#[]},.string {data:=#[]},.string {data:=#[]}]:=⟨_,Tryz.underlying119,Tryz.zeroValue119,λw=>by simp[Tryz.sizeOf117,Tryz.sizeOf44,Tryz.sizeOf9]⟩
theorem Eh:cR prog 121 true:=⟨Tryz.isAgg121⟩
theorem Lq:Sz prog 121 8:=⟨Tryz.sizeOf121⟩
theorem M8:Zr prog 121 (.agg [.bool false,.string {data:=#[]},.string {data:=#[]},.string {data:=#[]},.string {data:=#[]},.string {data:=#[]},.string {data:=#[]},.string {data:=#[]}].toArray):=⟨Tryz.zeroValue121⟩
theorem I6:aX prog 121 0 0:=aX.of Tryz.underlying121 rfl Tryz.sizeOf4 rfl rfl
theorem I7:aX prog 121 1 1:=aX.of Tryz.underlying121 rfl Tryz.sizeOf119 rfl rfl
theorem KS:ey prog 121 [(0,1),(1,7)] [.bool false,.string {data:=#[]},.string {data:=#[]},.string {data:=#[]},.string {data:=#[]},.string {data:=#[]},.string {data:=#[]},.string {data:=#[]}]:=⟨_,Tryz.underlying121,Tryz.zeroValue121,λw=>by simp[Tryz.sizeOf119,Tryz.sizeOf4]⟩
theorem Mk:cq prog 144 (.map 236 238):=⟨Tryz.underlying144⟩
theorem Ei:cR prog 144 false:=⟨Tryz.isAgg144⟩
theorem Ml:cq prog 145 (.map 117 238):=⟨Tryz.underlying145⟩
theorem Ej:cR prog 145 false:=⟨Tryz.isAgg145⟩
theorem I8:aX prog 147 0 0:=aX.of Tryz.underlying147 rfl Tryz.sizeOf4 rfl rfl
theorem I9:aX prog 147 1 1:=aX.of Tryz.underlying147 rfl Tryz.sizeOf45 rfl rfl
theorem Ja:aX prog 147 2 2:=aX.of Tryz.underlying147 rfl Tryz.sizeOf45 rfl rfl
theorem Jb:aX prog 147 3 3:=aX.of Tryz.underlying147 rfl Tryz.sizeOf3 rfl rfl
theorem Jc:aX prog 147 4 4:=aX.of Tryz.underlying147 rfl Tryz.sizeOf144 rfl rfl
theorem Jd:aX prog 147 5 5:=aX.of Tryz.underlying147 rfl Tryz.sizeOf145 rfl rfl
theorem KT:ey prog 147 [(0,1),(1,1),(2,1),(3,1),(4,1),(5,1)] [.bool false,.int .u64 0,.int .u64 0,.int .i64 0,.map none,.map none]:=⟨_,Tryz.underlying147,Tryz.zeroValue147,λw=>by simp[Tryz.sizeOf144,Tryz.sizeOf145,Tryz.sizeOf3,Tryz.sizeOf4,Tryz.sizeOf45]⟩
theorem Ek:cR prog 150 true:=⟨Tryz.isAgg150⟩
theorem Lr:Sz prog 150 9:=⟨Tryz.sizeOf150⟩
theorem Je:aX prog 150 0 0:=aX.of Tryz.underlying150 rfl Tryz.sizeOf119 rfl rfl
theorem Jf:aX prog 150 1 7:=aX.of Tryz.underlying150 rfl Tryz.sizeOf45 rfl rfl
theorem Jg:aX prog 150 2 8:=aX.of Tryz.underlying150 rfl Tryz.sizeOf45 rfl rfl
theorem KU:ey prog 150 [(0,7),(7,1),(8,1)] [.string {data:=#[]},.string {data:=#[]},.string {data:=#[]},.string {data:=#[]},.string {data:=#[]},.string {data:=#[]},.string {data:=#[]},.int .u64 0,.int .u64 0]:=⟨_,Tryz.underlying150,Tryz.zeroValue150,λw=>by simp[Tryz.sizeOf119,Tryz.sizeOf45]⟩
theorem Mm:cq prog 151 (.pointer 150):=⟨Tryz.underlying151⟩
theorem El:cR prog 151 false:=⟨Tryz.isAgg151⟩
theorem Ls:Sz prog 151 1:=⟨Tryz.sizeOf151⟩
theorem Fa:By prog 151 8:=⟨λw=>⟨_,Tryz.typeInfo151 w,rfl⟩⟩
theorem M9:Zr prog 151 (.pointer none):=⟨Tryz.zeroValue151⟩
theorem Mn:cq prog 153 (.slice 159):=⟨Tryz.underlying153⟩
theorem Em:cR prog 153 false:=⟨Tryz.isAgg153⟩
theorem Lt:Sz prog 153 1:=⟨Tryz.sizeOf153⟩
theorem Jh:aX prog 155 0 0:=aX.of Tryz.underlying155 rfl Tryz.sizeOf4 rfl rfl
theorem Ji:aX prog 155 1 1:=aX.of Tryz.underlying155 rfl Tryz.sizeOf153 rfl rfl
theorem Jj:aX prog 155 2 2:=aX.of Tryz.underlying155 rfl Tryz.sizeOf3 rfl rfl
theorem KV:ey prog 155 [(0,1),(1,1),(2,1)] [.bool false,sZ,.int .i64 0]:=⟨_,Tryz.underlying155,Tryz.zeroValue155,λw=>by simp[Tryz.sizeOf153,Tryz.sizeOf3,Tryz.sizeOf4]⟩
theorem Jk:aX prog 157 0 0:=aX.of Tryz.underlying157 rfl Tryz.sizeOf45 rfl rfl
theorem Jl:aX prog 157 1 1:=aX.of Tryz.underlying157 rfl Tryz.sizeOf25 rfl rfl
theorem KW:ey prog 157 [(0,1),(1,2)] [.int .u64 0,sZ,sZ]:=⟨_,Tryz.underlying157,Tryz.zeroValue157,λw=>by simp[Tryz.sizeOf25,Tryz.sizeOf45]⟩
theorem En:cR prog 159 true:=⟨Tryz.isAgg159⟩
theorem Lu:Sz prog 159 4:=⟨Tryz.sizeOf159⟩
theorem Fb:By prog 159 80:=⟨λw=>⟨_,Tryz.typeInfo159 w,rfl⟩⟩
theorem Na:Zr prog 159 (.agg [.int .u64 0,sZ,sZ,sZ].toArray):=⟨Tryz.zeroValue159⟩
theorem Jm:aX prog 159 0 0:=aX.of Tryz.underlying159 rfl Tryz.sizeOf157 rfl rfl
theorem Jn:aX prog 159 1 3:=aX.of Tryz.underlying159 rfl Tryz.sizeOf76 rfl rfl
theorem KX:ey prog 159 [(0,3),(3,1)] [.int .u64 0,sZ,sZ,sZ]:=⟨_,Tryz.underlying159,Tryz.zeroValue159,λw=>by simp[Tryz.sizeOf157,Tryz.sizeOf76]⟩
theorem Mo:cq prog 162 (.slice 167):=⟨Tryz.underlying162⟩
theorem Eo:cR prog 162 false:=⟨Tryz.isAgg162⟩
theorem Lv:Sz prog 162 1:=⟨Tryz.sizeOf162⟩
theorem Ep:cR prog 164 true:=⟨Tryz.isAgg164⟩
theorem Lw:Sz prog 164 2:=⟨Tryz.sizeOf164⟩
theorem Fc:By prog 164 40:=⟨λw=>⟨_,Tryz.typeInfo164 w,rfl⟩⟩
theorem Nb:Zr prog 164 (.agg [.string {data:=#[]},sZ].toArray):=⟨Tryz.zeroValue164⟩
theorem Jo:aX prog 164 0 0:=aX.of Tryz.underlying164 rfl Tryz.sizeOf9 rfl rfl
theorem Jp:aX prog 164 1 1:=aX.of Tryz.underlying164 rfl Tryz.sizeOf162 rfl rfl
theorem KY:ey prog 164 [(0,1),(1,1)] [.string {data:=#[]},sZ]:=⟨_,Tryz.underlying164,Tryz.zeroValue164,λw=>by simp[Tryz.sizeOf162,Tryz.sizeOf9]⟩
theorem Mp:cq prog 165 (.slice 249):=⟨Tryz.underlying165⟩
theorem yV:cR prog 165 false:=⟨Tryz.isAgg165⟩
theorem Lx:Sz prog 165 1:=⟨Tryz.sizeOf165⟩
theorem Er:cR prog 167 true:=⟨Tryz.isAgg167⟩
theorem Ly:Sz prog 167 3:=⟨Tryz.sizeOf167⟩
theorem Fe:By prog 167 64:=⟨λw=>⟨_,Tryz.typeInfo167 w,rfl⟩⟩
theorem Nc:Zr prog 167 (.agg [.string {data:=#[]},sZ,sZ].toArray):=⟨Tryz.zeroValue167⟩
theorem Jq:aX prog 167 0 0:=aX.of Tryz.underlying167 rfl Tryz.sizeOf9 rfl rfl
theorem Jr:aX prog 167 1 1:=aX.of Tryz.underlying167 rfl Tryz.sizeOf165 rfl rfl
theorem Js:aX prog 167 2 2:=aX.of Tryz.underlying167 rfl Tryz.sizeOf90 rfl rfl
theorem KZ:ey prog 167 [(0,1),(1,1),(2,1)] [.string {data:=#[]},sZ,sZ]:=⟨_,Tryz.underlying167,Tryz.zeroValue167,λw=>by simp[Tryz.sizeOf165,Tryz.sizeOf9,Tryz.sizeOf90]⟩
theorem Et:cR prog 169 true:=⟨Tryz.isAgg169⟩
theorem Lz:Sz prog 169 4:=⟨Tryz.sizeOf169⟩
theorem Ff:By prog 169 64:=⟨λw=>⟨_,Tryz.typeInfo169 w,rfl⟩⟩
theorem Nf:Zr prog 169 (.agg [.string {data:=#[]},.string {data:=#[]},.string {data:=#[]},.string {data:=#[]}].toArray):=⟨Tryz.zeroValue169⟩
theorem Jt:aX prog 169 0 0:=aX.of Tryz.underlying169 rfl Tryz.sizeOf9 rfl rfl
theorem Ju:aX prog 169 1 1:=aX.of Tryz.underlying169 rfl Tryz.sizeOf44 rfl rfl
theorem Jv:aX prog 169 2 3:=aX.of Tryz.underlying169 rfl Tryz.sizeOf9 rfl rfl
theorem Mq:cq prog 177 (.slice 266):=⟨Tryz.underlying177⟩
theorem Mt:cq prog 180 (.slice 263):=⟨Tryz.underlying180⟩
theorem Mu:cq prog 182 (.slice 3):=⟨Tryz.underlying182⟩
theorem Eu:cR prog 182 false:=⟨Tryz.isAgg182⟩
theorem LA:Sz prog 182 1:=⟨Tryz.sizeOf182⟩
theorem Fg:By prog 182 24:=⟨λw=>⟨_,Tryz.typeInfo182 w,rfl⟩⟩
theorem Ng:Zr prog 182 (sZ):=⟨Tryz.zeroValue182⟩
theorem Mv:cq prog 185 (.map 249 3):=⟨Tryz.underlying185⟩
theorem Ev:cR prog 185 false:=⟨Tryz.isAgg185⟩
theorem Mw:cq prog 188 (.map 269 3):=⟨Tryz.underlying188⟩
theorem Ex:cR prog 188 false:=⟨Tryz.isAgg188⟩
theorem Jw:aX prog 190 0 0:=aX.of Tryz.underlying190 rfl Tryz.sizeOf25 rfl rfl
theorem Jx:aX prog 190 1 2:=aX.of Tryz.underlying190 rfl Tryz.sizeOf185 rfl rfl
theorem Jy:aX prog 190 2 3:=aX.of Tryz.underlying190 rfl Tryz.sizeOf31 rfl rfl
theorem Jz:aX prog 190 3 4:=aX.of Tryz.underlying190 rfl Tryz.sizeOf45 rfl rfl
theorem JA:aX prog 190 4 5:=aX.of Tryz.underlying190 rfl Tryz.sizeOf188 rfl rfl
theorem JB:aX prog 190 5 6:=aX.of Tryz.underlying190 rfl Tryz.sizeOf81 rfl rfl
theorem JC:aX prog 190 6 8:=aX.of Tryz.underlying190 rfl Tryz.sizeOf3 rfl rfl
theorem K0:ey prog 190 [(0,2),(2,1),(3,1),(4,1),(5,1),(6,2),(8,1)] [sZ,sZ,.map none,.pointer none,.int .u64 0,.map none,sZ,.int .i64 0,.int .i64 0]:=⟨_,Tryz.underlying190,Tryz.zeroValue190,λw=>by simp[Tryz.sizeOf185,Tryz.sizeOf188,Tryz.sizeOf25,Tryz.sizeOf3,Tryz.sizeOf31,Tryz.sizeOf45,Tryz.sizeOf81]⟩
theorem Mx:cq prog 195 (.slice 117):=⟨Tryz.underlying195⟩
theorem Ey:cR prog 199 true:=⟨Tryz.isAgg199⟩
theorem LC:Sz prog 199 5:=⟨Tryz.sizeOf199⟩
theorem Fh:By prog 199 56:=⟨λw=>⟨_,Tryz.typeInfo199 w,rfl⟩⟩
theorem Nh:Zr prog 199 (.agg [.int .i64 0,.string {data:=#[]},.string {data:=#[]},.int .i64 0,.int .i64 0].toArray):=⟨Tryz.zeroValue199⟩
theorem JD:aX prog 199 0 0:=aX.of Tryz.underlying199 rfl Tryz.sizeOf3 rfl rfl
theorem JE:aX prog 199 1 1:=aX.of Tryz.underlying199 rfl Tryz.sizeOf9 rfl rfl
theorem JF:aX prog 199 2 2:=aX.of Tryz.underlying199 rfl Tryz.sizeOf9 rfl rfl
theorem JG:aX prog 199 3 3:=aX.of Tryz.underlying199 rfl Tryz.sizeOf3 rfl rfl
theorem JH:aX prog 199 4 4:=aX.of Tryz.underlying199 rfl Tryz.sizeOf3 rfl rfl
theorem K3:ey prog 199 [(0,1),(1,1),(2,1),(3,1),(4,1)] [.int .i64 0,.string {data:=#[]},.string {data:=#[]},.int .i64 0,.int .i64 0]:=⟨_,Tryz.underlying199,Tryz.zeroValue199,λw=>by simp[Tryz.sizeOf3,Tryz.sizeOf9]⟩
theorem My:cq prog 204 (.slice 280):=⟨Tryz.underlying204⟩
theorem Ez:cR prog 204 false:=⟨Tryz.isAgg204⟩
theorem LD:Sz prog 204 1:=⟨Tryz.sizeOf204⟩
theorem JI:aX prog 206 0 0:=aX.of Tryz.underlying206 rfl Tryz.sizeOf81 rfl rfl
theorem JJ:aX prog 206 1 2:=aX.of Tryz.underlying206 rfl Tryz.sizeOf9 rfl rfl
theorem JK:aX prog 206 2 3:=aX.of Tryz.underlying206 rfl Tryz.sizeOf70 rfl rfl
theorem JL:aX prog 206 3 4:=aX.of Tryz.underlying206 rfl Tryz.sizeOf76 rfl rfl
theorem JM:aX prog 206 4 5:=aX.of Tryz.underlying206 rfl Tryz.sizeOf70 rfl rfl
theorem JN:aX prog 206 5 6:=aX.of Tryz.underlying206 rfl Tryz.sizeOf204 rfl rfl
theorem K4:ey prog 206 [(0,2),(2,1),(3,1),(4,1),(5,1),(6,1)] [sZ,.int .i64 0,.string {data:=#[]},sZ,sZ,sZ,sZ]:=⟨_,Tryz.underlying206,Tryz.zeroValue206,λw=>by simp[Tryz.sizeOf204,Tryz.sizeOf70,Tryz.sizeOf76,Tryz.sizeOf81,Tryz.sizeOf9]⟩
theorem Mz:cq prog 209 (.slice 291):=⟨Tryz.underlying209⟩
theorem EB:cR prog 209 false:=⟨Tryz.isAgg209⟩
theorem LF:Sz prog 209 1:=⟨Tryz.sizeOf209⟩
theorem JO:aX prog 215 0 0:=aX.of Tryz.underlying215 rfl Tryz.sizeOf209 rfl rfl
theorem JP:aX prog 215 1 1:=aX.of Tryz.underlying215 rfl Tryz.sizeOf4 rfl rfl
theorem K5:ey prog 215 [(0,1),(1,1)] [sZ,.bool false]:=⟨_,Tryz.underlying215,Tryz.zeroValue215,λw=>by simp[Tryz.sizeOf209,Tryz.sizeOf4]⟩
theorem ED:cR prog 226 true:=⟨Tryz.isAgg226⟩
theorem LH:Sz prog 226 9:=⟨Tryz.sizeOf226⟩
theorem Fi:By prog 226 128:=⟨λw=>⟨_,Tryz.typeInfo226 w,rfl⟩⟩
theorem Ni:Zr prog 226 (.agg [.string {data:=#[]},.string {data:=#[]},.string {data:=#[]},.string {data:=#[]},.string {data:=#[]},.string {data:=#[]},.string {data:=#[]},.int .u64 0,.int .u64 0].toArray):=⟨Tryz.zeroValue226⟩
theorem JQ:aX prog 226 0 0:=aX.of Tryz.underlying226 rfl Tryz.sizeOf119 rfl rfl
theorem JR:aX prog 226 1 7:=aX.of Tryz.underlying226 rfl Tryz.sizeOf45 rfl rfl
theorem JS:aX prog 226 2 8:=aX.of Tryz.underlying226 rfl Tryz.sizeOf45 rfl rfl
theorem K6:ey prog 226 [(0,7),(7,1),(8,1)] [.string {data:=#[]},.string {data:=#[]},.string {data:=#[]},.string {data:=#[]},.string {data:=#[]},.string {data:=#[]},.string {data:=#[]},.int .u64 0,.int .u64 0]:=⟨_,Tryz.underlying226,Tryz.zeroValue226,λw=>by simp[Tryz.sizeOf119,Tryz.sizeOf45]⟩
theorem EF:cR prog 231 false:=⟨Tryz.isAgg231⟩
theorem LJ:Sz prog 231 1:=⟨Tryz.sizeOf231⟩
theorem Nj:Zr prog 231 (.nilFunc):=⟨Tryz.zeroValue231⟩
theorem MC:cq prog 232 (.map 119 4):=⟨Tryz.underlying232⟩
theorem yW:cR prog 236 true:=⟨Tryz.isAgg236⟩
theorem zh:Sz prog 236 3:=⟨Tryz.sizeOf236⟩
theorem Nk:Zr prog 236 (.agg [.string {data:=#[]},.string {data:=#[]},.string {data:=#[]}].toArray):=⟨Tryz.zeroValue236⟩
theorem K7:ey prog 236 [(0,2),(2,1)] [.string {data:=#[]},.string {data:=#[]},.string {data:=#[]}]:=⟨_,Tryz.underlying236,Tryz.zeroValue236,λw=>by simp[Tryz.sizeOf44,Tryz.sizeOf9]⟩
theorem MD:cq prog 238 (.slice 151):=⟨Tryz.underlying238⟩
theorem Nl:Zr prog 238 (sZ):=⟨Tryz.zeroValue238⟩
theorem MF:cq prog 242 (.slice 325):=⟨Tryz.underlying242⟩
theorem yX:cR prog 249 true:=⟨Tryz.isAgg249⟩
theorem zi:Sz prog 249 2:=⟨Tryz.sizeOf249⟩
theorem Fj:By prog 249 32:=⟨λw=>⟨_,Tryz.typeInfo249 w,rfl⟩⟩
theorem Nn:Zr prog 249 (.agg [.string {data:=#[]},.string {data:=#[]}].toArray):=⟨Tryz.zeroValue249⟩
theorem JT:aX prog 249 0 0:=aX.of Tryz.underlying249 rfl Tryz.sizeOf9 rfl rfl
theorem JU:aX prog 249 1 1:=aX.of Tryz.underlying249 rfl Tryz.sizeOf9 rfl rfl
theorem K8:ey prog 249 [(0,1),(1,1)] [.string {data:=#[]},.string {data:=#[]}]:=⟨_,Tryz.underlying249,Tryz.zeroValue249,λw=>by simp[Tryz.sizeOf9]⟩
theorem LM:Sz prog 263 4:=⟨Tryz.sizeOf263⟩
theorem Fk:By prog 263 80:=⟨λw=>⟨_,Tryz.typeInfo263 w,rfl⟩⟩
theorem Nq:Zr prog 263 (.agg [.string {data:=#[]},.string {data:=#[]},sZ,sZ].toArray):=⟨Tryz.zeroValue263⟩
theorem JX:aX prog 263 0 0:=aX.of Tryz.underlying263 rfl Tryz.sizeOf9 rfl rfl
theorem JY:aX prog 263 1 1:=aX.of Tryz.underlying263 rfl Tryz.sizeOf167 rfl rfl
theorem La:ey prog 263 [(0,1),(1,3)] [.string {data:=#[]},.string {data:=#[]},sZ,sZ]:=⟨_,Tryz.underlying263,Tryz.zeroValue263,λw=>by simp[Tryz.sizeOf167,Tryz.sizeOf9]⟩
theorem EI:cR prog 266 true:=⟨Tryz.isAgg266⟩
theorem LN:Sz prog 266 3:=⟨Tryz.sizeOf266⟩
theorem Fl:By prog 266 24:=⟨λw=>⟨_,Tryz.typeInfo266 w,rfl⟩⟩
theorem Nr:Zr prog 266 (.agg [.int .i64 0,.int .i64 0,.bool false].toArray):=⟨Tryz.zeroValue266⟩
theorem JZ:aX prog 266 0 0:=aX.of Tryz.underlying266 rfl Tryz.sizeOf3 rfl rfl
theorem J0:aX prog 266 1 1:=aX.of Tryz.underlying266 rfl Tryz.sizeOf3 rfl rfl
theorem J1:aX prog 266 2 2:=aX.of Tryz.underlying266 rfl Tryz.sizeOf4 rfl rfl
theorem Lb:ey prog 266 [(0,1),(1,1),(2,1)] [.int .i64 0,.int .i64 0,.bool false]:=⟨_,Tryz.underlying266,Tryz.zeroValue266,λw=>by simp[Tryz.sizeOf3,Tryz.sizeOf4]⟩
theorem yY:cR prog 269 true:=⟨Tryz.isAgg269⟩
theorem zj:Sz prog 269 3:=⟨Tryz.sizeOf269⟩
theorem Ns:Zr prog 269 (.agg [.string {data:=#[]},.string {data:=#[]},.string {data:=#[]}].toArray):=⟨Tryz.zeroValue269⟩
theorem Lc:ey prog 269 [(0,2),(2,1)] [.string {data:=#[]},.string {data:=#[]},.string {data:=#[]}]:=⟨_,Tryz.underlying269,Tryz.zeroValue269,λw=>by simp[Tryz.sizeOf44,Tryz.sizeOf9]⟩
theorem MH:cq prog 275 (.map 3 4):=⟨Tryz.underlying275⟩
theorem EK:cR prog 280 true:=⟨Tryz.isAgg280⟩
theorem LP:Sz prog 280 2:=⟨Tryz.sizeOf280⟩
theorem Fm:By prog 280 16:=⟨λw=>⟨_,Tryz.typeInfo280 w,rfl⟩⟩
theorem Nt:Zr prog 280 (.agg [.int .i64 0,.int .i64 0].toArray):=⟨Tryz.zeroValue280⟩
theorem J2:aX prog 280 0 0:=aX.of Tryz.underlying280 rfl Tryz.sizeOf3 rfl rfl
theorem J3:aX prog 280 1 1:=aX.of Tryz.underlying280 rfl Tryz.sizeOf3 rfl rfl
theorem Ld:ey prog 280 [(0,1),(1,1)] [.int .i64 0,.int .i64 0]:=⟨_,Tryz.underlying280,Tryz.zeroValue280,λw=>by simp[Tryz.sizeOf3]⟩
theorem MI:cq prog 282 (.pointer 204):=⟨Tryz.underlying282⟩
theorem J4:aX prog 289 0 0:=aX.of Tryz.underlying289 rfl Tryz.sizeOf9 rfl rfl
theorem J5:aX prog 289 1 1:=aX.of Tryz.underlying289 rfl Tryz.sizeOf3 rfl rfl
theorem Le:ey prog 289 [(0,1),(1,1)] [.string {data:=#[]},.int .i64 0]:=⟨_,Tryz.underlying289,Tryz.zeroValue289,λw=>by simp[Tryz.sizeOf3,Tryz.sizeOf9]⟩
theorem EL:cR prog 291 true:=⟨Tryz.isAgg291⟩
theorem LQ:Sz prog 291 3:=⟨Tryz.sizeOf291⟩
theorem Fo:By prog 291 32:=⟨λw=>⟨_,Tryz.typeInfo291 w,rfl⟩⟩
theorem Nu:Zr prog 291 (.agg [.int .i64 0,.string {data:=#[]},.int .i64 0].toArray):=⟨Tryz.zeroValue291⟩
theorem J8:aX prog 291 0 0:=aX.of Tryz.underlying291 rfl Tryz.sizeOf3 rfl rfl
theorem J9:aX prog 291 1 1:=aX.of Tryz.underlying291 rfl Tryz.sizeOf9 rfl rfl
theorem Lf:ey prog 291 [(0,1),(1,1),(2,1)] [.int .i64 0,.string {data:=#[]},.int .i64 0]:=⟨_,Tryz.underlying291,Tryz.zeroValue291,λw=>by simp[Tryz.sizeOf3,Tryz.sizeOf9]⟩
theorem MK:cq prog 306 (.int .u64):=⟨Tryz.underlying306⟩
theorem MM:cq prog 316 (.map 249 321):=⟨Tryz.underlying316⟩
theorem EN:cR prog 316 false:=⟨Tryz.isAgg316⟩
theorem Ka:aX prog 318 0 0:=aX.of Tryz.underlying318 rfl Tryz.sizeOf25 rfl rfl
theorem Kb:aX prog 318 1 2:=aX.of Tryz.underlying318 rfl Tryz.sizeOf316 rfl rfl
theorem Lg:ey prog 318 [(0,2),(2,1)] [sZ,sZ,.map none]:=⟨_,Tryz.underlying318,Tryz.zeroValue318,λw=>by simp[Tryz.sizeOf25,Tryz.sizeOf316]⟩
theorem MN:cq prog 319 (.map 9 4):=⟨Tryz.underlying319⟩
theorem EO:cR prog 321 true:=⟨Tryz.isAgg321⟩
theorem LS:Sz prog 321 2:=⟨Tryz.sizeOf321⟩
theorem Fq:By prog 321 16:=⟨λw=>⟨_,Tryz.typeInfo321 w,rfl⟩⟩
theorem Nw:Zr prog 321 (.agg [.int .i64 0,.int .i64 0].toArray):=⟨Tryz.zeroValue321⟩
theorem Kc:aX prog 321 0 0:=aX.of Tryz.underlying321 rfl Tryz.sizeOf3 rfl rfl
theorem Kd:aX prog 321 1 1:=aX.of Tryz.underlying321 rfl Tryz.sizeOf3 rfl rfl
theorem Lh:ey prog 321 [(0,1),(1,1)] [.int .i64 0,.int .i64 0]:=⟨_,Tryz.underlying321,Tryz.zeroValue321,λw=>by simp[Tryz.sizeOf3]⟩
theorem EP:cR prog 325 true:=⟨Tryz.isAgg325⟩
theorem LU:Sz prog 325 5:=⟨Tryz.sizeOf325⟩
theorem Ft:By prog 325 40:=⟨λw=>⟨_,Tryz.typeInfo325 w,rfl⟩⟩
theorem Nx:Zr prog 325 (.agg [.int .i64 0,.int .i64 0,.int .i64 0,.int .i64 0,.bool false].toArray):=⟨Tryz.zeroValue325⟩
theorem Ke:aX prog 325 0 0:=aX.of Tryz.underlying325 rfl Tryz.sizeOf321 rfl rfl
theorem Kf:aX prog 325 1 2:=aX.of Tryz.underlying325 rfl Tryz.sizeOf321 rfl rfl
theorem Kg:aX prog 325 2 4:=aX.of Tryz.underlying325 rfl Tryz.sizeOf4 rfl rfl
theorem Li:ey prog 325 [(0,2),(2,2),(4,1)] [.int .i64 0,.int .i64 0,.int .i64 0,.int .i64 0,.bool false]:=⟨_,Tryz.underlying325,Tryz.zeroValue325,λw=>by simp[Tryz.sizeOf321,Tryz.sizeOf4]⟩
theorem MO:cq prog 375 (.slice 321):=⟨Tryz.underlying375⟩
theorem MP:cq prog 385 (.int .u64):=⟨Tryz.underlying385⟩
theorem EQ:cR prog 385 false:=⟨Tryz.isAgg385⟩
theorem LV:Sz prog 385 1:=⟨Tryz.sizeOf385⟩
theorem Ny:Zr prog 385 (.int .u64 0):=⟨Tryz.zeroValue385⟩
theorem mv:fy prog 9 1 [.s] false:=fy.str sY vD
theorem re:fy prog 44 2 [.s,.s] true:=fy.struct (n:=1) Tryz.underlying44 Tryz.stoodInHeld44 y6 zk (eZ.more mv (eZ.more mv eZ.nil))
theorem KO:qL prog 44:=⟨Tryz.eqGuardType44⟩
theorem vE:fy prog 117 3 [.s,.s,.s,.s] true:=fy.struct (n:=2) Tryz.underlying117 Tryz.stoodInHeld117 yT zf (eZ.more mv (eZ.more re (eZ.more mv eZ.nil)))
theorem KL:qL prog 117:=⟨Tryz.eqGuardType117⟩
theorem zb:fy prog 119 4 [.s,.s,.s,.s,.s,.s,.s] true:=fy.struct (n:=3) Tryz.underlying119 Tryz.stoodInHeld119 yU zg (eZ.more re (eZ.more mv (eZ.more vE eZ.nil)))
theorem KM:qL prog 119:=⟨Tryz.eqGuardType119⟩
theorem zc:fy prog 236 3 [.s,.s,.s] true:=fy.struct (n:=2) Tryz.underlying236 Tryz.stoodInHeld236 yW zh (eZ.more re (eZ.more mv eZ.nil))
theorem zd:fy prog 249 2 [.s,.s] true:=fy.struct (n:=1) Tryz.underlying249 Tryz.stoodInHeld249 yX zi (eZ.more mv (eZ.more mv eZ.nil))
theorem KN:qL prog 249:=⟨Tryz.eqGuardType249⟩
theorem ze:fy prog 269 3 [.s,.s,.s] true:=fy.struct (n:=2) Tryz.underlying269 Tryz.stoodInHeld269 yY zj (eZ.more re (eZ.more mv eZ.nil))
theorem F7:aY prog 14:=⟨Tryz.call14⟩
theorem GI:aY prog 18:=⟨Tryz.call18⟩
theorem GU:aY prog 19:=⟨Tryz.call19⟩
theorem G3:aY prog 20:=⟨Tryz.call20⟩
theorem Ha:aY prog 22:=⟨Tryz.call22⟩
theorem HJ:aY prog 26:=⟨Tryz.call26⟩
theorem HQ:aY prog 27:=⟨Tryz.call27⟩
theorem HZ:aY prog 32:=⟨Tryz.call32⟩
theorem H3:aY prog 34:=⟨Tryz.call34⟩
theorem H4:aY prog 35:=⟨Tryz.call35⟩
theorem H5:aY prog 38:=⟨Tryz.call38⟩
theorem H6:aY prog 39:=⟨Tryz.call39⟩
theorem H7:aY prog 40:=⟨Tryz.call40⟩
theorem H8:aY prog 41:=⟨Tryz.call41⟩
theorem H9:aY prog 42:=⟨Tryz.call42⟩
theorem Ia:aY prog 43:=⟨Tryz.call43⟩
theorem Ib:aY prog 44:=⟨Tryz.call44⟩
theorem Ic:aY prog 45:=⟨Tryz.call45⟩
theorem Ie:aY prog 46:=⟨Tryz.call46⟩
theorem Ig:aY prog 47:=⟨Tryz.call47⟩
theorem Ih:aY prog 48:=⟨Tryz.call48⟩
theorem Ii:aY prog 49:=⟨Tryz.call49⟩
theorem Ij:aY prog 58:=⟨Tryz.call58⟩
theorem Ik:aY prog 61:=⟨Tryz.call61⟩
theorem Il:aY prog 62:=⟨Tryz.call62⟩
theorem Im:aY prog 63:=⟨Tryz.call63⟩
theorem Io:aY prog 64:=⟨Tryz.call64⟩
theorem Ip:aY prog 65:=⟨Tryz.call65⟩
theorem Iq:aY prog 66:=⟨Tryz.call66⟩
theorem Ir:aY prog 67:=⟨Tryz.call67⟩
theorem Is:aY prog 68:=⟨Tryz.call68⟩
theorem Iu:aY prog 73:=⟨Tryz.call73⟩
theorem Iv:aY prog 74:=⟨Tryz.call74⟩
theorem Iw:aY prog 75:=⟨Tryz.call75⟩
theorem Ix:aY prog 76:=⟨Tryz.call76⟩
theorem Iy:aY prog 77:=⟨Tryz.call77⟩
theorem Iz:aY prog 78:=⟨Tryz.call78⟩
theorem IA:aY prog 79:=⟨Tryz.call79⟩
theorem IB:aY prog 80:=⟨Tryz.call80⟩
theorem IC:aY prog 81:=⟨Tryz.call81⟩
theorem ID:aY prog 82:=⟨Tryz.call82⟩
theorem IE:aY prog 83:=⟨Tryz.call83⟩
theorem IF:aY prog 84:=⟨Tryz.call84⟩
theorem IG:aY prog 85:=⟨Tryz.call85⟩
theorem IH:aY prog 86:=⟨Tryz.call86⟩
theorem II:aY prog 87:=⟨Tryz.call87⟩
theorem IJ:aY prog 88:=⟨Tryz.call88⟩
theorem IK:aY prog 89:=⟨Tryz.call89⟩
theorem IL:aY prog 90:=⟨Tryz.call90⟩
theorem IM:aY prog 91:=⟨Tryz.call91⟩
theorem IN:aY prog 92:=⟨Tryz.call92⟩
theorem IP:aY prog 93:=⟨Tryz.call93⟩
theorem IQ:aY prog 94:=⟨Tryz.call94⟩
theorem IR:aY prog 95:=⟨Tryz.call95⟩
theorem IS:aY prog 96:=⟨Tryz.call96⟩
theorem IT:aY prog 97:=⟨Tryz.call97⟩
theorem IU:aY prog 98:=⟨Tryz.call98⟩
theorem IV:aY prog 99:=⟨Tryz.call99⟩
theorem Fz:aY prog 100:=⟨Tryz.call100⟩
theorem FA:aY prog 107:=⟨Tryz.call107⟩
theorem FB:aY prog 108:=⟨Tryz.call108⟩
theorem FC:aY prog 109:=⟨Tryz.call109⟩
theorem FD:aY prog 110:=⟨Tryz.call110⟩
theorem FE:aY prog 111:=⟨Tryz.call111⟩
theorem FF:aY prog 112:=⟨Tryz.call112⟩
theorem FG:aY prog 113:=⟨Tryz.call113⟩
theorem FH:aY prog 114:=⟨Tryz.call114⟩
theorem FI:aY prog 115:=⟨Tryz.call115⟩
theorem FJ:aY prog 116:=⟨Tryz.call116⟩
theorem FK:aY prog 117:=⟨Tryz.call117⟩
theorem FL:aY prog 118:=⟨Tryz.call118⟩
theorem FM:aY prog 119:=⟨Tryz.call119⟩
theorem FN:aY prog 120:=⟨Tryz.call120⟩
theorem FO:aY prog 121:=⟨Tryz.call121⟩
theorem FP:aY prog 122:=⟨Tryz.call122⟩
theorem FQ:aY prog 123:=⟨Tryz.call123⟩
theorem FR:aY prog 124:=⟨Tryz.call124⟩
theorem FT:aY prog 125:=⟨Tryz.call125⟩
theorem FU:aY prog 126:=⟨Tryz.call126⟩
theorem FV:aY prog 128:=⟨Tryz.call128⟩
theorem FW:aY prog 129:=⟨Tryz.call129⟩
theorem FX:aY prog 130:=⟨Tryz.call130⟩
theorem FY:aY prog 131:=⟨Tryz.call131⟩
theorem FZ:aY prog 132:=⟨Tryz.call132⟩
theorem F0:aY prog 133:=⟨Tryz.call133⟩
theorem F1:aY prog 134:=⟨Tryz.call134⟩
theorem F2:aY prog 135:=⟨Tryz.call135⟩
theorem F3:aY prog 136:=⟨Tryz.call136⟩
theorem F4:aY prog 137:=⟨Tryz.call137⟩
theorem F5:aY prog 138:=⟨Tryz.call138⟩
theorem F6:aY prog 139:=⟨Tryz.call139⟩
theorem F8:aY prog 140:=⟨Tryz.call140⟩
theorem F9:aY prog 141:=⟨Tryz.call141⟩
theorem Ga:aY prog 142:=⟨Tryz.call142⟩
theorem Gb:aY prog 143:=⟨Tryz.call143⟩
theorem Gc:aY prog 144:=⟨Tryz.call144⟩
theorem Gd:aY prog 145:=⟨Tryz.call145⟩
theorem Ge:aY prog 146:=⟨Tryz.call146⟩
theorem Gf:aY prog 147:=⟨Tryz.call147⟩
theorem Gg:aY prog 148:=⟨Tryz.call148⟩
theorem Gh:aY prog 149:=⟨Tryz.call149⟩
theorem Gi:aY prog 150:=⟨Tryz.call150⟩
theorem Gj:aY prog 151:=⟨Tryz.call151⟩
theorem Gk:aY prog 152:=⟨Tryz.call152⟩
theorem Gl:aY prog 153:=⟨Tryz.call153⟩
theorem Gm:aY prog 154:=⟨Tryz.call154⟩
theorem Gn:aY prog 155:=⟨Tryz.call155⟩
theorem Gp:aY prog 156:=⟨Tryz.call156⟩
theorem Gq:aY prog 157:=⟨Tryz.call157⟩
theorem Gr:aY prog 159:=⟨Tryz.call159⟩
theorem Gs:aY prog 160:=⟨Tryz.call160⟩
theorem Gt:aY prog 161:=⟨Tryz.call161⟩
theorem Gu:aY prog 167:=⟨Tryz.call167⟩
theorem Gv:aY prog 168:=⟨Tryz.call168⟩
theorem Gw:aY prog 169:=⟨Tryz.call169⟩
theorem Gx:aY prog 170:=⟨Tryz.call170⟩
theorem Gy:aY prog 171:=⟨Tryz.call171⟩
theorem Gz:aY prog 172:=⟨Tryz.call172⟩
theorem GA:aY prog 173:=⟨Tryz.call173⟩
theorem GB:aY prog 174:=⟨Tryz.call174⟩
theorem GC:aY prog 175:=⟨Tryz.call175⟩
theorem GD:aY prog 176:=⟨Tryz.call176⟩
theorem GF:aY prog 177:=⟨Tryz.call177⟩
theorem GG:aY prog 178:=⟨Tryz.call178⟩
theorem GH:aY prog 179:=⟨Tryz.call179⟩
theorem GJ:aY prog 180:=⟨Tryz.call180⟩
theorem GK:aY prog 181:=⟨Tryz.call181⟩
theorem GL:aY prog 182:=⟨Tryz.call182⟩
theorem GM:aY prog 183:=⟨Tryz.call183⟩
theorem GN:aY prog 184:=⟨Tryz.call184⟩
theorem GO:aY prog 185:=⟨Tryz.call185⟩
theorem GP:aY prog 186:=⟨Tryz.call186⟩
theorem GQ:aY prog 187:=⟨Tryz.call187⟩
theorem GR:aY prog 188:=⟨Tryz.call188⟩
theorem GS:aY prog 189:=⟨Tryz.call189⟩
theorem GV:aY prog 190:=⟨Tryz.call190⟩
theorem GW:aY prog 191:=⟨Tryz.call191⟩
theorem GX:aY prog 192:=⟨Tryz.call192⟩
theorem GY:aY prog 193:=⟨Tryz.call193⟩
theorem GZ:aY prog 194:=⟨Tryz.call194⟩
theorem G0:aY prog 195:=⟨Tryz.call195⟩
theorem G1:aY prog 196:=⟨Tryz.call196⟩
theorem G2:aY prog 198:=⟨Tryz.call198⟩
theorem G4:aY prog 200:=⟨Tryz.call200⟩
theorem G5:aY prog 201:=⟨Tryz.call201⟩
theorem G6:aY prog 202:=⟨Tryz.call202⟩
theorem G7:aY prog 203:=⟨Tryz.call203⟩
theorem G8:aY prog 204:=⟨Tryz.call204⟩
theorem G9:aY prog 207:=⟨Tryz.call207⟩
theorem Hb:aY prog 221:=⟨Tryz.call221⟩
theorem Hc:aY prog 222:=⟨Tryz.call222⟩
theorem Hd:aY prog 223:=⟨Tryz.call223⟩
theorem He:aY prog 224:=⟨Tryz.call224⟩
theorem Hf:aY prog 225:=⟨Tryz.call225⟩
theorem Hg:aY prog 226:=⟨Tryz.call226⟩
theorem Hh:aY prog 227:=⟨Tryz.call227⟩
theorem Hi:aY prog 228:=⟨Tryz.call228⟩
theorem Hj:aY prog 229:=⟨Tryz.call229⟩
theorem Hk:aY prog 230:=⟨Tryz.call230⟩
theorem Hl:aY prog 231:=⟨Tryz.call231⟩
theorem Hm:aY prog 232:=⟨Tryz.call232⟩
theorem Hn:aY prog 233:=⟨Tryz.call233⟩
theorem Hp:aY prog 234:=⟨Tryz.call234⟩
theorem Hq:aY prog 235:=⟨Tryz.call235⟩
theorem Hr:aY prog 236:=⟨Tryz.call236⟩
theorem Hs:aY prog 237:=⟨Tryz.call237⟩
theorem Ht:aY prog 238:=⟨Tryz.call238⟩
theorem Hu:aY prog 239:=⟨Tryz.call239⟩
theorem Hv:aY prog 240:=⟨Tryz.call240⟩
theorem Hw:aY prog 241:=⟨Tryz.call241⟩
theorem Hx:aY prog 242:=⟨Tryz.call242⟩
theorem Hy:aY prog 243:=⟨Tryz.call243⟩
theorem Hz:aY prog 246:=⟨Tryz.call246⟩
theorem HA:aY prog 247:=⟨Tryz.call247⟩
theorem HB:aY prog 248:=⟨Tryz.call248⟩
theorem HC:aY prog 251:=⟨Tryz.call251⟩
theorem HD:aY prog 252:=⟨Tryz.call252⟩
theorem HE:aY prog 256:=⟨Tryz.call256⟩
theorem HF:aY prog 257:=⟨Tryz.call257⟩
theorem HG:aY prog 258:=⟨Tryz.call258⟩
theorem HH:aY prog 259:=⟨Tryz.call259⟩
theorem HK:aY prog 260:=⟨Tryz.call260⟩
theorem HL:aY prog 261:=⟨Tryz.call261⟩
theorem HM:aY prog 262:=⟨Tryz.call262⟩
theorem HN:aY prog 263:=⟨Tryz.call263⟩
theorem HO:aY prog 265:=⟨Tryz.call265⟩
theorem HP:aY prog 266:=⟨Tryz.call266⟩
theorem HR:aY prog 270:=⟨Tryz.call270⟩
theorem HS:aY prog 272:=⟨Tryz.call272⟩
theorem HT:aY prog 273:=⟨Tryz.call273⟩
theorem HU:aY prog 297:=⟨Tryz.call297⟩
theorem HW:aY prog 298:=⟨Tryz.call298⟩
theorem HX:aY prog 299:=⟨Tryz.call299⟩
theorem HY:aY prog 300:=⟨Tryz.call300⟩
attribute [instance] vF yZ LR Fp Nv zl ER LW Fu Nz sY vD Mc Fw NF MA EC LG MB EE LI EG LK Np JV JW K9 MG EH EJ LO J6 J7 MJ ML EM y6 zk NB Kh Ki Lj MQ ES LX MR ET LY MT EU LZ EV L5 Kj Kk Kl Km Kn Ko Lk EW L6 Fv NC Kp Kq Kr Ks MU EX MV EY L7 MW EZ L8 E0 L9 ND Kt Ku Ll MX y7 Ma E1 Mb NE Kv Kw Lm MY E2 Md MZ E3 Me E6 Mg Fx NG Kx Ky Kz KA KB KC KD Ln E7 Mh Fy NH KE KF KG KH KI KJ KK Lo Mj Eg Lp IW IY IZ KP yT zf E8 M6 I0 I1 I2 KQ yU zg E9 M7 I3 I4 I5 KR Eh Lq M8 I6 I7 KS Mk Ei Ml Ej I8 I9 Ja Jb Jc Jd KT Ek Lr Je Jf Jg KU Mm El Ls Fa M9 Mn Em Lt Jh Ji Jj KV Jk Jl KW En Lu Fb Na Jm Jn KX Mo Eo Lv Ep Lw Fc Nb Jo Jp KY Mp yV Lx Er Ly Fe Nc Jq Jr Js KZ Et Lz Ff Nf Jt Ju Jv Mq Mt Mu Eu LA Fg Ng Mv Ev Mw Ex Jw Jx Jy Jz JA JB JC K0 Mx Ey LC Fh Nh JD JE JF JG JH K3 My Ez LD JI JJ JK JL JM JN K4 Mz EB LF JO JP K5 ED LH Fi Ni JQ JR JS K6 EF LJ Nj MC yW zh Nk K7 MD Nl MF yX zi Fj Nn JT JU K8 LM Fk Nq JX JY La EI LN Fl Nr JZ J0 J1 Lb yY zj Ns Lc MH EK LP Fm Nt J2 J3 Ld MI J4 J5 Le EL LQ Fo Nu J8 J9 Lf MK MM EN Ka Kb Lg MN EO LS Fq Nw Kc Kd Lh EP LU Ft Nx Ke Kf Kg Li MO MP EQ LV Ny mv re KO vE KL zb KM zc zd KN ze F7 GI GU G3 Ha HJ HQ HZ H3 H4 H5 H6 H7 H8 H9 Ia Ib Ic Ie Ig Ih Ii Ij Ik Il Im Io Ip Iq Ir Is Iu Iv Iw Ix Iy Iz IA IB IC ID IE IF IG IH II IJ IK IL IM IN IP IQ IR IS IT IU IV Fz FA FB FC FD FE FF FG FH FI FJ FK FL FM FN FO FP FQ FR FT FU FV FW FX FY FZ F0 F1 F2 F3 F4 F5 F6 F8 F9 Ga Gb Gc Gd Ge Gf Gg Gh Gi Gj Gk Gl Gm Gn Gp Gq Gr Gs Gt Gu Gv Gw Gx Gy Gz GA GB GC GD GF GG GH GJ GK GL GM GN GO GP GQ GR GS GV GW GX GY GZ G0 G1 G2 G4 G5 G6 G7 G8 G9 Hb Hc Hd He Hf Hg Hh Hi Hj Hk Hl Hm Hn Hp Hq Hr Hs Ht Hu Hv Hw Hx Hy Hz HA HB HC HD HE HF HG HH HK HL HM HN HO HP HR HS HT HU HW HX HY
theorem mixed:Tryz.prog.follows .mixedOrders=true:=by kernel_rfl
structure qN(P:Program)(R:aD)(t:TypeId)(v:Value){α:Type}(lt:α→α→Bool)(I:List α→aB→Prop):Prop where
 lM:∀L T,I L T→L.length≤1000000000
 len:∀L T,I L T→iI P t v "Len" [] R T fun u T'=>u=.int .i64 L.length∧I L T'
 less:∀L T (i k:Nat) x y,I L T→L[i]? =some x→L[k]? =some y→iI P t v "Less" [.int .i64 i,.int .i64 k] R T fun u T'=>u=.bool (lt x y)∧I L T'
 swap:∀L T (i k:Nat),I L T→i<L.length→k<L.length→iI P t v "Swap" [.int .i64 i,.int .i64 k] R T fun _ T'=>I (dK L i k) T'
section
variable{R:aD}{t:TypeId}{v:Value}{α:Type}{lt:α->α->Bool}{I:List α->aB->Prop}
theorem SM(A:qN Tryz.prog R t v lt I)(V:SO lt)(L:List α)(T:aB)(h:I L T)(j:Nat)(W:j<L.length):
  Spec Tryz.prog 193 [.iface t v,.int .i64 j] R [T] λu H'=>∃T',H'=[T']/\u=.tuple #[]/\∃L',I L' T'/\L'.Perm L/\(∀k,j<k->L'[k]? =L[k]?)/\∀n,n<=L.length->j<n->Up lt L n j->fG lt L' n:=by
 have z:=A.lM L T h
 refine Spec.body Tryz.func193 rfl Tryz.results193 Tryz.ntmps193 rfl ?_
 refine .block ?_
 refine .loop (X:=Nat×List α×aB) (λy=>I y.2.1 y.2.2/\y.1<=j/\y.2.1.Perm L/\(∀k,j<k->y.2.1[k]? =L[k]?)/\∀n,n<=L.length->j<n->Up lt L n j->Up lt y.2.1 n y.1) (λy=>[(0,.iface t v),(1,iN y.1)]) (λy=>[y.2.2]) (λy=>y.1) (j,L,T) ⟨h,Nat.le_refl _,.refl _,λ_ _=>rfl,λ_ _ _ h=>h⟩ kE.c.c rH ?_
 rintro⟨i,f,H⟩ ⟨w,O,l,p,r⟩
 simp only at w O l p r⊢
 have Y:=l.length_eq
 obtain⟨x,B⟩:∃x,f[i]? =some x:=⟨_,bu (by omega)⟩
 obtain⟨y,C⟩:∃y,f[cg i]? =some y:=⟨_,bu (by unfold cg;omega)⟩
 refine .block<|.sr<|.mo rfl ?_
 refine .q (.i64 ((i:Int)-1) .sub ⟨rfl,by omega,by omega⟩) ?_
 refine .q (.i64 ((cg i:Nat):Int) .quo ⟨Cr,by omega,by unfold cg;omega⟩) ?_
 refine .ag rfl<|.zs<|.sr<|.mo rfl<|.mo rfl<|.q .bK<|.mo rfl ?_
 refine .split (t:=11) rfl (λd=>?_) (λd=>?_)
 refine .gF d<|.gF d<|.gF d<|.gF d<|.gF d<|.q (.aO d) ?_
 refine .zn<|.hY ?_
 refine .exit (bq (ml (bz (bs ?_))))
 refine iT _ .none rH ?_
 ·have F:cg i=i:=by simp at d;omega
  refine⟨_,rfl,rfl,f,w,l,p,λn o m g=>?_⟩
  have M:i=0:=by
   rcases Nat.eq_zero_or_pos i with e|e
   ·exact e
   ·have:=fU e;omega
  subst M
  exact(r n o m g).Ck
 refine .gT d<|.mo rfl<|.gT d<|.mo rfl<|.gT d<|.mo rfl<|.gT d ?_
 refine .mm (A.less f H i (cg i) x y w B C) (λu J g=>?_)
 obtain⟨rfl,D⟩:=g
 refine .gT d<|.q .not<|.q (.aN d) ?_
 refine .zn ?_
 refine .cond rfl (λs=>?_) λs=>?_
 refine .exit (bq (ml (bz (bs ?_))))
 refine iT _ .none rH ?_
 ·refine⟨_,rfl,rfl,f,D,l,p,λn o m g=>(r n o m g).stop λa b E z=>?_⟩
  rw[C]at E;rw[B]at z
  cases E;cases z
  simpa using s
 refine .kn<|.sr<|.mo rfl<|.mo rfl<|.mo rfl ?_
 refine .mm (A.swap f J (cg i) i D (by unfold cg;omega) (by omega)) (λu K N=>?_)
 refine .zn<|.region<|.mo rfl<|.ag rfl<|.nil<|bf ?_
 ·have S:lt x y=true:=by simpa using s
  have F:cg i≠i:=by simp at d;omega
  have G:0<i:=by
   rcases Nat.eq_zero_or_pos i with e|e
   ·subst e;exact absurd rfl F
   ·exact e
  have U:=fU G
  exact aP (cg i,dK f (cg i) i,K) ⟨N,by omega,uB.trans l,λk Q=>by
   rw[gP (by omega) (by omega),if_neg (by omega),if_neg (by omega)];exact p k Q,λn o m g=>(r n o m g).step V G (by omega) (by omega) B C S⟩ U kE.c.c rH
theorem D1(hi:qN Tryz.prog R t v lt I)(p:SO lt)(L:List α)(T:aB)(h:I L T)(g n:Nat)(a8:g<=n)(hn:n<=L.length):
  Spec Tryz.prog 190 [.iface t v,.int .i64 g,.int .i64 n] R [T] λu H'=>∃T',H'=[T']/\∃L' m,I L' T'/\u=.bool m/\L'.Perm L/\(∀k,n<=k->L'[k]? =L[k]?)/\(ma lt L n g->(m=true->fG lt L' n)/\(m=false->Up lt L' n g)):=by
 have O:=hi.lM L T h
 refine Spec.body Tryz.func190 rfl Tryz.results190 Tryz.ntmps190 rfl ?_
 refine .sr<|.ag rfl<|.z<|.mo rfl<|.ag rfl<|.zs<|.block ?_
 refine .loop (X:=Nat×List α×aB) (λy=>I y.2.1 y.2.2/\g<=y.1/\y.1<=n/\y.2.1.Perm L/\(∀k,n<=k->y.2.1[k]? =L[k]?)/\(ma lt L n g->ma lt y.2.1 n y.1/\(y.1≠g->gn lt y.2.1 (cg y.1) y.1))) (λy=>[(0,.iface t v),(1,iN g),(2,iN n),(7,iN y.1)]) (λy=>[y.2.2]) (λy=>n-y.1) (g,L,T) ⟨h,Nat.le_refl _,a8,.refl _,λ_ _=>rfl,λh=>⟨h,λe=>absurd rfl e⟩⟩ kE.c.c.c.c rH ?_
 rintro⟨i,l,Z⟩ ⟨U,a9,b0,N,V,E⟩
 simp only at U a9 b0 N V E⊢
 have hl:=N.length_eq
 refine .block<|.sr<|.mo rfl ?_
 refine .ia (2*i) .mul ?_
 refine .ia (2*i+1) .add ?_
 refine .ag rfl<|.zs<|.sr<|.mo rfl<|.mo rfl<|.q .geq<|.mo rfl ?_
 refine .split (t:=18) rfl (λC=>?_) (λC=>?_)
 refine .gF C<|.gF C<|.q (.aO C) ?_
 refine .zn<|.hY ?_
 have a7:n<=2*i+1:=by
  first
   |(simp at C;omega)
   |(simp at h1;omega)
 refine .exit (bq (ml (bz (bs ?_))))
 refine ax<|.sr<|.mo rfl<|.mo rfl<|.q .gtr<|.az rfl ?_
 refine .ret (bk _ (.one (.tmp rfl)) rH ?_)
 ·refine⟨_,rfl,l,decide (g<i),by assumption,by simp,N,V,λd=>?_⟩
  have G:Up lt l n i:=(E d).1.stop λc s w f a b F O=>by
   first
    |(simp only[cg]at f;omega)
    |(rw[Y]at F;cases F;exact p.jY _ _ _ (W c b s w f O) (by simpa using S))
  refine⟨λA=>?_,λA=>?_⟩
  ·have B:i≠g:=by simp at A;omega
   exact G.stop ((E d).2 B)
  ·have B:i=g:=by simp at A;omega
   rw[<-B];exact G
 refine .gT C<|.mo rfl<|.gT C<|.q .lss<|.q (.aN C) ?_
 refine .zn ?_
 refine .cond rfl (λh1=>?_) λh1=>?_
 have a7:n<=2*i+1:=by
  first
   |(simp at C;omega)
   |(simp at h1;omega)
 refine .exit (bq (ml (bz (bs ?_))))
 refine ax<|.sr<|.mo rfl<|.mo rfl<|.q .gtr<|.az rfl ?_
 refine .ret (bk _ (.one (.tmp rfl)) rH ?_)
 ·refine⟨_,rfl,l,decide (g<i),by assumption,by simp,N,V,λd=>?_⟩
  have G:Up lt l n i:=(E d).1.stop λc s w f a b F O=>by
   first
    |(simp only[cg]at f;omega)
    |(rw[Y]at F;cases F;exact p.jY _ _ _ (W c b s w f O) (by simpa using S))
  refine⟨λA=>?_,λA=>?_⟩
  ·have B:i≠g:=by simp at A;omega
   exact G.stop ((E d).2 B)
  ·have B:i=g:=by simp at A;omega
   rw[<-B];exact G
 have Q:2*i+1<n:=by simp at C;omega
 obtain⟨y0,Y⟩:∃y,l[i]? =some y:=⟨_,bu (by omega)⟩
 obtain⟨J,o⟩:∃y,l[2*i+1]? =some y:=⟨_,bu (by omega)⟩
 refine .kn<|.sr<|.mo rfl<|.ag rfl<|.zs ?_
 refine bx.cut (X:=Nat×aB×α) (λz=>I l z.2.1/\0<z.1/\z.1<n/\cg z.1=i/\l[z.1]? =some z.2.2/\∀c u,0<c->c<n->cg c=i->l[c]? =some u->lt u z.2.2=false) (λz=>[(0,.iface t v),(1,iN g),(2,iN n),(7,iN i),(9,iN z.1)]) (λz=>[z.2.1]) ?_ ?_
 refine .sr<|.mo rfl ?_
 refine .ia (2*i+2) .add ?_
 refine .ag rfl<|.z<|.mo rfl<|.mo rfl<|.q .lss<|.mo rfl ?_
 refine .split (t:=28) rfl (λr=>?_) (λr=>?_)
 have a2:2*i+2<n:=by simp at r;omega
 obtain⟨x2,D⟩:∃y,l[2*i+2]? =some y:=⟨_,bu (by omega)⟩
 refine .gT r<|.mo rfl<|.gT r<|.mo rfl<|.gT r<|.mo rfl<|.gT r ?_
 refine .mm (hi.less l Z (2*i+2) (2*i+1) x2 J U D o) (λu K d=>?_)
 obtain⟨rfl,M⟩:=d
 refine .q (.aO r) ?_
 refine .zn ?_
 refine .cond rfl (λH=>?_) λH=>?_
 refine .region<|.mo rfl<|.ag rfl<|.nil ?_
 ·first
   |exact ay (2*i+2,K,x2) ⟨M,by simp only;omega,a2,by simp only[cg];omega,D,λc u s w f d=>by
     have:c=2*i+1\/c=2*i+2:=by simp only[cg]at f;omega
     rcases this with rfl|rfl
     ·rw[o]at d;cases d;exact p.mK (by simpa using H)
     ·rw[D]at d;cases d;exact p.im _⟩ kE.c.c.c.c.c rH
   |exact ay (2*i+1,K,J) ⟨M,by simp only;omega,Q,by simp only[cg];omega,o,λc u s w f d=>by
     have:c=2*i+1\/c=2*i+2:=by simp only[cg]at f;omega
     rcases this with rfl|rfl
     ·rw[o]at d;cases d;exact p.im _
     ·rw[D]at d;cases d;simpa using H⟩ kE.c.c.c.c.c rH
   |exact ay (2*i+1,Z,J) ⟨U,by simp only;omega,Q,by simp only[cg];omega,o,λc u s w f d=>by
     have:c=2*i+1:=by simp only[cg]at f;simp at r;omega
     subst this
     rw[o]at d;cases d;exact p.im _⟩ kE.c.c.c.c.c rH
 refine .skip ?_
 ·first
   |exact ay (2*i+2,K,x2) ⟨M,by simp only;omega,a2,by simp only[cg];omega,D,λc u s w f d=>by
     have:c=2*i+1\/c=2*i+2:=by simp only[cg]at f;omega
     rcases this with rfl|rfl
     ·rw[o]at d;cases d;exact p.mK (by simpa using H)
     ·rw[D]at d;cases d;exact p.im _⟩ kE.c.c.c.c.c rH
   |exact ay (2*i+1,K,J) ⟨M,by simp only;omega,Q,by simp only[cg];omega,o,λc u s w f d=>by
     have:c=2*i+1\/c=2*i+2:=by simp only[cg]at f;omega
     rcases this with rfl|rfl
     ·rw[o]at d;cases d;exact p.im _
     ·rw[D]at d;cases d;simpa using H⟩ kE.c.c.c.c.c rH
   |exact ay (2*i+1,Z,J) ⟨U,by simp only;omega,Q,by simp only[cg];omega,o,λc u s w f d=>by
     have:c=2*i+1:=by simp only[cg]at f;simp at r;omega
     subst this
     rw[o]at d;cases d;exact p.im _⟩ kE.c.c.c.c.c rH
 refine .gF r<|.gF r<|.gF r<|.gF r<|.q (.aN r) ?_
 refine .zn<|.cS<|.skip ?_
 ·first
   |exact ay (2*i+2,K,x2) ⟨M,by simp only;omega,a2,by simp only[cg];omega,D,λc u s w f d=>by
     have:c=2*i+1\/c=2*i+2:=by simp only[cg]at f;omega
     rcases this with rfl|rfl
     ·rw[o]at d;cases d;exact p.mK (by simpa using H)
     ·rw[D]at d;cases d;exact p.im _⟩ kE.c.c.c.c.c rH
   |exact ay (2*i+1,K,J) ⟨M,by simp only;omega,Q,by simp only[cg];omega,o,λc u s w f d=>by
     have:c=2*i+1\/c=2*i+2:=by simp only[cg]at f;omega
     rcases this with rfl|rfl
     ·rw[o]at d;cases d;exact p.im _
     ·rw[D]at d;cases d;simpa using H⟩ kE.c.c.c.c.c rH
   |exact ay (2*i+1,Z,J) ⟨U,by simp only;omega,Q,by simp only[cg];omega,o,λc u s w f d=>by
     have:c=2*i+1:=by simp only[cg]at f;simp at r;omega
     subst this
     rw[o]at d;cases d;exact p.im _⟩ kE.c.c.c.c.c rH
 intro y hy
 obtain⟨j,T3,x⟩:=y
 obtain⟨a3,a0,a4,a1,hx,W⟩:=hy
 simp only at a3 a0 a4 a1 hx W⊢
 have b2:i<j:=a1▸fU a0
 refine ax<|.seq<|.sr<|.mo rfl<|.mo rfl<|.mo rfl ?_
 refine .mm (hi.less l T3 j i x y0 a3 hx Y) (λu T4 d=>?_)
 obtain⟨rfl,a5⟩:=d
 refine .q .not<|.zn ?_
 refine .cond rfl (λS=>?_) λS=>?_
 refine .exit (bq (ml (bz (bs ?_))))
 refine ax<|.sr<|.mo rfl<|.mo rfl<|.q .gtr<|.az rfl ?_
 refine .ret (bk _ (.one (.tmp rfl)) rH ?_)
 ·refine⟨_,rfl,l,decide (g<i),by assumption,by simp,N,V,λd=>?_⟩
  have G:Up lt l n i:=(E d).1.stop λc s w f a b F O=>by
   first
    |(simp only[cg]at f;omega)
    |(rw[Y]at F;cases F;exact p.jY _ _ _ (W c b s w f O) (by simpa using S))
  refine⟨λA=>?_,λA=>?_⟩
  ·have B:i≠g:=by simp at A;omega
   exact G.stop ((E d).2 B)
  ·have B:i=g:=by simp at A;omega
   rw[<-B];exact G
 refine .kn<|.sr<|.mo rfl<|.mo rfl<|.mo rfl ?_
 refine .mm (hi.swap l T4 i j a5 (by omega) (by omega)) (λu T5 a6=>?_)
 refine .zn<|.region<|.mo rfl<|.ag rfl<|.nil<|bf ?_
 ·have b1:lt x y0=true:=by simpa using S
  exact aP (j,dK l i j,T5) ⟨a6,by simp only;omega,by simp only;omega,uB.trans N,λk hk=>by
   rw[gP (by omega) (by omega),if_neg (by omega),if_neg (by omega)];exact V k hk,λd=>by
    have:=(E d).1.step p a0 a4 (by omega) a1 hx Y b1 W
    exact⟨this.1,λ_=>this.2⟩⟩ (by simp only;omega) kE.c.c.c.c rH
theorem PT(hi:qN Tryz.prog R t v lt I)(so:SO lt)(L:List α)(T:aB)(x:Value)(a:α)(hp:iI Tryz.prog t v "Push" [x] R T fun _ T'=>I (L++[a]) T')(hh:fG lt L L.length):
  Spec Tryz.prog 153 [.iface t v,x] R [T] fun u H'=>∃T',H'=[T']∧u=.tuple #[]∧∃L',I L' T'∧L'.Perm (L++[a])∧fG lt L' L'.length:=by
 refine Spec.body Tryz.func153 rfl Tryz.results153 Tryz.ntmps153 rfl ?_
 refine .sr<|.mo rfl<|.mo rfl ?_
 refine .mm hp (fun u T1 h1=>?_)
 have hb:=hi.lM _ T1 h1
 simp only[List.length_append,List.length_singleton]at hb
 refine .zn<|.region<|.mo rfl<|.mo rfl ?_
 refine .mm (hi.len _ T1 h1) (fun u T2 hu=>?_)
 obtain⟨rfl,h2⟩:=hu
 refine .q (.i64 ((L.length:Nat):Int) .sub ⟨by simp,by omega,by omega⟩) ?_
 refine .cY (SM hi so _ T2 h2 L.length (by simp)) (fun u T3 hu=>?_)
 obtain⟨rfl,L3,h3,hp3,hs3,hh3⟩:=hu
 have hl3:=hp3.length_eq
 refine .nil<|iT _ .none (aW.refl _) ?_
 ·exact⟨_,rfl,rfl,L3,h3,hp3,by rw[hl3];exact hh3 _ (Nat.le_refl _) (by simp) (by simp;exact hh.push a)⟩
theorem Ov{L a:List α}{n:Nat}{x:α}(c:L.length=n+1)(e:L[n]? =some x)(d:L.Perm a):L=L.take n++[x]/\(L.take n).length=n/\a.Perm (x::L.take n):=by
 have b:L=L.take n++[x]:=by
  apply List.ext_getElem?
  intro k
  rcases Nat.lt_trichotomy k n with h|h|h
  ·rw[List.getElem?_append_left (by simp;omega),List.getElem?_take_of_lt h]
  ·subst h
   rw[List.getElem?_append_right (by simp;omega),e]
   simp[c]
  ·rw[List.getElem?_eq_none (by omega),List.getElem?_eq_none (by simp;omega)]
 refine⟨b,by simp;omega,d.symm.trans ?_⟩
 have:(L.take n++[x]).Perm (x::L.take n):=by simp
 rw[<-b]at this
 exact this
theorem fG.Sj{L:List α}{n:Nat}(h:fG lt L n)(b:n<=L.length):fG lt (L.take n) (L.take n).length:=by
 have e:(L.take n).length=n:=by simp;omega
 rw[e]
 exact h.gY λk a=>List.getElem?_take_of_lt a
theorem PR(hi:qN Tryz.prog R t v lt I)(so:SO lt)(L:List α)(T:aB)(h:I L T)(x:α)(hx:L[0]? =some x)(hh:fG lt L L.length)(px:α→Value)(J:List α→aB→Prop)
  (hp:∀L' T',I (L'++[x]) T'→L'.length+1=L.length→iI Tryz.prog t v "Pop" [] R T' fun u T''=>u=px x∧J L' T''):
  Spec Tryz.prog 149 [.iface t v] R [T] fun u H'=>∃T',H'=[T']∧u=px x∧∃L',J L' T'∧L.Perm (x::L')∧fG lt L' L'.length:=by
 have hb:=hi.lM L T h
 have hpos:0<L.length:=(List.getElem?_eq_some_iff.1 hx).1
 obtain⟨n,hn⟩:∃n,L.length=n+1:=⟨L.length-1,by omega⟩
 refine Spec.body Tryz.func149 rfl Tryz.results149 Tryz.ntmps149 rfl ?_
 refine .sr<|.ag rfl<|.z<|.mo rfl ?_
 refine .mm (hi.len L T h) (fun u T1 hu=>?_)
 obtain⟨rfl,h1⟩:=hu
 refine .q (.i64 ((n:Nat):Int) .sub ⟨by omega,by omega,by omega⟩) ?_
 refine .ag rfl<|.z<|.mo rfl<|.mo rfl ?_
 refine .mm (hi.swap L T1 0 n h1 (by omega) (by omega)) (fun u T2 h2=>?_)
 refine .z<|.mo rfl<|.mo rfl ?_
 refine .cY (D1 hi so _ T2 h2 0 n (by omega) (by rw[pK];omega)) (fun u T3 hu=>?_)
 obtain⟨L3,m,h3,rfl,hp3,hs3,hh3⟩:=hu
 have hx3:L3[n]? =some x:=by rw[hs3 n (Nat.le_refl _),gP (by omega) (by omega),if_pos rfl,hx]
 have hl3:=hp3.length_eq
 rw[pK]at hl3
 obtain⟨e1,e2,e3⟩:=Ov (by omega) hx3 (hp3.trans uB)
 have hhole:ma lt (dK L 0 n) n 0:=(hh.mono (by omega)).hole so (by omega) fun k hk hk0=>by rw[gP (by omega) (by omega),if_neg (by omega),if_neg hk0]
 have hH:fG lt L3 n:=by
  cases m with
  |true=>exact(hh3 hhole).1 rfl
  |false=>exact((hh3 hhole).2 rfl).Ck
 refine .z<|.mo rfl ?_
 rw[e1]at h3
 refine .mm (hp _ T3 h3 (by omega)) (fun u T4 hu=>?_)
 obtain⟨rfl,h4⟩:=hu
 refine .ag rfl<|.zn ?_
 refine .ret (bk _ (.one (.tmp rfl)) (aW.refl _) ?_)
 ·exact⟨_,rfl,rfl,_,h4,e3,hH.Sj (by omega)⟩
end
end Go.Proofs.YtdljmchhecoakaaGreat

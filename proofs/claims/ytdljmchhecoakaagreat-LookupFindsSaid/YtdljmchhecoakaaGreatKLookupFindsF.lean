/- What the law 'LookupFinds' uses. No condition. -/
import Derived.Test.YtdljmchhecoakaaGreatChecked
import Derived.Test.YtdljmchhecoakaaGreatKLookupFindsB
namespace Go.Proofs.YtdljmchhecoakaaGreat
open Tryz
set_option linter.unusedVariables false
theorem vj:cq prog 3 (.int .i64):=⟨underlying3⟩
theorem zi:cS prog 3 false:=⟨isAgg3⟩
theorem MI:Sz prog 3 1:=⟨sizeOf3⟩
theorem FO:By prog 3 8:=⟨λw=>⟨_,typeInfo3 w,rfl⟩⟩
theorem Oe:Zr prog 3 (.int .i64 0):=⟨zeroValue3⟩
theorem zx:cq prog 4 (.bool):=⟨underlying4⟩
theorem Fg:cS prog 4 false:=⟨isAgg4⟩
theorem MM:Sz prog 4 1:=⟨sizeOf4⟩
theorem FR:By prog 4 1:=⟨λw=>⟨_,typeInfo4 w,rfl⟩⟩
theorem Oi:Zr prog 4 (.bool false):=⟨zeroValue4⟩
theorem sS:cq prog 9 (.string):=⟨underlying9⟩
theorem vh:cS prog 9 false:=⟨isAgg9⟩
theorem MY:Sz prog 9 1:=⟨sizeOf9⟩
theorem FU:By prog 9 16:=⟨λw=>⟨_,typeInfo9 w,rfl⟩⟩
theorem Om:Zr prog 9 (.string {data:=#[]}):=⟨zeroValue9⟩
theorem Nt:cq prog 22 (.slice 164):=⟨underlying22⟩
theorem EY:cS prog 22 false:=⟨isAgg22⟩
theorem Mx:Sz prog 22 1:=⟨sizeOf22⟩
theorem Nu:cq prog 23 (.slice 169):=⟨underlying23⟩
theorem E0:cS prog 23 false:=⟨isAgg23⟩
theorem Mz:Sz prog 23 1:=⟨sizeOf23⟩
theorem E2:cS prog 25 true:=⟨isAgg25⟩
theorem MB:Sz prog 25 2:=⟨sizeOf25⟩
theorem N8:Zr prog 25 (.agg [sZ,sZ].toArray):=⟨zeroValue25⟩
theorem KD:bc prog 25 0 0:=bc.of underlying25 rfl sizeOf22 rfl rfl
theorem KE:bc prog 25 1 1:=bc.of underlying25 rfl sizeOf23 rfl rfl
theorem LU:ey prog 25 [(0,1),(1,1)] [sZ,sZ]:=⟨_,underlying25,zeroValue25,λw=>by simp[sizeOf22,sizeOf23]⟩
theorem Ny:cq prog 26 (.slice 51):=⟨underlying26⟩
theorem E3:cS prog 26 false:=⟨isAgg26⟩
theorem E7:cS prog 28 true:=⟨isAgg28⟩
theorem MF:Sz prog 28 3:=⟨sizeOf28⟩
theorem KO:bc prog 28 0 0:=bc.of underlying28 rfl sizeOf25 rfl rfl
theorem KP:bc prog 28 1 2:=bc.of underlying28 rfl sizeOf26 rfl rfl
theorem NC:cq prog 30 (.pointer 155):=⟨underlying30⟩
theorem NE:cq prog 31 (.pointer 147):=⟨underlying31⟩
theorem Fa:cS prog 31 false:=⟨isAgg31⟩
theorem zj:cS prog 44 true:=⟨isAgg44⟩
theorem zw:Sz prog 44 2:=⟨sizeOf44⟩
theorem KZ:bc prog 44 0 0:=bc.of underlying44 rfl sizeOf9 rfl rfl
theorem K0:bc prog 44 1 1:=bc.of underlying44 rfl sizeOf9 rfl rfl
theorem L9:ey prog 44 [(0,1),(1,1)] [.string {data:=#[]},.string {data:=#[]}]:=⟨_,underlying44,zeroValue44,λw=>by simp[sizeOf9]⟩
theorem NJ:cq prog 45 (.int .u64):=⟨underlying45⟩
theorem Fh:cS prog 45 false:=⟨isAgg45⟩
theorem MN:Sz prog 45 1:=⟨sizeOf45⟩
theorem NK:cq prog 46 (.slice 119):=⟨underlying46⟩
theorem Fi:cS prog 46 false:=⟨isAgg46⟩
theorem MO:Sz prog 46 1:=⟨sizeOf46⟩
theorem NL:cq prog 47 (.slice 121):=⟨underlying47⟩
theorem Fj:cS prog 47 false:=⟨isAgg47⟩
theorem MP:Sz prog 47 1:=⟨sizeOf47⟩
theorem Fk:cS prog 49 true:=⟨isAgg49⟩
theorem MQ:Sz prog 49 7:=⟨sizeOf49⟩
theorem K2:bc prog 49 0 0:=bc.of underlying49 rfl sizeOf9 rfl rfl
theorem K3:bc prog 49 1 1:=bc.of underlying49 rfl sizeOf9 rfl rfl
theorem K4:bc prog 49 2 2:=bc.of underlying49 rfl sizeOf9 rfl rfl
theorem K5:bc prog 49 3 3:=bc.of underlying49 rfl sizeOf9 rfl rfl
theorem K6:bc prog 49 4 4:=bc.of underlying49 rfl sizeOf44 rfl rfl
theorem K7:bc prog 49 5 6:=bc.of underlying49 rfl sizeOf9 rfl rfl
theorem Ma:ey prog 49 [(0,1),(1,1),(2,1),(3,1),(4,2),(6,1)] [.string {data:=#[]},.string {data:=#[]},.string {data:=#[]},.string {data:=#[]},.string {data:=#[]},.string {data:=#[]},.string {data:=#[]}]:=⟨_,underlying49,zeroValue49,λw=>by simp[sizeOf44,sizeOf9]⟩
theorem Fl:cS prog 51 true:=⟨isAgg51⟩
theorem MR:Sz prog 51 12:=⟨sizeOf51⟩
theorem FT:By prog 51 200:=⟨λw=>⟨_,typeInfo51 w,rfl⟩⟩
theorem Oj:Zr prog 51 (.agg [.int .i64 0,sZ,sZ,sZ,.string {data:=#[]},.string {data:=#[]},.string {data:=#[]},.string {data:=#[]},.string {data:=#[]},.string {data:=#[]},.string {data:=#[]},.int .u64 0].toArray):=⟨zeroValue51⟩
theorem K8:bc prog 51 0 0:=bc.of underlying51 rfl sizeOf3 rfl rfl
theorem K9:bc prog 51 1 1:=bc.of underlying51 rfl sizeOf46 rfl rfl
theorem La:bc prog 51 2 2:=bc.of underlying51 rfl sizeOf46 rfl rfl
theorem Lb:bc prog 51 3 3:=bc.of underlying51 rfl sizeOf47 rfl rfl
theorem NM:cq prog 70 (.slice 4):=⟨underlying70⟩
theorem Fm:cS prog 70 false:=⟨isAgg70⟩
theorem NO:cq prog 76 (.slice 182):=⟨underlying76⟩
theorem Fo:cS prog 76 false:=⟨isAgg76⟩
theorem MT:Sz prog 76 1:=⟨sizeOf76⟩
theorem NP:cq prog 79 (.slice 95):=⟨underlying79⟩
theorem Fp:cS prog 79 false:=⟨isAgg79⟩
theorem MU:Sz prog 79 1:=⟨sizeOf79⟩
theorem Fq:cS prog 81 true:=⟨isAgg81⟩
theorem MV:Sz prog 81 2:=⟨sizeOf81⟩
theorem Ok:Zr prog 81 (.agg [sZ,.int .i64 0].toArray):=⟨zeroValue81⟩
theorem Lc:bc prog 81 0 0:=bc.of underlying81 rfl sizeOf79 rfl rfl
theorem Ld:bc prog 81 1 1:=bc.of underlying81 rfl sizeOf3 rfl rfl
theorem Mb:ey prog 81 [(0,1),(1,1)] [sZ,.int .i64 0]:=⟨_,underlying81,zeroValue81,λw=>by simp[sizeOf3,sizeOf79]⟩
theorem NQ:cq prog 84 (.slice 93):=⟨underlying84⟩
theorem Ft:cS prog 84 false:=⟨isAgg84⟩
theorem MW:Sz prog 84 1:=⟨sizeOf84⟩
theorem Fu:cS prog 86 true:=⟨isAgg86⟩
theorem MX:Sz prog 86 2:=⟨sizeOf86⟩
theorem Ol:Zr prog 86 (.agg [sZ,.int .i64 0].toArray):=⟨zeroValue86⟩
theorem Le:bc prog 86 0 0:=bc.of underlying86 rfl sizeOf84 rfl rfl
theorem Lf:bc prog 86 1 1:=bc.of underlying86 rfl sizeOf3 rfl rfl
theorem Mc:ey prog 86 [(0,1),(1,1)] [sZ,.int .i64 0]:=⟨_,underlying86,zeroValue86,λw=>by simp[sizeOf3,sizeOf84]⟩
theorem NR:cq prog 90 (.slice 199):=⟨underlying90⟩
theorem Fv:cS prog 90 false:=⟨isAgg90⟩
theorem MZ:Sz prog 90 1:=⟨sizeOf90⟩
theorem NS:cq prog 91 (.slice 9):=⟨underlying91⟩
theorem Fw:cS prog 91 false:=⟨isAgg91⟩
theorem M6:Sz prog 91 1:=⟨sizeOf91⟩
theorem Fx:cS prog 93 true:=⟨isAgg93⟩
theorem M7:Sz prog 93 8:=⟨sizeOf93⟩
theorem FV:By prog 93 136:=⟨λw=>⟨_,typeInfo93 w,rfl⟩⟩
theorem On:Zr prog 93 (.agg [.string {data:=#[]},.string {data:=#[]},.string {data:=#[]},.bool false,sZ,sZ,sZ,.int .i64 0].toArray):=⟨zeroValue93⟩
theorem Lg:bc prog 93 0 0:=bc.of underlying93 rfl sizeOf44 rfl rfl
theorem Lh:bc prog 93 1 2:=bc.of underlying93 rfl sizeOf9 rfl rfl
theorem Li:bc prog 93 2 3:=bc.of underlying93 rfl sizeOf4 rfl rfl
theorem Lj:bc prog 93 3 4:=bc.of underlying93 rfl sizeOf90 rfl rfl
theorem Lk:bc prog 93 4 5:=bc.of underlying93 rfl sizeOf91 rfl rfl
theorem Ll:bc prog 93 5 6:=bc.of underlying93 rfl sizeOf76 rfl rfl
theorem Lm:bc prog 93 6 7:=bc.of underlying93 rfl sizeOf3 rfl rfl
theorem Md:ey prog 93 [(0,2),(2,1),(3,1),(4,1),(5,1),(6,1),(7,1)] [.string {data:=#[]},.string {data:=#[]},.string {data:=#[]},.bool false,sZ,sZ,sZ,.int .i64 0]:=⟨_,underlying93,zeroValue93,λw=>by simp[sizeOf3,sizeOf4,sizeOf44,sizeOf76,sizeOf9,sizeOf90,sizeOf91]⟩
theorem Fy:cS prog 95 true:=⟨isAgg95⟩
theorem M8:Sz prog 95 8:=⟨sizeOf95⟩
theorem FW:By prog 95 136:=⟨λw=>⟨_,typeInfo95 w,rfl⟩⟩
theorem Oo:Zr prog 95 (.agg [.string {data:=#[]},.string {data:=#[]},.string {data:=#[]},.bool false,sZ,sZ,sZ,.int .i64 0].toArray):=⟨zeroValue95⟩
theorem Ln:bc prog 95 0 0:=bc.of underlying95 rfl sizeOf44 rfl rfl
theorem Lo:bc prog 95 1 2:=bc.of underlying95 rfl sizeOf9 rfl rfl
theorem Lp:bc prog 95 2 3:=bc.of underlying95 rfl sizeOf4 rfl rfl
theorem Lq:bc prog 95 3 4:=bc.of underlying95 rfl sizeOf90 rfl rfl
theorem Lr:bc prog 95 4 5:=bc.of underlying95 rfl sizeOf91 rfl rfl
theorem Ls:bc prog 95 5 6:=bc.of underlying95 rfl sizeOf76 rfl rfl
theorem Lt:bc prog 95 6 7:=bc.of underlying95 rfl sizeOf3 rfl rfl
theorem Me:ey prog 95 [(0,2),(2,1),(3,1),(4,1),(5,1),(6,1),(7,1)] [.string {data:=#[]},.string {data:=#[]},.string {data:=#[]},.bool false,sZ,sZ,sZ,.int .i64 0]:=⟨_,underlying95,zeroValue95,λw=>by simp[sizeOf3,sizeOf4,sizeOf44,sizeOf76,sizeOf9,sizeOf90,sizeOf91]⟩
theorem Na:cq prog 101 (.slice 226):=⟨underlying101⟩
theorem EG:cS prog 101 false:=⟨isAgg101⟩
theorem Mg:Sz prog 101 1:=⟨sizeOf101⟩
theorem JF:bc prog 103 0 0:=bc.of underlying103 rfl sizeOf101 rfl rfl
theorem JG:bc prog 103 1 1:=bc.of underlying103 rfl sizeOf45 rfl rfl
theorem JH:bc prog 103 2 2:=bc.of underlying103 rfl sizeOf45 rfl rfl
theorem Ly:ey prog 103 [(0,1),(1,1),(2,1)] [sZ,.int .u64 0,.int .u64 0]:=⟨_,underlying103,zeroValue103,λw=>by simp[sizeOf101,sizeOf45]⟩
theorem zc:cS prog 117 true:=⟨isAgg117⟩
theorem zp:Sz prog 117 4:=⟨sizeOf117⟩
theorem Fz:By prog 117 64:=⟨λw=>⟨_,typeInfo117 w,rfl⟩⟩
theorem NT:Zr prog 117 (.agg [.string {data:=#[]},.string {data:=#[]},.string {data:=#[]},.string {data:=#[]}].toArray):=⟨zeroValue117⟩
theorem JI:bc prog 117 0 0:=bc.of underlying117 rfl sizeOf9 rfl rfl
theorem JJ:bc prog 117 1 1:=bc.of underlying117 rfl sizeOf44 rfl rfl
theorem JK:bc prog 117 2 3:=bc.of underlying117 rfl sizeOf9 rfl rfl
theorem Lz:ey prog 117 [(0,1),(1,2),(3,1)] [.string {data:=#[]},.string {data:=#[]},.string {data:=#[]},.string {data:=#[]}]:=⟨_,underlying117,zeroValue117,λw=>by simp[sizeOf44,sizeOf9]⟩
theorem zd:cS prog 119 true:=⟨isAgg119⟩
theorem zq:Sz prog 119 7:=⟨sizeOf119⟩
theorem FA:By prog 119 112:=⟨λw=>⟨_,typeInfo119 w,rfl⟩⟩
theorem NU:Zr prog 119 (.agg [.string {data:=#[]},.string {data:=#[]},.string {data:=#[]},.string {data:=#[]},.string {data:=#[]},.string {data:=#[]},.string {data:=#[]}].toArray):=⟨zeroValue119⟩
theorem JL:bc prog 119 0 0:=bc.of underlying119 rfl sizeOf44 rfl rfl
theorem JM:bc prog 119 1 2:=bc.of underlying119 rfl sizeOf9 rfl rfl
theorem JN:bc prog 119 2 3:=bc.of underlying119 rfl sizeOf117 rfl rfl
theorem LA:ey prog 119 [(0,2),(2,1),(3,4)] [.string {data:=#[]},.string {data:=#[]},.string {data:=#[]},.string {data:=#[]},.string {data:=#[]},.string {data:=#[]},.string {data:=#[]}]:=⟨_,underlying119,zeroValue119,λw=>by simp[sizeOf117,sizeOf44,sizeOf9]⟩
theorem EH:cS prog 121 true:=⟨isAgg121⟩
theorem Mh:Sz prog 121 8:=⟨sizeOf121⟩
theorem NV:Zr prog 121 (.agg [.bool false,.string {data:=#[]},.string {data:=#[]},.string {data:=#[]},.string {data:=#[]},.string {data:=#[]},.string {data:=#[]},.string {data:=#[]}].toArray):=⟨zeroValue121⟩
theorem JO:bc prog 121 0 0:=bc.of underlying121 rfl sizeOf4 rfl rfl
theorem JP:bc prog 121 1 1:=bc.of underlying121 rfl sizeOf119 rfl rfl
theorem LC:ey prog 121 [(0,1),(1,7)] [.bool false,.string {data:=#[]},.string {data:=#[]},.string {data:=#[]},.string {data:=#[]},.string {data:=#[]},.string {data:=#[]},.string {data:=#[]}]:=⟨_,underlying121,zeroValue121,λw=>by simp[sizeOf119,sizeOf4]⟩
theorem Nb:cq prog 144 (.map 236 238):=⟨underlying144⟩
theorem EI:cS prog 144 false:=⟨isAgg144⟩
theorem Nc:cq prog 145 (.map 117 238):=⟨underlying145⟩
theorem EJ:cS prog 145 false:=⟨isAgg145⟩
theorem JQ:bc prog 147 0 0:=bc.of underlying147 rfl sizeOf4 rfl rfl
theorem JR:bc prog 147 1 1:=bc.of underlying147 rfl sizeOf45 rfl rfl
theorem JS:bc prog 147 2 2:=bc.of underlying147 rfl sizeOf45 rfl rfl
theorem JT:bc prog 147 3 3:=bc.of underlying147 rfl sizeOf3 rfl rfl
theorem JU:bc prog 147 4 4:=bc.of underlying147 rfl sizeOf144 rfl rfl
theorem JV:bc prog 147 5 5:=bc.of underlying147 rfl sizeOf145 rfl rfl
theorem LD:ey prog 147 [(0,1),(1,1),(2,1),(3,1),(4,1),(5,1)] [.bool false,.int .u64 0,.int .u64 0,.int .i64 0,.map none,.map none]:=⟨_,underlying147,zeroValue147,λw=>by simp[sizeOf144,sizeOf145,sizeOf3,sizeOf4,sizeOf45]⟩
theorem EK:cS prog 150 true:=⟨isAgg150⟩
theorem Mi:Sz prog 150 9:=⟨sizeOf150⟩
theorem JW:bc prog 150 0 0:=bc.of underlying150 rfl sizeOf119 rfl rfl
theorem JX:bc prog 150 1 7:=bc.of underlying150 rfl sizeOf45 rfl rfl
theorem JY:bc prog 150 2 8:=bc.of underlying150 rfl sizeOf45 rfl rfl
theorem LF:ey prog 150 [(0,7),(7,1),(8,1)] [.string {data:=#[]},.string {data:=#[]},.string {data:=#[]},.string {data:=#[]},.string {data:=#[]},.string {data:=#[]},.string {data:=#[]},.int .u64 0,.int .u64 0]:=⟨_,underlying150,zeroValue150,λw=>by simp[sizeOf119,sizeOf45]⟩
theorem Nf:cq prog 151 (.pointer 150):=⟨underlying151⟩
theorem EL:cS prog 151 false:=⟨isAgg151⟩
theorem Mj:Sz prog 151 1:=⟨sizeOf151⟩
theorem FB:By prog 151 8:=⟨λw=>⟨_,typeInfo151 w,rfl⟩⟩
theorem NW:Zr prog 151 (.pointer none):=⟨zeroValue151⟩
theorem Ng:cq prog 153 (.slice 159):=⟨underlying153⟩
theorem EM:cS prog 153 false:=⟨isAgg153⟩
theorem Mk:Sz prog 153 1:=⟨sizeOf153⟩
theorem JZ:bc prog 155 0 0:=bc.of underlying155 rfl sizeOf4 rfl rfl
theorem J0:bc prog 155 1 1:=bc.of underlying155 rfl sizeOf153 rfl rfl
theorem J1:bc prog 155 2 2:=bc.of underlying155 rfl sizeOf3 rfl rfl
theorem LG:ey prog 155 [(0,1),(1,1),(2,1)] [.bool false,sZ,.int .i64 0]:=⟨_,underlying155,zeroValue155,λw=>by simp[sizeOf153,sizeOf3,sizeOf4]⟩
theorem J2:bc prog 157 0 0:=bc.of underlying157 rfl sizeOf45 rfl rfl
theorem J3:bc prog 157 1 1:=bc.of underlying157 rfl sizeOf25 rfl rfl
theorem LH:ey prog 157 [(0,1),(1,2)] [.int .u64 0,sZ,sZ]:=⟨_,underlying157,zeroValue157,λw=>by simp[sizeOf25,sizeOf45]⟩
theorem EN:cS prog 159 true:=⟨isAgg159⟩
theorem Ml:Sz prog 159 4:=⟨sizeOf159⟩
theorem FC:By prog 159 80:=⟨λw=>⟨_,typeInfo159 w,rfl⟩⟩
theorem NX:Zr prog 159 (.agg [.int .u64 0,sZ,sZ,sZ].toArray):=⟨zeroValue159⟩
theorem J4:bc prog 159 0 0:=bc.of underlying159 rfl sizeOf157 rfl rfl
theorem J5:bc prog 159 1 3:=bc.of underlying159 rfl sizeOf76 rfl rfl
theorem LI:ey prog 159 [(0,3),(3,1)] [.int .u64 0,sZ,sZ,sZ]:=⟨_,underlying159,zeroValue159,λw=>by simp[sizeOf157,sizeOf76]⟩
theorem Nh:cq prog 162 (.slice 167):=⟨underlying162⟩
theorem EO:cS prog 162 false:=⟨isAgg162⟩
theorem Mm:Sz prog 162 1:=⟨sizeOf162⟩
theorem EP:cS prog 164 true:=⟨isAgg164⟩
theorem Mn:Sz prog 164 2:=⟨sizeOf164⟩
theorem FD:By prog 164 40:=⟨λw=>⟨_,typeInfo164 w,rfl⟩⟩
theorem NY:Zr prog 164 (.agg [.string {data:=#[]},sZ].toArray):=⟨zeroValue164⟩
theorem J6:bc prog 164 0 0:=bc.of underlying164 rfl sizeOf9 rfl rfl
theorem J7:bc prog 164 1 1:=bc.of underlying164 rfl sizeOf162 rfl rfl
theorem LJ:ey prog 164 [(0,1),(1,1)] [.string {data:=#[]},sZ]:=⟨_,underlying164,zeroValue164,λw=>by simp[sizeOf162,sizeOf9]⟩
theorem Ni:cq prog 165 (.slice 249):=⟨underlying165⟩
theorem ze:cS prog 165 false:=⟨isAgg165⟩
theorem Mo:Sz prog 165 1:=⟨sizeOf165⟩
theorem EQ:cS prog 167 true:=⟨isAgg167⟩
theorem Mp:Sz prog 167 3:=⟨sizeOf167⟩
theorem FE:By prog 167 64:=⟨λw=>⟨_,typeInfo167 w,rfl⟩⟩
theorem NZ:Zr prog 167 (.agg [.string {data:=#[]},sZ,sZ].toArray):=⟨zeroValue167⟩
theorem J8:bc prog 167 0 0:=bc.of underlying167 rfl sizeOf9 rfl rfl
theorem J9:bc prog 167 1 1:=bc.of underlying167 rfl sizeOf165 rfl rfl
theorem Ka:bc prog 167 2 2:=bc.of underlying167 rfl sizeOf90 rfl rfl
theorem LK:ey prog 167 [(0,1),(1,1),(2,1)] [.string {data:=#[]},sZ,sZ]:=⟨_,underlying167,zeroValue167,λw=>by simp[sizeOf165,sizeOf9,sizeOf90]⟩
theorem ER:cS prog 169 true:=⟨isAgg169⟩
theorem Mq:Sz prog 169 4:=⟨sizeOf169⟩
theorem FF:By prog 169 64:=⟨λw=>⟨_,typeInfo169 w,rfl⟩⟩
theorem N0:Zr prog 169 (.agg [.string {data:=#[]},.string {data:=#[]},.string {data:=#[]},.string {data:=#[]}].toArray):=⟨zeroValue169⟩
theorem Kb:bc prog 169 0 0:=bc.of underlying169 rfl sizeOf9 rfl rfl
theorem Kc:bc prog 169 1 1:=bc.of underlying169 rfl sizeOf44 rfl rfl
theorem Kd:bc prog 169 2 3:=bc.of underlying169 rfl sizeOf9 rfl rfl
theorem Nj:cq prog 177 (.slice 266):=⟨underlying177⟩
theorem Nk:cq prog 180 (.slice 263):=⟨underlying180⟩
theorem Nl:cq prog 182 (.slice 3):=⟨underlying182⟩
theorem ES:cS prog 182 false:=⟨isAgg182⟩
theorem Mt:Sz prog 182 1:=⟨sizeOf182⟩
theorem FG:By prog 182 24:=⟨λw=>⟨_,typeInfo182 w,rfl⟩⟩
theorem N1:Zr prog 182 (sZ):=⟨zeroValue182⟩
theorem Nn:cq prog 185 (.map 249 3):=⟨underlying185⟩
theorem ET:cS prog 185 false:=⟨isAgg185⟩
theorem Np:cq prog 188 (.map 269 3):=⟨underlying188⟩
theorem EU:cS prog 188 false:=⟨isAgg188⟩
theorem Ke:bc prog 190 0 0:=bc.of underlying190 rfl sizeOf25 rfl rfl
theorem Kf:bc prog 190 1 2:=bc.of underlying190 rfl sizeOf185 rfl rfl
theorem Kg:bc prog 190 2 3:=bc.of underlying190 rfl sizeOf31 rfl rfl
theorem Kh:bc prog 190 3 4:=bc.of underlying190 rfl sizeOf45 rfl rfl
theorem Ki:bc prog 190 4 5:=bc.of underlying190 rfl sizeOf188 rfl rfl
theorem Kj:bc prog 190 5 6:=bc.of underlying190 rfl sizeOf81 rfl rfl
theorem Kk:bc prog 190 6 8:=bc.of underlying190 rfl sizeOf3 rfl rfl
theorem LM:ey prog 190 [(0,2),(2,1),(3,1),(4,1),(5,1),(6,2),(8,1)] [sZ,sZ,.map none,.pointer none,.int .u64 0,.map none,sZ,.int .i64 0,.int .i64 0]:=⟨_,underlying190,zeroValue190,λw=>by simp[sizeOf185,sizeOf188,sizeOf25,sizeOf3,sizeOf31,sizeOf45,sizeOf81]⟩
theorem Nq:cq prog 195 (.slice 117):=⟨underlying195⟩
theorem EV:cS prog 199 true:=⟨isAgg199⟩
theorem Mu:Sz prog 199 5:=⟨sizeOf199⟩
theorem FH:By prog 199 56:=⟨λw=>⟨_,typeInfo199 w,rfl⟩⟩
theorem N2:Zr prog 199 (.agg [.int .i64 0,.string {data:=#[]},.string {data:=#[]},.int .i64 0,.int .i64 0].toArray):=⟨zeroValue199⟩
theorem Kl:bc prog 199 0 0:=bc.of underlying199 rfl sizeOf3 rfl rfl
theorem Km:bc prog 199 1 1:=bc.of underlying199 rfl sizeOf9 rfl rfl
theorem Kn:bc prog 199 2 2:=bc.of underlying199 rfl sizeOf9 rfl rfl
theorem Ko:bc prog 199 3 3:=bc.of underlying199 rfl sizeOf3 rfl rfl
theorem Kp:bc prog 199 4 4:=bc.of underlying199 rfl sizeOf3 rfl rfl
theorem LN:ey prog 199 [(0,1),(1,1),(2,1),(3,1),(4,1)] [.int .i64 0,.string {data:=#[]},.string {data:=#[]},.int .i64 0,.int .i64 0]:=⟨_,underlying199,zeroValue199,λw=>by simp[sizeOf3,sizeOf9]⟩
theorem Nr:cq prog 204 (.slice 280):=⟨underlying204⟩
theorem EW:cS prog 204 false:=⟨isAgg204⟩
theorem Mv:Sz prog 204 1:=⟨sizeOf204⟩
theorem Kq:bc prog 206 0 0:=bc.of underlying206 rfl sizeOf81 rfl rfl
theorem Kr:bc prog 206 1 2:=bc.of underlying206 rfl sizeOf9 rfl rfl
theorem Ks:bc prog 206 2 3:=bc.of underlying206 rfl sizeOf70 rfl rfl
theorem Kt:bc prog 206 3 4:=bc.of underlying206 rfl sizeOf76 rfl rfl
theorem Ku:bc prog 206 4 5:=bc.of underlying206 rfl sizeOf70 rfl rfl
theorem Kv:bc prog 206 5 6:=bc.of underlying206 rfl sizeOf204 rfl rfl
theorem LO:ey prog 206 [(0,2),(2,1),(3,1),(4,1),(5,1),(6,1)] [sZ,.int .i64 0,.string {data:=#[]},sZ,sZ,sZ,sZ]:=⟨_,underlying206,zeroValue206,λw=>by simp[sizeOf204,sizeOf70,sizeOf76,sizeOf81,sizeOf9]⟩
theorem Ns:cq prog 209 (.slice 291):=⟨underlying209⟩
theorem EX:cS prog 209 false:=⟨isAgg209⟩
theorem Mw:Sz prog 209 1:=⟨sizeOf209⟩
theorem Kw:bc prog 215 0 0:=bc.of underlying215 rfl sizeOf209 rfl rfl
theorem Kx:bc prog 215 1 1:=bc.of underlying215 rfl sizeOf4 rfl rfl
theorem LP:ey prog 215 [(0,1),(1,1)] [sZ,.bool false]:=⟨_,underlying215,zeroValue215,λw=>by simp[sizeOf209,sizeOf4]⟩
theorem EZ:cS prog 226 true:=⟨isAgg226⟩
theorem My:Sz prog 226 9:=⟨sizeOf226⟩
theorem FI:By prog 226 128:=⟨λw=>⟨_,typeInfo226 w,rfl⟩⟩
theorem N3:Zr prog 226 (.agg [.string {data:=#[]},.string {data:=#[]},.string {data:=#[]},.string {data:=#[]},.string {data:=#[]},.string {data:=#[]},.string {data:=#[]},.int .u64 0,.int .u64 0].toArray):=⟨zeroValue226⟩
theorem Ky:bc prog 226 0 0:=bc.of underlying226 rfl sizeOf119 rfl rfl
theorem Kz:bc prog 226 1 7:=bc.of underlying226 rfl sizeOf45 rfl rfl
theorem KA:bc prog 226 2 8:=bc.of underlying226 rfl sizeOf45 rfl rfl
theorem LQ:ey prog 226 [(0,7),(7,1),(8,1)] [.string {data:=#[]},.string {data:=#[]},.string {data:=#[]},.string {data:=#[]},.string {data:=#[]},.string {data:=#[]},.string {data:=#[]},.int .u64 0,.int .u64 0]:=⟨_,underlying226,zeroValue226,λw=>by simp[sizeOf119,sizeOf45]⟩
theorem E1:cS prog 231 false:=⟨isAgg231⟩
theorem MA:Sz prog 231 1:=⟨sizeOf231⟩
theorem N4:Zr prog 231 (.nilFunc):=⟨zeroValue231⟩
theorem Nv:cq prog 232 (.map 119 4):=⟨underlying232⟩
theorem zf:cS prog 236 true:=⟨isAgg236⟩
theorem zt:Sz prog 236 3:=⟨sizeOf236⟩
theorem N5:Zr prog 236 (.agg [.string {data:=#[]},.string {data:=#[]},.string {data:=#[]}].toArray):=⟨zeroValue236⟩
theorem LR:ey prog 236 [(0,2),(2,1)] [.string {data:=#[]},.string {data:=#[]},.string {data:=#[]}]:=⟨_,underlying236,zeroValue236,λw=>by simp[sizeOf44,sizeOf9]⟩
theorem Nw:cq prog 238 (.slice 151):=⟨underlying238⟩
theorem N6:Zr prog 238 (sZ):=⟨zeroValue238⟩
theorem Nx:cq prog 242 (.slice 325):=⟨underlying242⟩
theorem zg:cS prog 249 true:=⟨isAgg249⟩
theorem zu:Sz prog 249 2:=⟨sizeOf249⟩
theorem FJ:By prog 249 32:=⟨λw=>⟨_,typeInfo249 w,rfl⟩⟩
theorem N7:Zr prog 249 (.agg [.string {data:=#[]},.string {data:=#[]}].toArray):=⟨zeroValue249⟩
theorem KB:bc prog 249 0 0:=bc.of underlying249 rfl sizeOf9 rfl rfl
theorem KC:bc prog 249 1 1:=bc.of underlying249 rfl sizeOf9 rfl rfl
theorem LS:ey prog 249 [(0,1),(1,1)] [.string {data:=#[]},.string {data:=#[]}]:=⟨_,underlying249,zeroValue249,λw=>by simp[sizeOf9]⟩
theorem MC:Sz prog 263 4:=⟨sizeOf263⟩
theorem FK:By prog 263 80:=⟨λw=>⟨_,typeInfo263 w,rfl⟩⟩
theorem N9:Zr prog 263 (.agg [.string {data:=#[]},.string {data:=#[]},sZ,sZ].toArray):=⟨zeroValue263⟩
theorem KF:bc prog 263 0 0:=bc.of underlying263 rfl sizeOf9 rfl rfl
theorem KG:bc prog 263 1 1:=bc.of underlying263 rfl sizeOf167 rfl rfl
theorem LV:ey prog 263 [(0,1),(1,3)] [.string {data:=#[]},.string {data:=#[]},sZ,sZ]:=⟨_,underlying263,zeroValue263,λw=>by simp[sizeOf167,sizeOf9]⟩
theorem E6:cS prog 266 true:=⟨isAgg266⟩
theorem MD:Sz prog 266 3:=⟨sizeOf266⟩
theorem FL:By prog 266 24:=⟨λw=>⟨_,typeInfo266 w,rfl⟩⟩
theorem Oa:Zr prog 266 (.agg [.int .i64 0,.int .i64 0,.bool false].toArray):=⟨zeroValue266⟩
theorem KH:bc prog 266 0 0:=bc.of underlying266 rfl sizeOf3 rfl rfl
theorem KI:bc prog 266 1 1:=bc.of underlying266 rfl sizeOf3 rfl rfl
theorem KJ:bc prog 266 2 2:=bc.of underlying266 rfl sizeOf4 rfl rfl
theorem LW:ey prog 266 [(0,1),(1,1),(2,1)] [.int .i64 0,.int .i64 0,.bool false]:=⟨_,underlying266,zeroValue266,λw=>by simp[sizeOf3,sizeOf4]⟩
theorem zh:cS prog 269 true:=⟨isAgg269⟩
theorem zv:Sz prog 269 3:=⟨sizeOf269⟩
theorem Ob:Zr prog 269 (.agg [.string {data:=#[]},.string {data:=#[]},.string {data:=#[]}].toArray):=⟨zeroValue269⟩
theorem LX:ey prog 269 [(0,2),(2,1)] [.string {data:=#[]},.string {data:=#[]},.string {data:=#[]}]:=⟨_,underlying269,zeroValue269,λw=>by simp[sizeOf44,sizeOf9]⟩
theorem Nz:cq prog 275 (.map 3 4):=⟨underlying275⟩
theorem E8:cS prog 280 true:=⟨isAgg280⟩
theorem MG:Sz prog 280 2:=⟨sizeOf280⟩
theorem FM:By prog 280 16:=⟨λw=>⟨_,typeInfo280 w,rfl⟩⟩
theorem Oc:Zr prog 280 (.agg [.int .i64 0,.int .i64 0].toArray):=⟨zeroValue280⟩
theorem KK:bc prog 280 0 0:=bc.of underlying280 rfl sizeOf3 rfl rfl
theorem KL:bc prog 280 1 1:=bc.of underlying280 rfl sizeOf3 rfl rfl
theorem LY:ey prog 280 [(0,1),(1,1)] [.int .i64 0,.int .i64 0]:=⟨_,underlying280,zeroValue280,λw=>by simp[sizeOf3]⟩
theorem NB:cq prog 282 (.pointer 204):=⟨underlying282⟩
theorem KM:bc prog 289 0 0:=bc.of underlying289 rfl sizeOf9 rfl rfl
theorem KN:bc prog 289 1 1:=bc.of underlying289 rfl sizeOf3 rfl rfl
theorem LZ:ey prog 289 [(0,1),(1,1)] [.string {data:=#[]},.int .i64 0]:=⟨_,underlying289,zeroValue289,λw=>by simp[sizeOf3,sizeOf9]⟩
theorem E9:cS prog 291 true:=⟨isAgg291⟩
theorem MH:Sz prog 291 3:=⟨sizeOf291⟩
theorem FN:By prog 291 32:=⟨λw=>⟨_,typeInfo291 w,rfl⟩⟩
theorem Od:Zr prog 291 (.agg [.int .i64 0,.string {data:=#[]},.int .i64 0].toArray):=⟨zeroValue291⟩
theorem KQ:bc prog 291 0 0:=bc.of underlying291 rfl sizeOf3 rfl rfl
theorem KR:bc prog 291 1 1:=bc.of underlying291 rfl sizeOf9 rfl rfl
theorem L5:ey prog 291 [(0,1),(1,1),(2,1)] [.int .i64 0,.string {data:=#[]},.int .i64 0]:=⟨_,underlying291,zeroValue291,λw=>by simp[sizeOf3,sizeOf9]⟩
theorem ND:cq prog 306 (.int .u64):=⟨underlying306⟩
theorem NF:cq prog 316 (.map 249 321):=⟨underlying316⟩
theorem Fb:cS prog 316 false:=⟨isAgg316⟩
theorem KS:bc prog 318 0 0:=bc.of underlying318 rfl sizeOf25 rfl rfl
theorem KT:bc prog 318 1 2:=bc.of underlying318 rfl sizeOf316 rfl rfl
theorem L6:ey prog 318 [(0,2),(2,1)] [sZ,sZ,.map none]:=⟨_,underlying318,zeroValue318,λw=>by simp[sizeOf25,sizeOf316]⟩
theorem NG:cq prog 319 (.map 9 4):=⟨underlying319⟩
theorem Fc:cS prog 321 true:=⟨isAgg321⟩
theorem MJ:Sz prog 321 2:=⟨sizeOf321⟩
theorem FP:By prog 321 16:=⟨λw=>⟨_,typeInfo321 w,rfl⟩⟩
theorem Of:Zr prog 321 (.agg [.int .i64 0,.int .i64 0].toArray):=⟨zeroValue321⟩
theorem KU:bc prog 321 0 0:=bc.of underlying321 rfl sizeOf3 rfl rfl
theorem KV:bc prog 321 1 1:=bc.of underlying321 rfl sizeOf3 rfl rfl
theorem L7:ey prog 321 [(0,1),(1,1)] [.int .i64 0,.int .i64 0]:=⟨_,underlying321,zeroValue321,λw=>by simp[sizeOf3]⟩
theorem Fe:cS prog 325 true:=⟨isAgg325⟩
theorem MK:Sz prog 325 5:=⟨sizeOf325⟩
theorem FQ:By prog 325 40:=⟨λw=>⟨_,typeInfo325 w,rfl⟩⟩
theorem Og:Zr prog 325 (.agg [.int .i64 0,.int .i64 0,.int .i64 0,.int .i64 0,.bool false].toArray):=⟨zeroValue325⟩
theorem KW:bc prog 325 0 0:=bc.of underlying325 rfl sizeOf321 rfl rfl
theorem KX:bc prog 325 1 2:=bc.of underlying325 rfl sizeOf321 rfl rfl
theorem KY:bc prog 325 2 4:=bc.of underlying325 rfl sizeOf4 rfl rfl
theorem L8:ey prog 325 [(0,2),(2,2),(4,1)] [.int .i64 0,.int .i64 0,.int .i64 0,.int .i64 0,.bool false]:=⟨_,underlying325,zeroValue325,λw=>by simp[sizeOf321,sizeOf4]⟩
theorem NH:cq prog 375 (.slice 321):=⟨underlying375⟩
theorem NI:cq prog 385 (.int .u64):=⟨underlying385⟩
theorem Ff:cS prog 385 false:=⟨isAgg385⟩
theorem ML:Sz prog 385 1:=⟨sizeOf385⟩
theorem Oh:Zr prog 385 (.int .u64 0):=⟨zeroValue385⟩
theorem mm:fB prog 9 1 [.s] false:=fB.str sS vh
theorem ra:fB prog 44 2 [.s,.s] true:=fB.struct (n:=1) underlying44 stoodInHeld44 zj zw (fg.more mm (fg.more mm fg.nil))
theorem Lx:qG prog 44:=⟨eqGuardType44⟩
theorem vi:fB prog 117 3 [.s,.s,.s,.s] true:=fB.struct (n:=2) underlying117 stoodInHeld117 zc zp (fg.more mm (fg.more ra (fg.more mm fg.nil)))
theorem Lu:qG prog 117:=⟨eqGuardType117⟩
theorem zk:fB prog 119 4 [.s,.s,.s,.s,.s,.s,.s] true:=fB.struct (n:=3) underlying119 stoodInHeld119 zd zq (fg.more ra (fg.more mm (fg.more vi fg.nil)))
theorem Lv:qG prog 119:=⟨eqGuardType119⟩
theorem zl:fB prog 236 3 [.s,.s,.s] true:=fB.struct (n:=2) underlying236 stoodInHeld236 zf zt (fg.more ra (fg.more mm fg.nil))
theorem zm:fB prog 249 2 [.s,.s] true:=fB.struct (n:=1) underlying249 stoodInHeld249 zg zu (fg.more mm (fg.more mm fg.nil))
theorem Lw:qG prog 249:=⟨eqGuardType249⟩
theorem zo:fB prog 269 3 [.s,.s,.s] true:=fB.struct (n:=2) underlying269 stoodInHeld269 zh zv (fg.more ra (fg.more mm fg.nil))
theorem GA:aU prog 14:=⟨call14⟩
theorem Hc:aU prog 18:=⟨call18⟩
theorem Hn:aU prog 19:=⟨call19⟩
theorem Hx:aU prog 20:=⟨call20⟩
theorem HO:aU prog 22:=⟨call22⟩
theorem Ix:aU prog 26:=⟨call26⟩
theorem IF:aU prog 27:=⟨call27⟩
theorem IN:aU prog 32:=⟨call32⟩
theorem IP:aU prog 34:=⟨call34⟩
theorem IQ:aU prog 35:=⟨call35⟩
theorem IR:aU prog 39:=⟨call39⟩
theorem IS:aU prog 40:=⟨call40⟩
theorem IT:aU prog 41:=⟨call41⟩
theorem IU:aU prog 42:=⟨call42⟩
theorem IV:aU prog 45:=⟨call45⟩
theorem IW:aU prog 47:=⟨call47⟩
theorem IY:aU prog 48:=⟨call48⟩
theorem IZ:aU prog 49:=⟨call49⟩
theorem I0:aU prog 52:=⟨call52⟩
theorem I1:aU prog 54:=⟨call54⟩
theorem I2:aU prog 55:=⟨call55⟩
theorem I3:aU prog 56:=⟨call56⟩
theorem I4:aU prog 57:=⟨call57⟩
theorem I5:aU prog 58:=⟨call58⟩
theorem I6:aU prog 61:=⟨call61⟩
theorem I7:aU prog 62:=⟨call62⟩
theorem I8:aU prog 63:=⟨call63⟩
theorem I9:aU prog 64:=⟨call64⟩
theorem Ja:aU prog 65:=⟨call65⟩
theorem Jb:aU prog 66:=⟨call66⟩
theorem Jc:aU prog 67:=⟨call67⟩
theorem Jd:aU prog 68:=⟨call68⟩
theorem Je:aU prog 73:=⟨call73⟩
theorem Jf:aU prog 74:=⟨call74⟩
theorem Jg:aU prog 75:=⟨call75⟩
theorem Jh:aU prog 76:=⟨call76⟩
theorem Ji:aU prog 77:=⟨call77⟩
theorem Jj:aU prog 78:=⟨call78⟩
theorem Jk:aU prog 79:=⟨call79⟩
theorem Jl:aU prog 80:=⟨call80⟩
theorem Jm:aU prog 81:=⟨call81⟩
theorem Jn:aU prog 82:=⟨call82⟩
theorem Jo:aU prog 83:=⟨call83⟩
theorem Jp:aU prog 84:=⟨call84⟩
theorem Jq:aU prog 85:=⟨call85⟩
theorem Jr:aU prog 86:=⟨call86⟩
theorem Js:aU prog 87:=⟨call87⟩
theorem Jt:aU prog 88:=⟨call88⟩
theorem Ju:aU prog 89:=⟨call89⟩
theorem Jv:aU prog 90:=⟨call90⟩
theorem Jw:aU prog 91:=⟨call91⟩
theorem Jx:aU prog 92:=⟨call92⟩
theorem Jy:aU prog 93:=⟨call93⟩
theorem Jz:aU prog 94:=⟨call94⟩
theorem JA:aU prog 95:=⟨call95⟩
theorem JB:aU prog 96:=⟨call96⟩
theorem JC:aU prog 97:=⟨call97⟩
theorem JD:aU prog 98:=⟨call98⟩
theorem JE:aU prog 99:=⟨call99⟩
theorem FX:aU prog 100:=⟨call100⟩
theorem FY:aU prog 102:=⟨call102⟩
theorem FZ:aU prog 103:=⟨call103⟩
theorem F0:aU prog 104:=⟨call104⟩
theorem F1:aU prog 105:=⟨call105⟩
theorem F2:aU prog 106:=⟨call106⟩
theorem F3:aU prog 107:=⟨call107⟩
theorem F4:aU prog 108:=⟨call108⟩
theorem F5:aU prog 109:=⟨call109⟩
theorem F6:aU prog 110:=⟨call110⟩
theorem F7:aU prog 111:=⟨call111⟩
theorem F8:aU prog 112:=⟨call112⟩
theorem F9:aU prog 113:=⟨call113⟩
theorem Ga:aU prog 114:=⟨call114⟩
theorem Gb:aU prog 115:=⟨call115⟩
theorem Gc:aU prog 116:=⟨call116⟩
theorem Gd:aU prog 117:=⟨call117⟩
theorem Ge:aU prog 118:=⟨call118⟩
theorem Gf:aU prog 119:=⟨call119⟩
theorem Gg:aU prog 120:=⟨call120⟩
theorem Gh:aU prog 121:=⟨call121⟩
theorem Gi:aU prog 122:=⟨call122⟩
theorem Gj:aU prog 123:=⟨call123⟩
theorem Gk:aU prog 124:=⟨call124⟩
theorem Gl:aU prog 125:=⟨call125⟩
theorem Gm:aU prog 126:=⟨call126⟩
theorem Gn:aU prog 128:=⟨call128⟩
theorem Gp:aU prog 129:=⟨call129⟩
theorem Gq:aU prog 130:=⟨call130⟩
theorem Gr:aU prog 131:=⟨call131⟩
theorem Gs:aU prog 132:=⟨call132⟩
theorem Gt:aU prog 133:=⟨call133⟩
theorem Gu:aU prog 134:=⟨call134⟩
theorem Gv:aU prog 135:=⟨call135⟩
theorem Gw:aU prog 136:=⟨call136⟩
theorem Gx:aU prog 137:=⟨call137⟩
theorem Gy:aU prog 138:=⟨call138⟩
theorem Gz:aU prog 139:=⟨call139⟩
theorem GB:aU prog 140:=⟨call140⟩
theorem GC:aU prog 141:=⟨call141⟩
theorem GD:aU prog 142:=⟨call142⟩
theorem GF:aU prog 143:=⟨call143⟩
theorem GG:aU prog 144:=⟨call144⟩
theorem GH:aU prog 145:=⟨call145⟩
theorem GI:aU prog 146:=⟨call146⟩
theorem GJ:aU prog 147:=⟨call147⟩
theorem GK:aU prog 148:=⟨call148⟩
theorem GL:aU prog 149:=⟨call149⟩
theorem GM:aU prog 150:=⟨call150⟩
theorem GN:aU prog 151:=⟨call151⟩
theorem GO:aU prog 152:=⟨call152⟩
theorem GP:aU prog 153:=⟨call153⟩
theorem GQ:aU prog 154:=⟨call154⟩
theorem GR:aU prog 155:=⟨call155⟩
theorem GS:aU prog 156:=⟨call156⟩
theorem GU:aU prog 157:=⟨call157⟩
theorem GV:aU prog 159:=⟨call159⟩
theorem GW:aU prog 160:=⟨call160⟩
theorem GX:aU prog 161:=⟨call161⟩
theorem GY:aU prog 166:=⟨call166⟩
theorem GZ:aU prog 167:=⟨call167⟩
theorem G0:aU prog 168:=⟨call168⟩
theorem G1:aU prog 169:=⟨call169⟩
theorem G2:aU prog 170:=⟨call170⟩
theorem G3:aU prog 171:=⟨call171⟩
theorem G4:aU prog 172:=⟨call172⟩
theorem G5:aU prog 173:=⟨call173⟩
theorem G6:aU prog 174:=⟨call174⟩
theorem G7:aU prog 175:=⟨call175⟩
theorem G8:aU prog 176:=⟨call176⟩
theorem G9:aU prog 177:=⟨call177⟩
theorem Ha:aU prog 178:=⟨call178⟩
theorem Hb:aU prog 179:=⟨call179⟩
theorem Hd:aU prog 180:=⟨call180⟩
theorem He:aU prog 181:=⟨call181⟩
theorem Hf:aU prog 182:=⟨call182⟩
theorem Hg:aU prog 183:=⟨call183⟩
theorem Hh:aU prog 184:=⟨call184⟩
theorem Hi:aU prog 185:=⟨call185⟩
theorem Hj:aU prog 186:=⟨call186⟩
theorem Hk:aU prog 187:=⟨call187⟩
theorem Hl:aU prog 188:=⟨call188⟩
theorem Hm:aU prog 189:=⟨call189⟩
theorem Hp:aU prog 190:=⟨call190⟩
theorem Hq:aU prog 191:=⟨call191⟩
theorem Hr:aU prog 192:=⟨call192⟩
theorem Hs:aU prog 193:=⟨call193⟩
theorem Ht:aU prog 194:=⟨call194⟩
theorem Hu:aU prog 195:=⟨call195⟩
theorem Hv:aU prog 196:=⟨call196⟩
theorem Hw:aU prog 198:=⟨call198⟩
theorem Hy:aU prog 200:=⟨call200⟩
theorem Hz:aU prog 201:=⟨call201⟩
theorem HA:aU prog 202:=⟨call202⟩
theorem HB:aU prog 203:=⟨call203⟩
theorem HC:aU prog 204:=⟨call204⟩
theorem HD:aU prog 207:=⟨call207⟩
theorem HE:aU prog 210:=⟨call210⟩
theorem HF:aU prog 211:=⟨call211⟩
theorem HG:aU prog 212:=⟨call212⟩
theorem HH:aU prog 213:=⟨call213⟩
theorem HJ:aU prog 214:=⟨call214⟩
theorem HK:aU prog 215:=⟨call215⟩
theorem HL:aU prog 216:=⟨call216⟩
theorem HM:aU prog 217:=⟨call217⟩
theorem HN:aU prog 218:=⟨call218⟩
theorem HP:aU prog 221:=⟨call221⟩
theorem HQ:aU prog 222:=⟨call222⟩
theorem HR:aU prog 223:=⟨call223⟩
theorem HS:aU prog 224:=⟨call224⟩
theorem HT:aU prog 225:=⟨call225⟩
theorem HU:aU prog 226:=⟨call226⟩
theorem HW:aU prog 227:=⟨call227⟩
theorem HX:aU prog 228:=⟨call228⟩
theorem HY:aU prog 229:=⟨call229⟩
theorem HZ:aU prog 230:=⟨call230⟩
theorem H3:aU prog 231:=⟨call231⟩
theorem H4:aU prog 232:=⟨call232⟩
theorem H5:aU prog 233:=⟨call233⟩
theorem H6:aU prog 234:=⟨call234⟩
theorem H7:aU prog 235:=⟨call235⟩
theorem H8:aU prog 236:=⟨call236⟩
theorem H9:aU prog 237:=⟨call237⟩
theorem Ia:aU prog 238:=⟨call238⟩
theorem Ib:aU prog 239:=⟨call239⟩
theorem Ic:aU prog 240:=⟨call240⟩
theorem Ie:aU prog 241:=⟨call241⟩
theorem Ig:aU prog 242:=⟨call242⟩
theorem Ih:aU prog 243:=⟨call243⟩
theorem Ii:aU prog 246:=⟨call246⟩
theorem Ij:aU prog 247:=⟨call247⟩
theorem Ik:aU prog 248:=⟨call248⟩
theorem Il:aU prog 250:=⟨call250⟩
theorem Im:aU prog 251:=⟨call251⟩
theorem Io:aU prog 252:=⟨call252⟩
theorem Ip:aU prog 253:=⟨call253⟩
theorem Iq:aU prog 254:=⟨call254⟩
theorem Ir:aU prog 255:=⟨call255⟩
theorem Is:aU prog 256:=⟨call256⟩
theorem Iu:aU prog 257:=⟨call257⟩
theorem Iv:aU prog 258:=⟨call258⟩
theorem Iw:aU prog 259:=⟨call259⟩
theorem Iy:aU prog 260:=⟨call260⟩
theorem Iz:aU prog 261:=⟨call261⟩
theorem IA:aU prog 262:=⟨call262⟩
theorem IB:aU prog 263:=⟨call263⟩
theorem IC:aU prog 265:=⟨call265⟩
theorem ID:aU prog 266:=⟨call266⟩
theorem IE:aU prog 269:=⟨call269⟩
theorem IG:aU prog 270:=⟨call270⟩
theorem IH:aU prog 272:=⟨call272⟩
theorem II:aU prog 273:=⟨call273⟩
theorem IJ:aU prog 297:=⟨call297⟩
theorem IK:aU prog 298:=⟨call298⟩
theorem IL:aU prog 299:=⟨call299⟩
theorem IM:aU prog 300:=⟨call300⟩
attribute [instance] vj zi MI FO Oe zx Fg MM FR Oi sS vh MY FU Om Nt EY Mx Nu E0 Mz E2 MB N8 KD KE LU Ny E3 E7 MF KO KP NC NE Fa zj zw KZ K0 L9 NJ Fh MN NK Fi MO NL Fj MP Fk MQ K2 K3 K4 K5 K6 K7 Ma Fl MR FT Oj K8 K9 La Lb NM Fm NO Fo MT NP Fp MU Fq MV Ok Lc Ld Mb NQ Ft MW Fu MX Ol Le Lf Mc NR Fv MZ NS Fw M6 Fx M7 FV On Lg Lh Li Lj Lk Ll Lm Md Fy M8 FW Oo Ln Lo Lp Lq Lr Ls Lt Me Na EG Mg JF JG JH Ly zc zp Fz NT JI JJ JK Lz zd zq FA NU JL JM JN LA EH Mh NV JO JP LC Nb EI Nc EJ JQ JR JS JT JU JV LD EK Mi JW JX JY LF Nf EL Mj FB NW Ng EM Mk JZ J0 J1 LG J2 J3 LH EN Ml FC NX J4 J5 LI Nh EO Mm EP Mn FD NY J6 J7 LJ Ni ze Mo EQ Mp FE NZ J8 J9 Ka LK ER Mq FF N0 Kb Kc Kd Nj Nk Nl ES Mt FG N1 Nn ET Np EU Ke Kf Kg Kh Ki Kj Kk LM Nq EV Mu FH N2 Kl Km Kn Ko Kp LN Nr EW Mv Kq Kr Ks Kt Ku Kv LO Ns EX Mw Kw Kx LP EZ My FI N3 Ky Kz KA LQ E1 MA N4 Nv zf zt N5 LR Nw N6 Nx zg zu FJ N7 KB KC LS MC FK N9 KF KG LV E6 MD FL Oa KH KI KJ LW zh zv Ob LX Nz E8 MG FM Oc KK KL LY NB KM KN LZ E9 MH FN Od KQ KR L5 ND NF Fb KS KT L6 NG Fc MJ FP Of KU KV L7 Fe MK FQ Og KW KX KY L8 NH NI Ff ML Oh mm ra Lx vi Lu zk Lv zl zm Lw zo GA Hc Hn Hx HO Ix IF IN IP IQ IR IS IT IU IV IW IY IZ I0 I1 I2 I3 I4 I5 I6 I7 I8 I9 Ja Jb Jc Jd Je Jf Jg Jh Ji Jj Jk Jl Jm Jn Jo Jp Jq Jr Js Jt Ju Jv Jw Jx Jy Jz JA JB JC JD JE FX FY FZ F0 F1 F2 F3 F4 F5 F6 F7 F8 F9 Ga Gb Gc Gd Ge Gf Gg Gh Gi Gj Gk Gl Gm Gn Gp Gq Gr Gs Gt Gu Gv Gw Gx Gy Gz GB GC GD GF GG GH GI GJ GK GL GM GN GO GP GQ GR GS GU GV GW GX GY GZ G0 G1 G2 G3 G4 G5 G6 G7 G8 G9 Ha Hb Hd He Hf Hg Hh Hi Hj Hk Hl Hm Hp Hq Hr Hs Ht Hu Hv Hw Hy Hz HA HB HC HD HE HF HG HH HJ HK HL HM HN HP HQ HR HS HT HU HW HX HY HZ H3 H4 H5 H6 H7 H8 H9 Ia Ib Ic Ie Ig Ih Ii Ij Ik Il Im Io Ip Iq Ir Is Iu Iv Iw Iy Iz IA IB IC ID IE IG IH II IJ IK IL IM
theorem mixed:prog.follows .mixedOrders=true:=by kernel_rfl
structure qI(P:Program)(R:ay)(t:TypeId)(v:Value){α:Type}(lt:α→α→Bool)(I:List α→aw→Prop):Prop where
 lL:∀L T,I L T→L.length≤1000000000
 len:∀L T,I L T→iB P t v "Len" [] R T fun u T'=>u=.int .i64 L.length∧I L T'
 less:∀L T (i k:Nat) x y,I L T→L[i]? =some x→L[k]? =some y→iB P t v "Less" [.int .i64 i,.int .i64 k] R T fun u T'=>u=.bool (lt x y)∧I L T'
 swap:∀L T (i k:Nat),I L T→i<L.length→k<L.length→iB P t v "Swap" [.int .i64 i,.int .i64 k] R T fun _ T'=>I (dd L i k) T'
section
variable{R:ay}{t:TypeId}{v:Value}{α:Type}{lt:α->α->Bool}{I:List α->aw->Prop}
theorem Un(A:qI prog R t v lt I)(V:SO lt)(L:List α)(T:aw)(h:I L T)(j:Nat)(W:j<L.length):
  Spec prog 193 [.iface t v,.int .i64 j] R [T] λu H'=>∃T',H'=[T']/\u=.tuple #[]/\∃L',I L' T'/\L'.Perm L/\(∀k,j<k->L'[k]? =L[k]?)/\∀n,n<=L.length->j<n->Up lt L n j->fJ lt L' n:=by
 have z:=A.lL L T h
 refine Spec.body func193 rfl results193 ntmps193 rfl<|.block<|.loop (X:=Nat×List α×aw) (λy=>I y.2.1 y.2.2/\y.1<=j/\y.2.1.Perm L/\(∀k,j<k->y.2.1[k]? =L[k]?)/\∀n,n<=L.length->j<n->Up lt L n j->Up lt y.2.1 n y.1) (λy=>[(0,.iface t v),(1,iN y.1)]) (λy=>[y.2.2]) (λy=>y.1) (j,L,T) ⟨h,Nat.le_refl _,.refl _,λ_ _=>rfl,λ_ _ _ h=>h⟩ kE.c.c rH ?_
 rintro⟨i,f,H⟩ ⟨w,O,l,p,r⟩
 simp only at w O l p r⊢
 have Y:=l.length_eq
 obtain⟨x,B⟩:∃x,f[i]? =some x:=⟨_,aZ (by omega)⟩
 obtain⟨y,C⟩:∃y,f[bY i]? =some y:=⟨_,aZ (by unfold bY;omega)⟩
 refine .block<|.sr<|.mo rfl<|.q (.i64 ((i:Int)-1) .sub ⟨rfl,by omega,by omega⟩)<|.q (.i64 ((bY i:Nat):Int) .quo ⟨xx,by omega,by unfold bY;omega⟩)<|.ag rfl<|.zs<|.sr<|.mo rfl<|.mo rfl<|.q .bU<|.mo rfl<|.split (t:=11) rfl (λd=>?_) (λd=>?_)
 refine .gF d<|.gF d<|.gF d<|.gF d<|.gF d<|.q (.aT d)<|.zn<|.ig<|.exit (bo (jQ (bq (bp ?_))))
 refine gg _ .none rH ?_
 ·have F:bY i=i:=by simp at d;omega
  refine⟨_,rfl,rfl,f,w,l,p,λn o m g=>?_⟩
  have M:i=0:=by
   rcases Nat.eq_zero_or_pos i with e|e
   ·exact e
   ·have:=fR e;omega
  subst M
  exact(r n o m g).CB
 refine .gT d<|.mo rfl<|.gT d<|.mo rfl<|.gT d<|.mo rfl<|.gT d<|.mj (A.less f H i (bY i) x y w B C) (λu J g=>?_)
 obtain⟨rfl,D⟩:=g
 refine .gT d<|.q .not<|.q (.aQ d)<|.zn<|.cond rfl (λs=>?_) λs=>?_
 refine .exit (bo (jQ (bq (bp ?_))))
 refine gg _ .none rH ?_
 ·refine⟨_,rfl,rfl,f,D,l,p,λn o m g=>(r n o m g).stop λa b E z=>?_⟩
  rw[C]at E;rw[B]at z
  cases E;cases z
  simpa using s
 refine .kn<|.sr<|.mo rfl<|.mo rfl<|.mo rfl ?_
 refine .mj (A.swap f J (bY i) i D (by unfold bY;omega) (by omega)) (λu K N=>?_)
 refine .zn<|.region<|.mo rfl<|.ag rfl<|.nil<|aS ?_
 ·have S:lt x y=true:=by simpa using s
  have F:bY i≠i:=by simp at d;omega
  have G:0<i:=by
   rcases Nat.eq_zero_or_pos i with e|e
   ·subst e;exact absurd rfl F
   ·exact e
  have U:=fR G
  exact bd (bY i,dd f (bY i) i,K) ⟨N,by omega,uo.trans l,λk Q=>by
   rw[gm (by omega) (by omega),if_neg (by omega),if_neg (by omega)];exact p k Q,λn o m g=>(r n o m g).step V G (by omega) (by omega) B C S⟩ U kE.c.c rH
theorem Et(K:qI prog R t v lt I)(F:SO lt)(L:List α)(T:aw)(h:I L T)(f n:Nat)(a7:f<=n)(hn:n<=L.length):
  Spec prog 190 [.iface t v,.int .i64 f,.int .i64 n] R [T] λu H'=>∃T',H'=[T']/\∃L' m,I L' T'/\u=.bool m/\L'.Perm L/\(∀k,n<=k->L'[k]? =L[k]?)/\(lZ lt L n f->(m=true->fJ lt L' n)/\(m=false->Up lt L' n f)):=by
 have J:=K.lL L T h
 refine Spec.body func190 rfl results190 ntmps190 rfl ?_
 refine .sr<|.ag rfl<|.z<|.mo rfl<|.ag rfl<|.zs<|.block ?_
 refine .loop (X:=Nat×List α×aw) (λy=>I y.2.1 y.2.2/\f<=y.1/\y.1<=n/\y.2.1.Perm L/\(∀k,n<=k->y.2.1[k]? =L[k]?)/\(lZ lt L n f->lZ lt y.2.1 n y.1/\(y.1≠f->gq lt y.2.1 (bY y.1) y.1))) (λy=>[(0,.iface t v),(1,iN f),(2,iN n),(7,iN y.1)]) (λy=>[y.2.2]) (λy=>n-y.1) (f,L,T) ⟨h,Nat.le_refl _,a7,.refl _,λ_ _=>rfl,λh=>⟨h,λe=>absurd rfl e⟩⟩ kE.c.c.c.c rH ?_
 rintro⟨i,g,T1⟩ ⟨Q,a8,a9,C,G,w⟩
 simp only at Q a8 a9 C G w⊢
 have hl:=C.length_eq
 refine .block<|.sr<|.mo rfl ?_
 refine .ia (2*i) .mul ?_
 refine .ia (2*i+1) .add ?_
 refine .ag rfl<|.zs<|.sr<|.mo rfl<|.mo rfl<|.q .geq<|.mo rfl ?_
 refine .split (t:=18) rfl (λs=>?_) (λs=>?_)
 refine .gF s<|.gF s<|.q (.aT s) ?_
 refine .zn<|.ig ?_
 have a6:n<=2*i+1:=by
  (simp at s;omega)
 refine .exit (bo (jQ (bq (bp ?_))))
 refine au<|.sr<|.mo rfl<|.mo rfl<|.q .gtr<|.az rfl ?_
 refine .ret (aY _ (.one (.tmp rfl)) rH ?_)
 ·refine⟨_,rfl,g,decide (f<i),by assumption,by simp,C,G,λd=>?_⟩
  have A:Up lt g n i:=(w d).1.stop λc B D r a b H J=>by
   (simp only[bY]at r;omega)
  refine⟨λo=>?_,λo=>?_⟩
  ·have p:i≠f:=by simp at o;omega
   exact A.stop ((w d).2 p)
  ·have p:i=f:=by simp at o;omega
   rw[<-p];exact A
 refine .gT s<|.mo rfl<|.gT s<|.q .lss<|.q (.aQ s) ?_
 refine .zn ?_
 refine .cond rfl (λh1=>?_) λh1=>?_
 have a6:n<=2*i+1:=by
  (simp at h1;omega)
 refine .exit (bo (jQ (bq (bp ?_))))
 refine au<|.sr<|.mo rfl<|.mo rfl<|.q .gtr<|.az rfl ?_
 refine .ret (aY _ (.one (.tmp rfl)) rH ?_)
 ·refine⟨_,rfl,g,decide (f<i),by assumption,by simp,C,G,λd=>?_⟩
  have A:Up lt g n i:=(w d).1.stop λc B D r a b H J=>by
   (simp only[bY]at r;omega)
  refine⟨λo=>?_,λo=>?_⟩
  ·have p:i≠f:=by simp at o;omega
   exact A.stop ((w d).2 p)
  ·have p:i=f:=by simp at o;omega
   rw[<-p];exact A
 have a3:2*i+1<n:=by simp at s;omega
 obtain⟨y0,Y⟩:∃y,g[i]? =some y:=⟨_,aZ (by omega)⟩
 obtain⟨Z,E⟩:∃y,g[2*i+1]? =some y:=⟨_,aZ (by omega)⟩
 refine .kn<|.sr<|.mo rfl<|.ag rfl<|.zs ?_
 refine bz.cut (X:=Nat×aw×α) (λz=>I g z.2.1/\0<z.1/\z.1<n/\bY z.1=i/\g[z.1]? =some z.2.2/\∀c u,0<c->c<n->bY c=i->g[c]? =some u->lt u z.2.2=false) (λz=>[(0,.iface t v),(1,iN f),(2,iN n),(7,iN i),(9,iN z.1)]) (λz=>[z.2.1]) ?_ ?_
 refine .sr<|.mo rfl ?_
 refine .ia (2*i+2) .add ?_
 refine .ag rfl<|.z<|.mo rfl<|.mo rfl<|.q .lss<|.mo rfl ?_
 refine .split (t:=28) rfl (λl=>?_) (λl=>?_)
 have b1:2*i+2<n:=by simp at l;omega
 obtain⟨x2,M⟩:∃y,g[2*i+2]? =some y:=⟨_,aZ (by omega)⟩
 refine .gT l<|.mo rfl<|.gT l<|.mo rfl<|.gT l<|.mo rfl<|.gT l ?_
 refine .mj (K.less g T1 (2*i+2) (2*i+1) x2 Z Q M E) (λu T2 d=>?_)
 obtain⟨rfl,a0⟩:=d
 refine .q (.aT l) ?_
 refine .zn ?_
 refine .cond rfl (λN=>?_) λN=>?_
 refine .region<|.mo rfl<|.ag rfl<|.nil ?_
 ·exact aF (2*i+2,T2,x2) ⟨a0,by simp only;omega,b1,by simp only[bY];omega,M,λc u B D r d=>by
   have:c=2*i+1\/c=2*i+2:=by simp only[bY]at r;omega
   rcases this with rfl|rfl
   ·rw[E]at d;cases d;exact F.mh (by simpa using N)
   ·rw[M]at d;cases d;exact F.iG _⟩ kE.c.c.c.c.c rH
 refine .skip ?_
 ·exact aF (2*i+1,T2,Z) ⟨a0,by simp only;omega,a3,by simp only[bY];omega,E,λc u B D r d=>by
   have:c=2*i+1\/c=2*i+2:=by simp only[bY]at r;omega
   rcases this with rfl|rfl
   ·rw[E]at d;cases d;exact F.iG _
   ·rw[M]at d;cases d;simpa using N⟩ kE.c.c.c.c.c rH
 refine .gF l<|.gF l<|.gF l<|.gF l<|.q (.aQ l) ?_
 refine .zn<|.cU<|.skip ?_
 ·exact aF (2*i+1,T1,Z) ⟨Q,by simp only;omega,a3,by simp only[bY];omega,E,λc u B D r d=>by
   have:c=2*i+1:=by simp only[bY]at r;simp at l;omega
   subst this
   rw[E]at d;cases d;exact F.iG _⟩ kE.c.c.c.c.c rH
 intro y hy
 obtain⟨j,T3,x⟩:=y
 obtain⟨a1,S,a2,U,W,V⟩:=hy
 simp only at a1 S a2 U W V⊢
 have b2:i<j:=U▸fR S
 refine au<|.seq<|.sr<|.mo rfl<|.mo rfl<|.mo rfl ?_
 refine .mj (K.less g T3 j i x y0 a1 W Y) (λu T4 d=>?_)
 obtain⟨rfl,a4⟩:=d
 refine .q .not<|.zn ?_
 refine .cond rfl (λO=>?_) λO=>?_
 refine .exit (bo (jQ (bq (bp ?_))))
 refine au<|.sr<|.mo rfl<|.mo rfl<|.q .gtr<|.az rfl ?_
 refine .ret (aY _ (.one (.tmp rfl)) rH ?_)
 ·refine⟨_,rfl,g,decide (f<i),by assumption,by simp,C,G,λd=>?_⟩
  have A:Up lt g n i:=(w d).1.stop λc B D r a b H J=>by
   (rw[Y]at H;cases H;exact F.kK _ _ _ (V c b B D r J) (by simpa using O))
  refine⟨λo=>?_,λo=>?_⟩
  ·have p:i≠f:=by simp at o;omega
   exact A.stop ((w d).2 p)
  ·have p:i=f:=by simp at o;omega
   rw[<-p];exact A
 refine .kn<|.sr<|.mo rfl<|.mo rfl<|.mo rfl ?_
 refine .mj (K.swap g T4 i j a4 (by omega) (by omega)) (λu T5 a5=>?_)
 refine .zn<|.region<|.mo rfl<|.ag rfl<|.nil<|aS ?_
 ·have b0:lt x y0=true:=by simpa using O
  exact bd (j,dd g i j,T5) ⟨a5,by simp only;omega,by simp only;omega,uo.trans C,λk hk=>by
   rw[gm (by omega) (by omega),if_neg (by omega),if_neg (by omega)];exact G k hk,λd=>by
    have:=(w d).1.step F S a2 (by omega) U W Y b0 V
    exact⟨this.1,λ_=>this.2⟩⟩ (by simp only;omega) kE.c.c.c.c rH
theorem QT(hi:qI Tryz.prog R t v lt I)(so:SO lt)(L:List α)(T:aw)(x:Value)(a:α)(hp:iB Tryz.prog t v "Push" [x] R T fun _ T'=>I (L++[a]) T')(hh:fJ lt L L.length):
  Spec prog 153 [.iface t v,x] R [T] fun u H'=>∃T',H'=[T']∧u=.tuple #[]∧∃L',I L' T'∧L'.Perm (L++[a])∧fJ lt L' L'.length:=by
 refine Spec.body func153 rfl results153 ntmps153 rfl<|.sr<|.mo rfl<|.mo rfl<|.mj hp (fun u T1 h1=>?_)
 have hb:=hi.lL _ T1 h1
 simp only[List.length_append,List.length_singleton]at hb
 refine .zn<|.region<|.mo rfl<|.mo rfl<|.mj (hi.len _ T1 h1) (fun u T2 hu=>?_)
 obtain⟨rfl,h2⟩:=hu
 refine .q (.i64 ((L.length:Nat):Int) .sub ⟨by simp,by omega,by omega⟩)<|.cA (Un hi so _ T2 h2 L.length (by simp)) (fun u T3 hu=>?_)
 obtain⟨rfl,L3,h3,hp3,hs3,hh3⟩:=hu
 have hl3:=hp3.length_eq
 refine .nil<|gg _ .none (bk.refl _) ?_
 ·exact⟨_,rfl,rfl,L3,h3,hp3,by rw[hl3];exact hh3 _ (Nat.le_refl _) (by simp) (by simp;exact hh.push a)⟩
theorem Pq{L a:List α}{n:Nat}{x:α}(c:L.length=n+1)(e:L[n]? =some x)(d:L.Perm a):L=L.take n++[x]/\(L.take n).length=n/\a.Perm (x::L.take n):=by
 have b:L=L.take n++[x]:=by
  apply List.ext_getElem?
  intro k
  rcases Nat.lt_trichotomy k n with h|h|h
  ·rw[List.getElem?_append_left (by simp;omega),List.getElem?_take_of_lt h]
  ·subst h
   rw[List.getElem?_append_right (by simp;omega),e]
   simp[c]
  ·rw[List.getElem?_eq_none (by omega),List.getElem?_eq_none (by simp;omega)]
 refine⟨b,by simp;omega,d.symm.trans ?_⟩
 have:(L.take n++[x]).Perm (x::L.take n):=by simp
 rw[<-b]at this
 exact this
theorem fJ.TK{L:List α}{n:Nat}(h:fJ lt L n)(b:n<=L.length):fJ lt (L.take n) (L.take n).length:=by
 have e:(L.take n).length=n:=by simp;omega
 rw[e]
 exact h.hM λk a=>List.getElem?_take_of_lt a
theorem QP(hi:qI prog R t v lt I)(so:SO lt)(L:List α)(T:aw)(h:I L T)(x:α)(hx:L[0]? =some x)(hh:fJ lt L L.length)(px:α→Value)(J:List α→aw→Prop)
  (hp:∀L' T',I (L'++[x]) T'→L'.length+1=L.length→iB Tryz.prog t v "Pop" [] R T' fun u T''=>u=px x∧J L' T''):
  Spec prog 149 [.iface t v] R [T] fun u H'=>∃T',H'=[T']∧u=px x∧∃L',J L' T'∧L.Perm (x::L')∧fJ lt L' L'.length:=by
 have hb:=hi.lL L T h
 have hpos:0<L.length:=(List.getElem?_eq_some_iff.1 hx).1
 obtain⟨n,hn⟩:∃n,L.length=n+1:=⟨L.length-1,by omega⟩
 refine Spec.body func149 rfl results149 ntmps149 rfl<|.sr<|.ag rfl<|.z<|.mo rfl<|.mj (hi.len L T h) (fun u T1 hu=>?_)
 obtain⟨rfl,h1⟩:=hu
 refine .q (.i64 ((n:Nat):Int) .sub ⟨by omega,by omega,by omega⟩)<|.ag rfl<|.z<|.mo rfl<|.mo rfl ?_
 refine .mj (hi.swap L T1 0 n h1 (by omega) (by omega)) (fun u T2 h2=>?_)
 refine .z<|.mo rfl<|.mo rfl<|.cA (Et hi so _ T2 h2 0 n (by omega) (by rw[mA];omega)) (fun u T3 hu=>?_)
 obtain⟨L3,m,h3,rfl,hp3,hs3,hh3⟩:=hu
 have hx3:L3[n]? =some x:=by rw[hs3 n (Nat.le_refl _),gm (by omega) (by omega),if_pos rfl,hx]
 have hl3:=hp3.length_eq
 rw[mA]at hl3
 obtain⟨e1,e2,e3⟩:=Pq (by omega) hx3 (hp3.trans uo)
 have hhole:lZ lt (dd L 0 n) n 0:=(hh.mono (by omega)).hole so (by omega) fun k hk hk0=>by rw[gm (by omega) (by omega),if_neg (by omega),if_neg hk0]
 have hH:fJ lt L3 n:=by
  cases m with
  |true=>exact(hh3 hhole).1 rfl
  |false=>exact((hh3 hhole).2 rfl).CB
 refine .z<|.mo rfl ?_
 rw[e1]at h3
 refine .mj (hp _ T3 h3 (by omega)) (fun u T4 hu=>?_)
 obtain⟨rfl,h4⟩:=hu
 refine .ag rfl<|.zn<|.ret (aY _ (.one (.tmp rfl)) (bk.refl _) ?_)
 ·exact⟨_,rfl,rfl,_,h4,e3,hH.TK (by omega)⟩
end
end Go.Proofs.YtdljmchhecoakaaGreat

/- What the law 'OpNobody' uses. No condition. -/
import Derived.Test.YtgppncmdpcefhaaGreatDoorChecked
import Derived.Test.YtgppncmdpcefhaaGreatDoorKOpNobodyB
namespace Go.Proofs.YtgppncmdpcefhaaGreatDoor
set_option linter.defProp false
def abM:=@Nat.le_refl
open Tryz
set_option linter.unusedVariables false
set_option linter.unusedSimpArgs false
theorem C8:bL prog 2 (.int .i64):=⟨underlying2⟩
theorem uO:cC prog 2 false:=⟨isAgg2⟩
theorem Cy:Sz prog 2 1:=⟨sizeOf2⟩
theorem qq:bL prog 3 (.int .i64):=⟨underlying3⟩
theorem u3:cC prog 3 false:=⟨isAgg3⟩
theorem CG:Sz prog 3 1:=⟨sizeOf3⟩
theorem DN:Zr prog 3 (.int .i64 0):=⟨zeroValue3⟩
theorem qu:bL prog 4 (.bool):=⟨underlying4⟩
theorem vb:cC prog 4 false:=⟨isAgg4⟩
theorem Dy:bL prog 5 (.int .u8):=⟨underlying5⟩
theorem vh:cC prog 5 false:=⟨isAgg5⟩
theorem CQ:Sz prog 5 1:=⟨sizeOf5⟩
theorem vC:By prog 5 1:=⟨λw=>⟨_,typeInfo5 w,rfl⟩⟩
theorem DR:Zr prog 5 (.int .u8 0):=⟨zeroValue5⟩
theorem mN:bL prog 9 (.string):=⟨underlying9⟩
theorem nY:cC prog 9 false:=⟨isAgg9⟩
theorem CU:Sz prog 9 1:=⟨sizeOf9⟩
theorem vF:By prog 9 16:=⟨λw=>⟨_,typeInfo9 w,rfl⟩⟩
theorem DX:Zr prog 9 (.string {data:=#[]}):=⟨zeroValue9⟩
theorem C9:bL prog 22 (.slice 9):=⟨underlying22⟩
theorem uP:cC prog 22 false:=⟨isAgg22⟩
theorem Cz:Sz prog 22 1:=⟨sizeOf22⟩
theorem DH:Zr prog 22 (sZ):=⟨zeroValue22⟩
theorem uV:cC prog 24 true:=⟨isAgg24⟩
theorem CA:Sz prog 24 4:=⟨sizeOf24⟩
theorem vz:By prog 24 80:=⟨λw=>⟨_,typeInfo24 w,rfl⟩⟩
theorem DJ:Zr prog 24 (.agg [.string {data:=#[]},.string {data:=#[]},sZ,sZ].toArray):=⟨zeroValue24⟩
theorem A9:bf prog 24 0 0:=bf.of underlying24 rfl sizeOf9 rfl rfl
theorem Ba:bf prog 24 1 1:=bf.of underlying24 rfl sizeOf9 rfl rfl
theorem Bb:bf prog 24 2 2:=bf.of underlying24 rfl sizeOf22 rfl rfl
theorem Bc:bf prog 24 3 3:=bf.of underlying24 rfl sizeOf22 rfl rfl
theorem Cd:eh prog 24 [(0,1),(1,1),(2,1),(3,1)] [.string {data:=#[]},.string {data:=#[]},sZ,sZ]:=⟨_,underlying24,zeroValue24,λw=>by simp[sizeOf22,sizeOf9]⟩
theorem Dh:bL prog 25 (.slice 5):=⟨underlying25⟩
theorem uX:cC prog 25 false:=⟨isAgg25⟩
theorem CC:Sz prog 25 1:=⟨sizeOf25⟩
theorem Dl:bL prog 26 (.slice 73):=⟨underlying26⟩
theorem uZ:cC prog 26 false:=⟨isAgg26⟩
theorem CD:Sz prog 26 1:=⟨sizeOf26⟩
theorem Dm:bL prog 27 (.slice 76):=⟨underlying27⟩
theorem u1:cC prog 27 false:=⟨isAgg27⟩
theorem CE:Sz prog 27 1:=⟨sizeOf27⟩
theorem qp:bL prog 28 (.int .u64):=⟨underlying28⟩
theorem p8:cC prog 28 false:=⟨isAgg28⟩
theorem CF:Sz prog 28 1:=⟨sizeOf28⟩
theorem u4:cC prog 30 true:=⟨isAgg30⟩
theorem CH:Sz prog 30 19:=⟨sizeOf30⟩
theorem DO:Zr prog 30 (.agg [.int .i64 0,.int .i64 0,.string {data:=#[]},.string {data:=#[]},sZ,sZ,.string {data:=#[]},.string {data:=#[]},.string {data:=#[]},.string {data:=#[]},sZ,.string {data:=#[]},.string {data:=#[]},sZ,sZ,sZ,sZ,sZ,.int .u64 0].toArray):=⟨zeroValue30⟩
theorem Bg:bf prog 30 0 0:=bf.of underlying30 rfl sizeOf3 rfl rfl
theorem Bh:bf prog 30 1 1:=bf.of underlying30 rfl sizeOf2 rfl rfl
theorem Bo:bf prog 30 2 2:=bf.of underlying30 rfl sizeOf24 rfl rfl
theorem Bp:bf prog 30 3 6:=bf.of underlying30 rfl sizeOf9 rfl rfl
theorem Bq:bf prog 30 4 7:=bf.of underlying30 rfl sizeOf9 rfl rfl
theorem Br:bf prog 30 5 8:=bf.of underlying30 rfl sizeOf9 rfl rfl
theorem Bs:bf prog 30 6 9:=bf.of underlying30 rfl sizeOf9 rfl rfl
theorem Bt:bf prog 30 7 10:=bf.of underlying30 rfl sizeOf22 rfl rfl
theorem Bu:bf prog 30 8 11:=bf.of underlying30 rfl sizeOf9 rfl rfl
theorem Bv:bf prog 30 9 12:=bf.of underlying30 rfl sizeOf9 rfl rfl
theorem Bi:bf prog 30 10 13:=bf.of underlying30 rfl sizeOf25 rfl rfl
theorem Bj:bf prog 30 11 14:=bf.of underlying30 rfl sizeOf25 rfl rfl
theorem Bk:bf prog 30 12 15:=bf.of underlying30 rfl sizeOf26 rfl rfl
theorem Bl:bf prog 30 13 16:=bf.of underlying30 rfl sizeOf26 rfl rfl
theorem Bm:bf prog 30 14 17:=bf.of underlying30 rfl sizeOf27 rfl rfl
theorem Bn:bf prog 30 15 18:=bf.of underlying30 rfl sizeOf28 rfl rfl
theorem Ch:eh prog 30 [(0,1),(1,1),(2,4),(6,1),(7,1),(8,1),(9,1),(10,1),(11,1),(12,1),(13,1),(14,1),(15,1),(16,1),(17,1),(18,1)] [.int .i64 0,.int .i64 0,.string {data:=#[]},.string {data:=#[]},sZ,sZ,.string {data:=#[]},.string {data:=#[]},.string {data:=#[]},.string {data:=#[]},sZ,.string {data:=#[]},.string {data:=#[]},sZ,sZ,sZ,sZ,sZ,.int .u64 0]:=⟨_,underlying30,zeroValue30,λw=>by simp[sizeOf2,sizeOf22,sizeOf24,sizeOf25,sizeOf26,sizeOf27,sizeOf28,sizeOf3,sizeOf9]⟩
theorem u5:cC prog 32 true:=⟨isAgg32⟩
theorem CJ:Sz prog 32 19:=⟨sizeOf32⟩
theorem DP:Zr prog 32 (.agg [.int .i64 0,.int .i64 0,.string {data:=#[]},.string {data:=#[]},sZ,sZ,.string {data:=#[]},.string {data:=#[]},.string {data:=#[]},.string {data:=#[]},sZ,.string {data:=#[]},.string {data:=#[]},sZ,sZ,sZ,sZ,sZ,.int .u64 0].toArray):=⟨zeroValue32⟩
theorem Bw:bf prog 32 0 0:=bf.of underlying32 rfl sizeOf3 rfl rfl
theorem Bx:bf prog 32 1 1:=bf.of underlying32 rfl sizeOf2 rfl rfl
theorem Ci:eh prog 32 [(0,1),(1,1),(2,4),(6,1),(7,1),(8,1),(9,1),(10,1),(11,1),(12,1),(13,1),(14,1),(15,1),(16,1),(17,1),(18,1)] [.int .i64 0,.int .i64 0,.string {data:=#[]},.string {data:=#[]},sZ,sZ,.string {data:=#[]},.string {data:=#[]},.string {data:=#[]},.string {data:=#[]},sZ,.string {data:=#[]},.string {data:=#[]},sZ,sZ,sZ,sZ,sZ,.int .u64 0]:=⟨_,underlying32,zeroValue32,λw=>by simp[sizeOf2,sizeOf22,sizeOf24,sizeOf25,sizeOf26,sizeOf27,sizeOf28,sizeOf3,sizeOf9]⟩
theorem qt:bL prog 34 (.int .i64):=⟨underlying34⟩
theorem nX:cC prog 34 false:=⟨isAgg34⟩
theorem CM:Sz prog 34 1:=⟨sizeOf34⟩
theorem Du:bL prog 46 (.pointer 51):=⟨underlying46⟩
theorem Dv:bL prog 47 (.pointer 178):=⟨underlying47⟩
theorem vd:cC prog 47 false:=⟨isAgg47⟩
theorem Dw:bL prog 48 (.pointer 182):=⟨underlying48⟩
theorem ve:cC prog 48 false:=⟨isAgg48⟩
theorem Dx:bL prog 49 (.pointer 253):=⟨underlying49⟩
theorem vg:cC prog 49 false:=⟨isAgg49⟩
theorem BE:bf prog 51 0 0:=bf.of underlying51 rfl sizeOf47 rfl rfl
theorem BF:bf prog 51 1 1:=bf.of underlying51 rfl sizeOf48 rfl rfl
theorem BG:bf prog 51 2 2:=bf.of underlying51 rfl sizeOf49 rfl rfl
theorem Cl:eh prog 51 [(0,1),(1,1),(2,1)] [.pointer none,.pointer none,.pointer none]:=⟨_,underlying51,zeroValue51,λw=>by simp[sizeOf47,sizeOf48,sizeOf49]⟩
theorem qa:cC prog 53 true:=⟨isAgg53⟩
theorem ql:Sz prog 53 4:=⟨sizeOf53⟩
theorem DT:Zr prog 53 (.agg [.string {data:=#[]},.string {data:=#[]},.int .u64 0,.int .i64 0].toArray):=⟨zeroValue53⟩
theorem Cm:eh prog 53 [(0,1),(1,1),(2,1),(3,1)] [.string {data:=#[]},.string {data:=#[]},.int .u64 0,.int .i64 0]:=⟨_,underlying53,zeroValue53,λw=>by simp[sizeOf28,sizeOf34,sizeOf9]⟩
theorem DA:bL prog 60 (.pointer 169):=⟨underlying60⟩
theorem qb:cC prog 69 true:=⟨isAgg69⟩
theorem qm:Sz prog 69 2:=⟨sizeOf69⟩
theorem BH:bf prog 69 0 0:=bf.of underlying69 rfl sizeOf9 rfl rfl
theorem BI:bf prog 69 1 1:=bf.of underlying69 rfl sizeOf9 rfl rfl
theorem Cn:eh prog 69 [(0,1),(1,1)] [.string {data:=#[]},.string {data:=#[]}]:=⟨_,underlying69,zeroValue69,λw=>by simp[sizeOf9]⟩
theorem qc:cC prog 71 true:=⟨isAgg71⟩
theorem qn:Sz prog 71 4:=⟨sizeOf71⟩
theorem DU:Zr prog 71 (.agg [.string {data:=#[]},.string {data:=#[]},.string {data:=#[]},.string {data:=#[]}].toArray):=⟨zeroValue71⟩
theorem BJ:bf prog 71 0 0:=bf.of underlying71 rfl sizeOf9 rfl rfl
theorem BK:bf prog 71 1 1:=bf.of underlying71 rfl sizeOf69 rfl rfl
theorem BL:bf prog 71 2 3:=bf.of underlying71 rfl sizeOf9 rfl rfl
theorem Co:eh prog 71 [(0,1),(1,2),(3,1)] [.string {data:=#[]},.string {data:=#[]},.string {data:=#[]},.string {data:=#[]}]:=⟨_,underlying71,zeroValue71,λw=>by simp[sizeOf69,sizeOf9]⟩
theorem qd:cC prog 73 true:=⟨isAgg73⟩
theorem qo:Sz prog 73 7:=⟨sizeOf73⟩
theorem vD:By prog 73 112:=⟨λw=>⟨_,typeInfo73 w,rfl⟩⟩
theorem DV:Zr prog 73 (.agg [.string {data:=#[]},.string {data:=#[]},.string {data:=#[]},.string {data:=#[]},.string {data:=#[]},.string {data:=#[]},.string {data:=#[]}].toArray):=⟨zeroValue73⟩
theorem BM:bf prog 73 0 0:=bf.of underlying73 rfl sizeOf69 rfl rfl
theorem BN:bf prog 73 1 2:=bf.of underlying73 rfl sizeOf9 rfl rfl
theorem BO:bf prog 73 2 3:=bf.of underlying73 rfl sizeOf71 rfl rfl
theorem Cp:eh prog 73 [(0,2),(2,1),(3,4)] [.string {data:=#[]},.string {data:=#[]},.string {data:=#[]},.string {data:=#[]},.string {data:=#[]},.string {data:=#[]},.string {data:=#[]}]:=⟨_,underlying73,zeroValue73,λw=>by simp[sizeOf69,sizeOf71,sizeOf9]⟩
theorem CT:Sz prog 76 8:=⟨sizeOf76⟩
theorem vE:By prog 76 120:=⟨λw=>⟨_,typeInfo76 w,rfl⟩⟩
theorem DW:Zr prog 76 (.agg [.bool false,.string {data:=#[]},.string {data:=#[]},.string {data:=#[]},.string {data:=#[]},.string {data:=#[]},.string {data:=#[]},.string {data:=#[]}].toArray):=⟨zeroValue76⟩
theorem BP:bf prog 76 0 0:=bf.of underlying76 rfl sizeOf4 rfl rfl
theorem BQ:bf prog 76 1 1:=bf.of underlying76 rfl sizeOf73 rfl rfl
theorem Cq:eh prog 76 [(0,1),(1,7)] [.bool false,.string {data:=#[]},.string {data:=#[]},.string {data:=#[]},.string {data:=#[]},.string {data:=#[]},.string {data:=#[]},.string {data:=#[]}]:=⟨_,underlying76,zeroValue76,λw=>by simp[sizeOf4,sizeOf73]⟩
theorem DB:bL prog 78 (.pointer 171):=⟨underlying78⟩
theorem vj:cC prog 98 true:=⟨isAgg98⟩
theorem CV:Sz prog 98 16:=⟨sizeOf98⟩
theorem DY:Zr prog 98 (.agg [.int .i64 0,.int .i64 0,.string {data:=#[]},.string {data:=#[]},sZ,sZ,.string {data:=#[]},.string {data:=#[]},.string {data:=#[]},.string {data:=#[]},sZ,.string {data:=#[]},.string {data:=#[]},sZ,sZ,.int .u64 0].toArray):=⟨zeroValue98⟩
theorem BT:bf prog 98 2 2:=bf.of underlying98 rfl sizeOf24 rfl rfl
theorem BU:bf prog 98 3 6:=bf.of underlying98 rfl sizeOf9 rfl rfl
theorem BV:bf prog 98 4 7:=bf.of underlying98 rfl sizeOf9 rfl rfl
theorem BW:bf prog 98 5 8:=bf.of underlying98 rfl sizeOf9 rfl rfl
theorem BX:bf prog 98 6 9:=bf.of underlying98 rfl sizeOf9 rfl rfl
theorem BY:bf prog 98 7 10:=bf.of underlying98 rfl sizeOf22 rfl rfl
theorem BZ:bf prog 98 8 11:=bf.of underlying98 rfl sizeOf9 rfl rfl
theorem B0:bf prog 98 9 12:=bf.of underlying98 rfl sizeOf9 rfl rfl
theorem BR:bf prog 98 10 13:=bf.of underlying98 rfl sizeOf25 rfl rfl
theorem BS:bf prog 98 11 14:=bf.of underlying98 rfl sizeOf25 rfl rfl
theorem Cr:eh prog 98 [(0,1),(1,1),(2,4),(6,1),(7,1),(8,1),(9,1),(10,1),(11,1),(12,1),(13,1),(14,1),(15,1)] [.int .i64 0,.int .i64 0,.string {data:=#[]},.string {data:=#[]},sZ,sZ,.string {data:=#[]},.string {data:=#[]},.string {data:=#[]},.string {data:=#[]},sZ,.string {data:=#[]},.string {data:=#[]},sZ,sZ,.int .u64 0]:=⟨_,underlying98,zeroValue98,λw=>by simp[sizeOf2,sizeOf22,sizeOf24,sizeOf25,sizeOf28,sizeOf3,sizeOf9]⟩
theorem uD:cC prog 103 true:=⟨isAgg103⟩
theorem Ct:Sz prog 103 12:=⟨sizeOf103⟩
theorem vl:By prog 103 200:=⟨λw=>⟨_,typeInfo103 w,rfl⟩⟩
theorem DC:Zr prog 103 (.agg [.int .i64 0,sZ,sZ,sZ,.string {data:=#[]},.string {data:=#[]},.string {data:=#[]},.string {data:=#[]},.string {data:=#[]},.string {data:=#[]},.string {data:=#[]},.int .u64 0].toArray):=⟨zeroValue103⟩
theorem At:bf prog 103 1 1:=bf.of underlying103 rfl sizeOf26 rfl rfl
theorem Au:bf prog 103 2 2:=bf.of underlying103 rfl sizeOf26 rfl rfl
theorem Av:bf prog 103 3 3:=bf.of underlying103 rfl sizeOf27 rfl rfl
theorem B4:eh prog 103 [(0,1),(1,1),(2,1),(3,1),(4,7),(11,1)] [.int .i64 0,sZ,sZ,sZ,.string {data:=#[]},.string {data:=#[]},.string {data:=#[]},.string {data:=#[]},.string {data:=#[]},.string {data:=#[]},.string {data:=#[]},.int .u64 0]:=⟨_,underlying103,zeroValue103,λw=>by simp[sizeOf101,sizeOf26,sizeOf27,sizeOf28,sizeOf3]⟩
theorem CW:bL prog 104 (.slice 103):=⟨underlying104⟩
theorem CX:bL prog 123 (.slice 24):=⟨underlying123⟩
theorem CY:bL prog 124 (.pointer 222):=⟨underlying124⟩
theorem uE:cC prog 124 false:=⟨isAgg124⟩
theorem uF:cC prog 129 true:=⟨isAgg129⟩
theorem Cu:Sz prog 129 3:=⟨sizeOf129⟩
theorem vp:By prog 129 56:=⟨λw=>⟨_,typeInfo129 w,rfl⟩⟩
theorem DD:Zr prog 129 (.agg [.string {data:=#[]},.string {data:=#[]},sZ].toArray):=⟨zeroValue129⟩
theorem Aw:bf prog 129 0 0:=bf.of underlying129 rfl sizeOf9 rfl rfl
theorem Ax:bf prog 129 1 1:=bf.of underlying129 rfl sizeOf9 rfl rfl
theorem Ay:bf prog 129 2 2:=bf.of underlying129 rfl sizeOf22 rfl rfl
theorem B5:eh prog 129 [(0,1),(1,1),(2,1)] [.string {data:=#[]},.string {data:=#[]},sZ]:=⟨_,underlying129,zeroValue129,λw=>by simp[sizeOf22,sizeOf9]⟩
theorem CZ:bL prog 130 (.slice 129):=⟨underlying130⟩
theorem C0:bL prog 131 (.pointer 230):=⟨underlying131⟩
theorem uG:cC prog 131 false:=⟨isAgg131⟩
theorem uH:cC prog 137 true:=⟨isAgg137⟩
theorem Cv:Sz prog 137 9:=⟨sizeOf137⟩
theorem vq:By prog 137 128:=⟨λw=>⟨_,typeInfo137 w,rfl⟩⟩
theorem DE:Zr prog 137 (.agg [.string {data:=#[]},.string {data:=#[]},.string {data:=#[]},.string {data:=#[]},sZ,.string {data:=#[]},.int .i64 0,.int .i64 0,.bool false].toArray):=⟨zeroValue137⟩
theorem Az:bf prog 137 0 0:=bf.of underlying137 rfl sizeOf9 rfl rfl
theorem AA:bf prog 137 4 4:=bf.of underlying137 rfl sizeOf22 rfl rfl
theorem AB:bf prog 137 6 6:=bf.of underlying137 rfl sizeOf2 rfl rfl
theorem C1:bL prog 138 (.slice 137):=⟨underlying138⟩
theorem C2:bL prog 141 (.pointer 241):=⟨underlying141⟩
theorem uI:cC prog 141 false:=⟨isAgg141⟩
theorem uJ:cC prog 146 true:=⟨isAgg146⟩
theorem Cw:Sz prog 146 9:=⟨sizeOf146⟩
theorem vv:By prog 146 112:=⟨λw=>⟨_,typeInfo146 w,rfl⟩⟩
theorem DF:Zr prog 146 (.agg [.string {data:=#[]},.int .i64 0,.string {data:=#[]},.string {data:=#[]},sZ,.int .i64 0,.int .i64 0,.int .u64 0,.bool false].toArray):=⟨zeroValue146⟩
theorem AD:bf prog 146 0 0:=bf.of underlying146 rfl sizeOf9 rfl rfl
theorem AE:bf prog 146 1 1:=bf.of underlying146 rfl sizeOf3 rfl rfl
theorem AF:bf prog 146 4 4:=bf.of underlying146 rfl sizeOf22 rfl rfl
theorem AG:bf prog 146 5 5:=bf.of underlying146 rfl sizeOf3 rfl rfl
theorem AH:bf prog 146 6 6:=bf.of underlying146 rfl sizeOf2 rfl rfl
theorem AI:bf prog 146 8 8:=bf.of underlying146 rfl sizeOf4 rfl rfl
theorem C3:bL prog 147 (.slice 146):=⟨underlying147⟩
theorem uK:cC prog 152 true:=⟨isAgg152⟩
theorem Cx:Sz prog 152 9:=⟨sizeOf152⟩
theorem vw:By prog 152 128:=⟨λw=>⟨_,typeInfo152 w,rfl⟩⟩
theorem DG:Zr prog 152 (.agg [.string {data:=#[]},.string {data:=#[]},.string {data:=#[]},.string {data:=#[]},.string {data:=#[]},.string {data:=#[]},.string {data:=#[]},.int .u64 0,.int .u64 0].toArray):=⟨zeroValue152⟩
theorem AJ:bf prog 152 0 0:=bf.of underlying152 rfl sizeOf73 rfl rfl
theorem AK:bf prog 152 1 7:=bf.of underlying152 rfl sizeOf28 rfl rfl
theorem AL:bf prog 152 2 8:=bf.of underlying152 rfl sizeOf28 rfl rfl
theorem C4:bL prog 153 (.slice 152):=⟨underlying153⟩
theorem C5:bL prog 163 (.slice 162):=⟨underlying163⟩
theorem AM:bf prog 169 0 0:=bf.of underlying169 rfl sizeOf25 rfl rfl
theorem B6:eh prog 169 [(0,1)] [sZ]:=⟨_,underlying169,zeroValue169,λw=>by simp[sizeOf25]⟩
theorem AN:bf prog 171 0 0:=bf.of underlying171 rfl sizeOf25 rfl rfl
theorem AO:bf prog 171 1 1:=bf.of underlying171 rfl sizeOf34 rfl rfl
theorem AP:bf prog 171 2 2:=bf.of underlying171 rfl sizeOf4 rfl rfl
theorem B7:eh prog 171 [(0,1),(1,1),(2,1)] [sZ,.int .i64 0,.bool false]:=⟨_,underlying171,zeroValue171,λw=>by simp[sizeOf25,sizeOf34,sizeOf4]⟩
theorem AQ:bf prog 178 0 0:=bf.of underlying178 rfl sizeOf124 rfl rfl
theorem AR:bf prog 178 1 1:=bf.of underlying178 rfl sizeOf131 rfl rfl
theorem AS:bf prog 178 2 2:=bf.of underlying178 rfl sizeOf141 rfl rfl
theorem AT:bf prog 178 3 3:=bf.of underlying178 rfl sizeOf2 rfl rfl
theorem B8:eh prog 178 [(0,1),(1,1),(2,1),(3,1)] [.pointer none,.pointer none,.pointer none,.int .i64 0]:=⟨_,underlying178,zeroValue178,λw=>by simp[sizeOf124,sizeOf131,sizeOf141,sizeOf2]⟩
theorem C6:bL prog 179 (.map 246 247):=⟨underlying179⟩
theorem uL:cC prog 179 false:=⟨isAgg179⟩
theorem C7:bL prog 180 (.map 71 247):=⟨underlying180⟩
theorem uM:cC prog 180 false:=⟨isAgg180⟩
theorem AU:bf prog 182 0 0:=bf.of underlying182 rfl sizeOf4 rfl rfl
theorem AV:bf prog 182 1 1:=bf.of underlying182 rfl sizeOf28 rfl rfl
theorem AW:bf prog 182 2 2:=bf.of underlying182 rfl sizeOf28 rfl rfl
theorem AX:bf prog 182 3 3:=bf.of underlying182 rfl sizeOf3 rfl rfl
theorem AY:bf prog 182 4 4:=bf.of underlying182 rfl sizeOf179 rfl rfl
theorem AZ:bf prog 182 5 5:=bf.of underlying182 rfl sizeOf180 rfl rfl
theorem B9:eh prog 182 [(0,1),(1,1),(2,1),(3,1),(4,1),(5,1)] [.bool false,.int .u64 0,.int .u64 0,.int .i64 0,.map none,.map none]:=⟨_,underlying182,zeroValue182,λw=>by simp[sizeOf179,sizeOf180,sizeOf28,sizeOf3,sizeOf4]⟩
theorem uN:cC prog 185 false:=⟨isAgg185⟩
theorem Da:bL prog 220 (.map 9 24):=⟨underlying220⟩
theorem uQ:cC prog 220 false:=⟨isAgg220⟩
theorem A0:bf prog 222 0 0:=bf.of underlying222 rfl sizeOf220 rfl rfl
theorem Ca:eh prog 222 [(0,1)] [.map none]:=⟨_,underlying222,zeroValue222,λw=>by simp[sizeOf220]⟩
theorem Db:bL prog 226 (.map 232 22):=⟨underlying226⟩
theorem uR:cC prog 226 false:=⟨isAgg226⟩
theorem Dc:bL prog 227 (.map 9 137):=⟨underlying227⟩
theorem uS:cC prog 227 false:=⟨isAgg227⟩
theorem De:bL prog 228 (.pointer 378):=⟨underlying228⟩
theorem uT:cC prog 228 false:=⟨isAgg228⟩
theorem A1:bf prog 230 0 0:=bf.of underlying230 rfl sizeOf226 rfl rfl
theorem A2:bf prog 230 1 1:=bf.of underlying230 rfl sizeOf227 rfl rfl
theorem A3:bf prog 230 2 2:=bf.of underlying230 rfl sizeOf228 rfl rfl
theorem Cb:eh prog 230 [(0,1),(1,1),(2,1)] [.map none,.map none,.pointer none]:=⟨_,underlying230,zeroValue230,λw=>by simp[sizeOf226,sizeOf227,sizeOf228]⟩
theorem p4:cC prog 232 true:=⟨isAgg232⟩
theorem qj:Sz prog 232 2:=⟨sizeOf232⟩
theorem DI:Zr prog 232 (.agg [.string {data:=#[]},.string {data:=#[]}].toArray):=⟨zeroValue232⟩
theorem A4:bf prog 232 0 0:=bf.of underlying232 rfl sizeOf9 rfl rfl
theorem A5:bf prog 232 1 1:=bf.of underlying232 rfl sizeOf9 rfl rfl
theorem Cc:eh prog 232 [(0,1),(1,1)] [.string {data:=#[]},.string {data:=#[]}]:=⟨_,underlying232,zeroValue232,λw=>by simp[sizeOf9]⟩
theorem Df:bL prog 239 (.map 9 146):=⟨underlying239⟩
theorem uU:cC prog 239 false:=⟨isAgg239⟩
theorem A6:bf prog 241 0 0:=bf.of underlying241 rfl sizeOf239 rfl rfl
theorem A7:bf prog 241 1 1:=bf.of underlying241 rfl sizeOf228 rfl rfl
theorem A8:bf prog 241 2 2:=bf.of underlying241 rfl sizeOf3 rfl rfl
theorem Ce:eh prog 241 [(0,1),(1,1),(2,1)] [.map none,.pointer none,.int .i64 0]:=⟨_,underlying241,zeroValue241,λw=>by simp[sizeOf228,sizeOf239,sizeOf3]⟩
theorem p5:cC prog 246 true:=⟨isAgg246⟩
theorem qk:Sz prog 246 3:=⟨sizeOf246⟩
theorem DK:Zr prog 246 (.agg [.string {data:=#[]},.string {data:=#[]},.string {data:=#[]}].toArray):=⟨zeroValue246⟩
theorem Cf:eh prog 246 [(0,2),(2,1)] [.string {data:=#[]},.string {data:=#[]},.string {data:=#[]}]:=⟨_,underlying246,zeroValue246,λw=>by simp[sizeOf69,sizeOf9]⟩
theorem Dg:bL prog 247 (.slice 248):=⟨underlying247⟩
theorem DL:Zr prog 247 (sZ):=⟨zeroValue247⟩
theorem uW:cC prog 248 false:=⟨isAgg248⟩
theorem CB:Sz prog 248 1:=⟨sizeOf248⟩
theorem vA:By prog 248 8:=⟨λw=>⟨_,typeInfo248 w,rfl⟩⟩
theorem DM:Zr prog 248 (.pointer none):=⟨zeroValue248⟩
theorem Dj:bL prog 251 (.slice 256):=⟨underlying251⟩
theorem uY:cC prog 251 false:=⟨isAgg251⟩
theorem Bd:bf prog 253 0 0:=bf.of underlying253 rfl sizeOf4 rfl rfl
theorem Be:bf prog 253 1 1:=bf.of underlying253 rfl sizeOf251 rfl rfl
theorem Bf:bf prog 253 2 2:=bf.of underlying253 rfl sizeOf3 rfl rfl
theorem Cg:eh prog 253 [(0,1),(1,1),(2,1)] [.bool false,sZ,.int .i64 0]:=⟨_,underlying253,zeroValue253,λw=>by simp[sizeOf251,sizeOf3,sizeOf4]⟩
theorem Dk:bL prog 259 (.int .u64):=⟨underlying259⟩
theorem Dn:bL prog 361 (.slice 364):=⟨underlying361⟩
theorem Bz:bf prog 372 0 0:=bf.of underlying372 rfl sizeOf9 rfl rfl
theorem BA:bf prog 372 1 1:=bf.of underlying372 rfl sizeOf2 rfl rfl
theorem BB:bf prog 372 2 2:=bf.of underlying372 rfl sizeOf3 rfl rfl
theorem Cj:eh prog 372 [(0,1),(1,1),(2,1)] [.string {data:=#[]},.int .i64 0,.int .i64 0]:=⟨_,underlying372,zeroValue372,λw=>by simp[sizeOf2,sizeOf3,sizeOf9]⟩
theorem Dp:bL prog 373 (.pointer 372):=⟨underlying373⟩
theorem u6:cC prog 373 false:=⟨isAgg373⟩
theorem CN:Sz prog 373 1:=⟨sizeOf373⟩
theorem vB:By prog 373 8:=⟨λw=>⟨_,typeInfo373 w,rfl⟩⟩
theorem DQ:Zr prog 373 (.pointer none):=⟨zeroValue373⟩
theorem Dq:bL prog 375 (.slice 373):=⟨underlying375⟩
theorem u7:cC prog 375 false:=⟨isAgg375⟩
theorem CO:Sz prog 375 1:=⟨sizeOf375⟩
theorem Dr:bL prog 376 (.map 9 373):=⟨underlying376⟩
theorem u9:cC prog 376 false:=⟨isAgg376⟩
theorem BC:bf prog 378 0 0:=bf.of underlying378 rfl sizeOf375 rfl rfl
theorem BD:bf prog 378 1 1:=bf.of underlying378 rfl sizeOf376 rfl rfl
theorem Ck:eh prog 378 [(0,1),(1,1)] [sZ,.map none]:=⟨_,underlying378,zeroValue378,λw=>by simp[sizeOf375,sizeOf376]⟩
theorem Ds:bL prog 380 (.pointer 375):=⟨underlying380⟩
theorem Dt:bL prog 440 (.slice 3):=⟨underlying440⟩
theorem Dz:bL prog 508 (.int .u64):=⟨underlying508⟩
theorem vi:cC prog 508 false:=⟨isAgg508⟩
theorem CS:Sz prog 508 1:=⟨sizeOf508⟩
theorem DS:Zr prog 508 (.int .u64 0):=⟨zeroValue508⟩
theorem iH:dE prog 9 1 [.s] false:=dE.str mN nY
theorem qg:dE prog 28 1 [.i .u64] false:=dE.int qp p8
theorem qh:dE prog 34 1 [.i .i64] false:=dE.int qt nX
theorem Cs:dE prog 53 2 [.s,.s,.i .u64,.i .i64] true:=dE.struct (n:=1) underlying53 stoodInHeld53 qa ql (dD.more iH (dD.more iH (dD.more qg (dD.more qh dD.nil))))
theorem B1:lI prog 53:=⟨eqGuardType53⟩
theorem mM:dE prog 69 2 [.s,.s] true:=dE.struct (n:=1) underlying69 stoodInHeld69 qb qm (dD.more iH (dD.more iH dD.nil))
theorem nZ:dE prog 71 3 [.s,.s,.s,.s] true:=dE.struct (n:=2) underlying71 stoodInHeld71 qc qn (dD.more iH (dD.more mM (dD.more iH dD.nil)))
theorem B2:lI prog 71:=⟨eqGuardType71⟩
theorem qi:dE prog 73 4 [.s,.s,.s,.s,.s,.s,.s] true:=dE.struct (n:=3) underlying73 stoodInHeld73 qd qo (dD.more mM (dD.more iH (dD.more nZ dD.nil)))
theorem B3:lI prog 73:=⟨eqGuardType73⟩
theorem qe:dE prog 232 2 [.s,.s] true:=dE.struct (n:=1) underlying232 stoodInHeld232 p4 qj (dD.more iH (dD.more iH dD.nil))
theorem qf:dE prog 246 3 [.s,.s,.s] true:=dE.struct (n:=2) underlying246 stoodInHeld246 p5 qk (dD.more mM (dD.more iH dD.nil))
theorem z5:aI prog 7:=⟨call7⟩
theorem vQ:aI prog 11:=⟨call11⟩
theorem vV:aI prog 13:=⟨call13⟩
theorem vX:aI prog 14:=⟨call14⟩
theorem wc:aI prog 15:=⟨call15⟩
theorem wz:aI prog 16:=⟨call16⟩
theorem wI:aI prog 17:=⟨call17⟩
theorem wQ:aI prog 18:=⟨call18⟩
theorem wW:aI prog 19:=⟨call19⟩
theorem wZ:aI prog 20:=⟨call20⟩
theorem w7:aI prog 21:=⟨call21⟩
theorem w9:aI prog 22:=⟨call22⟩
theorem xa:aI prog 23:=⟨call23⟩
theorem xM:aI prog 30:=⟨call30⟩
theorem xN:aI prog 31:=⟨call31⟩
theorem xQ:aI prog 32:=⟨call32⟩
theorem xY:aI prog 33:=⟨call33⟩
theorem zl:aI prog 42:=⟨call42⟩
theorem zT:aI prog 50:=⟨call50⟩
theorem zU:aI prog 51:=⟨call51⟩
theorem zV:aI prog 52:=⟨call52⟩
theorem zW:aI prog 53:=⟨call53⟩
theorem zX:aI prog 54:=⟨call54⟩
theorem zY:aI prog 55:=⟨call55⟩
theorem zZ:aI prog 56:=⟨call56⟩
theorem z2:aI prog 57:=⟨call57⟩
theorem z3:aI prog 58:=⟨call58⟩
theorem z4:aI prog 59:=⟨call59⟩
theorem z6:aI prog 72:=⟨call72⟩
theorem z7:aI prog 73:=⟨call73⟩
theorem z8:aI prog 74:=⟨call74⟩
theorem z9:aI prog 75:=⟨call75⟩
theorem Aa:aI prog 76:=⟨call76⟩
theorem Ab:aI prog 77:=⟨call77⟩
theorem Ac:aI prog 79:=⟨call79⟩
theorem Ad:aI prog 80:=⟨call80⟩
theorem Ae:aI prog 82:=⟨call82⟩
theorem Af:aI prog 83:=⟨call83⟩
theorem Ag:aI prog 84:=⟨call84⟩
theorem Ah:aI prog 85:=⟨call85⟩
theorem Ai:aI prog 87:=⟨call87⟩
theorem Aj:aI prog 88:=⟨call88⟩
theorem Ak:aI prog 89:=⟨call89⟩
theorem Al:aI prog 91:=⟨call91⟩
theorem Am:aI prog 92:=⟨call92⟩
theorem An:aI prog 93:=⟨call93⟩
theorem Ao:aI prog 95:=⟨call95⟩
theorem Ap:aI prog 96:=⟨call96⟩
theorem Aq:aI prog 97:=⟨call97⟩
theorem Ar:aI prog 98:=⟨call98⟩
theorem As:aI prog 99:=⟨call99⟩
theorem vG:aI prog 100:=⟨call100⟩
theorem vH:aI prog 102:=⟨call102⟩
theorem vI:aI prog 103:=⟨call103⟩
theorem vJ:aI prog 104:=⟨call104⟩
theorem vK:aI prog 105:=⟨call105⟩
theorem vL:aI prog 106:=⟨call106⟩
theorem vM:aI prog 107:=⟨call107⟩
theorem vO:aI prog 108:=⟨call108⟩
theorem vP:aI prog 109:=⟨call109⟩
theorem vR:aI prog 110:=⟨call110⟩
theorem vS:aI prog 111:=⟨call111⟩
theorem vT:aI prog 114:=⟨call114⟩
theorem vU:aI prog 117:=⟨call117⟩
theorem vW:aI prog 138:=⟨call138⟩
theorem vY:aI prog 146:=⟨call146⟩
theorem vZ:aI prog 147:=⟨call147⟩
theorem v8:aI prog 148:=⟨call148⟩
theorem wa:aI prog 149:=⟨call149⟩
theorem we:aI prog 150:=⟨call150⟩
theorem wg:aI prog 151:=⟨call151⟩
theorem wh:aI prog 152:=⟨call152⟩
theorem wi:aI prog 153:=⟨call153⟩
theorem wj:aI prog 154:=⟨call154⟩
theorem wm:aI prog 155:=⟨call155⟩
theorem wo:aI prog 156:=⟨call156⟩
theorem wq:aI prog 157:=⟨call157⟩
theorem wu:aI prog 158:=⟨call158⟩
theorem wx:aI prog 159:=⟨call159⟩
theorem wA:aI prog 160:=⟨call160⟩
theorem wB:aI prog 161:=⟨call161⟩
theorem wC:aI prog 162:=⟨call162⟩
theorem wD:aI prog 163:=⟨call163⟩
theorem wE:aI prog 164:=⟨call164⟩
theorem wF:aI prog 166:=⟨call166⟩
theorem wG:aI prog 168:=⟨call168⟩
theorem wH:aI prog 169:=⟨call169⟩
theorem wJ:aI prog 170:=⟨call170⟩
theorem wK:aI prog 171:=⟨call171⟩
theorem wL:aI prog 172:=⟨call172⟩
theorem wM:aI prog 175:=⟨call175⟩
theorem wN:aI prog 176:=⟨call176⟩
theorem wO:aI prog 177:=⟨call177⟩
theorem wP:aI prog 178:=⟨call178⟩
theorem wR:aI prog 180:=⟨call180⟩
theorem wS:aI prog 181:=⟨call181⟩
theorem wT:aI prog 183:=⟨call183⟩
theorem wU:aI prog 184:=⟨call184⟩
theorem wV:aI prog 185:=⟨call185⟩
theorem wX:aI prog 190:=⟨call190⟩
theorem wY:aI prog 198:=⟨call198⟩
theorem w3:aI prog 204:=⟨call204⟩
theorem w4:aI prog 205:=⟨call205⟩
theorem w5:aI prog 206:=⟨call206⟩
theorem w6:aI prog 207:=⟨call207⟩
theorem w8:aI prog 214:=⟨call214⟩
theorem xb:aI prog 231:=⟨call231⟩
theorem xc:aI prog 232:=⟨call232⟩
theorem xd:aI prog 234:=⟨call234⟩
theorem xe:aI prog 235:=⟨call235⟩
theorem xf:aI prog 236:=⟨call236⟩
theorem xg:aI prog 237:=⟨call237⟩
theorem xh:aI prog 238:=⟨call238⟩
theorem xi:aI prog 239:=⟨call239⟩
theorem xj:aI prog 240:=⟨call240⟩
theorem xk:aI prog 244:=⟨call244⟩
theorem xl:aI prog 245:=⟨call245⟩
theorem xm:aI prog 246:=⟨call246⟩
theorem xn:aI prog 247:=⟨call247⟩
theorem xo:aI prog 249:=⟨call249⟩
theorem xp:aI prog 251:=⟨call251⟩
theorem xq:aI prog 252:=⟨call252⟩
theorem xr:aI prog 254:=⟨call254⟩
theorem xt:aI prog 255:=⟨call255⟩
theorem xu:aI prog 257:=⟨call257⟩
theorem xv:aI prog 258:=⟨call258⟩
theorem xw:aI prog 260:=⟨call260⟩
theorem xx:aI prog 262:=⟨call262⟩
theorem xy:aI prog 263:=⟨call263⟩
theorem xz:aI prog 264:=⟨call264⟩
theorem xA:aI prog 265:=⟨call265⟩
theorem xB:aI prog 266:=⟨call266⟩
theorem xC:aI prog 270:=⟨call270⟩
theorem xD:aI prog 271:=⟨call271⟩
theorem xE:aI prog 272:=⟨call272⟩
theorem xF:aI prog 275:=⟨call275⟩
theorem xG:aI prog 279:=⟨call279⟩
theorem xH:aI prog 280:=⟨call280⟩
theorem xI:aI prog 282:=⟨call282⟩
theorem xJ:aI prog 285:=⟨call285⟩
theorem xK:aI prog 288:=⟨call288⟩
theorem xL:aI prog 294:=⟨call294⟩
theorem xO:aI prog 318:=⟨call318⟩
theorem xP:aI prog 319:=⟨call319⟩
theorem xR:aI prog 320:=⟨call320⟩
theorem xS:aI prog 321:=⟨call321⟩
theorem xT:aI prog 322:=⟨call322⟩
theorem xU:aI prog 323:=⟨call323⟩
theorem xV:aI prog 324:=⟨call324⟩
theorem xW:aI prog 325:=⟨call325⟩
theorem xX:aI prog 329:=⟨call329⟩
theorem xZ:aI prog 330:=⟨call330⟩
theorem x3:aI prog 331:=⟨call331⟩
theorem x9:aI prog 332:=⟨call332⟩
theorem ya:aI prog 333:=⟨call333⟩
theorem yb:aI prog 334:=⟨call334⟩
theorem yc:aI prog 335:=⟨call335⟩
theorem yd:aI prog 336:=⟨call336⟩
theorem ye:aI prog 337:=⟨call337⟩
theorem yf:aI prog 338:=⟨call338⟩
theorem yg:aI prog 339:=⟨call339⟩
theorem yh:aI prog 340:=⟨call340⟩
theorem yi:aI prog 341:=⟨call341⟩
theorem yj:aI prog 342:=⟨call342⟩
theorem yk:aI prog 343:=⟨call343⟩
theorem yl:aI prog 344:=⟨call344⟩
theorem ym:aI prog 345:=⟨call345⟩
theorem yn:aI prog 346:=⟨call346⟩
theorem yo:aI prog 347:=⟨call347⟩
theorem yp:aI prog 348:=⟨call348⟩
theorem yq:aI prog 349:=⟨call349⟩
theorem yr:aI prog 350:=⟨call350⟩
theorem yt:aI prog 351:=⟨call351⟩
theorem yu:aI prog 352:=⟨call352⟩
theorem yv:aI prog 353:=⟨call353⟩
theorem yw:aI prog 354:=⟨call354⟩
theorem yx:aI prog 355:=⟨call355⟩
theorem yy:aI prog 356:=⟨call356⟩
theorem yz:aI prog 357:=⟨call357⟩
theorem yA:aI prog 358:=⟨call358⟩
theorem yB:aI prog 359:=⟨call359⟩
theorem yC:aI prog 360:=⟨call360⟩
theorem yD:aI prog 361:=⟨call361⟩
theorem yE:aI prog 362:=⟨call362⟩
theorem yF:aI prog 363:=⟨call363⟩
theorem yG:aI prog 364:=⟨call364⟩
theorem yH:aI prog 365:=⟨call365⟩
theorem yI:aI prog 366:=⟨call366⟩
theorem yJ:aI prog 367:=⟨call367⟩
theorem yK:aI prog 368:=⟨call368⟩
theorem yL:aI prog 369:=⟨call369⟩
theorem yM:aI prog 370:=⟨call370⟩
theorem yN:aI prog 372:=⟨call372⟩
theorem yO:aI prog 373:=⟨call373⟩
theorem yP:aI prog 374:=⟨call374⟩
theorem yQ:aI prog 375:=⟨call375⟩
theorem yR:aI prog 376:=⟨call376⟩
theorem yS:aI prog 377:=⟨call377⟩
theorem yT:aI prog 378:=⟨call378⟩
theorem yU:aI prog 379:=⟨call379⟩
theorem yV:aI prog 380:=⟨call380⟩
theorem yW:aI prog 382:=⟨call382⟩
theorem yX:aI prog 383:=⟨call383⟩
theorem yY:aI prog 407:=⟨call407⟩
theorem yZ:aI prog 408:=⟨call408⟩
theorem za:aI prog 409:=⟨call409⟩
theorem zb:aI prog 410:=⟨call410⟩
theorem zc:aI prog 411:=⟨call411⟩
theorem zd:aI prog 412:=⟨call412⟩
theorem ze:aI prog 413:=⟨call413⟩
theorem zf:aI prog 414:=⟨call414⟩
theorem zg:aI prog 415:=⟨call415⟩
theorem zh:aI prog 416:=⟨call416⟩
theorem zi:aI prog 417:=⟨call417⟩
theorem zj:aI prog 418:=⟨call418⟩
theorem zk:aI prog 419:=⟨call419⟩
theorem zm:aI prog 420:=⟨call420⟩
theorem zo:aI prog 421:=⟨call421⟩
theorem zq:aI prog 422:=⟨call422⟩
theorem zu:aI prog 423:=⟨call423⟩
theorem zv:aI prog 424:=⟨call424⟩
theorem zw:aI prog 427:=⟨call427⟩
theorem zx:aI prog 428:=⟨call428⟩
theorem zy:aI prog 429:=⟨call429⟩
theorem zA:aI prog 430:=⟨call430⟩
theorem zB:aI prog 431:=⟨call431⟩
theorem zC:aI prog 447:=⟨call447⟩
theorem zD:aI prog 448:=⟨call448⟩
theorem zE:aI prog 449:=⟨call449⟩
theorem zF:aI prog 450:=⟨call450⟩
theorem zG:aI prog 451:=⟨call451⟩
theorem zH:aI prog 452:=⟨call452⟩
theorem zI:aI prog 453:=⟨call453⟩
theorem zJ:aI prog 455:=⟨call455⟩
theorem zK:aI prog 463:=⟨call463⟩
theorem zL:aI prog 490:=⟨call490⟩
theorem zM:aI prog 491:=⟨call491⟩
theorem zN:aI prog 492:=⟨call492⟩
theorem zO:aI prog 493:=⟨call493⟩
theorem zP:aI prog 494:=⟨call494⟩
theorem zQ:aI prog 495:=⟨call495⟩
theorem zR:aI prog 496:=⟨call496⟩
theorem zS:aI prog 497:=⟨call497⟩
attribute [instance] C8 uO Cy qq u3 CG DN qu vb Dy vh CQ vC DR mN nY CU vF DX C9 uP Cz DH uV CA vz DJ A9 Ba Bb Bc Cd Dh uX CC Dl uZ CD Dm u1 CE qp p8 CF u4 CH DO Bg Bh Bo Bp Bq Br Bs Bt Bu Bv Bi Bj Bk Bl Bm Bn Ch u5 CJ DP Bw Bx Ci qt nX CM Du Dv vd Dw ve Dx vg BE BF BG Cl qa ql DT Cm DA qb qm BH BI Cn qc qn DU BJ BK BL Co qd qo vD DV BM BN BO Cp CT vE DW BP BQ Cq DB vj CV DY BT BU BV BW BX BY BZ B0 BR BS Cr uD Ct vl DC At Au Av B4 CW CX CY uE uF Cu vp DD Aw Ax Ay B5 CZ C0 uG uH Cv vq DE Az AA AB C1 C2 uI uJ Cw vv DF AD AE AF AG AH AI C3 uK Cx vw DG AJ AK AL C4 C5 AM B6 AN AO AP B7 AQ AR AS AT B8 C6 uL C7 uM AU AV AW AX AY AZ B9 uN Da uQ A0 Ca Db uR Dc uS De uT A1 A2 A3 Cb p4 qj DI A4 A5 Cc Df uU A6 A7 A8 Ce p5 qk DK Cf Dg DL uW CB vA DM Dj uY Bd Be Bf Cg Dk Dn Bz BA BB Cj Dp u6 CN vB DQ Dq u7 CO Dr u9 BC BD Ck Ds Dt Dz vi CS DS iH qg qh Cs B1 mM nZ B2 qi B3 qe qf z5 vQ vV vX wc wz wI wQ wW wZ w7 w9 xa xM xN xQ xY zl zT zU zV zW zX zY zZ z2 z3 z4 z6 z7 z8 z9 Aa Ab Ac Ad Ae Af Ag Ah Ai Aj Ak Al Am An Ao Ap Aq Ar As vG vH vI vJ vK vL vM vO vP vR vS vT vU vW vY vZ v8 wa we wg wh wi wj wm wo wq wu wx wA wB wC wD wE wF wG wH wJ wK wL wM wN wO wP wR wS wT wU wV wX wY w3 w4 w5 w6 w8 xb xc xd xe xf xg xh xi xj xk xl xm xn xo xp xq xr xt xu xv xw xx xy xz xA xB xC xD xE xF xG xH xI xJ xK xL xO xP xR xS xT xU xV xW xX xZ x3 x9 ya yb yc yd ye yf yg yh yi yj yk yl ym yn yo yp yq yr yt yu yv yw yx yy yz yA yB yC yD yE yF yG yH yI yJ yK yL yM yN yO yP yQ yR yS yT yU yV yW yX yY yZ za zb zc zd ze zf zg zh zi zj zk zm zo zq zu zv zw zx zy zA zB zC zD zE zF zG zH zI zJ zK zL zM zN zO zP zQ zR zS
theorem mixed:prog.follows .mixedOrders=true:=by kernel_rfl
structure kF(P:Program)(R:aA)(t:TypeId)(v:Value){α:Type}(lt:α→α→Bool)(I:List α→ay→Prop):Prop where
 eW:∀L T,I L T→L.length≤1000000000
 len:∀L T,I L T→ff P t v "Len" [] R T fun u T'=>u=.int .i64 L.length∧I L T'
 less:∀L T (i k:Nat) x y,I L T→L[i]? =some x→L[k]? =some y→ff P t v "Less" [.int .i64 i,.int .i64 k] R T fun u T'=>u=.bool (lt x y)∧I L T'
 swap:∀L T (i k:Nat),I L T→i<L.length→k<L.length→ff P t v "Swap" [.int .i64 i,.int .i64 k] R T fun _ T'=>I (bn L i k) T'
section
variable{R:aA}{t:TypeId}{v:Value}{α:Type}{lt:α->α->Bool}{I:List α->ay->Prop}
theorem sQ(A:kF prog R t v lt I)(V:SO lt)(L:List α)(T:ay)(h:I L T)(j:Nat)(W:j<L.length):
  Spec prog 427 [.iface t v,.int .i64 j] R [T] λu H'=>∃T',H'=[T']/\u=.tuple #[]/\∃L',I L' T'/\L'.Perm L/\(∀k,j<k->L'[k]? =L[k]?)/\∀n,n<=L.length->j<n->Up lt L n j->ei lt L' n:=by
 have z:=A.eW L T h
 refine Spec.body func427 rfl results427 ntmps427 rfl ?_
 refine .block ?_
 refine .loop (X:=Nat×List α×ay) (λy=>I y.2.1 y.2.2/\y.1<=j/\y.2.1.Perm L/\(∀k,j<k->y.2.1[k]? =L[k]?)/\∀n,n<=L.length->j<n->Up lt L n j->Up lt y.2.1 n y.1) (λy=>[(0,.iface t v),(1,iN y.1)]) (λy=>[y.2.2]) (λy=>y.1) (j,L,T) ⟨h,abM _,.refl _,λ_ _=>rfl,λ_ _ _ h=>h⟩ kE.c.c rH ?_
 rintro⟨i,f,H⟩ ⟨w,O,l,p,r⟩
 simp only at w O l p r⊢
 have Y:=l.length_eq
 obtain⟨x,B⟩:∃x,f[i]? =some x:=⟨_,aC (by omega)⟩
 obtain⟨y,C⟩:∃y,f[aX i]? =some y:=⟨_,aC (by unfold aX;omega)⟩
 refine .block<|.sr<|.mo rfl ?_
 refine .q (.i64 ((i:Int)-1) .sub ⟨rfl,by omega,by omega⟩) ?_
 refine .q (.i64 ((aX i:Nat):Int) .quo ⟨kB,by omega,by unfold aX;omega⟩) ?_
 refine .ag rfl<|.zs<|.sr<|.mo rfl<|.mo rfl<|.q .cA<|.mo rfl ?_
 refine .split (t:=11) rfl (λd=>?_) (λd=>?_)
 refine .gF d<|.gF d<|.gF d<|.gF d<|.gF d<|.q (.bu d) ?_
 refine .zn<|.dG ?_
 refine .exit (aP (dn (aV (aR ?_))))
 refine ct _ .none rH ?_
 ·have F:aX i=i:=by simp at d;omega
  refine⟨_,rfl,rfl,f,w,l,p,λn o m g=>?_⟩
  have M:i=0:=by
   rcases Nat.eq_zero_or_pos i with e|e
   ·exact e
   ·have:=dO e;omega
  subst M
  exact(r n o m g).sB
 refine .gT d<|.mo rfl<|.gT d<|.mo rfl<|.gT d<|.mo rfl<|.gT d ?_
 refine .iG (A.less f H i (aX i) x y w B C) (λu J g=>?_)
 obtain⟨rfl,D⟩:=g
 refine .gT d<|.q .not<|.q (.bq d) ?_
 refine .zn ?_
 refine .cond rfl (λs=>?_) λs=>?_
 refine .exit (aP (dn (aV (aR ?_))))
 refine ct _ .none rH ?_
 ·refine⟨_,rfl,rfl,f,D,l,p,λn o m g=>(r n o m g).stop λa b E z=>?_⟩
  rw[C]at E;rw[B]at z
  cases E;cases z
  simpa using s
 refine .kn<|.sr<|.mo rfl<|.mo rfl<|.mo rfl ?_
 refine .iG (A.swap f J (aX i) i D (by unfold aX;omega) (by omega)) (λu K N=>?_)
 refine .zn<|.region<|.mo rfl<|.ag rfl<|.nil<|bi ?_
 ·have S:lt x y=true:=by simpa using s
  have F:aX i≠i:=by simp at d;omega
  have G:0<i:=by
   rcases Nat.eq_zero_or_pos i with e|e
   ·subst e;exact absurd rfl F
   ·exact e
  have U:=dO G
  exact aN (aX i,bn f (aX i) i,K) ⟨N,by omega,mq.trans l,λk Q=>by
   rw[cX (by omega) (by omega),if_neg (by omega),if_neg (by omega)];exact p k Q,λn o m g=>(r n o m g).step V G (by omega) (by omega) B C S⟩ U kE.c.c rH
theorem pW(hi:kF prog R t v lt I)(p:SO lt)(L:List α)(T:ay)(h:I L T)(g n:Nat)(a8:g<=n)(hn:n<=L.length):
  Spec prog 367 [.iface t v,.int .i64 g,.int .i64 n] R [T] λu H'=>∃T',H'=[T']/\∃L' m,I L' T'/\u=.bool m/\L'.Perm L/\(∀k,n<=k->L'[k]? =L[k]?)/\(gZ lt L n g->(m=true->ei lt L' n)/\(m=false->Up lt L' n g)):=by
 have O:=hi.eW L T h
 refine Spec.body func367 rfl results367 ntmps367 rfl ?_
 refine .sr<|.ag rfl<|.z<|.mo rfl<|.ag rfl<|.zs<|.block ?_
 refine .loop (X:=Nat×List α×ay) (λy=>I y.2.1 y.2.2/\g<=y.1/\y.1<=n/\y.2.1.Perm L/\(∀k,n<=k->y.2.1[k]? =L[k]?)/\(gZ lt L n g->gZ lt y.2.1 n y.1/\(y.1≠g->eB lt y.2.1 (aX y.1) y.1))) (λy=>[(0,.iface t v),(1,iN g),(2,iN n),(7,iN y.1)]) (λy=>[y.2.2]) (λy=>n-y.1) (g,L,T) ⟨h,abM _,a8,.refl _,λ_ _=>rfl,λh=>⟨h,λe=>absurd rfl e⟩⟩ kE.c.c.c.c rH ?_
 rintro⟨i,l,Z⟩ ⟨U,a9,b0,N,V,E⟩
 simp only at U a9 b0 N V E⊢
 have hl:=N.length_eq
 refine .block<|.sr<|.mo rfl ?_
 refine .ia (2*i) .mul ?_
 refine .ia (2*i+1) .add ?_
 refine .ag rfl<|.zs<|.sr<|.mo rfl<|.mo rfl<|.q .geq<|.mo rfl ?_
 refine .split (t:=18) rfl (λC=>?_) (λC=>?_)
 refine .gF C<|.gF C<|.q (.bu C) ?_
 refine .zn<|.dG ?_
 have a7:n<=2*i+1:=by
  first
   |(simp at C;omega)
   |(simp at h1;omega)
 refine .exit (aP (dn (aV (aR ?_))))
 refine aD<|.sr<|.mo rfl<|.mo rfl<|.q .gtr<|.az rfl ?_
 refine .ret (aZ _ (.one (.tmp rfl)) rH ?_)
 ·refine⟨_,rfl,l,decide (g<i),by assumption,by simp,N,V,λd=>?_⟩
  have G:Up lt l n i:=(E d).1.stop λc s w f a b F O=>by
   first
    |(simp only[aX]at f;omega)
    |(rw[Y]at F;cases F;exact p.dW _ _ _ (W c b s w f O) (by simpa using S))
  refine⟨λA=>?_,λA=>?_⟩
  ·have B:i≠g:=by simp at A;omega
   exact G.stop ((E d).2 B)
  ·have B:i=g:=by simp at A;omega
   rw[<-B];exact G
 refine .gT C<|.mo rfl<|.gT C<|.q .lss<|.q (.bq C) ?_
 refine .zn ?_
 refine .cond rfl (λh1=>?_) λh1=>?_
 have a7:n<=2*i+1:=by
  first
   |(simp at C;omega)
   |(simp at h1;omega)
 refine .exit (aP (dn (aV (aR ?_))))
 refine aD<|.sr<|.mo rfl<|.mo rfl<|.q .gtr<|.az rfl ?_
 refine .ret (aZ _ (.one (.tmp rfl)) rH ?_)
 ·refine⟨_,rfl,l,decide (g<i),by assumption,by simp,N,V,λd=>?_⟩
  have G:Up lt l n i:=(E d).1.stop λc s w f a b F O=>by
   first
    |(simp only[aX]at f;omega)
    |(rw[Y]at F;cases F;exact p.dW _ _ _ (W c b s w f O) (by simpa using S))
  refine⟨λA=>?_,λA=>?_⟩
  ·have B:i≠g:=by simp at A;omega
   exact G.stop ((E d).2 B)
  ·have B:i=g:=by simp at A;omega
   rw[<-B];exact G
 have Q:2*i+1<n:=by simp at C;omega
 obtain⟨y0,Y⟩:∃y,l[i]? =some y:=⟨_,aC (by omega)⟩
 obtain⟨J,o⟩:∃y,l[2*i+1]? =some y:=⟨_,aC (by omega)⟩
 refine .kn<|.sr<|.mo rfl<|.ag rfl<|.zs ?_
 refine bp.cut (X:=Nat×ay×α) (λz=>I l z.2.1/\0<z.1/\z.1<n/\aX z.1=i/\l[z.1]? =some z.2.2/\∀c u,0<c->c<n->aX c=i->l[c]? =some u->lt u z.2.2=false) (λz=>[(0,.iface t v),(1,iN g),(2,iN n),(7,iN i),(9,iN z.1)]) (λz=>[z.2.1]) ?_ ?_
 refine .sr<|.mo rfl ?_
 refine .ia (2*i+2) .add ?_
 refine .ag rfl<|.z<|.mo rfl<|.mo rfl<|.q .lss<|.mo rfl ?_
 refine .split (t:=28) rfl (λr=>?_) (λr=>?_)
 have a2:2*i+2<n:=by simp at r;omega
 obtain⟨x2,D⟩:∃y,l[2*i+2]? =some y:=⟨_,aC (by omega)⟩
 refine .gT r<|.mo rfl<|.gT r<|.mo rfl<|.gT r<|.mo rfl<|.gT r ?_
 refine .iG (hi.less l Z (2*i+2) (2*i+1) x2 J U D o) (λu K d=>?_)
 obtain⟨rfl,M⟩:=d
 refine .q (.bu r) ?_
 refine .zn ?_
 refine .cond rfl (λH=>?_) λH=>?_
 refine .region<|.mo rfl<|.ag rfl<|.nil ?_
 ·first
   |exact ax (2*i+2,K,x2) ⟨M,by simp only;omega,a2,by simp only[aX];omega,D,λc u s w f d=>by
     have:c=2*i+1\/c=2*i+2:=by simp only[aX]at f;omega
     rcases this with rfl|rfl
     ·rw[o]at d;cases d;exact p.gx (by simpa using H)
     ·rw[D]at d;cases d;exact p.cP _⟩ kE.c.c.c.c.c rH
   |exact ax (2*i+1,K,J) ⟨M,by simp only;omega,Q,by simp only[aX];omega,o,λc u s w f d=>by
     have:c=2*i+1\/c=2*i+2:=by simp only[aX]at f;omega
     rcases this with rfl|rfl
     ·rw[o]at d;cases d;exact p.cP _
     ·rw[D]at d;cases d;simpa using H⟩ kE.c.c.c.c.c rH
   |exact ax (2*i+1,Z,J) ⟨U,by simp only;omega,Q,by simp only[aX];omega,o,λc u s w f d=>by
     have:c=2*i+1:=by simp only[aX]at f;simp at r;omega
     subst this
     rw[o]at d;cases d;exact p.cP _⟩ kE.c.c.c.c.c rH
 refine .skip ?_
 ·first
   |exact ax (2*i+2,K,x2) ⟨M,by simp only;omega,a2,by simp only[aX];omega,D,λc u s w f d=>by
     have:c=2*i+1\/c=2*i+2:=by simp only[aX]at f;omega
     rcases this with rfl|rfl
     ·rw[o]at d;cases d;exact p.gx (by simpa using H)
     ·rw[D]at d;cases d;exact p.cP _⟩ kE.c.c.c.c.c rH
   |exact ax (2*i+1,K,J) ⟨M,by simp only;omega,Q,by simp only[aX];omega,o,λc u s w f d=>by
     have:c=2*i+1\/c=2*i+2:=by simp only[aX]at f;omega
     rcases this with rfl|rfl
     ·rw[o]at d;cases d;exact p.cP _
     ·rw[D]at d;cases d;simpa using H⟩ kE.c.c.c.c.c rH
   |exact ax (2*i+1,Z,J) ⟨U,by simp only;omega,Q,by simp only[aX];omega,o,λc u s w f d=>by
     have:c=2*i+1:=by simp only[aX]at f;simp at r;omega
     subst this
     rw[o]at d;cases d;exact p.cP _⟩ kE.c.c.c.c.c rH
 refine .gF r<|.gF r<|.gF r<|.gF r<|.q (.bq r) ?_
 refine .zn<|.bB<|.skip ?_
 ·first
   |exact ax (2*i+2,K,x2) ⟨M,by simp only;omega,a2,by simp only[aX];omega,D,λc u s w f d=>by
     have:c=2*i+1\/c=2*i+2:=by simp only[aX]at f;omega
     rcases this with rfl|rfl
     ·rw[o]at d;cases d;exact p.gx (by simpa using H)
     ·rw[D]at d;cases d;exact p.cP _⟩ kE.c.c.c.c.c rH
   |exact ax (2*i+1,K,J) ⟨M,by simp only;omega,Q,by simp only[aX];omega,o,λc u s w f d=>by
     have:c=2*i+1\/c=2*i+2:=by simp only[aX]at f;omega
     rcases this with rfl|rfl
     ·rw[o]at d;cases d;exact p.cP _
     ·rw[D]at d;cases d;simpa using H⟩ kE.c.c.c.c.c rH
   |exact ax (2*i+1,Z,J) ⟨U,by simp only;omega,Q,by simp only[aX];omega,o,λc u s w f d=>by
     have:c=2*i+1:=by simp only[aX]at f;simp at r;omega
     subst this
     rw[o]at d;cases d;exact p.cP _⟩ kE.c.c.c.c.c rH
 intro y hy
 obtain⟨j,T3,x⟩:=y
 obtain⟨a3,a0,a4,a1,hx,W⟩:=hy
 simp only at a3 a0 a4 a1 hx W⊢
 have b2:i<j:=a1▸dO a0
 refine aD<|.seq<|.sr<|.mo rfl<|.mo rfl<|.mo rfl ?_
 refine .iG (hi.less l T3 j i x y0 a3 hx Y) (λu T4 d=>?_)
 obtain⟨rfl,a5⟩:=d
 refine .q .not<|.zn ?_
 refine .cond rfl (λS=>?_) λS=>?_
 refine .exit (aP (dn (aV (aR ?_))))
 refine aD<|.sr<|.mo rfl<|.mo rfl<|.q .gtr<|.az rfl ?_
 refine .ret (aZ _ (.one (.tmp rfl)) rH ?_)
 ·refine⟨_,rfl,l,decide (g<i),by assumption,by simp,N,V,λd=>?_⟩
  have G:Up lt l n i:=(E d).1.stop λc s w f a b F O=>by
   first
    |(simp only[aX]at f;omega)
    |(rw[Y]at F;cases F;exact p.dW _ _ _ (W c b s w f O) (by simpa using S))
  refine⟨λA=>?_,λA=>?_⟩
  ·have B:i≠g:=by simp at A;omega
   exact G.stop ((E d).2 B)
  ·have B:i=g:=by simp at A;omega
   rw[<-B];exact G
 refine .kn<|.sr<|.mo rfl<|.mo rfl<|.mo rfl ?_
 refine .iG (hi.swap l T4 i j a5 (by omega) (by omega)) (λu T5 a6=>?_)
 refine .zn<|.region<|.mo rfl<|.ag rfl<|.nil<|bi ?_
 ·have b1:lt x y0=true:=by simpa using S
  exact aN (j,bn l i j,T5) ⟨a6,by simp only;omega,by simp only;omega,mq.trans N,λk hk=>by
   rw[cX (by omega) (by omega),if_neg (by omega),if_neg (by omega)];exact V k hk,λd=>by
    have:=(E d).1.step p a0 a4 (by omega) a1 hx Y b1 W
    exact⟨this.1,λ_=>this.2⟩⟩ (by simp only;omega) kE.c.c.c.c rH
theorem Em(c:kF prog R t v lt I)(o:SO lt)(L:List α)(T:ay)(h:I L T)(i:Nat)(y:i<L.length)(j:gZ lt L L.length i):
  Spec prog 382 [.iface t v,.int .i64 i] R [T] λu H'=>∃T',H'=[T']/\u=.tuple #[]/\∃L',I L' T'/\L'.Perm L/\ei lt L' L'.length:=by
 refine Spec.body func382 rfl results382 ntmps382 rfl ?_
 refine .sr<|.mo rfl<|.mo rfl<|.mo rfl ?_
 refine .iG (c.len L T h) (λu r b=>?_)
 obtain⟨rfl,a⟩:=b
 refine .bb (pW c o L r a i L.length (by omega) (abM _)) (λu s b=>?_)
 obtain⟨f,m,g,rfl,e,B,k⟩:=b
 have l:=e.length_eq
 refine .q .not<|.zn ?_
 refine .cond rfl (λa=>?_) λa=>?_
 have d:m=false:=by simpa using a
 refine .region<|.mo rfl<|.mo rfl ?_
 refine .bb (sQ c o f s g i (by omega)) (λu A b=>?_)
 obtain⟨rfl,p,w,n,C,x⟩:=b
 have z:=n.length_eq
 refine .nil<|ct _ .none rH ?_
 ·exact⟨_,rfl,rfl,p,w,n.trans e,by rw[z,l];exact x _ (by omega) y ((k j).2 d)⟩
 have d:m=true:=by simpa using a
 refine .skip<|ct _ .none rH ?_
 ·exact⟨_,rfl,rfl,f,g,e,by rw[l];exact(k j).1 d⟩
theorem FR(hi:kF Tryz.prog R t v lt I)(so:SO lt)(L:List α)(T:ay)(x:Value)(a:α)(hp:ff Tryz.prog t v "Push" [x] R T fun _ T'=>I (L++[a]) T')(hh:ei lt L L.length):
  Spec prog 383 [.iface t v,x] R [T] fun u H'=>∃T',H'=[T']∧u=.tuple #[]∧∃L',I L' T'∧L'.Perm (L++[a])∧ei lt L' L'.length:=by
 refine Spec.body func383 rfl results383 ntmps383 rfl ?_
 refine .sr<|.mo rfl<|.mo rfl ?_
 refine .iG hp (fun u T1 h1=>?_)
 have hb:=hi.eW _ T1 h1
 simp only[List.length_append,List.length_singleton]at hb
 refine .zn<|.region<|.mo rfl<|.mo rfl ?_
 refine .iG (hi.len _ T1 h1) (fun u T2 hu=>?_)
 obtain⟨rfl,h2⟩:=hu
 refine .q (.i64 ((L.length:Nat):Int) .sub ⟨by simp,by omega,by omega⟩) ?_
 refine .bb (sQ hi so _ T2 h2 L.length (by simp)) (fun u T3 hu=>?_)
 obtain⟨rfl,L3,h3,hp3,hs3,hh3⟩:=hu
 have hl3:=hp3.length_eq
 refine .nil<|ct _ .none (bV.refl _) ?_
 ·exact⟨_,rfl,rfl,L3,h3,hp3,by rw[hl3];exact hh3 _ (abM _) (by simp) (by simp;exact hh.push a)⟩
theorem EQ{L a:List α}{n:Nat}{x:α}(c:L.length=n+1)(e:L[n]? =some x)(d:L.Perm a):L=L.take n++[x]/\(L.take n).length=n/\a.Perm (x::L.take n):=by
 have b:L=L.take n++[x]:=by
  apply List.ext_getElem?
  intro k
  rcases Nat.lt_trichotomy k n with h|h|h
  ·rw[List.getElem?_append_left (by simp;omega),List.getElem?_take_of_lt h]
  ·subst h
   rw[List.getElem?_append_right (by simp;omega),e]
   simp[c]
  ·rw[List.getElem?_eq_none (by omega),List.getElem?_eq_none (by simp;omega)]
 refine⟨b,by simp;omega,d.symm.trans ?_⟩
 have:(L.take n++[x]).Perm (x::L.take n):=by simp
 rw[<-b]at this
 exact this
theorem ei.G5{L:List α}{n:Nat}(h:ei lt L n)(b:n<=L.length):ei lt (L.take n) (L.take n).length:=by
 have e:(L.take n).length=n:=by simp;omega
 rw[e]
 exact h.eV λk a=>List.getElem?_take_of_lt a
theorem FM(hi:kF prog R t v lt I)(so:SO lt)(L:List α)(T:ay)(h:I L T)(x:α)(hx:L[0]? =some x)(hh:ei lt L L.length)(px:α→Value)(J:List α→ay→Prop)
  (hp:∀L' T',I (L'++[x]) T'→L'.length+1=L.length→ff Tryz.prog t v "Pop" [] R T' fun u T''=>u=px x∧J L' T''):
  Spec prog 264 [.iface t v] R [T] fun u H'=>∃T',H'=[T']∧u=px x∧∃L',J L' T'∧L.Perm (x::L')∧ei lt L' L'.length:=by
 have hb:=hi.eW L T h
 have hpos:0<L.length:=(List.getElem?_eq_some_iff.1 hx).1
 obtain⟨n,hn⟩:∃n,L.length=n+1:=⟨L.length-1,by omega⟩
 refine Spec.body func264 rfl results264 ntmps264 rfl ?_
 refine .sr<|.ag rfl<|.z<|.mo rfl ?_
 refine .iG (hi.len L T h) (fun u T1 hu=>?_)
 obtain⟨rfl,h1⟩:=hu
 refine .q (.i64 ((n:Nat):Int) .sub ⟨by omega,by omega,by omega⟩) ?_
 refine .ag rfl<|.z<|.mo rfl<|.mo rfl ?_
 refine .iG (hi.swap L T1 0 n h1 (by omega) (by omega)) (fun u T2 h2=>?_)
 refine .z<|.mo rfl<|.mo rfl ?_
 refine .bb (pW hi so _ T2 h2 0 n (by omega) (by rw[eI];omega)) (fun u T3 hu=>?_)
 obtain⟨L3,m,h3,rfl,hp3,hs3,hh3⟩:=hu
 have hx3:L3[n]? =some x:=by rw[hs3 n (abM _),cX (by omega) (by omega),if_pos rfl,hx]
 have hl3:=hp3.length_eq
 rw[eI]at hl3
 obtain⟨e1,e2,e3⟩:=EQ (by omega) hx3 (hp3.trans mq)
 have hhole:gZ lt (bn L 0 n) n 0:=(hh.mono (by omega)).hole so (by omega) fun k hk hk0=>by rw[cX (by omega) (by omega),if_neg (by omega),if_neg hk0]
 have hH:ei lt L3 n:=by
  cases m with
  |true=>exact(hh3 hhole).1 rfl
  |false=>exact((hh3 hhole).2 rfl).sB
 refine .z<|.mo rfl ?_
 rw[e1]at h3
 refine .iG (hp _ T3 h3 (by omega)) (fun u T4 hu=>?_)
 obtain⟨rfl,h4⟩:=hu
 refine .ag rfl<|.zn ?_
 refine .ret (aZ _ (.one (.tmp rfl)) (bV.refl _) ?_)
 ·exact⟨_,rfl,rfl,_,h4,e3,hH.G5 (by omega)⟩
end
end Go.Proofs.YtgppncmdpcefhaaGreatDoor

/- What the law 'OpCodes' uses. No condition. -/
import Derived.Test.YtgppncmdpcefhaaGreatDoorChecked
import Derived.Test.YtgppncmdpcefhaaGreatDoorKOpCodesB
namespace Go.Proofs.YtgppncmdpcefhaaGreatDoor
open Tryz
set_option linter.unusedVariables false
theorem Ba:bC prog 2 (.int .i64):=⟨underlying2⟩
theorem sH:cB prog 2 false:=⟨isAgg2⟩
theorem AA:Sz prog 2 1:=⟨sizeOf2⟩
theorem oP:bC prog 3 (.int .i64):=⟨underlying3⟩
theorem sW:cB prog 3 false:=⟨isAgg3⟩
theorem AK:Sz prog 3 1:=⟨sizeOf3⟩
theorem BL:Zr prog 3 (.int .i64 0):=⟨zeroValue3⟩
theorem oQ:bC prog 4 (.bool):=⟨underlying4⟩
theorem tf:cB prog 4 false:=⟨isAgg4⟩
theorem Bx:bC prog 5 (.int .u8):=⟨underlying5⟩
theorem tj:cB prog 5 false:=⟨isAgg5⟩
theorem AQ:Sz prog 5 1:=⟨sizeOf5⟩
theorem tE:By prog 5 1:=⟨λw=>⟨_,typeInfo5 w,rfl⟩⟩
theorem BO:Zr prog 5 (.int .u8 0):=⟨zeroValue5⟩
theorem m9:bC prog 9 (.string):=⟨underlying9⟩
theorem oO:cB prog 9 false:=⟨isAgg9⟩
theorem AX:Sz prog 9 1:=⟨sizeOf9⟩
theorem tH:By prog 9 16:=⟨λw=>⟨_,typeInfo9 w,rfl⟩⟩
theorem BU:Zr prog 9 (.string {data:=#[]}):=⟨zeroValue9⟩
theorem Bb:bC prog 22 (.slice 9):=⟨underlying22⟩
theorem sI:cB prog 22 false:=⟨isAgg22⟩
theorem AB:Sz prog 22 1:=⟨sizeOf22⟩
theorem sO:cB prog 24 true:=⟨isAgg24⟩
theorem AE:Sz prog 24 4:=⟨sizeOf24⟩
theorem tD:By prog 24 80:=⟨λw=>⟨_,typeInfo24 w,rfl⟩⟩
theorem BJ:Zr prog 24 (.agg [.string {data:=#[]},.string {data:=#[]},sZ,sZ].toArray):=⟨zeroValue24⟩
theorem yJ:aV prog 24 0 0:=aV.of underlying24 rfl sizeOf9 rfl rfl
theorem yK:aV prog 24 1 1:=aV.of underlying24 rfl sizeOf9 rfl rfl
theorem yL:aV prog 24 2 2:=aV.of underlying24 rfl sizeOf22 rfl rfl
theorem yM:aV prog 24 3 3:=aV.of underlying24 rfl sizeOf22 rfl rfl
theorem Ai:ef prog 24 [(0,1),(1,1),(2,1),(3,1)] [.string {data:=#[]},.string {data:=#[]},sZ,sZ]:=⟨_,underlying24,zeroValue24,λw=>by simp[sizeOf22,sizeOf9]⟩
theorem Bi:bC prog 25 (.slice 5):=⟨underlying25⟩
theorem sQ:cB prog 25 false:=⟨isAgg25⟩
theorem AG:Sz prog 25 1:=⟨sizeOf25⟩
theorem Bl:bC prog 26 (.slice 73):=⟨underlying26⟩
theorem sS:cB prog 26 false:=⟨isAgg26⟩
theorem AH:Sz prog 26 1:=⟨sizeOf26⟩
theorem BK:Zr prog 26 (sZ):=⟨zeroValue26⟩
theorem Bm:bC prog 27 (.slice 76):=⟨underlying27⟩
theorem sU:cB prog 27 false:=⟨isAgg27⟩
theorem AI:Sz prog 27 1:=⟨sizeOf27⟩
theorem Bn:bC prog 28 (.int .u64):=⟨underlying28⟩
theorem sV:cB prog 28 false:=⟨isAgg28⟩
theorem AJ:Sz prog 28 1:=⟨sizeOf28⟩
theorem sX:cB prog 30 true:=⟨isAgg30⟩
theorem AL:Sz prog 30 19:=⟨sizeOf30⟩
theorem BM:Zr prog 30 (.agg [.int .i64 0,.int .i64 0,.string {data:=#[]},.string {data:=#[]},sZ,sZ,.string {data:=#[]},.string {data:=#[]},.string {data:=#[]},.string {data:=#[]},sZ,.string {data:=#[]},.string {data:=#[]},sZ,sZ,sZ,sZ,sZ,.int .u64 0].toArray):=⟨zeroValue30⟩
theorem yQ:aV prog 30 0 0:=aV.of underlying30 rfl sizeOf3 rfl rfl
theorem yR:aV prog 30 1 1:=aV.of underlying30 rfl sizeOf2 rfl rfl
theorem yY:aV prog 30 2 2:=aV.of underlying30 rfl sizeOf24 rfl rfl
theorem yZ:aV prog 30 3 6:=aV.of underlying30 rfl sizeOf9 rfl rfl
theorem za:aV prog 30 4 7:=aV.of underlying30 rfl sizeOf9 rfl rfl
theorem zb:aV prog 30 5 8:=aV.of underlying30 rfl sizeOf9 rfl rfl
theorem zc:aV prog 30 6 9:=aV.of underlying30 rfl sizeOf9 rfl rfl
theorem zd:aV prog 30 7 10:=aV.of underlying30 rfl sizeOf22 rfl rfl
theorem ze:aV prog 30 8 11:=aV.of underlying30 rfl sizeOf9 rfl rfl
theorem zf:aV prog 30 9 12:=aV.of underlying30 rfl sizeOf9 rfl rfl
theorem yS:aV prog 30 10 13:=aV.of underlying30 rfl sizeOf25 rfl rfl
theorem yT:aV prog 30 11 14:=aV.of underlying30 rfl sizeOf25 rfl rfl
theorem yU:aV prog 30 12 15:=aV.of underlying30 rfl sizeOf26 rfl rfl
theorem yV:aV prog 30 13 16:=aV.of underlying30 rfl sizeOf26 rfl rfl
theorem yW:aV prog 30 14 17:=aV.of underlying30 rfl sizeOf27 rfl rfl
theorem yX:aV prog 30 15 18:=aV.of underlying30 rfl sizeOf28 rfl rfl
theorem Al:ef prog 30 [(0,1),(1,1),(2,4),(6,1),(7,1),(8,1),(9,1),(10,1),(11,1),(12,1),(13,1),(14,1),(15,1),(16,1),(17,1),(18,1)] [.int .i64 0,.int .i64 0,.string {data:=#[]},.string {data:=#[]},sZ,sZ,.string {data:=#[]},.string {data:=#[]},.string {data:=#[]},.string {data:=#[]},sZ,.string {data:=#[]},.string {data:=#[]},sZ,sZ,sZ,sZ,sZ,.int .u64 0]:=⟨_,underlying30,zeroValue30,λw=>by simp[sizeOf2,sizeOf22,sizeOf24,sizeOf25,sizeOf26,sizeOf27,sizeOf28,sizeOf3,sizeOf9]⟩
theorem sY:cB prog 32 true:=⟨isAgg32⟩
theorem AM:Sz prog 32 19:=⟨sizeOf32⟩
theorem BN:Zr prog 32 (.agg [.int .i64 0,.int .i64 0,.string {data:=#[]},.string {data:=#[]},sZ,sZ,.string {data:=#[]},.string {data:=#[]},.string {data:=#[]},.string {data:=#[]},sZ,.string {data:=#[]},.string {data:=#[]},sZ,sZ,sZ,sZ,sZ,.int .u64 0].toArray):=⟨zeroValue32⟩
theorem zg:aV prog 32 0 0:=aV.of underlying32 rfl sizeOf3 rfl rfl
theorem zh:aV prog 32 1 1:=aV.of underlying32 rfl sizeOf2 rfl rfl
theorem zq:aV prog 32 2 2:=aV.of underlying32 rfl sizeOf24 rfl rfl
theorem zu:aV prog 32 3 6:=aV.of underlying32 rfl sizeOf9 rfl rfl
theorem zv:aV prog 32 4 7:=aV.of underlying32 rfl sizeOf9 rfl rfl
theorem zw:aV prog 32 5 8:=aV.of underlying32 rfl sizeOf9 rfl rfl
theorem zx:aV prog 32 6 9:=aV.of underlying32 rfl sizeOf9 rfl rfl
theorem zy:aV prog 32 7 10:=aV.of underlying32 rfl sizeOf22 rfl rfl
theorem zA:aV prog 32 8 11:=aV.of underlying32 rfl sizeOf9 rfl rfl
theorem zB:aV prog 32 9 12:=aV.of underlying32 rfl sizeOf9 rfl rfl
theorem zi:aV prog 32 10 13:=aV.of underlying32 rfl sizeOf25 rfl rfl
theorem zj:aV prog 32 11 14:=aV.of underlying32 rfl sizeOf25 rfl rfl
theorem zk:aV prog 32 12 15:=aV.of underlying32 rfl sizeOf26 rfl rfl
theorem zl:aV prog 32 13 16:=aV.of underlying32 rfl sizeOf26 rfl rfl
theorem zm:aV prog 32 14 17:=aV.of underlying32 rfl sizeOf27 rfl rfl
theorem zo:aV prog 32 15 18:=aV.of underlying32 rfl sizeOf28 rfl rfl
theorem Am:ef prog 32 [(0,1),(1,1),(2,4),(6,1),(7,1),(8,1),(9,1),(10,1),(11,1),(12,1),(13,1),(14,1),(15,1),(16,1),(17,1),(18,1)] [.int .i64 0,.int .i64 0,.string {data:=#[]},.string {data:=#[]},sZ,sZ,.string {data:=#[]},.string {data:=#[]},.string {data:=#[]},.string {data:=#[]},sZ,.string {data:=#[]},.string {data:=#[]},sZ,sZ,sZ,sZ,sZ,.int .u64 0]:=⟨_,underlying32,zeroValue32,λw=>by simp[sizeOf2,sizeOf22,sizeOf24,sizeOf25,sizeOf26,sizeOf27,sizeOf28,sizeOf3,sizeOf9]⟩
theorem oN:cB prog 34 false:=⟨isAgg34⟩
theorem AN:Sz prog 34 1:=⟨sizeOf34⟩
theorem Bt:bC prog 46 (.pointer 51):=⟨underlying46⟩
theorem Bu:bC prog 47 (.pointer 178):=⟨underlying47⟩
theorem tg:cB prog 47 false:=⟨isAgg47⟩
theorem Bv:bC prog 48 (.pointer 182):=⟨underlying48⟩
theorem th:cB prog 48 false:=⟨isAgg48⟩
theorem Bw:bC prog 49 (.pointer 253):=⟨underlying49⟩
theorem ti:cB prog 49 false:=⟨isAgg49⟩
theorem zH:aV prog 51 0 0:=aV.of underlying51 rfl sizeOf47 rfl rfl
theorem zI:aV prog 51 1 1:=aV.of underlying51 rfl sizeOf48 rfl rfl
theorem zJ:aV prog 51 2 2:=aV.of underlying51 rfl sizeOf49 rfl rfl
theorem Ao:ef prog 51 [(0,1),(1,1),(2,1)] [.pointer none,.pointer none,.pointer none]:=⟨_,underlying51,zeroValue51,λw=>by simp[sizeOf47,sizeOf48,sizeOf49]⟩
theorem tn:cB prog 53 true:=⟨isAgg53⟩
theorem AS:Sz prog 53 4:=⟨sizeOf53⟩
theorem BQ:Zr prog 53 (.agg [.string {data:=#[]},.string {data:=#[]},.int .u64 0,.int .i64 0].toArray):=⟨zeroValue53⟩
theorem Ap:ef prog 53 [(0,1),(1,1),(2,1),(3,1)] [.string {data:=#[]},.string {data:=#[]},.int .u64 0,.int .i64 0]:=⟨_,underlying53,zeroValue53,λw=>by simp[sizeOf28,sizeOf34,sizeOf9]⟩
theorem BA:bC prog 60 (.pointer 169):=⟨underlying60⟩
theorem BB:bC prog 67 (.slice 26):=⟨underlying67⟩
theorem AT:Sz prog 69 2:=⟨sizeOf69⟩
theorem zK:aV prog 69 0 0:=aV.of underlying69 rfl sizeOf9 rfl rfl
theorem zL:aV prog 69 1 1:=aV.of underlying69 rfl sizeOf9 rfl rfl
theorem Aq:ef prog 69 [(0,1),(1,1)] [.string {data:=#[]},.string {data:=#[]}]:=⟨_,underlying69,zeroValue69,λw=>by simp[sizeOf9]⟩
theorem tp:cB prog 71 true:=⟨isAgg71⟩
theorem AU:Sz prog 71 4:=⟨sizeOf71⟩
theorem BR:Zr prog 71 (.agg [.string {data:=#[]},.string {data:=#[]},.string {data:=#[]},.string {data:=#[]}].toArray):=⟨zeroValue71⟩
theorem zM:aV prog 71 0 0:=aV.of underlying71 rfl sizeOf9 rfl rfl
theorem zN:aV prog 71 1 1:=aV.of underlying71 rfl sizeOf69 rfl rfl
theorem zO:aV prog 71 2 3:=aV.of underlying71 rfl sizeOf9 rfl rfl
theorem Ar:ef prog 71 [(0,1),(1,2),(3,1)] [.string {data:=#[]},.string {data:=#[]},.string {data:=#[]},.string {data:=#[]}]:=⟨_,underlying71,zeroValue71,λw=>by simp[sizeOf69,sizeOf9]⟩
theorem tq:cB prog 73 true:=⟨isAgg73⟩
theorem AV:Sz prog 73 7:=⟨sizeOf73⟩
theorem tF:By prog 73 112:=⟨λw=>⟨_,typeInfo73 w,rfl⟩⟩
theorem BS:Zr prog 73 (.agg [.string {data:=#[]},.string {data:=#[]},.string {data:=#[]},.string {data:=#[]},.string {data:=#[]},.string {data:=#[]},.string {data:=#[]}].toArray):=⟨zeroValue73⟩
theorem zP:aV prog 73 0 0:=aV.of underlying73 rfl sizeOf69 rfl rfl
theorem zQ:aV prog 73 1 2:=aV.of underlying73 rfl sizeOf9 rfl rfl
theorem zR:aV prog 73 2 3:=aV.of underlying73 rfl sizeOf71 rfl rfl
theorem As:ef prog 73 [(0,2),(2,1),(3,4)] [.string {data:=#[]},.string {data:=#[]},.string {data:=#[]},.string {data:=#[]},.string {data:=#[]},.string {data:=#[]},.string {data:=#[]}]:=⟨_,underlying73,zeroValue73,λw=>by simp[sizeOf69,sizeOf71,sizeOf9]⟩
theorem tu:cB prog 76 true:=⟨isAgg76⟩
theorem AW:Sz prog 76 8:=⟨sizeOf76⟩
theorem tG:By prog 76 120:=⟨λw=>⟨_,typeInfo76 w,rfl⟩⟩
theorem BT:Zr prog 76 (.agg [.bool false,.string {data:=#[]},.string {data:=#[]},.string {data:=#[]},.string {data:=#[]},.string {data:=#[]},.string {data:=#[]},.string {data:=#[]}].toArray):=⟨zeroValue76⟩
theorem zS:aV prog 76 0 0:=aV.of underlying76 rfl sizeOf4 rfl rfl
theorem zT:aV prog 76 1 1:=aV.of underlying76 rfl sizeOf73 rfl rfl
theorem At:ef prog 76 [(0,1),(1,7)] [.bool false,.string {data:=#[]},.string {data:=#[]},.string {data:=#[]},.string {data:=#[]},.string {data:=#[]},.string {data:=#[]},.string {data:=#[]}]:=⟨_,underlying76,zeroValue76,λw=>by simp[sizeOf4,sizeOf73]⟩
theorem BC:bC prog 78 (.pointer 171):=⟨underlying78⟩
theorem tv:cB prog 98 true:=⟨isAgg98⟩
theorem AY:Sz prog 98 16:=⟨sizeOf98⟩
theorem BV:Zr prog 98 (.agg [.int .i64 0,.int .i64 0,.string {data:=#[]},.string {data:=#[]},sZ,sZ,.string {data:=#[]},.string {data:=#[]},.string {data:=#[]},.string {data:=#[]},sZ,.string {data:=#[]},.string {data:=#[]},sZ,sZ,.int .u64 0].toArray):=⟨zeroValue98⟩
theorem zW:aV prog 98 2 2:=aV.of underlying98 rfl sizeOf24 rfl rfl
theorem zX:aV prog 98 3 6:=aV.of underlying98 rfl sizeOf9 rfl rfl
theorem zY:aV prog 98 4 7:=aV.of underlying98 rfl sizeOf9 rfl rfl
theorem zZ:aV prog 98 5 8:=aV.of underlying98 rfl sizeOf9 rfl rfl
theorem z3:aV prog 98 6 9:=aV.of underlying98 rfl sizeOf9 rfl rfl
theorem z5:aV prog 98 7 10:=aV.of underlying98 rfl sizeOf22 rfl rfl
theorem z7:aV prog 98 8 11:=aV.of underlying98 rfl sizeOf9 rfl rfl
theorem z9:aV prog 98 9 12:=aV.of underlying98 rfl sizeOf9 rfl rfl
theorem zU:aV prog 98 10 13:=aV.of underlying98 rfl sizeOf25 rfl rfl
theorem zV:aV prog 98 11 14:=aV.of underlying98 rfl sizeOf25 rfl rfl
theorem Au:ef prog 98 [(0,1),(1,1),(2,4),(6,1),(7,1),(8,1),(9,1),(10,1),(11,1),(12,1),(13,1),(14,1),(15,1)] [.int .i64 0,.int .i64 0,.string {data:=#[]},.string {data:=#[]},sZ,sZ,.string {data:=#[]},.string {data:=#[]},.string {data:=#[]},.string {data:=#[]},sZ,.string {data:=#[]},.string {data:=#[]},sZ,sZ,.int .u64 0]:=⟨_,underlying98,zeroValue98,λw=>by simp[sizeOf2,sizeOf22,sizeOf24,sizeOf25,sizeOf28,sizeOf3,sizeOf9]⟩
theorem sx:cB prog 103 true:=⟨isAgg103⟩
theorem Av:Sz prog 103 12:=⟨sizeOf103⟩
theorem tw:By prog 103 200:=⟨λw=>⟨_,typeInfo103 w,rfl⟩⟩
theorem BD:Zr prog 103 (.agg [.int .i64 0,sZ,sZ,sZ,.string {data:=#[]},.string {data:=#[]},.string {data:=#[]},.string {data:=#[]},.string {data:=#[]},.string {data:=#[]},.string {data:=#[]},.int .u64 0].toArray):=⟨zeroValue103⟩
theorem yc:aV prog 103 1 1:=aV.of underlying103 rfl sizeOf26 rfl rfl
theorem yd:aV prog 103 2 2:=aV.of underlying103 rfl sizeOf26 rfl rfl
theorem ye:aV prog 103 3 3:=aV.of underlying103 rfl sizeOf27 rfl rfl
theorem Aa:ef prog 103 [(0,1),(1,1),(2,1),(3,1),(4,7),(11,1)] [.int .i64 0,sZ,sZ,sZ,.string {data:=#[]},.string {data:=#[]},.string {data:=#[]},.string {data:=#[]},.string {data:=#[]},.string {data:=#[]},.string {data:=#[]},.int .u64 0]:=⟨_,underlying103,zeroValue103,λw=>by simp[sizeOf101,sizeOf26,sizeOf27,sizeOf28,sizeOf3]⟩
theorem AZ:bC prog 104 (.slice 103):=⟨underlying104⟩
theorem A0:bC prog 123 (.slice 24):=⟨underlying123⟩
theorem A1:bC prog 124 (.pointer 222):=⟨underlying124⟩
theorem sy:cB prog 124 false:=⟨isAgg124⟩
theorem sA:cB prog 129 true:=⟨isAgg129⟩
theorem Aw:Sz prog 129 3:=⟨sizeOf129⟩
theorem tz:By prog 129 56:=⟨λw=>⟨_,typeInfo129 w,rfl⟩⟩
theorem BE:Zr prog 129 (.agg [.string {data:=#[]},.string {data:=#[]},sZ].toArray):=⟨zeroValue129⟩
theorem yf:aV prog 129 0 0:=aV.of underlying129 rfl sizeOf9 rfl rfl
theorem yg:aV prog 129 1 1:=aV.of underlying129 rfl sizeOf9 rfl rfl
theorem Ab:ef prog 129 [(0,1),(1,1),(2,1)] [.string {data:=#[]},.string {data:=#[]},sZ]:=⟨_,underlying129,zeroValue129,λw=>by simp[sizeOf22,sizeOf9]⟩
theorem A2:bC prog 130 (.slice 129):=⟨underlying130⟩
theorem A3:bC prog 131 (.pointer 230):=⟨underlying131⟩
theorem sB:cB prog 131 false:=⟨isAgg131⟩
theorem sC:cB prog 137 true:=⟨isAgg137⟩
theorem Ax:Sz prog 137 9:=⟨sizeOf137⟩
theorem tA:By prog 137 128:=⟨λw=>⟨_,typeInfo137 w,rfl⟩⟩
theorem BF:Zr prog 137 (.agg [.string {data:=#[]},.string {data:=#[]},.string {data:=#[]},.string {data:=#[]},sZ,.string {data:=#[]},.int .i64 0,.int .i64 0,.bool false].toArray):=⟨zeroValue137⟩
theorem yh:aV prog 137 0 0:=aV.of underlying137 rfl sizeOf9 rfl rfl
theorem yi:aV prog 137 4 4:=aV.of underlying137 rfl sizeOf22 rfl rfl
theorem A4:bC prog 138 (.slice 137):=⟨underlying138⟩
theorem A5:bC prog 141 (.pointer 241):=⟨underlying141⟩
theorem sD:cB prog 141 false:=⟨isAgg141⟩
theorem sE:cB prog 146 true:=⟨isAgg146⟩
theorem Ay:Sz prog 146 9:=⟨sizeOf146⟩
theorem tB:By prog 146 112:=⟨λw=>⟨_,typeInfo146 w,rfl⟩⟩
theorem BG:Zr prog 146 (.agg [.string {data:=#[]},.int .i64 0,.string {data:=#[]},.string {data:=#[]},sZ,.int .i64 0,.int .i64 0,.int .u64 0,.bool false].toArray):=⟨zeroValue146⟩
theorem yj:aV prog 146 0 0:=aV.of underlying146 rfl sizeOf9 rfl rfl
theorem yk:aV prog 146 4 4:=aV.of underlying146 rfl sizeOf22 rfl rfl
theorem A6:bC prog 147 (.slice 146):=⟨underlying147⟩
theorem sF:cB prog 152 true:=⟨isAgg152⟩
theorem Az:Sz prog 152 9:=⟨sizeOf152⟩
theorem tC:By prog 152 128:=⟨λw=>⟨_,typeInfo152 w,rfl⟩⟩
theorem BH:Zr prog 152 (.agg [.string {data:=#[]},.string {data:=#[]},.string {data:=#[]},.string {data:=#[]},.string {data:=#[]},.string {data:=#[]},.string {data:=#[]},.int .u64 0,.int .u64 0].toArray):=⟨zeroValue152⟩
theorem yl:aV prog 152 0 0:=aV.of underlying152 rfl sizeOf73 rfl rfl
theorem ym:aV prog 152 1 7:=aV.of underlying152 rfl sizeOf28 rfl rfl
theorem A7:bC prog 153 (.slice 152):=⟨underlying153⟩
theorem A8:bC prog 163 (.slice 162):=⟨underlying163⟩
theorem yn:aV prog 169 0 0:=aV.of underlying169 rfl sizeOf25 rfl rfl
theorem Ac:ef prog 169 [(0,1)] [sZ]:=⟨_,underlying169,zeroValue169,λw=>by simp[sizeOf25]⟩
theorem yo:aV prog 171 0 0:=aV.of underlying171 rfl sizeOf25 rfl rfl
theorem yp:aV prog 171 1 1:=aV.of underlying171 rfl sizeOf34 rfl rfl
theorem yq:aV prog 171 2 2:=aV.of underlying171 rfl sizeOf4 rfl rfl
theorem Ad:ef prog 171 [(0,1),(1,1),(2,1)] [sZ,.int .i64 0,.bool false]:=⟨_,underlying171,zeroValue171,λw=>by simp[sizeOf25,sizeOf34,sizeOf4]⟩
theorem yr:aV prog 178 0 0:=aV.of underlying178 rfl sizeOf124 rfl rfl
theorem yt:aV prog 178 1 1:=aV.of underlying178 rfl sizeOf131 rfl rfl
theorem yu:aV prog 178 2 2:=aV.of underlying178 rfl sizeOf141 rfl rfl
theorem yv:aV prog 178 3 3:=aV.of underlying178 rfl sizeOf2 rfl rfl
theorem Ae:ef prog 178 [(0,1),(1,1),(2,1),(3,1)] [.pointer none,.pointer none,.pointer none,.int .i64 0]:=⟨_,underlying178,zeroValue178,λw=>by simp[sizeOf124,sizeOf131,sizeOf141,sizeOf2]⟩
theorem A9:bC prog 179 (.map 246 247):=⟨underlying179⟩
theorem sG:cB prog 179 false:=⟨isAgg179⟩
theorem yw:aV prog 182 0 0:=aV.of underlying182 rfl sizeOf4 rfl rfl
theorem yx:aV prog 182 1 1:=aV.of underlying182 rfl sizeOf28 rfl rfl
theorem yy:aV prog 182 2 2:=aV.of underlying182 rfl sizeOf28 rfl rfl
theorem yz:aV prog 182 4 4:=aV.of underlying182 rfl sizeOf179 rfl rfl
theorem Af:ef prog 182 [(0,1),(1,1),(2,1),(3,1),(4,1),(5,1)] [.bool false,.int .u64 0,.int .u64 0,.int .i64 0,.map none,.map none]:=⟨_,underlying182,zeroValue182,λw=>by simp[sizeOf179,sizeOf180,sizeOf28,sizeOf3,sizeOf4]⟩
theorem Bc:bC prog 220 (.map 9 24):=⟨underlying220⟩
theorem sJ:cB prog 220 false:=⟨isAgg220⟩
theorem yA:aV prog 222 0 0:=aV.of underlying222 rfl sizeOf220 rfl rfl
theorem Ag:ef prog 222 [(0,1)] [.map none]:=⟨_,underlying222,zeroValue222,λw=>by simp[sizeOf220]⟩
theorem Bd:bC prog 226 (.map 232 22):=⟨underlying226⟩
theorem sK:cB prog 226 false:=⟨isAgg226⟩
theorem Be:bC prog 227 (.map 9 137):=⟨underlying227⟩
theorem sL:cB prog 227 false:=⟨isAgg227⟩
theorem Bf:bC prog 228 (.pointer 378):=⟨underlying228⟩
theorem sM:cB prog 228 false:=⟨isAgg228⟩
theorem yB:aV prog 230 0 0:=aV.of underlying230 rfl sizeOf226 rfl rfl
theorem yC:aV prog 230 1 1:=aV.of underlying230 rfl sizeOf227 rfl rfl
theorem yD:aV prog 230 2 2:=aV.of underlying230 rfl sizeOf228 rfl rfl
theorem Ah:ef prog 230 [(0,1),(1,1),(2,1)] [.map none,.map none,.pointer none]:=⟨_,underlying230,zeroValue230,λw=>by simp[sizeOf226,sizeOf227,sizeOf228]⟩
theorem AD:Sz prog 232 2:=⟨sizeOf232⟩
theorem BI:Zr prog 232 (.agg [.string {data:=#[]},.string {data:=#[]}].toArray):=⟨zeroValue232⟩
theorem yE:aV prog 232 0 0:=aV.of underlying232 rfl sizeOf9 rfl rfl
theorem yF:aV prog 232 1 1:=aV.of underlying232 rfl sizeOf9 rfl rfl
theorem Bg:bC prog 239 (.map 9 146):=⟨underlying239⟩
theorem sN:cB prog 239 false:=⟨isAgg239⟩
theorem yG:aV prog 241 0 0:=aV.of underlying241 rfl sizeOf239 rfl rfl
theorem yH:aV prog 241 1 1:=aV.of underlying241 rfl sizeOf228 rfl rfl
theorem yI:aV prog 241 2 2:=aV.of underlying241 rfl sizeOf3 rfl rfl
theorem Aj:ef prog 241 [(0,1),(1,1),(2,1)] [.map none,.pointer none,.int .i64 0]:=⟨_,underlying241,zeroValue241,λw=>by simp[sizeOf228,sizeOf239,sizeOf3]⟩
theorem Bh:bC prog 247 (.slice 248):=⟨underlying247⟩
theorem sP:cB prog 248 false:=⟨isAgg248⟩
theorem AF:Sz prog 248 1:=⟨sizeOf248⟩
theorem Bj:bC prog 251 (.slice 256):=⟨underlying251⟩
theorem sR:cB prog 251 false:=⟨isAgg251⟩
theorem yN:aV prog 253 0 0:=aV.of underlying253 rfl sizeOf4 rfl rfl
theorem yO:aV prog 253 1 1:=aV.of underlying253 rfl sizeOf251 rfl rfl
theorem yP:aV prog 253 2 2:=aV.of underlying253 rfl sizeOf3 rfl rfl
theorem Ak:ef prog 253 [(0,1),(1,1),(2,1)] [.bool false,sZ,.int .i64 0]:=⟨_,underlying253,zeroValue253,λw=>by simp[sizeOf251,sizeOf3,sizeOf4]⟩
theorem Bk:bC prog 259 (.int .u64):=⟨underlying259⟩
theorem zC:aV prog 372 0 0:=aV.of underlying372 rfl sizeOf9 rfl rfl
theorem zD:aV prog 372 1 1:=aV.of underlying372 rfl sizeOf2 rfl rfl
theorem zE:aV prog 372 2 2:=aV.of underlying372 rfl sizeOf3 rfl rfl
theorem Bo:bC prog 373 (.pointer 372):=⟨underlying373⟩
theorem s0:cB prog 373 false:=⟨isAgg373⟩
theorem AO:Sz prog 373 1:=⟨sizeOf373⟩
theorem Bp:bC prog 375 (.slice 373):=⟨underlying375⟩
theorem tc:cB prog 375 false:=⟨isAgg375⟩
theorem AP:Sz prog 375 1:=⟨sizeOf375⟩
theorem Bq:bC prog 376 (.map 9 373):=⟨underlying376⟩
theorem td:cB prog 376 false:=⟨isAgg376⟩
theorem zF:aV prog 378 0 0:=aV.of underlying378 rfl sizeOf375 rfl rfl
theorem zG:aV prog 378 1 1:=aV.of underlying378 rfl sizeOf376 rfl rfl
theorem An:ef prog 378 [(0,1),(1,1)] [sZ,.map none]:=⟨_,underlying378,zeroValue378,λw=>by simp[sizeOf375,sizeOf376]⟩
theorem Br:bC prog 380 (.pointer 375):=⟨underlying380⟩
theorem Bs:bC prog 440 (.slice 3):=⟨underlying440⟩
theorem Bz:bC prog 508 (.int .u64):=⟨underlying508⟩
theorem tm:cB prog 508 false:=⟨isAgg508⟩
theorem AR:Sz prog 508 1:=⟨sizeOf508⟩
theorem BP:Zr prog 508 (.int .u64 0):=⟨zeroValue508⟩
theorem xG:aL prog 6:=⟨call6⟩
theorem xH:aL prog 7:=⟨call7⟩
theorem xP:aL prog 8:=⟨call8⟩
theorem xY:aL prog 9:=⟨call9⟩
theorem tI:aL prog 10:=⟨call10⟩
theorem tV:aL prog 11:=⟨call11⟩
theorem tX:aL prog 12:=⟨call12⟩
theorem tY:aL prog 13:=⟨call13⟩
theorem tZ:aL prog 14:=⟨call14⟩
theorem ug:aL prog 15:=⟨call15⟩
theorem uy:aL prog 16:=⟨call16⟩
theorem uG:aL prog 17:=⟨call17⟩
theorem uJ:aL prog 20:=⟨call20⟩
theorem uK:aL prog 22:=⟨call22⟩
theorem uL:aL prog 23:=⟨call23⟩
theorem uU:aL prog 24:=⟨call24⟩
theorem uW:aL prog 25:=⟨call25⟩
theorem uX:aL prog 26:=⟨call26⟩
theorem u9:aL prog 27:=⟨call27⟩
theorem vb:aL prog 28:=⟨call28⟩
theorem vd:aL prog 29:=⟨call29⟩
theorem ve:aL prog 30:=⟨call30⟩
theorem vg:aL prog 31:=⟨call31⟩
theorem vj:aL prog 32:=⟨call32⟩
theorem vB:aL prog 33:=⟨call33⟩
theorem vM:aL prog 34:=⟨call34⟩
theorem vY:aL prog 35:=⟨call35⟩
theorem wq:aL prog 36:=⟨call36⟩
theorem wB:aL prog 37:=⟨call37⟩
theorem wC:aL prog 38:=⟨call38⟩
theorem wD:aL prog 39:=⟨call39⟩
theorem wE:aL prog 40:=⟨call40⟩
theorem wI:aL prog 41:=⟨call41⟩
theorem wT:aL prog 42:=⟨call42⟩
theorem wZ:aL prog 43:=⟨call43⟩
theorem xa:aL prog 44:=⟨call44⟩
theorem xe:aL prog 45:=⟨call45⟩
theorem xj:aL prog 46:=⟨call46⟩
theorem xl:aL prog 47:=⟨call47⟩
theorem xm:aL prog 48:=⟨call48⟩
theorem xn:aL prog 49:=⟨call49⟩
theorem xw:aL prog 50:=⟨call50⟩
theorem xx:aL prog 51:=⟨call51⟩
theorem xy:aL prog 52:=⟨call52⟩
theorem xz:aL prog 53:=⟨call53⟩
theorem xA:aL prog 54:=⟨call54⟩
theorem xB:aL prog 55:=⟨call55⟩
theorem xC:aL prog 56:=⟨call56⟩
theorem xD:aL prog 57:=⟨call57⟩
theorem xE:aL prog 58:=⟨call58⟩
theorem xF:aL prog 59:=⟨call59⟩
theorem xI:aL prog 72:=⟨call72⟩
theorem xJ:aL prog 73:=⟨call73⟩
theorem xK:aL prog 74:=⟨call74⟩
theorem xL:aL prog 75:=⟨call75⟩
theorem xM:aL prog 76:=⟨call76⟩
theorem xN:aL prog 77:=⟨call77⟩
theorem xO:aL prog 79:=⟨call79⟩
theorem xQ:aL prog 80:=⟨call80⟩
theorem xR:aL prog 82:=⟨call82⟩
theorem xS:aL prog 83:=⟨call83⟩
theorem xT:aL prog 84:=⟨call84⟩
theorem xU:aL prog 85:=⟨call85⟩
theorem xV:aL prog 87:=⟨call87⟩
theorem xW:aL prog 88:=⟨call88⟩
theorem xX:aL prog 89:=⟨call89⟩
theorem xZ:aL prog 91:=⟨call91⟩
theorem x1:aL prog 92:=⟨call92⟩
theorem x3:aL prog 93:=⟨call93⟩
theorem x5:aL prog 96:=⟨call96⟩
theorem x9:aL prog 97:=⟨call97⟩
theorem ya:aL prog 98:=⟨call98⟩
theorem yb:aL prog 99:=⟨call99⟩
theorem tJ:aL prog 100:=⟨call100⟩
theorem tL:aL prog 101:=⟨call101⟩
theorem tM:aL prog 102:=⟨call102⟩
theorem tN:aL prog 103:=⟨call103⟩
theorem tP:aL prog 104:=⟨call104⟩
theorem tQ:aL prog 105:=⟨call105⟩
theorem tR:aL prog 106:=⟨call106⟩
theorem tS:aL prog 107:=⟨call107⟩
theorem tT:aL prog 108:=⟨call108⟩
theorem tU:aL prog 109:=⟨call109⟩
theorem tW:aL prog 110:=⟨call110⟩
theorem uc:aL prog 146:=⟨call146⟩
theorem ud:aL prog 147:=⟨call147⟩
theorem ue:aL prog 148:=⟨call148⟩
theorem uf:aL prog 149:=⟨call149⟩
theorem uh:aL prog 150:=⟨call150⟩
theorem ui:aL prog 151:=⟨call151⟩
theorem uj:aL prog 152:=⟨call152⟩
theorem uk:aL prog 153:=⟨call153⟩
theorem ul:aL prog 154:=⟨call154⟩
theorem um:aL prog 155:=⟨call155⟩
theorem uo:aL prog 156:=⟨call156⟩
theorem uq:aL prog 157:=⟨call157⟩
theorem uv:aL prog 158:=⟨call158⟩
theorem ux:aL prog 159:=⟨call159⟩
theorem uz:aL prog 160:=⟨call160⟩
theorem uA:aL prog 161:=⟨call161⟩
theorem uB:aL prog 162:=⟨call162⟩
theorem uC:aL prog 163:=⟨call163⟩
theorem uD:aL prog 164:=⟨call164⟩
theorem uE:aL prog 168:=⟨call168⟩
theorem uF:aL prog 169:=⟨call169⟩
theorem uH:aL prog 170:=⟨call170⟩
theorem uI:aL prog 171:=⟨call171⟩
theorem uM:aL prog 231:=⟨call231⟩
theorem uN:aL prog 232:=⟨call232⟩
theorem uO:aL prog 234:=⟨call234⟩
theorem uP:aL prog 235:=⟨call235⟩
theorem uQ:aL prog 236:=⟨call236⟩
theorem uR:aL prog 237:=⟨call237⟩
theorem uS:aL prog 238:=⟨call238⟩
theorem uT:aL prog 239:=⟨call239⟩
theorem uV:aL prog 240:=⟨call240⟩
theorem uY:aL prog 262:=⟨call262⟩
theorem uZ:aL prog 263:=⟨call263⟩
theorem u0:aL prog 264:=⟨call264⟩
theorem vh:aL prog 318:=⟨call318⟩
theorem vi:aL prog 319:=⟨call319⟩
theorem vl:aL prog 320:=⟨call320⟩
theorem vp:aL prog 321:=⟨call321⟩
theorem vq:aL prog 322:=⟨call322⟩
theorem vv:aL prog 323:=⟨call323⟩
theorem vw:aL prog 324:=⟨call324⟩
theorem vz:aL prog 325:=⟨call325⟩
theorem vA:aL prog 329:=⟨call329⟩
theorem vC:aL prog 330:=⟨call330⟩
theorem vD:aL prog 331:=⟨call331⟩
theorem vE:aL prog 332:=⟨call332⟩
theorem vF:aL prog 333:=⟨call333⟩
theorem vG:aL prog 334:=⟨call334⟩
theorem vH:aL prog 335:=⟨call335⟩
theorem vI:aL prog 336:=⟨call336⟩
theorem vJ:aL prog 337:=⟨call337⟩
theorem vK:aL prog 338:=⟨call338⟩
theorem vL:aL prog 339:=⟨call339⟩
theorem vO:aL prog 340:=⟨call340⟩
theorem vP:aL prog 341:=⟨call341⟩
theorem vQ:aL prog 342:=⟨call342⟩
theorem vR:aL prog 343:=⟨call343⟩
theorem vS:aL prog 344:=⟨call344⟩
theorem vT:aL prog 345:=⟨call345⟩
theorem vU:aL prog 346:=⟨call346⟩
theorem vV:aL prog 347:=⟨call347⟩
theorem vW:aL prog 348:=⟨call348⟩
theorem vX:aL prog 349:=⟨call349⟩
theorem vZ:aL prog 350:=⟨call350⟩
theorem wa:aL prog 351:=⟨call351⟩
theorem wc:aL prog 352:=⟨call352⟩
theorem we:aL prog 353:=⟨call353⟩
theorem wg:aL prog 354:=⟨call354⟩
theorem wh:aL prog 355:=⟨call355⟩
theorem wi:aL prog 356:=⟨call356⟩
theorem wj:aL prog 357:=⟨call357⟩
theorem wk:aL prog 358:=⟨call358⟩
theorem wm:aL prog 359:=⟨call359⟩
theorem wu:aL prog 360:=⟨call360⟩
theorem wx:aL prog 361:=⟨call361⟩
theorem wy:aL prog 362:=⟨call362⟩
theorem wz:aL prog 366:=⟨call366⟩
theorem wA:aL prog 367:=⟨call367⟩
theorem wF:aL prog 407:=⟨call407⟩
theorem wG:aL prog 408:=⟨call408⟩
theorem wH:aL prog 409:=⟨call409⟩
theorem wJ:aL prog 410:=⟨call410⟩
theorem wK:aL prog 411:=⟨call411⟩
theorem wL:aL prog 412:=⟨call412⟩
theorem wM:aL prog 413:=⟨call413⟩
theorem wN:aL prog 414:=⟨call414⟩
theorem wO:aL prog 415:=⟨call415⟩
theorem wP:aL prog 416:=⟨call416⟩
theorem wQ:aL prog 417:=⟨call417⟩
theorem wR:aL prog 418:=⟨call418⟩
theorem wS:aL prog 419:=⟨call419⟩
theorem wU:aL prog 420:=⟨call420⟩
theorem wV:aL prog 421:=⟨call421⟩
theorem wW:aL prog 422:=⟨call422⟩
theorem wX:aL prog 423:=⟨call423⟩
theorem wY:aL prog 424:=⟨call424⟩
theorem xb:aL prog 447:=⟨call447⟩
theorem xc:aL prog 448:=⟨call448⟩
theorem xd:aL prog 449:=⟨call449⟩
theorem xf:aL prog 450:=⟨call450⟩
theorem xg:aL prog 451:=⟨call451⟩
theorem xh:aL prog 452:=⟨call452⟩
theorem xi:aL prog 453:=⟨call453⟩
theorem xk:aL prog 463:=⟨call463⟩
theorem xo:aL prog 490:=⟨call490⟩
theorem xp:aL prog 491:=⟨call491⟩
theorem xq:aL prog 492:=⟨call492⟩
theorem xr:aL prog 493:=⟨call493⟩
theorem xt:aL prog 494:=⟨call494⟩
theorem xu:aL prog 495:=⟨call495⟩
theorem xv:aL prog 496:=⟨call496⟩
attribute [instance] Ba sH AA oP sW AK BL oQ tf Bx tj AQ tE BO m9 oO AX tH BU Bb sI AB sO AE tD BJ yJ yK yL yM Ai Bi sQ AG Bl sS AH BK Bm sU AI Bn sV AJ sX AL BM yQ yR yY yZ za zb zc zd ze zf yS yT yU yV yW yX Al sY AM BN zg zh zq zu zv zw zx zy zA zB zi zj zk zl zm zo Am oN AN Bt Bu tg Bv th Bw ti zH zI zJ Ao tn AS BQ Ap BA BB AT zK zL Aq tp AU BR zM zN zO Ar tq AV tF BS zP zQ zR As tu AW tG BT zS zT At BC tv AY BV zW zX zY zZ z3 z5 z7 z9 zU zV Au sx Av tw BD yc yd ye Aa AZ A0 A1 sy sA Aw tz BE yf yg Ab A2 A3 sB sC Ax tA BF yh yi A4 A5 sD sE Ay tB BG yj yk A6 sF Az tC BH yl ym A7 A8 yn Ac yo yp yq Ad yr yt yu yv Ae A9 sG yw yx yy yz Af Bc sJ yA Ag Bd sK Be sL Bf sM yB yC yD Ah AD BI yE yF Bg sN yG yH yI Aj Bh sP AF Bj sR yN yO yP Ak Bk zC zD zE Bo s0 AO Bp tc AP Bq td zF zG An Br Bs Bz tm AR BP xG xH xP xY tI tV tX tY tZ ug uy uG uJ uK uL uU uW uX u9 vb vd ve vg vj vB vM vY wq wB wC wD wE wI wT wZ xa xe xj xl xm xn xw xx xy xz xA xB xC xD xE xF xI xJ xK xL xM xN xO xQ xR xS xT xU xV xW xX xZ x1 x3 x5 x9 ya yb tJ tL tM tN tP tQ tR tS tT tU tW uc ud ue uf uh ui uj uk ul um uo uq uv ux uz uA uB uC uD uE uF uH uI uM uN uO uP uQ uR uS uT uV uY uZ u0 vh vi vl vp vq vv vw vz vA vC vD vE vF vG vH vI vJ vK vL vO vP vQ vR vS vT vU vV vW vX vZ wa wc we wg wh wi wj wk wm wu wx wy wz wA wF wG wH wJ wK wL wM wN wO wP wQ wR wS wU wV wW wX wY xb xc xd xf xg xh xi xk xo xp xq xr xt xu xv
theorem mixed:prog.follows .mixedOrders=true:=by kernel_rfl
structure mK(P:Program)(R:aC)(t:TypeId)(v:Value){α:Type}(lt:α→α→Bool)(I:List α→ax→Prop):Prop where
 bT:∀L T,I L T→L.length≤1000000000
 len:∀L T,I L T→eZ P t v "Len" [] R T fun u T'=>u=.int .i64 L.length∧I L T'
 less:∀L T (i k:Nat) x y,I L T→L[i]? =some x→L[k]? =some y→eZ P t v "Less" [.int .i64 i,.int .i64 k] R T fun u T'=>u=.bool (lt x y)∧I L T'
 swap:∀L T (i k:Nat),I L T→i<L.length→k<L.length→eZ P t v "Swap" [.int .i64 i,.int .i64 k] R T fun _ T'=>I (bi L i k) T'
section
variable{R:aC}{t:TypeId}{v:Value}{α:Type}{lt:α->α->Bool}{I:List α->ax->Prop}
theorem sb(hi:mK prog R t v lt I)(p:SO lt)(L:List α)(T:ax)(h:I L T)(g n:Nat)(a8:g<=n)(hn:n<=L.length):
  Spec prog 367 [.iface t v,.int .i64 g,.int .i64 n] R [T] λu H'=>∃T',H'=[T']/\∃L' m,I L' T'/\u=.bool m/\L'.Perm L/\(∀k,n<=k->L'[k]? =L[k]?)/\(gJ lt L n g->(m=true->eo lt L' n)/\(m=false->Up lt L' n g)):=by
 have O:=hi.bT L T h
 refine Spec.body func367 rfl results367 ntmps367 rfl ?_
 refine .sr<|.ag rfl<|.z<|.mo rfl<|.ag rfl<|.zs<|.block ?_
 refine .loop (X:=Nat×List α×ax) (λy=>I y.2.1 y.2.2/\g<=y.1/\y.1<=n/\y.2.1.Perm L/\(∀k,n<=k->y.2.1[k]? =L[k]?)/\(gJ lt L n g->gJ lt y.2.1 n y.1/\(y.1≠g->dY lt y.2.1 (bb y.1) y.1))) (λy=>[(0,.iface t v),(1,iN g),(2,iN n),(7,iN y.1)]) (λy=>[y.2.2]) (λy=>n-y.1) (g,L,T) ⟨h,Nat.le_refl _,a8,.refl _,λ_ _=>rfl,λh=>⟨h,λe=>absurd rfl e⟩⟩ kE.c.c.c.c rH ?_
 rintro⟨i,l,Z⟩ ⟨U,a9,b0,N,V,E⟩
 simp only at U a9 b0 N V E⊢
 have hl:=N.length_eq
 refine .block<|.sr<|.mo rfl ?_
 refine .ia (2*i) .mul ?_
 refine .ia (2*i+1) .add ?_
 refine .ag rfl<|.zs<|.sr<|.mo rfl<|.mo rfl<|.q .geq<|.mo rfl ?_
 refine .split (t:=18) rfl (λC=>?_) (λC=>?_)
 refine .gF C<|.gF C<|.q (.cb C) ?_
 refine .zn<|.jK ?_
 have a7:n<=2*i+1:=by
  first
   |(simp at C;omega)
   |(simp at h1;omega)
 refine .exit (aU (dE (aY (aW ?_))))
 refine aF<|.sr<|.mo rfl<|.mo rfl<|.q .gtr<|.az rfl ?_
 refine .ret (ba _ (.one (.tmp rfl)) rH ?_)
 ·refine⟨_,rfl,l,decide (g<i),by assumption,by simp,N,V,λd=>?_⟩
  have G:Up lt l n i:=(E d).1.stop λc s w f a b F O=>by
   first
    |(simp only[bb]at f;omega)
    |(rw[Y]at F;cases F;exact p.dN _ _ _ (W c b s w f O) (by simpa using S))
  refine⟨λA=>?_,λA=>?_⟩
  ·have B:i≠g:=by simp at A;omega
   exact G.stop ((E d).2 B)
  ·have B:i=g:=by simp at A;omega
   rw[<-B];exact G
 refine .gT C<|.mo rfl<|.gT C<|.q .lss<|.q (.bW C) ?_
 refine .zn ?_
 refine .cond rfl (λh1=>?_) λh1=>?_
 have a7:n<=2*i+1:=by
  first
   |(simp at C;omega)
   |(simp at h1;omega)
 refine .exit (aU (dE (aY (aW ?_))))
 refine aF<|.sr<|.mo rfl<|.mo rfl<|.q .gtr<|.az rfl ?_
 refine .ret (ba _ (.one (.tmp rfl)) rH ?_)
 ·refine⟨_,rfl,l,decide (g<i),by assumption,by simp,N,V,λd=>?_⟩
  have G:Up lt l n i:=(E d).1.stop λc s w f a b F O=>by
   first
    |(simp only[bb]at f;omega)
    |(rw[Y]at F;cases F;exact p.dN _ _ _ (W c b s w f O) (by simpa using S))
  refine⟨λA=>?_,λA=>?_⟩
  ·have B:i≠g:=by simp at A;omega
   exact G.stop ((E d).2 B)
  ·have B:i=g:=by simp at A;omega
   rw[<-B];exact G
 have Q:2*i+1<n:=by simp at C;omega
 obtain⟨y0,Y⟩:∃y,l[i]? =some y:=⟨_,aE (by omega)⟩
 obtain⟨J,o⟩:∃y,l[2*i+1]? =some y:=⟨_,aE (by omega)⟩
 refine .kn<|.sr<|.mo rfl<|.ag rfl<|.zs ?_
 refine bj.cut (X:=Nat×ax×α) (λz=>I l z.2.1/\0<z.1/\z.1<n/\bb z.1=i/\l[z.1]? =some z.2.2/\∀c u,0<c->c<n->bb c=i->l[c]? =some u->lt u z.2.2=false) (λz=>[(0,.iface t v),(1,iN g),(2,iN n),(7,iN i),(9,iN z.1)]) (λz=>[z.2.1]) ?_ ?_
 refine .sr<|.mo rfl ?_
 refine .ia (2*i+2) .add ?_
 refine .ag rfl<|.z<|.mo rfl<|.mo rfl<|.q .lss<|.mo rfl ?_
 refine .split (t:=28) rfl (λr=>?_) (λr=>?_)
 have a2:2*i+2<n:=by simp at r;omega
 obtain⟨x2,D⟩:∃y,l[2*i+2]? =some y:=⟨_,aE (by omega)⟩
 refine .gT r<|.mo rfl<|.gT r<|.mo rfl<|.gT r<|.mo rfl<|.gT r ?_
 refine .jI (hi.less l Z (2*i+2) (2*i+1) x2 J U D o) (λu K d=>?_)
 obtain⟨rfl,M⟩:=d
 refine .q (.cb r) ?_
 refine .zn ?_
 refine .cond rfl (λH=>?_) λH=>?_
 refine .region<|.mo rfl<|.ag rfl<|.nil ?_
 ·first
   |exact aw (2*i+2,K,x2) ⟨M,by simp only;omega,a2,by simp only[bb];omega,D,λc u s w f d=>by
     have:c=2*i+1\/c=2*i+2:=by simp only[bb]at f;omega
     rcases this with rfl|rfl
     ·rw[o]at d;cases d;exact p.gg (by simpa using H)
     ·rw[D]at d;cases d;exact p.cM _⟩ kE.c.c.c.c.c rH
   |exact aw (2*i+1,K,J) ⟨M,by simp only;omega,Q,by simp only[bb];omega,o,λc u s w f d=>by
     have:c=2*i+1\/c=2*i+2:=by simp only[bb]at f;omega
     rcases this with rfl|rfl
     ·rw[o]at d;cases d;exact p.cM _
     ·rw[D]at d;cases d;simpa using H⟩ kE.c.c.c.c.c rH
   |exact aw (2*i+1,Z,J) ⟨U,by simp only;omega,Q,by simp only[bb];omega,o,λc u s w f d=>by
     have:c=2*i+1:=by simp only[bb]at f;simp at r;omega
     subst this
     rw[o]at d;cases d;exact p.cM _⟩ kE.c.c.c.c.c rH
 refine .skip ?_
 ·first
   |exact aw (2*i+2,K,x2) ⟨M,by simp only;omega,a2,by simp only[bb];omega,D,λc u s w f d=>by
     have:c=2*i+1\/c=2*i+2:=by simp only[bb]at f;omega
     rcases this with rfl|rfl
     ·rw[o]at d;cases d;exact p.gg (by simpa using H)
     ·rw[D]at d;cases d;exact p.cM _⟩ kE.c.c.c.c.c rH
   |exact aw (2*i+1,K,J) ⟨M,by simp only;omega,Q,by simp only[bb];omega,o,λc u s w f d=>by
     have:c=2*i+1\/c=2*i+2:=by simp only[bb]at f;omega
     rcases this with rfl|rfl
     ·rw[o]at d;cases d;exact p.cM _
     ·rw[D]at d;cases d;simpa using H⟩ kE.c.c.c.c.c rH
   |exact aw (2*i+1,Z,J) ⟨U,by simp only;omega,Q,by simp only[bb];omega,o,λc u s w f d=>by
     have:c=2*i+1:=by simp only[bb]at f;simp at r;omega
     subst this
     rw[o]at d;cases d;exact p.cM _⟩ kE.c.c.c.c.c rH
 refine .gF r<|.gF r<|.gF r<|.gF r<|.q (.bW r) ?_
 refine .zn<|.bD<|.skip ?_
 ·first
   |exact aw (2*i+2,K,x2) ⟨M,by simp only;omega,a2,by simp only[bb];omega,D,λc u s w f d=>by
     have:c=2*i+1\/c=2*i+2:=by simp only[bb]at f;omega
     rcases this with rfl|rfl
     ·rw[o]at d;cases d;exact p.gg (by simpa using H)
     ·rw[D]at d;cases d;exact p.cM _⟩ kE.c.c.c.c.c rH
   |exact aw (2*i+1,K,J) ⟨M,by simp only;omega,Q,by simp only[bb];omega,o,λc u s w f d=>by
     have:c=2*i+1\/c=2*i+2:=by simp only[bb]at f;omega
     rcases this with rfl|rfl
     ·rw[o]at d;cases d;exact p.cM _
     ·rw[D]at d;cases d;simpa using H⟩ kE.c.c.c.c.c rH
   |exact aw (2*i+1,Z,J) ⟨U,by simp only;omega,Q,by simp only[bb];omega,o,λc u s w f d=>by
     have:c=2*i+1:=by simp only[bb]at f;simp at r;omega
     subst this
     rw[o]at d;cases d;exact p.cM _⟩ kE.c.c.c.c.c rH
 intro y hy
 obtain⟨j,T3,x⟩:=y
 obtain⟨a3,a0,a4,a1,hx,W⟩:=hy
 simp only at a3 a0 a4 a1 hx W⊢
 have b2:i<j:=a1▸dV a0
 refine aF<|.seq<|.sr<|.mo rfl<|.mo rfl<|.mo rfl ?_
 refine .jI (hi.less l T3 j i x y0 a3 hx Y) (λu T4 d=>?_)
 obtain⟨rfl,a5⟩:=d
 refine .q .not<|.zn ?_
 refine .cond rfl (λS=>?_) λS=>?_
 refine .exit (aU (dE (aY (aW ?_))))
 refine aF<|.sr<|.mo rfl<|.mo rfl<|.q .gtr<|.az rfl ?_
 refine .ret (ba _ (.one (.tmp rfl)) rH ?_)
 ·refine⟨_,rfl,l,decide (g<i),by assumption,by simp,N,V,λd=>?_⟩
  have G:Up lt l n i:=(E d).1.stop λc s w f a b F O=>by
   first
    |(simp only[bb]at f;omega)
    |(rw[Y]at F;cases F;exact p.dN _ _ _ (W c b s w f O) (by simpa using S))
  refine⟨λA=>?_,λA=>?_⟩
  ·have B:i≠g:=by simp at A;omega
   exact G.stop ((E d).2 B)
  ·have B:i=g:=by simp at A;omega
   rw[<-B];exact G
 refine .kn<|.sr<|.mo rfl<|.mo rfl<|.mo rfl ?_
 refine .jI (hi.swap l T4 i j a5 (by omega) (by omega)) (λu T5 a6=>?_)
 refine .zn<|.region<|.mo rfl<|.ag rfl<|.nil<|bd ?_
 ·have b1:lt x y0=true:=by simpa using S
  exact aT (j,bi l i j,T5) ⟨a6,by simp only;omega,by simp only;omega,mB.trans N,λk hk=>by
   rw[cX (by omega) (by omega),if_neg (by omega),if_neg (by omega)];exact V k hk,λd=>by
    have:=(E d).1.step p a0 a4 (by omega) a1 hx Y b1 W
    exact⟨this.1,λ_=>this.2⟩⟩ (by simp only;omega) kE.c.c.c.c rH
theorem CF{L a:List α}{n:Nat}{x:α}(c:L.length=n+1)(e:L[n]? =some x)(d:L.Perm a):L=L.take n++[x]/\(L.take n).length=n/\a.Perm (x::L.take n):=by
 have b:L=L.take n++[x]:=by
  apply List.ext_getElem?
  intro k
  rcases Nat.lt_trichotomy k n with h|h|h
  ·rw[List.getElem?_append_left (by simp;omega),List.getElem?_take_of_lt h]
  ·subst h
   rw[List.getElem?_append_right (by simp;omega),e]
   simp[c]
  ·rw[List.getElem?_eq_none (by omega),List.getElem?_eq_none (by simp;omega)]
 refine⟨b,by simp;omega,d.symm.trans ?_⟩
 have:(L.take n++[x]).Perm (x::L.take n):=by simp
 rw[<-b]at this
 exact this
theorem eo.Et{L:List α}{n:Nat}(h:eo lt L n)(b:n<=L.length):eo lt (L.take n) (L.take n).length:=by
 have e:(L.take n).length=n:=by simp;omega
 rw[e]
 exact h.eV λk a=>List.getElem?_take_of_lt a
theorem Dp(hi:mK prog R t v lt I)(so:SO lt)(L:List α)(T:ax)(h:I L T)(x:α)(hx:L[0]? =some x)(hh:eo lt L L.length)(px:α→Value)(J:List α→ax→Prop)
  (hp:∀L' T',I (L'++[x]) T'→L'.length+1=L.length→eZ Tryz.prog t v "Pop" [] R T' fun u T''=>u=px x∧J L' T''):
  Spec prog 264 [.iface t v] R [T] fun u H'=>∃T',H'=[T']∧u=px x∧∃L',J L' T'∧L.Perm (x::L')∧eo lt L' L'.length:=by
 have hb:=hi.bT L T h
 have hpos:0<L.length:=(List.getElem?_eq_some_iff.1 hx).1
 obtain⟨n,hn⟩:∃n,L.length=n+1:=⟨L.length-1,by omega⟩
 refine Spec.body func264 rfl results264 ntmps264 rfl ?_
 refine .sr<|.ag rfl<|.z<|.mo rfl ?_
 refine .jI (hi.len L T h) (fun u T1 hu=>?_)
 obtain⟨rfl,h1⟩:=hu
 refine .q (.i64 ((n:Nat):Int) .sub ⟨by omega,by omega,by omega⟩) ?_
 refine .ag rfl<|.z<|.mo rfl<|.mo rfl ?_
 refine .jI (hi.swap L T1 0 n h1 (by omega) (by omega)) (fun u T2 h2=>?_)
 refine .z<|.mo rfl<|.mo rfl ?_
 refine .aR (sb hi so _ T2 h2 0 n (by omega) (by rw[ez];omega)) (fun u T3 hu=>?_)
 obtain⟨L3,m,h3,rfl,hp3,hs3,hh3⟩:=hu
 have hx3:L3[n]? =some x:=by rw[hs3 n (Nat.le_refl _),cX (by omega) (by omega),if_pos rfl,hx]
 have hl3:=hp3.length_eq
 rw[ez]at hl3
 obtain⟨e1,e2,e3⟩:=CF (by omega) hx3 (hp3.trans mB)
 have hhole:gJ lt (bi L 0 n) n 0:=(hh.mono (by omega)).hole so (by omega) fun k hk hk0=>by rw[cX (by omega) (by omega),if_neg (by omega),if_neg hk0]
 have hH:eo lt L3 n:=by
  cases m with
  |true=>exact(hh3 hhole).1 rfl
  |false=>exact((hh3 hhole).2 rfl).En
 refine .z<|.mo rfl ?_
 rw[e1]at h3
 refine .jI (hp _ T3 h3 (by omega)) (fun u T4 hu=>?_)
 obtain⟨rfl,h4⟩:=hu
 refine .ag rfl<|.zn ?_
 refine .ret (ba _ (.one (.tmp rfl)) (bJ.refl _) ?_)
 ·exact⟨_,rfl,rfl,_,h4,e3,hH.Et (by omega)⟩
end
end Go.Proofs.YtgppncmdpcefhaaGreatDoor

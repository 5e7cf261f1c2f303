/- What the law 'OpDecodes' uses. No condition. -/
import Derived.Test.YtgppncmdpcefhaaGreatDoorChecked
import Derived.Test.YtgppncmdpcefhaaGreatDoorKOpDecodesB
namespace Go.Proofs.YtgppncmdpcefhaaGreatDoor
open Tryz
set_option linter.unusedVariables false
set_option linter.unusedSimpArgs false
theorem zc:bF prog 2 (.int .i64):=⟨underlying2⟩
theorem q3:cx prog 2 false:=⟨isAgg2⟩
theorem yv:Sz prog 2 1:=⟨sizeOf2⟩
theorem zv:bF prog 3 (.int .i64):=⟨underlying3⟩
theorem ru:cx prog 3 false:=⟨isAgg3⟩
theorem yE:Sz prog 3 1:=⟨sizeOf3⟩
theorem zS:Zr prog 3 (.int .i64 0):=⟨zeroValue3⟩
theorem rD:cx prog 4 false:=⟨isAgg4⟩
theorem zG:bF prog 5 (.int .u8):=⟨underlying5⟩
theorem rI:cx prog 5 false:=⟨isAgg5⟩
theorem yK:Sz prog 5 1:=⟨sizeOf5⟩
theorem rT:By prog 5 1:=⟨λw=>⟨_,typeInfo5 w,rfl⟩⟩
theorem zV:Zr prog 5 (.int .u8 0):=⟨zeroValue5⟩
theorem nT:bF prog 9 (.string):=⟨underlying9⟩
theorem nS:cx prog 9 false:=⟨isAgg9⟩
theorem yR:Sz prog 9 1:=⟨sizeOf9⟩
theorem rW:By prog 9 16:=⟨λw=>⟨_,typeInfo9 w,rfl⟩⟩
theorem z1:Zr prog 9 (.string {data:=#[]}):=⟨zeroValue9⟩
theorem zd:bF prog 22 (.slice 9):=⟨underlying22⟩
theorem q5:cx prog 22 false:=⟨isAgg22⟩
theorem yw:Sz prog 22 1:=⟨sizeOf22⟩
theorem ri:cx prog 24 true:=⟨isAgg24⟩
theorem yy:Sz prog 24 4:=⟨sizeOf24⟩
theorem rS:By prog 24 80:=⟨λw=>⟨_,typeInfo24 w,rfl⟩⟩
theorem zQ:Zr prog 24 (.agg [.string {data:=#[]},.string {data:=#[]},sZ,sZ].toArray):=⟨zeroValue24⟩
theorem wX:ba prog 24 0 0:=ba.of underlying24 rfl sizeOf9 rfl rfl
theorem wY:ba prog 24 1 1:=ba.of underlying24 rfl sizeOf9 rfl rfl
theorem wZ:ba prog 24 2 2:=ba.of underlying24 rfl sizeOf22 rfl rfl
theorem xa:ba prog 24 3 3:=ba.of underlying24 rfl sizeOf22 rfl rfl
theorem yg:ez prog 24 [(0,1),(1,1),(2,1),(3,1)] [.string {data:=#[]},.string {data:=#[]},sZ,sZ]:=⟨_,underlying24,zeroValue24,λw=>by simp[sizeOf22,sizeOf9]⟩
theorem zk:bF prog 25 (.slice 5):=⟨underlying25⟩
theorem rk:cx prog 25 false:=⟨isAgg25⟩
theorem yA:Sz prog 25 1:=⟨sizeOf25⟩
theorem zo:bF prog 26 (.slice 73):=⟨underlying26⟩
theorem rn:cx prog 26 false:=⟨isAgg26⟩
theorem yB:Sz prog 26 1:=⟨sizeOf26⟩
theorem zR:Zr prog 26 (sZ):=⟨zeroValue26⟩
theorem zq:bF prog 27 (.slice 76):=⟨underlying27⟩
theorem rq:cx prog 27 false:=⟨isAgg27⟩
theorem yC:Sz prog 27 1:=⟨sizeOf27⟩
theorem zu:bF prog 28 (.int .u64):=⟨underlying28⟩
theorem rr:cx prog 28 false:=⟨isAgg28⟩
theorem yD:Sz prog 28 1:=⟨sizeOf28⟩
theorem ry:cx prog 30 true:=⟨isAgg30⟩
theorem yF:Sz prog 30 19:=⟨sizeOf30⟩
theorem zT:Zr prog 30 (.agg [.int .i64 0,.int .i64 0,.string {data:=#[]},.string {data:=#[]},sZ,sZ,.string {data:=#[]},.string {data:=#[]},.string {data:=#[]},.string {data:=#[]},sZ,.string {data:=#[]},.string {data:=#[]},sZ,sZ,sZ,sZ,sZ,.int .u64 0].toArray):=⟨zeroValue30⟩
theorem xe:ba prog 30 0 0:=ba.of underlying30 rfl sizeOf3 rfl rfl
theorem xf:ba prog 30 1 1:=ba.of underlying30 rfl sizeOf2 rfl rfl
theorem xm:ba prog 30 2 2:=ba.of underlying30 rfl sizeOf24 rfl rfl
theorem xn:ba prog 30 3 6:=ba.of underlying30 rfl sizeOf9 rfl rfl
theorem xo:ba prog 30 4 7:=ba.of underlying30 rfl sizeOf9 rfl rfl
theorem xp:ba prog 30 5 8:=ba.of underlying30 rfl sizeOf9 rfl rfl
theorem xq:ba prog 30 6 9:=ba.of underlying30 rfl sizeOf9 rfl rfl
theorem xr:ba prog 30 7 10:=ba.of underlying30 rfl sizeOf22 rfl rfl
theorem xt:ba prog 30 8 11:=ba.of underlying30 rfl sizeOf9 rfl rfl
theorem xu:ba prog 30 9 12:=ba.of underlying30 rfl sizeOf9 rfl rfl
theorem xg:ba prog 30 10 13:=ba.of underlying30 rfl sizeOf25 rfl rfl
theorem xh:ba prog 30 11 14:=ba.of underlying30 rfl sizeOf25 rfl rfl
theorem xi:ba prog 30 12 15:=ba.of underlying30 rfl sizeOf26 rfl rfl
theorem xj:ba prog 30 13 16:=ba.of underlying30 rfl sizeOf26 rfl rfl
theorem xk:ba prog 30 14 17:=ba.of underlying30 rfl sizeOf27 rfl rfl
theorem xl:ba prog 30 15 18:=ba.of underlying30 rfl sizeOf28 rfl rfl
theorem yj:ez prog 30 [(0,1),(1,1),(2,4),(6,1),(7,1),(8,1),(9,1),(10,1),(11,1),(12,1),(13,1),(14,1),(15,1),(16,1),(17,1),(18,1)] [.int .i64 0,.int .i64 0,.string {data:=#[]},.string {data:=#[]},sZ,sZ,.string {data:=#[]},.string {data:=#[]},.string {data:=#[]},.string {data:=#[]},sZ,.string {data:=#[]},.string {data:=#[]},sZ,sZ,sZ,sZ,sZ,.int .u64 0]:=⟨_,underlying30,zeroValue30,λw=>by simp[sizeOf2,sizeOf22,sizeOf24,sizeOf25,sizeOf26,sizeOf27,sizeOf28,sizeOf3,sizeOf9]⟩
theorem rz:cx prog 32 true:=⟨isAgg32⟩
theorem yG:Sz prog 32 19:=⟨sizeOf32⟩
theorem zU:Zr prog 32 (.agg [.int .i64 0,.int .i64 0,.string {data:=#[]},.string {data:=#[]},sZ,sZ,.string {data:=#[]},.string {data:=#[]},.string {data:=#[]},.string {data:=#[]},sZ,.string {data:=#[]},.string {data:=#[]},sZ,sZ,sZ,sZ,sZ,.int .u64 0].toArray):=⟨zeroValue32⟩
theorem xv:ba prog 32 0 0:=ba.of underlying32 rfl sizeOf3 rfl rfl
theorem xw:ba prog 32 1 1:=ba.of underlying32 rfl sizeOf2 rfl rfl
theorem xD:ba prog 32 2 2:=ba.of underlying32 rfl sizeOf24 rfl rfl
theorem xE:ba prog 32 3 6:=ba.of underlying32 rfl sizeOf9 rfl rfl
theorem xF:ba prog 32 4 7:=ba.of underlying32 rfl sizeOf9 rfl rfl
theorem xG:ba prog 32 5 8:=ba.of underlying32 rfl sizeOf9 rfl rfl
theorem xH:ba prog 32 6 9:=ba.of underlying32 rfl sizeOf9 rfl rfl
theorem xI:ba prog 32 7 10:=ba.of underlying32 rfl sizeOf22 rfl rfl
theorem xJ:ba prog 32 8 11:=ba.of underlying32 rfl sizeOf9 rfl rfl
theorem xK:ba prog 32 9 12:=ba.of underlying32 rfl sizeOf9 rfl rfl
theorem xx:ba prog 32 10 13:=ba.of underlying32 rfl sizeOf25 rfl rfl
theorem xy:ba prog 32 11 14:=ba.of underlying32 rfl sizeOf25 rfl rfl
theorem xz:ba prog 32 12 15:=ba.of underlying32 rfl sizeOf26 rfl rfl
theorem xA:ba prog 32 13 16:=ba.of underlying32 rfl sizeOf26 rfl rfl
theorem xB:ba prog 32 14 17:=ba.of underlying32 rfl sizeOf27 rfl rfl
theorem xC:ba prog 32 15 18:=ba.of underlying32 rfl sizeOf28 rfl rfl
theorem yk:ez prog 32 [(0,1),(1,1),(2,4),(6,1),(7,1),(8,1),(9,1),(10,1),(11,1),(12,1),(13,1),(14,1),(15,1),(16,1),(17,1),(18,1)] [.int .i64 0,.int .i64 0,.string {data:=#[]},.string {data:=#[]},sZ,sZ,.string {data:=#[]},.string {data:=#[]},.string {data:=#[]},.string {data:=#[]},sZ,.string {data:=#[]},.string {data:=#[]},sZ,sZ,sZ,sZ,sZ,.int .u64 0]:=⟨_,underlying32,zeroValue32,λw=>by simp[sizeOf2,sizeOf22,sizeOf24,sizeOf25,sizeOf26,sizeOf27,sizeOf28,sizeOf3,sizeOf9]⟩
theorem nR:cx prog 34 false:=⟨isAgg34⟩
theorem yH:Sz prog 34 1:=⟨sizeOf34⟩
theorem zC:bF prog 46 (.pointer 51):=⟨underlying46⟩
theorem zD:bF prog 47 (.pointer 178):=⟨underlying47⟩
theorem rE:cx prog 47 false:=⟨isAgg47⟩
theorem zE:bF prog 48 (.pointer 182):=⟨underlying48⟩
theorem rF:cx prog 48 false:=⟨isAgg48⟩
theorem zF:bF prog 49 (.pointer 253):=⟨underlying49⟩
theorem rG:cx prog 49 false:=⟨isAgg49⟩
theorem xQ:ba prog 51 0 0:=ba.of underlying51 rfl sizeOf47 rfl rfl
theorem xR:ba prog 51 1 1:=ba.of underlying51 rfl sizeOf48 rfl rfl
theorem xS:ba prog 51 2 2:=ba.of underlying51 rfl sizeOf49 rfl rfl
theorem ym:ez prog 51 [(0,1),(1,1),(2,1)] [.pointer none,.pointer none,.pointer none]:=⟨_,underlying51,zeroValue51,λw=>by simp[sizeOf47,sizeOf48,sizeOf49]⟩
theorem rK:cx prog 53 true:=⟨isAgg53⟩
theorem yM:Sz prog 53 4:=⟨sizeOf53⟩
theorem zX:Zr prog 53 (.agg [.string {data:=#[]},.string {data:=#[]},.int .u64 0,.int .i64 0].toArray):=⟨zeroValue53⟩
theorem yn:ez prog 53 [(0,1),(1,1),(2,1),(3,1)] [.string {data:=#[]},.string {data:=#[]},.int .u64 0,.int .i64 0]:=⟨_,underlying53,zeroValue53,λw=>by simp[sizeOf28,sizeOf34,sizeOf9]⟩
theorem zI:bF prog 60 (.pointer 169):=⟨underlying60⟩
theorem zJ:bF prog 67 (.slice 26):=⟨underlying67⟩
theorem yN:Sz prog 69 2:=⟨sizeOf69⟩
theorem xT:ba prog 69 0 0:=ba.of underlying69 rfl sizeOf9 rfl rfl
theorem xU:ba prog 69 1 1:=ba.of underlying69 rfl sizeOf9 rfl rfl
theorem yo:ez prog 69 [(0,1),(1,1)] [.string {data:=#[]},.string {data:=#[]}]:=⟨_,underlying69,zeroValue69,λw=>by simp[sizeOf9]⟩
theorem rL:cx prog 71 true:=⟨isAgg71⟩
theorem yO:Sz prog 71 4:=⟨sizeOf71⟩
theorem zY:Zr prog 71 (.agg [.string {data:=#[]},.string {data:=#[]},.string {data:=#[]},.string {data:=#[]}].toArray):=⟨zeroValue71⟩
theorem xV:ba prog 71 0 0:=ba.of underlying71 rfl sizeOf9 rfl rfl
theorem xW:ba prog 71 1 1:=ba.of underlying71 rfl sizeOf69 rfl rfl
theorem xX:ba prog 71 2 3:=ba.of underlying71 rfl sizeOf9 rfl rfl
theorem rM:cx prog 73 true:=⟨isAgg73⟩
theorem yP:Sz prog 73 7:=⟨sizeOf73⟩
theorem rU:By prog 73 112:=⟨λw=>⟨_,typeInfo73 w,rfl⟩⟩
theorem zZ:Zr prog 73 (.agg [.string {data:=#[]},.string {data:=#[]},.string {data:=#[]},.string {data:=#[]},.string {data:=#[]},.string {data:=#[]},.string {data:=#[]}].toArray):=⟨zeroValue73⟩
theorem xY:ba prog 73 0 0:=ba.of underlying73 rfl sizeOf69 rfl rfl
theorem xZ:ba prog 73 1 2:=ba.of underlying73 rfl sizeOf9 rfl rfl
theorem x1:ba prog 73 2 3:=ba.of underlying73 rfl sizeOf71 rfl rfl
theorem rN:cx prog 76 true:=⟨isAgg76⟩
theorem yQ:Sz prog 76 8:=⟨sizeOf76⟩
theorem rV:By prog 76 120:=⟨λw=>⟨_,typeInfo76 w,rfl⟩⟩
theorem z0:Zr prog 76 (.agg [.bool false,.string {data:=#[]},.string {data:=#[]},.string {data:=#[]},.string {data:=#[]},.string {data:=#[]},.string {data:=#[]},.string {data:=#[]}].toArray):=⟨zeroValue76⟩
theorem x3:ba prog 76 0 0:=ba.of underlying76 rfl sizeOf4 rfl rfl
theorem x5:ba prog 76 1 1:=ba.of underlying76 rfl sizeOf73 rfl rfl
theorem yp:ez prog 76 [(0,1),(1,7)] [.bool false,.string {data:=#[]},.string {data:=#[]},.string {data:=#[]},.string {data:=#[]},.string {data:=#[]},.string {data:=#[]},.string {data:=#[]}]:=⟨_,underlying76,zeroValue76,λw=>by simp[sizeOf4,sizeOf73]⟩
theorem zK:bF prog 78 (.pointer 171):=⟨underlying78⟩
theorem yS:bF prog 123 (.slice 24):=⟨underlying123⟩
theorem yT:bF prog 124 (.pointer 222):=⟨underlying124⟩
theorem qU:cx prog 124 false:=⟨isAgg124⟩
theorem qV:cx prog 129 true:=⟨isAgg129⟩
theorem yq:Sz prog 129 3:=⟨sizeOf129⟩
theorem rO:By prog 129 56:=⟨λw=>⟨_,typeInfo129 w,rfl⟩⟩
theorem zL:Zr prog 129 (.agg [.string {data:=#[]},.string {data:=#[]},sZ].toArray):=⟨zeroValue129⟩
theorem wm:ba prog 129 0 0:=ba.of underlying129 rfl sizeOf9 rfl rfl
theorem wq:ba prog 129 1 1:=ba.of underlying129 rfl sizeOf9 rfl rfl
theorem x9:ez prog 129 [(0,1),(1,1),(2,1)] [.string {data:=#[]},.string {data:=#[]},sZ]:=⟨_,underlying129,zeroValue129,λw=>by simp[sizeOf22,sizeOf9]⟩
theorem yU:bF prog 130 (.slice 129):=⟨underlying130⟩
theorem yV:bF prog 131 (.pointer 230):=⟨underlying131⟩
theorem qW:cx prog 131 false:=⟨isAgg131⟩
theorem qX:cx prog 137 true:=⟨isAgg137⟩
theorem yr:Sz prog 137 9:=⟨sizeOf137⟩
theorem rP:By prog 137 128:=⟨λw=>⟨_,typeInfo137 w,rfl⟩⟩
theorem zM:Zr prog 137 (.agg [.string {data:=#[]},.string {data:=#[]},.string {data:=#[]},.string {data:=#[]},sZ,.string {data:=#[]},.int .i64 0,.int .i64 0,.bool false].toArray):=⟨zeroValue137⟩
theorem wu:ba prog 137 0 0:=ba.of underlying137 rfl sizeOf9 rfl rfl
theorem wx:ba prog 137 4 4:=ba.of underlying137 rfl sizeOf22 rfl rfl
theorem yW:bF prog 138 (.slice 137):=⟨underlying138⟩
theorem yX:bF prog 141 (.pointer 241):=⟨underlying141⟩
theorem qY:cx prog 141 false:=⟨isAgg141⟩
theorem qZ:cx prog 146 true:=⟨isAgg146⟩
theorem yt:Sz prog 146 9:=⟨sizeOf146⟩
theorem rQ:By prog 146 112:=⟨λw=>⟨_,typeInfo146 w,rfl⟩⟩
theorem zN:Zr prog 146 (.agg [.string {data:=#[]},.int .i64 0,.string {data:=#[]},.string {data:=#[]},sZ,.int .i64 0,.int .i64 0,.int .u64 0,.bool false].toArray):=⟨zeroValue146⟩
theorem wy:ba prog 146 0 0:=ba.of underlying146 rfl sizeOf9 rfl rfl
theorem wz:ba prog 146 4 4:=ba.of underlying146 rfl sizeOf22 rfl rfl
theorem yY:bF prog 147 (.slice 146):=⟨underlying147⟩
theorem q0:cx prog 152 true:=⟨isAgg152⟩
theorem yu:Sz prog 152 9:=⟨sizeOf152⟩
theorem rR:By prog 152 128:=⟨λw=>⟨_,typeInfo152 w,rfl⟩⟩
theorem zO:Zr prog 152 (.agg [.string {data:=#[]},.string {data:=#[]},.string {data:=#[]},.string {data:=#[]},.string {data:=#[]},.string {data:=#[]},.string {data:=#[]},.int .u64 0,.int .u64 0].toArray):=⟨zeroValue152⟩
theorem wA:ba prog 152 0 0:=ba.of underlying152 rfl sizeOf73 rfl rfl
theorem wB:ba prog 152 1 7:=ba.of underlying152 rfl sizeOf28 rfl rfl
theorem yZ:bF prog 153 (.slice 152):=⟨underlying153⟩
theorem za:bF prog 163 (.slice 162):=⟨underlying163⟩
theorem wC:ba prog 169 0 0:=ba.of underlying169 rfl sizeOf25 rfl rfl
theorem ya:ez prog 169 [(0,1)] [sZ]:=⟨_,underlying169,zeroValue169,λw=>by simp[sizeOf25]⟩
theorem wD:ba prog 171 0 0:=ba.of underlying171 rfl sizeOf25 rfl rfl
theorem wE:ba prog 171 1 1:=ba.of underlying171 rfl sizeOf34 rfl rfl
theorem wF:ba prog 171 2 2:=ba.of underlying171 rfl sizeOf4 rfl rfl
theorem yb:ez prog 171 [(0,1),(1,1),(2,1)] [sZ,.int .i64 0,.bool false]:=⟨_,underlying171,zeroValue171,λw=>by simp[sizeOf25,sizeOf34,sizeOf4]⟩
theorem wG:ba prog 178 0 0:=ba.of underlying178 rfl sizeOf124 rfl rfl
theorem wH:ba prog 178 1 1:=ba.of underlying178 rfl sizeOf131 rfl rfl
theorem wI:ba prog 178 2 2:=ba.of underlying178 rfl sizeOf141 rfl rfl
theorem wJ:ba prog 178 3 3:=ba.of underlying178 rfl sizeOf2 rfl rfl
theorem yc:ez prog 178 [(0,1),(1,1),(2,1),(3,1)] [.pointer none,.pointer none,.pointer none,.int .i64 0]:=⟨_,underlying178,zeroValue178,λw=>by simp[sizeOf124,sizeOf131,sizeOf141,sizeOf2]⟩
theorem zb:bF prog 179 (.map 246 247):=⟨underlying179⟩
theorem q1:cx prog 179 false:=⟨isAgg179⟩
theorem wK:ba prog 182 0 0:=ba.of underlying182 rfl sizeOf4 rfl rfl
theorem wL:ba prog 182 1 1:=ba.of underlying182 rfl sizeOf28 rfl rfl
theorem wM:ba prog 182 2 2:=ba.of underlying182 rfl sizeOf28 rfl rfl
theorem wN:ba prog 182 4 4:=ba.of underlying182 rfl sizeOf179 rfl rfl
theorem yd:ez prog 182 [(0,1),(1,1),(2,1),(3,1),(4,1),(5,1)] [.bool false,.int .u64 0,.int .u64 0,.int .i64 0,.map none,.map none]:=⟨_,underlying182,zeroValue182,λw=>by simp[sizeOf179,sizeOf180,sizeOf28,sizeOf3,sizeOf4]⟩
theorem ze:bF prog 220 (.map 9 24):=⟨underlying220⟩
theorem q9:cx prog 220 false:=⟨isAgg220⟩
theorem wO:ba prog 222 0 0:=ba.of underlying222 rfl sizeOf220 rfl rfl
theorem ye:ez prog 222 [(0,1)] [.map none]:=⟨_,underlying222,zeroValue222,λw=>by simp[sizeOf220]⟩
theorem zf:bF prog 226 (.map 232 22):=⟨underlying226⟩
theorem ra:cx prog 226 false:=⟨isAgg226⟩
theorem zg:bF prog 227 (.map 9 137):=⟨underlying227⟩
theorem re:cx prog 227 false:=⟨isAgg227⟩
theorem zh:bF prog 228 (.pointer 378):=⟨underlying228⟩
theorem rf:cx prog 228 false:=⟨isAgg228⟩
theorem wP:ba prog 230 0 0:=ba.of underlying230 rfl sizeOf226 rfl rfl
theorem wQ:ba prog 230 1 1:=ba.of underlying230 rfl sizeOf227 rfl rfl
theorem wR:ba prog 230 2 2:=ba.of underlying230 rfl sizeOf228 rfl rfl
theorem yf:ez prog 230 [(0,1),(1,1),(2,1)] [.map none,.map none,.pointer none]:=⟨_,underlying230,zeroValue230,λw=>by simp[sizeOf226,sizeOf227,sizeOf228]⟩
theorem yx:Sz prog 232 2:=⟨sizeOf232⟩
theorem zP:Zr prog 232 (.agg [.string {data:=#[]},.string {data:=#[]}].toArray):=⟨zeroValue232⟩
theorem wS:ba prog 232 0 0:=ba.of underlying232 rfl sizeOf9 rfl rfl
theorem wT:ba prog 232 1 1:=ba.of underlying232 rfl sizeOf9 rfl rfl
theorem zi:bF prog 239 (.map 9 146):=⟨underlying239⟩
theorem rh:cx prog 239 false:=⟨isAgg239⟩
theorem wU:ba prog 241 0 0:=ba.of underlying241 rfl sizeOf239 rfl rfl
theorem wV:ba prog 241 1 1:=ba.of underlying241 rfl sizeOf228 rfl rfl
theorem wW:ba prog 241 2 2:=ba.of underlying241 rfl sizeOf3 rfl rfl
theorem yh:ez prog 241 [(0,1),(1,1),(2,1)] [.map none,.pointer none,.int .i64 0]:=⟨_,underlying241,zeroValue241,λw=>by simp[sizeOf228,sizeOf239,sizeOf3]⟩
theorem zj:bF prog 247 (.slice 248):=⟨underlying247⟩
theorem rj:cx prog 248 false:=⟨isAgg248⟩
theorem yz:Sz prog 248 1:=⟨sizeOf248⟩
theorem zl:bF prog 251 (.slice 256):=⟨underlying251⟩
theorem rl:cx prog 251 false:=⟨isAgg251⟩
theorem xb:ba prog 253 0 0:=ba.of underlying253 rfl sizeOf4 rfl rfl
theorem xc:ba prog 253 1 1:=ba.of underlying253 rfl sizeOf251 rfl rfl
theorem xd:ba prog 253 2 2:=ba.of underlying253 rfl sizeOf3 rfl rfl
theorem yi:ez prog 253 [(0,1),(1,1),(2,1)] [.bool false,sZ,.int .i64 0]:=⟨_,underlying253,zeroValue253,λw=>by simp[sizeOf251,sizeOf3,sizeOf4]⟩
theorem zm:bF prog 259 (.int .u64):=⟨underlying259⟩
theorem xL:ba prog 372 0 0:=ba.of underlying372 rfl sizeOf9 rfl rfl
theorem xM:ba prog 372 1 1:=ba.of underlying372 rfl sizeOf2 rfl rfl
theorem xN:ba prog 372 2 2:=ba.of underlying372 rfl sizeOf3 rfl rfl
theorem zw:bF prog 373 (.pointer 372):=⟨underlying373⟩
theorem rA:cx prog 373 false:=⟨isAgg373⟩
theorem yI:Sz prog 373 1:=⟨sizeOf373⟩
theorem zx:bF prog 375 (.slice 373):=⟨underlying375⟩
theorem rB:cx prog 375 false:=⟨isAgg375⟩
theorem yJ:Sz prog 375 1:=⟨sizeOf375⟩
theorem zy:bF prog 376 (.map 9 373):=⟨underlying376⟩
theorem rC:cx prog 376 false:=⟨isAgg376⟩
theorem xO:ba prog 378 0 0:=ba.of underlying378 rfl sizeOf375 rfl rfl
theorem xP:ba prog 378 1 1:=ba.of underlying378 rfl sizeOf376 rfl rfl
theorem yl:ez prog 378 [(0,1),(1,1)] [sZ,.map none]:=⟨_,underlying378,zeroValue378,λw=>by simp[sizeOf375,sizeOf376]⟩
theorem zA:bF prog 380 (.pointer 375):=⟨underlying380⟩
theorem zB:bF prog 440 (.slice 3):=⟨underlying440⟩
theorem zH:bF prog 508 (.int .u64):=⟨underlying508⟩
theorem rJ:cx prog 508 false:=⟨isAgg508⟩
theorem yL:Sz prog 508 1:=⟨sizeOf508⟩
theorem zW:Zr prog 508 (.int .u64 0):=⟨zeroValue508⟩
theorem vL:aL prog 6:=⟨call6⟩
theorem vT:aL prog 8:=⟨call8⟩
theorem wa:aL prog 9:=⟨call9⟩
theorem rX:aL prog 10:=⟨call10⟩
theorem r7:aL prog 12:=⟨call12⟩
theorem r8:aL prog 13:=⟨call13⟩
theorem r9:aL prog 14:=⟨call14⟩
theorem sj:aL prog 15:=⟨call15⟩
theorem sB:aL prog 16:=⟨call16⟩
theorem sJ:aL prog 17:=⟨call17⟩
theorem sM:aL prog 20:=⟨call20⟩
theorem sN:aL prog 22:=⟨call22⟩
theorem sO:aL prog 23:=⟨call23⟩
theorem sY:aL prog 24:=⟨call24⟩
theorem tc:aL prog 25:=⟨call25⟩
theorem td:aL prog 26:=⟨call26⟩
theorem ti:aL prog 27:=⟨call27⟩
theorem tj:aL prog 28:=⟨call28⟩
theorem tm:aL prog 29:=⟨call29⟩
theorem tn:aL prog 30:=⟨call30⟩
theorem tp:aL prog 31:=⟨call31⟩
theorem tv:aL prog 32:=⟨call32⟩
theorem tF:aL prog 33:=⟨call33⟩
theorem tS:aL prog 34:=⟨call34⟩
theorem uf:aL prog 35:=⟨call35⟩
theorem ux:aL prog 36:=⟨call36⟩
theorem uD:aL prog 37:=⟨call37⟩
theorem uE:aL prog 38:=⟨call38⟩
theorem uF:aL prog 39:=⟨call39⟩
theorem uG:aL prog 40:=⟨call40⟩
theorem uK:aL prog 41:=⟨call41⟩
theorem uV:aL prog 42:=⟨call42⟩
theorem u2:aL prog 43:=⟨call43⟩
theorem u6:aL prog 44:=⟨call44⟩
theorem vd:aL prog 45:=⟨call45⟩
theorem vj:aL prog 46:=⟨call46⟩
theorem vp:aL prog 47:=⟨call47⟩
theorem vq:aL prog 48:=⟨call48⟩
theorem vv:aL prog 49:=⟨call49⟩
theorem vF:aL prog 54:=⟨call54⟩
theorem vG:aL prog 55:=⟨call55⟩
theorem vH:aL prog 56:=⟨call56⟩
theorem vI:aL prog 57:=⟨call57⟩
theorem vJ:aL prog 58:=⟨call58⟩
theorem vK:aL prog 59:=⟨call59⟩
theorem vM:aL prog 72:=⟨call72⟩
theorem vN:aL prog 73:=⟨call73⟩
theorem vO:aL prog 74:=⟨call74⟩
theorem vP:aL prog 75:=⟨call75⟩
theorem vQ:aL prog 76:=⟨call76⟩
theorem vR:aL prog 77:=⟨call77⟩
theorem vS:aL prog 79:=⟨call79⟩
theorem vU:aL prog 80:=⟨call80⟩
theorem vV:aL prog 82:=⟨call82⟩
theorem vW:aL prog 83:=⟨call83⟩
theorem vX:aL prog 84:=⟨call84⟩
theorem vY:aL prog 85:=⟨call85⟩
theorem vZ:aL prog 87:=⟨call87⟩
theorem v7:aL prog 88:=⟨call88⟩
theorem v9:aL prog 89:=⟨call89⟩
theorem wc:aL prog 91:=⟨call91⟩
theorem we:aL prog 92:=⟨call92⟩
theorem wg:aL prog 93:=⟨call93⟩
theorem wh:aL prog 96:=⟨call96⟩
theorem wi:aL prog 97:=⟨call97⟩
theorem wj:aL prog 98:=⟨call98⟩
theorem wk:aL prog 99:=⟨call99⟩
theorem rY:aL prog 100:=⟨call100⟩
theorem rZ:aL prog 101:=⟨call101⟩
theorem r0:aL prog 104:=⟨call104⟩
theorem r1:aL prog 105:=⟨call105⟩
theorem r2:aL prog 106:=⟨call106⟩
theorem r3:aL prog 107:=⟨call107⟩
theorem r4:aL prog 108:=⟨call108⟩
theorem r5:aL prog 109:=⟨call109⟩
theorem r6:aL prog 110:=⟨call110⟩
theorem sb:aL prog 146:=⟨call146⟩
theorem sd:aL prog 147:=⟨call147⟩
theorem sf:aL prog 148:=⟨call148⟩
theorem sh:aL prog 149:=⟨call149⟩
theorem sk:aL prog 150:=⟨call150⟩
theorem sl:aL prog 151:=⟨call151⟩
theorem sm:aL prog 152:=⟨call152⟩
theorem sn:aL prog 153:=⟨call153⟩
theorem sq:aL prog 154:=⟨call154⟩
theorem su:aL prog 155:=⟨call155⟩
theorem sv:aL prog 156:=⟨call156⟩
theorem sx:aL prog 157:=⟨call157⟩
theorem sy:aL prog 158:=⟨call158⟩
theorem sA:aL prog 159:=⟨call159⟩
theorem sC:aL prog 160:=⟨call160⟩
theorem sD:aL prog 161:=⟨call161⟩
theorem sE:aL prog 162:=⟨call162⟩
theorem sF:aL prog 163:=⟨call163⟩
theorem sG:aL prog 164:=⟨call164⟩
theorem sH:aL prog 168:=⟨call168⟩
theorem sI:aL prog 169:=⟨call169⟩
theorem sK:aL prog 170:=⟨call170⟩
theorem sL:aL prog 171:=⟨call171⟩
theorem sP:aL prog 231:=⟨call231⟩
theorem sQ:aL prog 232:=⟨call232⟩
theorem sR:aL prog 234:=⟨call234⟩
theorem sS:aL prog 235:=⟨call235⟩
theorem sU:aL prog 236:=⟨call236⟩
theorem sV:aL prog 237:=⟨call237⟩
theorem sW:aL prog 238:=⟨call238⟩
theorem sX:aL prog 239:=⟨call239⟩
theorem s0:aL prog 240:=⟨call240⟩
theorem tf:aL prog 262:=⟨call262⟩
theorem tg:aL prog 263:=⟨call263⟩
theorem th:aL prog 264:=⟨call264⟩
theorem tq:aL prog 318:=⟨call318⟩
theorem tu:aL prog 319:=⟨call319⟩
theorem tw:aL prog 320:=⟨call320⟩
theorem tz:aL prog 321:=⟨call321⟩
theorem tA:aL prog 322:=⟨call322⟩
theorem tB:aL prog 323:=⟨call323⟩
theorem tC:aL prog 324:=⟨call324⟩
theorem tD:aL prog 325:=⟨call325⟩
theorem tE:aL prog 329:=⟨call329⟩
theorem tG:aL prog 330:=⟨call330⟩
theorem tH:aL prog 331:=⟨call331⟩
theorem tI:aL prog 332:=⟨call332⟩
theorem tJ:aL prog 333:=⟨call333⟩
theorem tL:aL prog 334:=⟨call334⟩
theorem tM:aL prog 335:=⟨call335⟩
theorem tN:aL prog 336:=⟨call336⟩
theorem tP:aL prog 337:=⟨call337⟩
theorem tQ:aL prog 338:=⟨call338⟩
theorem tR:aL prog 339:=⟨call339⟩
theorem tT:aL prog 340:=⟨call340⟩
theorem tU:aL prog 341:=⟨call341⟩
theorem tV:aL prog 342:=⟨call342⟩
theorem tW:aL prog 343:=⟨call343⟩
theorem tX:aL prog 344:=⟨call344⟩
theorem tY:aL prog 345:=⟨call345⟩
theorem tZ:aL prog 346:=⟨call346⟩
theorem uc:aL prog 347:=⟨call347⟩
theorem ud:aL prog 348:=⟨call348⟩
theorem ue:aL prog 349:=⟨call349⟩
theorem ug:aL prog 350:=⟨call350⟩
theorem uh:aL prog 351:=⟨call351⟩
theorem ui:aL prog 352:=⟨call352⟩
theorem uj:aL prog 353:=⟨call353⟩
theorem uk:aL prog 354:=⟨call354⟩
theorem ul:aL prog 355:=⟨call355⟩
theorem um:aL prog 356:=⟨call356⟩
theorem uo:aL prog 357:=⟨call357⟩
theorem uq:aL prog 358:=⟨call358⟩
theorem uv:aL prog 359:=⟨call359⟩
theorem uy:aL prog 360:=⟨call360⟩
theorem uz:aL prog 361:=⟨call361⟩
theorem uA:aL prog 362:=⟨call362⟩
theorem uB:aL prog 366:=⟨call366⟩
theorem uC:aL prog 367:=⟨call367⟩
theorem uH:aL prog 407:=⟨call407⟩
theorem uI:aL prog 408:=⟨call408⟩
theorem uJ:aL prog 409:=⟨call409⟩
theorem uL:aL prog 410:=⟨call410⟩
theorem uM:aL prog 411:=⟨call411⟩
theorem uN:aL prog 412:=⟨call412⟩
theorem uO:aL prog 413:=⟨call413⟩
theorem uP:aL prog 414:=⟨call414⟩
theorem uQ:aL prog 415:=⟨call415⟩
theorem uR:aL prog 416:=⟨call416⟩
theorem uS:aL prog 417:=⟨call417⟩
theorem uT:aL prog 418:=⟨call418⟩
theorem uU:aL prog 419:=⟨call419⟩
theorem uW:aL prog 420:=⟨call420⟩
theorem uX:aL prog 421:=⟨call421⟩
theorem uY:aL prog 422:=⟨call422⟩
theorem uZ:aL prog 423:=⟨call423⟩
theorem u0:aL prog 424:=⟨call424⟩
theorem u7:aL prog 447:=⟨call447⟩
theorem u9:aL prog 448:=⟨call448⟩
theorem vb:aL prog 449:=⟨call449⟩
theorem ve:aL prog 450:=⟨call450⟩
theorem vg:aL prog 451:=⟨call451⟩
theorem vh:aL prog 452:=⟨call452⟩
theorem vi:aL prog 453:=⟨call453⟩
theorem vl:aL prog 463:=⟨call463⟩
theorem vw:aL prog 490:=⟨call490⟩
theorem vz:aL prog 491:=⟨call491⟩
theorem vA:aL prog 492:=⟨call492⟩
theorem vB:aL prog 493:=⟨call493⟩
theorem vC:aL prog 494:=⟨call494⟩
theorem vD:aL prog 495:=⟨call495⟩
theorem vE:aL prog 496:=⟨call496⟩
attribute [instance] zc q3 yv zv ru yE zS rD zG rI yK rT zV nT nS yR rW z1 zd q5 yw ri yy rS zQ wX wY wZ xa yg zk rk yA zo rn yB zR zq rq yC zu rr yD ry yF zT xe xf xm xn xo xp xq xr xt xu xg xh xi xj xk xl yj rz yG zU xv xw xD xE xF xG xH xI xJ xK xx xy xz xA xB xC yk nR yH zC zD rE zE rF zF rG xQ xR xS ym rK yM zX yn zI zJ yN xT xU yo rL yO zY xV xW xX rM yP rU zZ xY xZ x1 rN yQ rV z0 x3 x5 yp zK yS yT qU qV yq rO zL wm wq x9 yU yV qW qX yr rP zM wu wx yW yX qY qZ yt rQ zN wy wz yY q0 yu rR zO wA wB yZ za wC ya wD wE wF yb wG wH wI wJ yc zb q1 wK wL wM wN yd ze q9 wO ye zf ra zg re zh rf wP wQ wR yf yx zP wS wT zi rh wU wV wW yh zj rj yz zl rl xb xc xd yi zm xL xM xN zw rA yI zx rB yJ zy rC xO xP yl zA zB zH rJ yL zW vL vT wa rX r7 r8 r9 sj sB sJ sM sN sO sY tc td ti tj tm tn tp tv tF tS uf ux uD uE uF uG uK uV u2 u6 vd vj vp vq vv vF vG vH vI vJ vK vM vN vO vP vQ vR vS vU vV vW vX vY vZ v7 v9 wc we wg wh wi wj wk rY rZ r0 r1 r2 r3 r4 r5 r6 sb sd sf sh sk sl sm sn sq su sv sx sy sA sC sD sE sF sG sH sI sK sL sP sQ sR sS sU sV sW sX s0 tf tg th tq tu tw tz tA tB tC tD tE tG tH tI tJ tL tM tN tP tQ tR tT tU tV tW tX tY tZ uc ud ue ug uh ui uj uk ul um uo uq uv uy uz uA uB uC uH uI uJ uL uM uN uO uP uQ uR uS uT uU uW uX uY uZ u0 u7 u9 vb ve vg vh vi vl vw vz vA vB vC vD vE
theorem mixed:prog.follows .mixedOrders=true:=by kernel_rfl
structure mg(P:Program)(R:aC)(t:TypeId)(v:Value){α:Type}(lt:α→α→Bool)(I:List α→ay→Prop):Prop where
 bQ:∀L T,I L T→L.length≤1000000000
 len:∀L T,I L T→eO P t v "Len" [] R T fun u T'=>u=.int .i64 L.length∧I L T'
 less:∀L T (i k:Nat) x y,I L T→L[i]? =some x→L[k]? =some y→eO P t v "Less" [.int .i64 i,.int .i64 k] R T fun u T'=>u=.bool (lt x y)∧I L T'
 swap:∀L T (i k:Nat),I L T→i<L.length→k<L.length→eO P t v "Swap" [.int .i64 i,.int .i64 k] R T fun _ T'=>I (bi L i k) T'
section
variable{R:aC}{t:TypeId}{v:Value}{α:Type}{lt:α->α->Bool}{I:List α->ay->Prop}
theorem qJ(hi:mg prog R t v lt I)(p:SO lt)(L:List α)(T:ay)(h:I L T)(g n:Nat)(a8:g<=n)(hn:n<=L.length):
  Spec prog 367 [.iface t v,.int .i64 g,.int .i64 n] R [T] λu H'=>∃T',H'=[T']/\∃L' m,I L' T'/\u=.bool m/\L'.Perm L/\(∀k,n<=k->L'[k]? =L[k]?)/\(gr lt L n g->(m=true->dZ lt L' n)/\(m=false->Up lt L' n g)):=by
 have O:=hi.bQ L T h
 refine Spec.body func367 rfl results367 ntmps367 rfl ?_
 refine .sr<|.ag rfl<|.z<|.mo rfl<|.ag rfl<|.zs<|.block ?_
 refine .loop (X:=Nat×List α×ay) (λy=>I y.2.1 y.2.2/\g<=y.1/\y.1<=n/\y.2.1.Perm L/\(∀k,n<=k->y.2.1[k]? =L[k]?)/\(gr lt L n g->gr lt y.2.1 n y.1/\(y.1≠g->dR lt y.2.1 (aX y.1) y.1))) (λy=>[(0,.iface t v),(1,iN g),(2,iN n),(7,iN y.1)]) (λy=>[y.2.2]) (λy=>n-y.1) (g,L,T) ⟨h,Nat.le_refl _,a8,.refl _,λ_ _=>rfl,λh=>⟨h,λe=>absurd rfl e⟩⟩ kE.c.c.c.c rH ?_
 rintro⟨i,l,Z⟩ ⟨U,a9,b0,N,V,E⟩
 simp only at U a9 b0 N V E⊢
 have hl:=N.length_eq
 refine .block<|.sr<|.mo rfl ?_
 refine .ia (2*i) .mul ?_
 refine .ia (2*i+1) .add ?_
 refine .ag rfl<|.zs<|.sr<|.mo rfl<|.mo rfl<|.q .geq<|.mo rfl ?_
 refine .split (t:=18) rfl (λC=>?_) (λC=>?_)
 refine .gF C<|.gF C<|.q (.bX C) ?_
 refine .zn<|.jj ?_
 have a7:n<=2*i+1:=by
  first
   |(simp at C;omega)
   |(simp at h1;omega)
 refine .exit (aT (du (aW (aU ?_))))
 refine aI<|.sr<|.mo rfl<|.mo rfl<|.q .gtr<|.az rfl ?_
 refine .ret (bb _ (.one (.tmp rfl)) rH ?_)
 ·refine⟨_,rfl,l,decide (g<i),by assumption,by simp,N,V,λd=>?_⟩
  have G:Up lt l n i:=(E d).1.stop λc s w f a b F O=>by
   first
    |(simp only[aX]at f;omega)
    |(rw[Y]at F;cases F;exact p.dD _ _ _ (W c b s w f O) (by simpa using S))
  refine⟨λA=>?_,λA=>?_⟩
  ·have B:i≠g:=by simp at A;omega
   exact G.stop ((E d).2 B)
  ·have B:i=g:=by simp at A;omega
   rw[<-B];exact G
 refine .gT C<|.mo rfl<|.gT C<|.q .lss<|.q (.bU C) ?_
 refine .zn ?_
 refine .cond rfl (λh1=>?_) λh1=>?_
 have a7:n<=2*i+1:=by
  first
   |(simp at C;omega)
   |(simp at h1;omega)
 refine .exit (aT (du (aW (aU ?_))))
 refine aI<|.sr<|.mo rfl<|.mo rfl<|.q .gtr<|.az rfl ?_
 refine .ret (bb _ (.one (.tmp rfl)) rH ?_)
 ·refine⟨_,rfl,l,decide (g<i),by assumption,by simp,N,V,λd=>?_⟩
  have G:Up lt l n i:=(E d).1.stop λc s w f a b F O=>by
   first
    |(simp only[aX]at f;omega)
    |(rw[Y]at F;cases F;exact p.dD _ _ _ (W c b s w f O) (by simpa using S))
  refine⟨λA=>?_,λA=>?_⟩
  ·have B:i≠g:=by simp at A;omega
   exact G.stop ((E d).2 B)
  ·have B:i=g:=by simp at A;omega
   rw[<-B];exact G
 have Q:2*i+1<n:=by simp at C;omega
 obtain⟨y0,Y⟩:∃y,l[i]? =some y:=⟨_,aE (by omega)⟩
 obtain⟨J,o⟩:∃y,l[2*i+1]? =some y:=⟨_,aE (by omega)⟩
 refine .kn<|.sr<|.mo rfl<|.ag rfl<|.zs ?_
 refine bk.cut (X:=Nat×ay×α) (λz=>I l z.2.1/\0<z.1/\z.1<n/\aX z.1=i/\l[z.1]? =some z.2.2/\∀c u,0<c->c<n->aX c=i->l[c]? =some u->lt u z.2.2=false) (λz=>[(0,.iface t v),(1,iN g),(2,iN n),(7,iN i),(9,iN z.1)]) (λz=>[z.2.1]) ?_ ?_
 refine .sr<|.mo rfl ?_
 refine .ia (2*i+2) .add ?_
 refine .ag rfl<|.z<|.mo rfl<|.mo rfl<|.q .lss<|.mo rfl ?_
 refine .split (t:=28) rfl (λr=>?_) (λr=>?_)
 have a2:2*i+2<n:=by simp at r;omega
 obtain⟨x2,D⟩:∃y,l[2*i+2]? =some y:=⟨_,aE (by omega)⟩
 refine .gT r<|.mo rfl<|.gT r<|.mo rfl<|.gT r<|.mo rfl<|.gT r ?_
 refine .jh (hi.less l Z (2*i+2) (2*i+1) x2 J U D o) (λu K d=>?_)
 obtain⟨rfl,M⟩:=d
 refine .q (.bX r) ?_
 refine .zn ?_
 refine .cond rfl (λH=>?_) λH=>?_
 refine .region<|.mo rfl<|.ag rfl<|.nil ?_
 ·first
   |exact ax (2*i+2,K,x2) ⟨M,by simp only;omega,a2,by simp only[aX];omega,D,λc u s w f d=>by
     have:c=2*i+1\/c=2*i+2:=by simp only[aX]at f;omega
     rcases this with rfl|rfl
     ·rw[o]at d;cases d;exact p.fR (by simpa using H)
     ·rw[D]at d;cases d;exact p.cG _⟩ kE.c.c.c.c.c rH
   |exact ax (2*i+1,K,J) ⟨M,by simp only;omega,Q,by simp only[aX];omega,o,λc u s w f d=>by
     have:c=2*i+1\/c=2*i+2:=by simp only[aX]at f;omega
     rcases this with rfl|rfl
     ·rw[o]at d;cases d;exact p.cG _
     ·rw[D]at d;cases d;simpa using H⟩ kE.c.c.c.c.c rH
   |exact ax (2*i+1,Z,J) ⟨U,by simp only;omega,Q,by simp only[aX];omega,o,λc u s w f d=>by
     have:c=2*i+1:=by simp only[aX]at f;simp at r;omega
     subst this
     rw[o]at d;cases d;exact p.cG _⟩ kE.c.c.c.c.c rH
 refine .skip ?_
 ·first
   |exact ax (2*i+2,K,x2) ⟨M,by simp only;omega,a2,by simp only[aX];omega,D,λc u s w f d=>by
     have:c=2*i+1\/c=2*i+2:=by simp only[aX]at f;omega
     rcases this with rfl|rfl
     ·rw[o]at d;cases d;exact p.fR (by simpa using H)
     ·rw[D]at d;cases d;exact p.cG _⟩ kE.c.c.c.c.c rH
   |exact ax (2*i+1,K,J) ⟨M,by simp only;omega,Q,by simp only[aX];omega,o,λc u s w f d=>by
     have:c=2*i+1\/c=2*i+2:=by simp only[aX]at f;omega
     rcases this with rfl|rfl
     ·rw[o]at d;cases d;exact p.cG _
     ·rw[D]at d;cases d;simpa using H⟩ kE.c.c.c.c.c rH
   |exact ax (2*i+1,Z,J) ⟨U,by simp only;omega,Q,by simp only[aX];omega,o,λc u s w f d=>by
     have:c=2*i+1:=by simp only[aX]at f;simp at r;omega
     subst this
     rw[o]at d;cases d;exact p.cG _⟩ kE.c.c.c.c.c rH
 refine .gF r<|.gF r<|.gF r<|.gF r<|.q (.bU r) ?_
 refine .zn<|.bB<|.skip ?_
 ·first
   |exact ax (2*i+2,K,x2) ⟨M,by simp only;omega,a2,by simp only[aX];omega,D,λc u s w f d=>by
     have:c=2*i+1\/c=2*i+2:=by simp only[aX]at f;omega
     rcases this with rfl|rfl
     ·rw[o]at d;cases d;exact p.fR (by simpa using H)
     ·rw[D]at d;cases d;exact p.cG _⟩ kE.c.c.c.c.c rH
   |exact ax (2*i+1,K,J) ⟨M,by simp only;omega,Q,by simp only[aX];omega,o,λc u s w f d=>by
     have:c=2*i+1\/c=2*i+2:=by simp only[aX]at f;omega
     rcases this with rfl|rfl
     ·rw[o]at d;cases d;exact p.cG _
     ·rw[D]at d;cases d;simpa using H⟩ kE.c.c.c.c.c rH
   |exact ax (2*i+1,Z,J) ⟨U,by simp only;omega,Q,by simp only[aX];omega,o,λc u s w f d=>by
     have:c=2*i+1:=by simp only[aX]at f;simp at r;omega
     subst this
     rw[o]at d;cases d;exact p.cG _⟩ kE.c.c.c.c.c rH
 intro y hy
 obtain⟨j,T3,x⟩:=y
 obtain⟨a3,a0,a4,a1,hx,W⟩:=hy
 simp only at a3 a0 a4 a1 hx W⊢
 have b2:i<j:=a1▸dO a0
 refine aI<|.seq<|.sr<|.mo rfl<|.mo rfl<|.mo rfl ?_
 refine .jh (hi.less l T3 j i x y0 a3 hx Y) (λu T4 d=>?_)
 obtain⟨rfl,a5⟩:=d
 refine .q .not<|.zn ?_
 refine .cond rfl (λS=>?_) λS=>?_
 refine .exit (aT (du (aW (aU ?_))))
 refine aI<|.sr<|.mo rfl<|.mo rfl<|.q .gtr<|.az rfl ?_
 refine .ret (bb _ (.one (.tmp rfl)) rH ?_)
 ·refine⟨_,rfl,l,decide (g<i),by assumption,by simp,N,V,λd=>?_⟩
  have G:Up lt l n i:=(E d).1.stop λc s w f a b F O=>by
   first
    |(simp only[aX]at f;omega)
    |(rw[Y]at F;cases F;exact p.dD _ _ _ (W c b s w f O) (by simpa using S))
  refine⟨λA=>?_,λA=>?_⟩
  ·have B:i≠g:=by simp at A;omega
   exact G.stop ((E d).2 B)
  ·have B:i=g:=by simp at A;omega
   rw[<-B];exact G
 refine .kn<|.sr<|.mo rfl<|.mo rfl<|.mo rfl ?_
 refine .jh (hi.swap l T4 i j a5 (by omega) (by omega)) (λu T5 a6=>?_)
 refine .zn<|.region<|.mo rfl<|.ag rfl<|.nil<|bg ?_
 ·have b1:lt x y0=true:=by simpa using S
  exact aS (j,bi l i j,T5) ⟨a6,by simp only;omega,by simp only;omega,lR.trans N,λk hk=>by
   rw[cR (by omega) (by omega),if_neg (by omega),if_neg (by omega)];exact V k hk,λd=>by
    have:=(E d).1.step p a0 a4 (by omega) a1 hx Y b1 W
    exact⟨this.1,λ_=>this.2⟩⟩ (by simp only;omega) kE.c.c.c.c rH
theorem AP{L a:List α}{n:Nat}{x:α}(c:L.length=n+1)(e:L[n]? =some x)(d:L.Perm a):L=L.take n++[x]/\(L.take n).length=n/\a.Perm (x::L.take n):=by
 have b:L=L.take n++[x]:=by
  apply List.ext_getElem?
  intro k
  rcases Nat.lt_trichotomy k n with h|h|h
  ·rw[List.getElem?_append_left (by simp;omega),List.getElem?_take_of_lt h]
  ·subst h
   rw[List.getElem?_append_right (by simp;omega),e]
   simp[c]
  ·rw[List.getElem?_eq_none (by omega),List.getElem?_eq_none (by simp;omega)]
 refine⟨b,by simp;omega,d.symm.trans ?_⟩
 have:(L.take n++[x]).Perm (x::L.take n):=by simp
 rw[<-b]at this
 exact this
theorem dZ.Cl{L:List α}{n:Nat}(h:dZ lt L n)(b:n<=L.length):dZ lt (L.take n) (L.take n).length:=by
 have e:(L.take n).length=n:=by simp;omega
 rw[e]
 exact h.eL λk a=>List.getElem?_take_of_lt a
theorem Bo(hi:mg prog R t v lt I)(so:SO lt)(L:List α)(T:ay)(h:I L T)(x:α)(hx:L[0]? =some x)(hh:dZ lt L L.length)(px:α→Value)(J:List α→ay→Prop)
  (hp:∀L' T',I (L'++[x]) T'→L'.length+1=L.length→eO Tryz.prog t v "Pop" [] R T' fun u T''=>u=px x∧J L' T''):
  Spec prog 264 [.iface t v] R [T] fun u H'=>∃T',H'=[T']∧u=px x∧∃L',J L' T'∧L.Perm (x::L')∧dZ lt L' L'.length:=by
 have hb:=hi.bQ L T h
 have hpos:0<L.length:=(List.getElem?_eq_some_iff.1 hx).1
 obtain⟨n,hn⟩:∃n,L.length=n+1:=⟨L.length-1,by omega⟩
 refine Spec.body func264 rfl results264 ntmps264 rfl ?_
 refine .sr<|.ag rfl<|.z<|.mo rfl ?_
 refine .jh (hi.len L T h) (fun u T1 hu=>?_)
 obtain⟨rfl,h1⟩:=hu
 refine .q (.i64 ((n:Nat):Int) .sub ⟨by omega,by omega,by omega⟩) ?_
 refine .ag rfl<|.z<|.mo rfl<|.mo rfl ?_
 refine .jh (hi.swap L T1 0 n h1 (by omega) (by omega)) (fun u T2 h2=>?_)
 refine .z<|.mo rfl<|.mo rfl ?_
 refine .aQ (qJ hi so _ T2 h2 0 n (by omega) (by rw[eh];omega)) (fun u T3 hu=>?_)
 obtain⟨L3,m,h3,rfl,hp3,hs3,hh3⟩:=hu
 have hx3:L3[n]? =some x:=by rw[hs3 n (Nat.le_refl _),cR (by omega) (by omega),if_pos rfl,hx]
 have hl3:=hp3.length_eq
 rw[eh]at hl3
 obtain⟨e1,e2,e3⟩:=AP (by omega) hx3 (hp3.trans lR)
 have hhole:gr lt (bi L 0 n) n 0:=(hh.mono (by omega)).hole so (by omega) fun k hk hk0=>by rw[cR (by omega) (by omega),if_neg (by omega),if_neg hk0]
 have hH:dZ lt L3 n:=by
  cases m with
  |true=>exact(hh3 hhole).1 rfl
  |false=>exact((hh3 hhole).2 rfl).Ch
 refine .z<|.mo rfl ?_
 rw[e1]at h3
 refine .jh (hp _ T3 h3 (by omega)) (fun u T4 hu=>?_)
 obtain⟨rfl,h4⟩:=hu
 refine .ag rfl<|.zn ?_
 refine .ret (bb _ (.one (.tmp rfl)) (bJ.refl _) ?_)
 ·exact⟨_,rfl,rfl,_,h4,e3,hH.Cl (by omega)⟩
end
end Go.Proofs.YtgppncmdpcefhaaGreatDoor

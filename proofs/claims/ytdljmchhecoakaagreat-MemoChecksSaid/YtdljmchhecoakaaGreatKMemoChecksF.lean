/- What the law 'MemoChecks' uses. No condition. -/
import Derived.Test.YtdljmchhecoakaaGreatChecked
import Derived.Test.YtdljmchhecoakaaGreatKMemoChecksB
namespace Go.Proofs.YtdljmchhecoakaaGreat
set_option linter.defProp false
def acd:=@if_neg
def ace:=@if_pos
def acf:=@List.getElem?_eq_some_iff
def acg:=@List.getD_cons_zero
def ach:=@List.getD_cons_succ
def aci:=@Nat.le_refl
def acj:=@List.take_length
def ack:=@List.take_add_one
def acm:=@List.mem_iff_getElem
def acn:=@List.filter_append
open Tryz
set_option linter.unusedVariables false
theorem rI:bX prog 3 (.int .i64):=⟨underlying3⟩
theorem tW:cR prog 3 false:=⟨isAgg3⟩
theorem Kf:Sz prog 3 1:=⟨sizeOf3⟩
theorem D3:By prog 3 8:=⟨λw=>⟨_,typeInfo3 w,rfl⟩⟩
theorem LA:Zr prog 3 (.int .i64 0):=⟨zeroValue3⟩
theorem yg:bX prog 4 (.bool):=⟨underlying4⟩
theorem Dw:cR prog 4 false:=⟨isAgg4⟩
theorem Kj:Sz prog 4 1:=⟨sizeOf4⟩
theorem D6:By prog 4 1:=⟨λw=>⟨_,typeInfo4 w,rfl⟩⟩
theorem LG:Zr prog 4 (.bool false):=⟨zeroValue4⟩
theorem rJ:bX prog 9 (.string):=⟨underlying9⟩
theorem tX:cR prog 9 false:=⟨isAgg9⟩
theorem Kv:Sz prog 9 1:=⟨sizeOf9⟩
theorem D9:By prog 9 16:=⟨λw=>⟨_,typeInfo9 w,rfl⟩⟩
theorem LM:Zr prog 9 (.string {data:=#[]}):=⟨zeroValue9⟩
theorem KQ:bX prog 22 (.slice 164):=⟨underlying22⟩
theorem Dg:cR prog 22 false:=⟨isAgg22⟩
theorem J6:Sz prog 22 1:=⟨sizeOf22⟩
theorem KR:bX prog 23 (.slice 169):=⟨underlying23⟩
theorem Di:cR prog 23 false:=⟨isAgg23⟩
theorem J8:Sz prog 23 1:=⟨sizeOf23⟩
theorem Dk:cR prog 25 true:=⟨isAgg25⟩
theorem Ka:Sz prog 25 2:=⟨sizeOf25⟩
theorem Lv:Zr prog 25 (.agg [sZ,sZ].toArray):=⟨zeroValue25⟩
theorem Ip:aO prog 25 0 0:=aO.of underlying25 rfl sizeOf22 rfl rfl
theorem Iq:aO prog 25 1 1:=aO.of underlying25 rfl sizeOf23 rfl rfl
theorem JE:eL prog 25 [(0,1),(1,1)] [sZ,sZ]:=⟨_,underlying25,zeroValue25,λw=>by simp[sizeOf22,sizeOf23]⟩
theorem KV:bX prog 26 (.slice 51):=⟨underlying26⟩
theorem Dl:cR prog 26 false:=⟨isAgg26⟩
theorem Dn:cR prog 28 true:=⟨isAgg28⟩
theorem Kd:Sz prog 28 3:=⟨sizeOf28⟩
theorem Iz:aO prog 28 0 0:=aO.of underlying28 rfl sizeOf25 rfl rfl
theorem IA:aO prog 28 1 2:=aO.of underlying28 rfl sizeOf26 rfl rfl
theorem KY:bX prog 29 (.slice 53):=⟨underlying29⟩
theorem KZ:bX prog 30 (.pointer 155):=⟨underlying30⟩
theorem K1:bX prog 31 (.pointer 147):=⟨underlying31⟩
theorem Dq:cR prog 31 false:=⟨isAgg31⟩
theorem K4:bX prog 35 (.pointer 138):=⟨underlying35⟩
theorem Du:cR prog 35 false:=⟨isAgg35⟩
theorem xQ:cR prog 44 true:=⟨isAgg44⟩
theorem yd:Sz prog 44 2:=⟨sizeOf44⟩
theorem II:aO prog 44 0 0:=aO.of underlying44 rfl sizeOf9 rfl rfl
theorem IJ:aO prog 44 1 1:=aO.of underlying44 rfl sizeOf9 rfl rfl
theorem yh:bX prog 45 (.int .u64):=⟨underlying45⟩
theorem xR:cR prog 45 false:=⟨isAgg45⟩
theorem Kk:Sz prog 45 1:=⟨sizeOf45⟩
theorem K7:bX prog 46 (.slice 119):=⟨underlying46⟩
theorem Dx:cR prog 46 false:=⟨isAgg46⟩
theorem Kl:Sz prog 46 1:=⟨sizeOf46⟩
theorem K8:bX prog 47 (.slice 121):=⟨underlying47⟩
theorem Dy:cR prog 47 false:=⟨isAgg47⟩
theorem Km:Sz prog 47 1:=⟨sizeOf47⟩
theorem Dz:cR prog 49 true:=⟨isAgg49⟩
theorem Kn:Sz prog 49 7:=⟨sizeOf49⟩
theorem IK:aO prog 49 0 0:=aO.of underlying49 rfl sizeOf9 rfl rfl
theorem IL:aO prog 49 1 1:=aO.of underlying49 rfl sizeOf9 rfl rfl
theorem IM:aO prog 49 2 2:=aO.of underlying49 rfl sizeOf9 rfl rfl
theorem IN:aO prog 49 3 3:=aO.of underlying49 rfl sizeOf9 rfl rfl
theorem IP:aO prog 49 4 4:=aO.of underlying49 rfl sizeOf44 rfl rfl
theorem IQ:aO prog 49 5 6:=aO.of underlying49 rfl sizeOf9 rfl rfl
theorem JM:eL prog 49 [(0,1),(1,1),(2,1),(3,1),(4,2),(6,1)] [.string {data:=#[]},.string {data:=#[]},.string {data:=#[]},.string {data:=#[]},.string {data:=#[]},.string {data:=#[]},.string {data:=#[]}]:=⟨_,underlying49,zeroValue49,λw=>by simp[sizeOf44,sizeOf9]⟩
theorem DA:cR prog 51 true:=⟨isAgg51⟩
theorem Ko:Sz prog 51 12:=⟨sizeOf51⟩
theorem D7:By prog 51 200:=⟨λw=>⟨_,typeInfo51 w,rfl⟩⟩
theorem LH:Zr prog 51 (.agg [.int .i64 0,sZ,sZ,sZ,.string {data:=#[]},.string {data:=#[]},.string {data:=#[]},.string {data:=#[]},.string {data:=#[]},.string {data:=#[]},.string {data:=#[]},.int .u64 0].toArray):=⟨zeroValue51⟩
theorem IR:aO prog 51 0 0:=aO.of underlying51 rfl sizeOf3 rfl rfl
theorem IS:aO prog 51 1 1:=aO.of underlying51 rfl sizeOf46 rfl rfl
theorem IT:aO prog 51 2 2:=aO.of underlying51 rfl sizeOf46 rfl rfl
theorem IU:aO prog 51 3 3:=aO.of underlying51 rfl sizeOf47 rfl rfl
theorem DB:cR prog 53 true:=⟨isAgg53⟩
theorem Kp:Sz prog 53 23:=⟨sizeOf53⟩
theorem LI:Zr prog 53 (.agg [.string {data:=#[]},.string {data:=#[]},.string {data:=#[]},.string {data:=#[]},.int .u64 0,.int .i64 0,.bool false,.int .i64 0,sZ,sZ,sZ,.string {data:=#[]},.string {data:=#[]},.string {data:=#[]},.string {data:=#[]},.string {data:=#[]},.string {data:=#[]},.string {data:=#[]},.int .u64 0,.bool false,sZ,sZ,.bool false].toArray):=⟨zeroValue53⟩
theorem IV:aO prog 53 0 0:=aO.of underlying53 rfl sizeOf44 rfl rfl
theorem IW:aO prog 53 1 2:=aO.of underlying53 rfl sizeOf9 rfl rfl
theorem IY:aO prog 53 2 3:=aO.of underlying53 rfl sizeOf9 rfl rfl
theorem IZ:aO prog 53 3 4:=aO.of underlying53 rfl sizeOf45 rfl rfl
theorem I0:aO prog 53 4 5:=aO.of underlying53 rfl sizeOf3 rfl rfl
theorem I1:aO prog 53 5 6:=aO.of underlying53 rfl sizeOf4 rfl rfl
theorem I2:aO prog 53 6 7:=aO.of underlying53 rfl sizeOf51 rfl rfl
theorem I3:aO prog 53 7 19:=aO.of underlying53 rfl sizeOf4 rfl rfl
theorem I4:aO prog 53 8 20:=aO.of underlying53 rfl sizeOf25 rfl rfl
theorem I5:aO prog 53 9 22:=aO.of underlying53 rfl sizeOf4 rfl rfl
theorem xS:cR prog 67 true:=⟨isAgg67⟩
theorem ye:Sz prog 67 6:=⟨sizeOf67⟩
theorem D8:By prog 67 80:=⟨λw=>⟨_,typeInfo67 w,rfl⟩⟩
theorem LJ:Zr prog 67 (.agg [.int .u64 0,.int .i64 0,.string {data:=#[]},.string {data:=#[]},.string {data:=#[]},.string {data:=#[]}].toArray):=⟨zeroValue67⟩
theorem I6:aO prog 67 0 0:=aO.of underlying67 rfl sizeOf45 rfl rfl
theorem JN:eL prog 67 [(0,1),(1,1),(2,2),(4,1),(5,1)] [.int .u64 0,.int .i64 0,.string {data:=#[]},.string {data:=#[]},.string {data:=#[]},.string {data:=#[]}]:=⟨_,underlying67,zeroValue67,λw=>by simp[sizeOf3,sizeOf44,sizeOf45,sizeOf9]⟩
theorem K9:bX prog 69 (.slice 67):=⟨underlying69⟩
theorem DC:cR prog 69 false:=⟨isAgg69⟩
theorem Kq:Sz prog 69 1:=⟨sizeOf69⟩
theorem La:bX prog 70 (.slice 4):=⟨underlying70⟩
theorem DD:cR prog 70 false:=⟨isAgg70⟩
theorem Kr:Sz prog 70 1:=⟨sizeOf70⟩
theorem I7:aO prog 72 0 0:=aO.of underlying72 rfl sizeOf3 rfl rfl
theorem I8:aO prog 72 1 1:=aO.of underlying72 rfl sizeOf69 rfl rfl
theorem I9:aO prog 72 2 2:=aO.of underlying72 rfl sizeOf70 rfl rfl
theorem JO:eL prog 72 [(0,1),(1,1),(2,1)] [.int .i64 0,sZ,sZ]:=⟨_,underlying72,zeroValue72,λw=>by simp[sizeOf3,sizeOf69,sizeOf70]⟩
theorem Lb:bX prog 76 (.slice 182):=⟨underlying76⟩
theorem DE:cR prog 76 false:=⟨isAgg76⟩
theorem Ks:Sz prog 76 1:=⟨sizeOf76⟩
theorem Lc:bX prog 79 (.slice 95):=⟨underlying79⟩
theorem DF:cR prog 79 false:=⟨isAgg79⟩
theorem Kt:Sz prog 79 1:=⟨sizeOf79⟩
theorem DG:cR prog 81 true:=⟨isAgg81⟩
theorem Ku:Sz prog 81 2:=⟨sizeOf81⟩
theorem LK:Zr prog 81 (.agg [sZ,.int .i64 0].toArray):=⟨zeroValue81⟩
theorem Ja:aO prog 81 0 0:=aO.of underlying81 rfl sizeOf79 rfl rfl
theorem Jb:aO prog 81 1 1:=aO.of underlying81 rfl sizeOf3 rfl rfl
theorem JP:eL prog 81 [(0,1),(1,1)] [sZ,.int .i64 0]:=⟨_,underlying81,zeroValue81,λw=>by simp[sizeOf3,sizeOf79]⟩
theorem Ld:bX prog 90 (.slice 199):=⟨underlying90⟩
theorem DH:cR prog 90 false:=⟨isAgg90⟩
theorem Kw:Sz prog 90 1:=⟨sizeOf90⟩
theorem Le:bX prog 91 (.slice 9):=⟨underlying91⟩
theorem DJ:cR prog 91 false:=⟨isAgg91⟩
theorem Kx:Sz prog 91 1:=⟨sizeOf91⟩
theorem DK:cR prog 95 true:=⟨isAgg95⟩
theorem Ky:Sz prog 95 8:=⟨sizeOf95⟩
theorem Ec:By prog 95 136:=⟨λw=>⟨_,typeInfo95 w,rfl⟩⟩
theorem LN:Zr prog 95 (.agg [.string {data:=#[]},.string {data:=#[]},.string {data:=#[]},.bool false,sZ,sZ,sZ,.int .i64 0].toArray):=⟨zeroValue95⟩
theorem Jc:aO prog 95 0 0:=aO.of underlying95 rfl sizeOf44 rfl rfl
theorem Jd:aO prog 95 1 2:=aO.of underlying95 rfl sizeOf9 rfl rfl
theorem Je:aO prog 95 2 3:=aO.of underlying95 rfl sizeOf4 rfl rfl
theorem Jf:aO prog 95 3 4:=aO.of underlying95 rfl sizeOf90 rfl rfl
theorem Jg:aO prog 95 4 5:=aO.of underlying95 rfl sizeOf91 rfl rfl
theorem Jh:aO prog 95 5 6:=aO.of underlying95 rfl sizeOf76 rfl rfl
theorem Ji:aO prog 95 6 7:=aO.of underlying95 rfl sizeOf3 rfl rfl
theorem JQ:eL prog 95 [(0,2),(2,1),(3,1),(4,1),(5,1),(6,1),(7,1)] [.string {data:=#[]},.string {data:=#[]},.string {data:=#[]},.bool false,sZ,sZ,sZ,.int .i64 0]:=⟨_,underlying95,zeroValue95,λw=>by simp[sizeOf3,sizeOf4,sizeOf44,sizeOf76,sizeOf9,sizeOf90,sizeOf91]⟩
theorem KA:bX prog 101 (.slice 226):=⟨underlying101⟩
theorem CV:cR prog 101 false:=⟨isAgg101⟩
theorem JR:Sz prog 101 1:=⟨sizeOf101⟩
theorem He:aO prog 103 0 0:=aO.of underlying103 rfl sizeOf101 rfl rfl
theorem Hf:aO prog 103 1 1:=aO.of underlying103 rfl sizeOf45 rfl rfl
theorem Hg:aO prog 103 2 2:=aO.of underlying103 rfl sizeOf45 rfl rfl
theorem Jn:eL prog 103 [(0,1),(1,1),(2,1)] [sZ,.int .u64 0,.int .u64 0]:=⟨_,underlying103,zeroValue103,λw=>by simp[sizeOf101,sizeOf45]⟩
theorem xJ:cR prog 117 true:=⟨isAgg117⟩
theorem xZ:Sz prog 117 4:=⟨sizeOf117⟩
theorem DL:By prog 117 64:=⟨λw=>⟨_,typeInfo117 w,rfl⟩⟩
theorem Lf:Zr prog 117 (.agg [.string {data:=#[]},.string {data:=#[]},.string {data:=#[]},.string {data:=#[]}].toArray):=⟨zeroValue117⟩
theorem Hh:aO prog 117 0 0:=aO.of underlying117 rfl sizeOf9 rfl rfl
theorem Hi:aO prog 117 1 1:=aO.of underlying117 rfl sizeOf44 rfl rfl
theorem Hj:aO prog 117 2 3:=aO.of underlying117 rfl sizeOf9 rfl rfl
theorem Jo:eL prog 117 [(0,1),(1,2),(3,1)] [.string {data:=#[]},.string {data:=#[]},.string {data:=#[]},.string {data:=#[]}]:=⟨_,underlying117,zeroValue117,λw=>by simp[sizeOf44,sizeOf9]⟩
theorem xK:cR prog 119 true:=⟨isAgg119⟩
theorem x1:Sz prog 119 7:=⟨sizeOf119⟩
theorem DM:By prog 119 112:=⟨λw=>⟨_,typeInfo119 w,rfl⟩⟩
theorem Lg:Zr prog 119 (.agg [.string {data:=#[]},.string {data:=#[]},.string {data:=#[]},.string {data:=#[]},.string {data:=#[]},.string {data:=#[]},.string {data:=#[]}].toArray):=⟨zeroValue119⟩
theorem Hk:aO prog 119 0 0:=aO.of underlying119 rfl sizeOf44 rfl rfl
theorem Hl:aO prog 119 1 2:=aO.of underlying119 rfl sizeOf9 rfl rfl
theorem Hm:aO prog 119 2 3:=aO.of underlying119 rfl sizeOf117 rfl rfl
theorem Jp:eL prog 119 [(0,2),(2,1),(3,4)] [.string {data:=#[]},.string {data:=#[]},.string {data:=#[]},.string {data:=#[]},.string {data:=#[]},.string {data:=#[]},.string {data:=#[]}]:=⟨_,underlying119,zeroValue119,λw=>by simp[sizeOf117,sizeOf44,sizeOf9]⟩
theorem CW:cR prog 121 true:=⟨isAgg121⟩
theorem JS:Sz prog 121 8:=⟨sizeOf121⟩
theorem Lh:Zr prog 121 (.agg [.bool false,.string {data:=#[]},.string {data:=#[]},.string {data:=#[]},.string {data:=#[]},.string {data:=#[]},.string {data:=#[]},.string {data:=#[]}].toArray):=⟨zeroValue121⟩
theorem Hn:aO prog 121 0 0:=aO.of underlying121 rfl sizeOf4 rfl rfl
theorem Hp:aO prog 121 1 1:=aO.of underlying121 rfl sizeOf119 rfl rfl
theorem KB:bX prog 135 (.map 140 4):=⟨underlying135⟩
theorem CY:cR prog 135 false:=⟨isAgg135⟩
theorem KC:bX prog 136 (.slice 140):=⟨underlying136⟩
theorem CZ:cR prog 136 false:=⟨isAgg136⟩
theorem JT:Sz prog 136 1:=⟨sizeOf136⟩
theorem Hq:aO prog 138 0 0:=aO.of underlying138 rfl sizeOf4 rfl rfl
theorem Hr:aO prog 138 1 1:=aO.of underlying138 rfl sizeOf3 rfl rfl
theorem Hs:aO prog 138 2 2:=aO.of underlying138 rfl sizeOf135 rfl rfl
theorem Ht:aO prog 138 3 3:=aO.of underlying138 rfl sizeOf136 rfl rfl
theorem Hu:aO prog 138 4 4:=aO.of underlying138 rfl sizeOf3 rfl rfl
theorem Jq:eL prog 138 [(0,1),(1,1),(2,1),(3,1),(4,1)] [.bool false,.int .i64 0,.map none,sZ,.int .i64 0]:=⟨_,underlying138,zeroValue138,λw=>by simp[sizeOf135,sizeOf136,sizeOf3,sizeOf4]⟩
theorem xL:cR prog 140 true:=⟨isAgg140⟩
theorem x9:Sz prog 140 6:=⟨sizeOf140⟩
theorem DN:By prog 140 80:=⟨λw=>⟨_,typeInfo140 w,rfl⟩⟩
theorem Li:Zr prog 140 (.agg [.int .u64 0,.int .i64 0,.string {data:=#[]},.string {data:=#[]},.string {data:=#[]},.string {data:=#[]}].toArray):=⟨zeroValue140⟩
theorem Hv:aO prog 140 0 0:=aO.of underlying140 rfl sizeOf45 rfl rfl
theorem Jr:eL prog 140 [(0,1),(1,1),(2,2),(4,1),(5,1)] [.int .u64 0,.int .i64 0,.string {data:=#[]},.string {data:=#[]},.string {data:=#[]},.string {data:=#[]}]:=⟨_,underlying140,zeroValue140,λw=>by simp[sizeOf3,sizeOf44,sizeOf45,sizeOf9]⟩
theorem KD:bX prog 144 (.map 236 238):=⟨underlying144⟩
theorem C0:cR prog 144 false:=⟨isAgg144⟩
theorem KE:bX prog 145 (.map 117 238):=⟨underlying145⟩
theorem C1:cR prog 145 false:=⟨isAgg145⟩
theorem Hw:aO prog 147 0 0:=aO.of underlying147 rfl sizeOf4 rfl rfl
theorem Hx:aO prog 147 1 1:=aO.of underlying147 rfl sizeOf45 rfl rfl
theorem Hy:aO prog 147 2 2:=aO.of underlying147 rfl sizeOf45 rfl rfl
theorem Hz:aO prog 147 3 3:=aO.of underlying147 rfl sizeOf3 rfl rfl
theorem HA:aO prog 147 4 4:=aO.of underlying147 rfl sizeOf144 rfl rfl
theorem HB:aO prog 147 5 5:=aO.of underlying147 rfl sizeOf145 rfl rfl
theorem Js:eL prog 147 [(0,1),(1,1),(2,1),(3,1),(4,1),(5,1)] [.bool false,.int .u64 0,.int .u64 0,.int .i64 0,.map none,.map none]:=⟨_,underlying147,zeroValue147,λw=>by simp[sizeOf144,sizeOf145,sizeOf3,sizeOf4,sizeOf45]⟩
theorem C2:cR prog 150 true:=⟨isAgg150⟩
theorem JU:Sz prog 150 9:=⟨sizeOf150⟩
theorem HC:aO prog 150 0 0:=aO.of underlying150 rfl sizeOf119 rfl rfl
theorem HD:aO prog 150 1 7:=aO.of underlying150 rfl sizeOf45 rfl rfl
theorem HE:aO prog 150 2 8:=aO.of underlying150 rfl sizeOf45 rfl rfl
theorem Jt:eL prog 150 [(0,7),(7,1),(8,1)] [.string {data:=#[]},.string {data:=#[]},.string {data:=#[]},.string {data:=#[]},.string {data:=#[]},.string {data:=#[]},.string {data:=#[]},.int .u64 0,.int .u64 0]:=⟨_,underlying150,zeroValue150,λw=>by simp[sizeOf119,sizeOf45]⟩
theorem KF:bX prog 151 (.pointer 150):=⟨underlying151⟩
theorem C3:cR prog 151 false:=⟨isAgg151⟩
theorem JV:Sz prog 151 1:=⟨sizeOf151⟩
theorem DP:By prog 151 8:=⟨λw=>⟨_,typeInfo151 w,rfl⟩⟩
theorem Lj:Zr prog 151 (.pointer none):=⟨zeroValue151⟩
theorem KG:bX prog 153 (.slice 159):=⟨underlying153⟩
theorem C4:cR prog 153 false:=⟨isAgg153⟩
theorem JW:Sz prog 153 1:=⟨sizeOf153⟩
theorem HF:aO prog 155 0 0:=aO.of underlying155 rfl sizeOf4 rfl rfl
theorem HG:aO prog 155 1 1:=aO.of underlying155 rfl sizeOf153 rfl rfl
theorem HH:aO prog 155 2 2:=aO.of underlying155 rfl sizeOf3 rfl rfl
theorem Ju:eL prog 155 [(0,1),(1,1),(2,1)] [.bool false,sZ,.int .i64 0]:=⟨_,underlying155,zeroValue155,λw=>by simp[sizeOf153,sizeOf3,sizeOf4]⟩
theorem HJ:aO prog 157 0 0:=aO.of underlying157 rfl sizeOf45 rfl rfl
theorem HK:aO prog 157 1 1:=aO.of underlying157 rfl sizeOf25 rfl rfl
theorem Jv:eL prog 157 [(0,1),(1,2)] [.int .u64 0,sZ,sZ]:=⟨_,underlying157,zeroValue157,λw=>by simp[sizeOf25,sizeOf45]⟩
theorem C5:cR prog 159 true:=⟨isAgg159⟩
theorem JX:Sz prog 159 4:=⟨sizeOf159⟩
theorem DQ:By prog 159 80:=⟨λw=>⟨_,typeInfo159 w,rfl⟩⟩
theorem Lk:Zr prog 159 (.agg [.int .u64 0,sZ,sZ,sZ].toArray):=⟨zeroValue159⟩
theorem HL:aO prog 159 0 0:=aO.of underlying159 rfl sizeOf157 rfl rfl
theorem HM:aO prog 159 1 3:=aO.of underlying159 rfl sizeOf76 rfl rfl
theorem Jw:eL prog 159 [(0,3),(3,1)] [.int .u64 0,sZ,sZ,sZ]:=⟨_,underlying159,zeroValue159,λw=>by simp[sizeOf157,sizeOf76]⟩
theorem KH:bX prog 162 (.slice 167):=⟨underlying162⟩
theorem C6:cR prog 162 false:=⟨isAgg162⟩
theorem JY:Sz prog 162 1:=⟨sizeOf162⟩
theorem C7:cR prog 164 true:=⟨isAgg164⟩
theorem JZ:Sz prog 164 2:=⟨sizeOf164⟩
theorem DR:By prog 164 40:=⟨λw=>⟨_,typeInfo164 w,rfl⟩⟩
theorem Ll:Zr prog 164 (.agg [.string {data:=#[]},sZ].toArray):=⟨zeroValue164⟩
theorem HN:aO prog 164 0 0:=aO.of underlying164 rfl sizeOf9 rfl rfl
theorem HO:aO prog 164 1 1:=aO.of underlying164 rfl sizeOf162 rfl rfl
theorem Jx:eL prog 164 [(0,1),(1,1)] [.string {data:=#[]},sZ]:=⟨_,underlying164,zeroValue164,λw=>by simp[sizeOf162,sizeOf9]⟩
theorem KI:bX prog 165 (.slice 249):=⟨underlying165⟩
theorem xM:cR prog 165 false:=⟨isAgg165⟩
theorem J0:Sz prog 165 1:=⟨sizeOf165⟩
theorem C8:cR prog 167 true:=⟨isAgg167⟩
theorem J1:Sz prog 167 3:=⟨sizeOf167⟩
theorem DT:By prog 167 64:=⟨λw=>⟨_,typeInfo167 w,rfl⟩⟩
theorem Lm:Zr prog 167 (.agg [.string {data:=#[]},sZ,sZ].toArray):=⟨zeroValue167⟩
theorem HP:aO prog 167 0 0:=aO.of underlying167 rfl sizeOf9 rfl rfl
theorem HQ:aO prog 167 1 1:=aO.of underlying167 rfl sizeOf165 rfl rfl
theorem HR:aO prog 167 2 2:=aO.of underlying167 rfl sizeOf90 rfl rfl
theorem Jy:eL prog 167 [(0,1),(1,1),(2,1)] [.string {data:=#[]},sZ,sZ]:=⟨_,underlying167,zeroValue167,λw=>by simp[sizeOf165,sizeOf9,sizeOf90]⟩
theorem C9:cR prog 169 true:=⟨isAgg169⟩
theorem J2:Sz prog 169 4:=⟨sizeOf169⟩
theorem DU:By prog 169 64:=⟨λw=>⟨_,typeInfo169 w,rfl⟩⟩
theorem Ln:Zr prog 169 (.agg [.string {data:=#[]},.string {data:=#[]},.string {data:=#[]},.string {data:=#[]}].toArray):=⟨zeroValue169⟩
theorem HS:aO prog 169 0 0:=aO.of underlying169 rfl sizeOf9 rfl rfl
theorem HT:aO prog 169 1 1:=aO.of underlying169 rfl sizeOf44 rfl rfl
theorem HU:aO prog 169 2 3:=aO.of underlying169 rfl sizeOf9 rfl rfl
theorem KJ:bX prog 177 (.slice 266):=⟨underlying177⟩
theorem KK:bX prog 180 (.slice 263):=⟨underlying180⟩
theorem KL:bX prog 182 (.slice 3):=⟨underlying182⟩
theorem Da:cR prog 182 false:=⟨isAgg182⟩
theorem J3:Sz prog 182 1:=⟨sizeOf182⟩
theorem DW:By prog 182 24:=⟨λw=>⟨_,typeInfo182 w,rfl⟩⟩
theorem Lo:Zr prog 182 (sZ):=⟨zeroValue182⟩
theorem KM:bX prog 185 (.map 249 3):=⟨underlying185⟩
theorem Db:cR prog 185 false:=⟨isAgg185⟩
theorem KN:bX prog 188 (.map 269 3):=⟨underlying188⟩
theorem Dc:cR prog 188 false:=⟨isAgg188⟩
theorem HW:aO prog 190 0 0:=aO.of underlying190 rfl sizeOf25 rfl rfl
theorem HX:aO prog 190 1 2:=aO.of underlying190 rfl sizeOf185 rfl rfl
theorem HY:aO prog 190 2 3:=aO.of underlying190 rfl sizeOf31 rfl rfl
theorem HZ:aO prog 190 3 4:=aO.of underlying190 rfl sizeOf45 rfl rfl
theorem H3:aO prog 190 4 5:=aO.of underlying190 rfl sizeOf188 rfl rfl
theorem H4:aO prog 190 5 6:=aO.of underlying190 rfl sizeOf81 rfl rfl
theorem H5:aO prog 190 6 8:=aO.of underlying190 rfl sizeOf3 rfl rfl
theorem Jz:eL prog 190 [(0,2),(2,1),(3,1),(4,1),(5,1),(6,2),(8,1)] [sZ,sZ,.map none,.pointer none,.int .u64 0,.map none,sZ,.int .i64 0,.int .i64 0]:=⟨_,underlying190,zeroValue190,λw=>by simp[sizeOf185,sizeOf188,sizeOf25,sizeOf3,sizeOf31,sizeOf45,sizeOf81]⟩
theorem KO:bX prog 195 (.slice 117):=⟨underlying195⟩
theorem De:cR prog 199 true:=⟨isAgg199⟩
theorem J4:Sz prog 199 5:=⟨sizeOf199⟩
theorem DX:By prog 199 56:=⟨λw=>⟨_,typeInfo199 w,rfl⟩⟩
theorem Lp:Zr prog 199 (.agg [.int .i64 0,.string {data:=#[]},.string {data:=#[]},.int .i64 0,.int .i64 0].toArray):=⟨zeroValue199⟩
theorem H6:aO prog 199 0 0:=aO.of underlying199 rfl sizeOf3 rfl rfl
theorem H7:aO prog 199 1 1:=aO.of underlying199 rfl sizeOf9 rfl rfl
theorem H8:aO prog 199 2 2:=aO.of underlying199 rfl sizeOf9 rfl rfl
theorem H9:aO prog 199 3 3:=aO.of underlying199 rfl sizeOf3 rfl rfl
theorem Ia:aO prog 199 4 4:=aO.of underlying199 rfl sizeOf3 rfl rfl
theorem KP:bX prog 204 (.slice 280):=⟨underlying204⟩
theorem Df:cR prog 204 false:=⟨isAgg204⟩
theorem J5:Sz prog 204 1:=⟨sizeOf204⟩
theorem Ib:aO prog 206 0 0:=aO.of underlying206 rfl sizeOf81 rfl rfl
theorem Ic:aO prog 206 1 2:=aO.of underlying206 rfl sizeOf9 rfl rfl
theorem Ie:aO prog 206 2 3:=aO.of underlying206 rfl sizeOf70 rfl rfl
theorem Ig:aO prog 206 3 4:=aO.of underlying206 rfl sizeOf76 rfl rfl
theorem Ih:aO prog 206 4 5:=aO.of underlying206 rfl sizeOf70 rfl rfl
theorem Ii:aO prog 206 5 6:=aO.of underlying206 rfl sizeOf204 rfl rfl
theorem JA:eL prog 206 [(0,2),(2,1),(3,1),(4,1),(5,1),(6,1)] [sZ,.int .i64 0,.string {data:=#[]},sZ,sZ,sZ,sZ]:=⟨_,underlying206,zeroValue206,λw=>by simp[sizeOf204,sizeOf70,sizeOf76,sizeOf81,sizeOf9]⟩
theorem Dh:cR prog 226 true:=⟨isAgg226⟩
theorem J7:Sz prog 226 9:=⟨sizeOf226⟩
theorem DY:By prog 226 128:=⟨λw=>⟨_,typeInfo226 w,rfl⟩⟩
theorem Lq:Zr prog 226 (.agg [.string {data:=#[]},.string {data:=#[]},.string {data:=#[]},.string {data:=#[]},.string {data:=#[]},.string {data:=#[]},.string {data:=#[]},.int .u64 0,.int .u64 0].toArray):=⟨zeroValue226⟩
theorem Ij:aO prog 226 0 0:=aO.of underlying226 rfl sizeOf119 rfl rfl
theorem Ik:aO prog 226 1 7:=aO.of underlying226 rfl sizeOf45 rfl rfl
theorem Il:aO prog 226 2 8:=aO.of underlying226 rfl sizeOf45 rfl rfl
theorem JB:eL prog 226 [(0,7),(7,1),(8,1)] [.string {data:=#[]},.string {data:=#[]},.string {data:=#[]},.string {data:=#[]},.string {data:=#[]},.string {data:=#[]},.string {data:=#[]},.int .u64 0,.int .u64 0]:=⟨_,underlying226,zeroValue226,λw=>by simp[sizeOf119,sizeOf45]⟩
theorem Dj:cR prog 231 false:=⟨isAgg231⟩
theorem J9:Sz prog 231 1:=⟨sizeOf231⟩
theorem Lr:Zr prog 231 (.nilFunc):=⟨zeroValue231⟩
theorem KS:bX prog 232 (.map 119 4):=⟨underlying232⟩
theorem xN:cR prog 236 true:=⟨isAgg236⟩
theorem ya:Sz prog 236 3:=⟨sizeOf236⟩
theorem Ls:Zr prog 236 (.agg [.string {data:=#[]},.string {data:=#[]},.string {data:=#[]}].toArray):=⟨zeroValue236⟩
theorem JC:eL prog 236 [(0,2),(2,1)] [.string {data:=#[]},.string {data:=#[]},.string {data:=#[]}]:=⟨_,underlying236,zeroValue236,λw=>by simp[sizeOf44,sizeOf9]⟩
theorem KT:bX prog 238 (.slice 151):=⟨underlying238⟩
theorem Lt:Zr prog 238 (sZ):=⟨zeroValue238⟩
theorem KU:bX prog 242 (.slice 325):=⟨underlying242⟩
theorem xO:cR prog 249 true:=⟨isAgg249⟩
theorem yb:Sz prog 249 2:=⟨sizeOf249⟩
theorem DZ:By prog 249 32:=⟨λw=>⟨_,typeInfo249 w,rfl⟩⟩
theorem Lu:Zr prog 249 (.agg [.string {data:=#[]},.string {data:=#[]}].toArray):=⟨zeroValue249⟩
theorem Im:aO prog 249 0 0:=aO.of underlying249 rfl sizeOf9 rfl rfl
theorem Io:aO prog 249 1 1:=aO.of underlying249 rfl sizeOf9 rfl rfl
theorem JD:eL prog 249 [(0,1),(1,1)] [.string {data:=#[]},.string {data:=#[]}]:=⟨_,underlying249,zeroValue249,λw=>by simp[sizeOf9]⟩
theorem Kb:Sz prog 263 4:=⟨sizeOf263⟩
theorem D0:By prog 263 80:=⟨λw=>⟨_,typeInfo263 w,rfl⟩⟩
theorem Lw:Zr prog 263 (.agg [.string {data:=#[]},.string {data:=#[]},sZ,sZ].toArray):=⟨zeroValue263⟩
theorem Ir:aO prog 263 0 0:=aO.of underlying263 rfl sizeOf9 rfl rfl
theorem Is:aO prog 263 1 1:=aO.of underlying263 rfl sizeOf167 rfl rfl
theorem JF:eL prog 263 [(0,1),(1,3)] [.string {data:=#[]},.string {data:=#[]},sZ,sZ]:=⟨_,underlying263,zeroValue263,λw=>by simp[sizeOf167,sizeOf9]⟩
theorem Dm:cR prog 266 true:=⟨isAgg266⟩
theorem Kc:Sz prog 266 3:=⟨sizeOf266⟩
theorem D1:By prog 266 24:=⟨λw=>⟨_,typeInfo266 w,rfl⟩⟩
theorem Lx:Zr prog 266 (.agg [.int .i64 0,.int .i64 0,.bool false].toArray):=⟨zeroValue266⟩
theorem Iu:aO prog 266 0 0:=aO.of underlying266 rfl sizeOf3 rfl rfl
theorem Iv:aO prog 266 1 1:=aO.of underlying266 rfl sizeOf3 rfl rfl
theorem Iw:aO prog 266 2 2:=aO.of underlying266 rfl sizeOf4 rfl rfl
theorem JG:eL prog 266 [(0,1),(1,1),(2,1)] [.int .i64 0,.int .i64 0,.bool false]:=⟨_,underlying266,zeroValue266,λw=>by simp[sizeOf3,sizeOf4]⟩
theorem xP:cR prog 269 true:=⟨isAgg269⟩
theorem yc:Sz prog 269 3:=⟨sizeOf269⟩
theorem Ly:Zr prog 269 (.agg [.string {data:=#[]},.string {data:=#[]},.string {data:=#[]}].toArray):=⟨zeroValue269⟩
theorem JH:eL prog 269 [(0,2),(2,1)] [.string {data:=#[]},.string {data:=#[]},.string {data:=#[]}]:=⟨_,underlying269,zeroValue269,λw=>by simp[sizeOf44,sizeOf9]⟩
theorem KW:bX prog 275 (.map 3 4):=⟨underlying275⟩
theorem Dp:cR prog 280 true:=⟨isAgg280⟩
theorem Ke:Sz prog 280 2:=⟨sizeOf280⟩
theorem D2:By prog 280 16:=⟨λw=>⟨_,typeInfo280 w,rfl⟩⟩
theorem Lz:Zr prog 280 (.agg [.int .i64 0,.int .i64 0].toArray):=⟨zeroValue280⟩
theorem Ix:aO prog 280 0 0:=aO.of underlying280 rfl sizeOf3 rfl rfl
theorem Iy:aO prog 280 1 1:=aO.of underlying280 rfl sizeOf3 rfl rfl
theorem JI:eL prog 280 [(0,1),(1,1)] [.int .i64 0,.int .i64 0]:=⟨_,underlying280,zeroValue280,λw=>by simp[sizeOf3]⟩
theorem KX:bX prog 282 (.pointer 204):=⟨underlying282⟩
theorem K0:bX prog 306 (.int .u64):=⟨underlying306⟩
theorem K2:bX prog 316 (.map 249 321):=⟨underlying316⟩
theorem Dr:cR prog 316 false:=⟨isAgg316⟩
theorem IB:aO prog 318 0 0:=aO.of underlying318 rfl sizeOf25 rfl rfl
theorem IC:aO prog 318 1 2:=aO.of underlying318 rfl sizeOf316 rfl rfl
theorem JJ:eL prog 318 [(0,2),(2,1)] [sZ,sZ,.map none]:=⟨_,underlying318,zeroValue318,λw=>by simp[sizeOf25,sizeOf316]⟩
theorem K3:bX prog 319 (.map 9 4):=⟨underlying319⟩
theorem Ds:cR prog 321 true:=⟨isAgg321⟩
theorem Kg:Sz prog 321 2:=⟨sizeOf321⟩
theorem D4:By prog 321 16:=⟨λw=>⟨_,typeInfo321 w,rfl⟩⟩
theorem LC:Zr prog 321 (.agg [.int .i64 0,.int .i64 0].toArray):=⟨zeroValue321⟩
theorem ID:aO prog 321 0 0:=aO.of underlying321 rfl sizeOf3 rfl rfl
theorem IE:aO prog 321 1 1:=aO.of underlying321 rfl sizeOf3 rfl rfl
theorem JK:eL prog 321 [(0,1),(1,1)] [.int .i64 0,.int .i64 0]:=⟨_,underlying321,zeroValue321,λw=>by simp[sizeOf3]⟩
theorem Dt:cR prog 325 true:=⟨isAgg325⟩
theorem Kh:Sz prog 325 5:=⟨sizeOf325⟩
theorem D5:By prog 325 40:=⟨λw=>⟨_,typeInfo325 w,rfl⟩⟩
theorem LD:Zr prog 325 (.agg [.int .i64 0,.int .i64 0,.int .i64 0,.int .i64 0,.bool false].toArray):=⟨zeroValue325⟩
theorem IF:aO prog 325 0 0:=aO.of underlying325 rfl sizeOf321 rfl rfl
theorem IG:aO prog 325 1 2:=aO.of underlying325 rfl sizeOf321 rfl rfl
theorem IH:aO prog 325 2 4:=aO.of underlying325 rfl sizeOf4 rfl rfl
theorem JL:eL prog 325 [(0,2),(2,2),(4,1)] [.int .i64 0,.int .i64 0,.int .i64 0,.int .i64 0,.bool false]:=⟨_,underlying325,zeroValue325,λw=>by simp[sizeOf321,sizeOf4]⟩
theorem K5:bX prog 375 (.slice 321):=⟨underlying375⟩
theorem K6:bX prog 385 (.int .u64):=⟨underlying385⟩
theorem Dv:cR prog 385 false:=⟨isAgg385⟩
theorem Ki:Sz prog 385 1:=⟨sizeOf385⟩
theorem LF:Zr prog 385 (.int .u64 0):=⟨zeroValue385⟩
theorem tZ:ew prog 3 1 [.i .i64] false:=ew.int rI tW
theorem jY:ew prog 9 1 [.s] false:=ew.str rJ tX
theorem nX:ew prog 44 2 [.s,.s] true:=ew.struct (n:=1) underlying44 stoodInHeld44 xQ yd (dW.more jY (dW.more jY dW.nil))
theorem ud:ew prog 45 1 [.i .u64] false:=ew.int yh xR
theorem xY:ew prog 67 3 [.i .u64,.i .i64,.s,.s,.s,.s] true:=ew.struct (n:=2) underlying67 stoodInHeld67 xS ye (dW.more ud (dW.more tZ (dW.more nX (dW.more jY (dW.more jY dW.nil)))))
theorem Jm:pZ prog 67:=⟨eqGuardType67⟩
theorem tY:ew prog 117 3 [.s,.s,.s,.s] true:=ew.struct (n:=2) underlying117 stoodInHeld117 xJ xZ (dW.more jY (dW.more nX (dW.more jY dW.nil)))
theorem Jj:pZ prog 117:=⟨eqGuardType117⟩
theorem xT:ew prog 119 4 [.s,.s,.s,.s,.s,.s,.s] true:=ew.struct (n:=3) underlying119 stoodInHeld119 xK x1 (dW.more nX (dW.more jY (dW.more tY dW.nil)))
theorem Jk:pZ prog 119:=⟨eqGuardType119⟩
theorem xU:ew prog 140 3 [.i .u64,.i .i64,.s,.s,.s,.s] true:=ew.struct (n:=2) underlying140 stoodInHeld140 xL x9 (dW.more ud (dW.more tZ (dW.more nX (dW.more jY (dW.more jY dW.nil)))))
theorem xV:ew prog 236 3 [.s,.s,.s] true:=ew.struct (n:=2) underlying236 stoodInHeld236 xN ya (dW.more nX (dW.more jY dW.nil))
theorem xW:ew prog 249 2 [.s,.s] true:=ew.struct (n:=1) underlying249 stoodInHeld249 xO yb (dW.more jY (dW.more jY dW.nil))
theorem Jl:pZ prog 249:=⟨eqGuardType249⟩
theorem xX:ew prog 269 3 [.s,.s,.s] true:=ew.struct (n:=2) underlying269 stoodInHeld269 xP yc (dW.more nX (dW.more jY dW.nil))
theorem EP:aT prog 14:=⟨call14⟩
theorem EY:aT prog 15:=⟨call15⟩
theorem E3:aT prog 16:=⟨call16⟩
theorem Fb:aT prog 17:=⟨call17⟩
theorem Fo:aT prog 18:=⟨call18⟩
theorem FB:aT prog 19:=⟨call19⟩
theorem FG:aT prog 20:=⟨call20⟩
theorem FI:aT prog 21:=⟨call21⟩
theorem FJ:aT prog 22:=⟨call22⟩
theorem FU:aT prog 23:=⟨call23⟩
theorem F5:aT prog 24:=⟨call24⟩
theorem Ga:aT prog 25:=⟨call25⟩
theorem Gh:aT prog 26:=⟨call26⟩
theorem Gm:aT prog 27:=⟨call27⟩
theorem Gq:aT prog 28:=⟨call28⟩
theorem Gr:aT prog 29:=⟨call29⟩
theorem Gv:aT prog 30:=⟨call30⟩
theorem Gx:aT prog 31:=⟨call31⟩
theorem Gy:aT prog 32:=⟨call32⟩
theorem Gz:aT prog 34:=⟨call34⟩
theorem GA:aT prog 39:=⟨call39⟩
theorem GB:aT prog 40:=⟨call40⟩
theorem GC:aT prog 42:=⟨call42⟩
theorem GD:aT prog 48:=⟨call48⟩
theorem GF:aT prog 49:=⟨call49⟩
theorem GG:aT prog 58:=⟨call58⟩
theorem GH:aT prog 59:=⟨call59⟩
theorem GI:aT prog 60:=⟨call60⟩
theorem GJ:aT prog 61:=⟨call61⟩
theorem GK:aT prog 62:=⟨call62⟩
theorem GL:aT prog 63:=⟨call63⟩
theorem GM:aT prog 64:=⟨call64⟩
theorem GN:aT prog 65:=⟨call65⟩
theorem GO:aT prog 66:=⟨call66⟩
theorem GP:aT prog 67:=⟨call67⟩
theorem GQ:aT prog 68:=⟨call68⟩
theorem GR:aT prog 69:=⟨call69⟩
theorem GS:aT prog 70:=⟨call70⟩
theorem GU:aT prog 71:=⟨call71⟩
theorem GV:aT prog 72:=⟨call72⟩
theorem GW:aT prog 73:=⟨call73⟩
theorem GX:aT prog 74:=⟨call74⟩
theorem GY:aT prog 75:=⟨call75⟩
theorem GZ:aT prog 76:=⟨call76⟩
theorem G0:aT prog 77:=⟨call77⟩
theorem G1:aT prog 78:=⟨call78⟩
theorem G2:aT prog 79:=⟨call79⟩
theorem G3:aT prog 80:=⟨call80⟩
theorem G4:aT prog 81:=⟨call81⟩
theorem G5:aT prog 82:=⟨call82⟩
theorem G6:aT prog 83:=⟨call83⟩
theorem G7:aT prog 84:=⟨call84⟩
theorem G8:aT prog 85:=⟨call85⟩
theorem G9:aT prog 91:=⟨call91⟩
theorem Ha:aT prog 92:=⟨call92⟩
theorem Hb:aT prog 93:=⟨call93⟩
theorem Hc:aT prog 94:=⟨call94⟩
theorem Hd:aT prog 95:=⟨call95⟩
theorem Ee:aT prog 100:=⟨call100⟩
theorem Ef:aT prog 108:=⟨call108⟩
theorem Eg:aT prog 109:=⟨call109⟩
theorem Eh:aT prog 110:=⟨call110⟩
theorem Ei:aT prog 111:=⟨call111⟩
theorem Ej:aT prog 112:=⟨call112⟩
theorem Ek:aT prog 113:=⟨call113⟩
theorem El:aT prog 114:=⟨call114⟩
theorem Em:aT prog 115:=⟨call115⟩
theorem En:aT prog 116:=⟨call116⟩
theorem Eo:aT prog 117:=⟨call117⟩
theorem Ep:aT prog 118:=⟨call118⟩
theorem Er:aT prog 119:=⟨call119⟩
theorem Et:aT prog 120:=⟨call120⟩
theorem Eu:aT prog 121:=⟨call121⟩
theorem Ev:aT prog 122:=⟨call122⟩
theorem Ex:aT prog 123:=⟨call123⟩
theorem Ey:aT prog 124:=⟨call124⟩
theorem Ez:aT prog 125:=⟨call125⟩
theorem EB:aT prog 126:=⟨call126⟩
theorem EC:aT prog 127:=⟨call127⟩
theorem ED:aT prog 128:=⟨call128⟩
theorem EE:aT prog 129:=⟨call129⟩
theorem EF:aT prog 130:=⟨call130⟩
theorem EG:aT prog 131:=⟨call131⟩
theorem EH:aT prog 132:=⟨call132⟩
theorem EI:aT prog 133:=⟨call133⟩
theorem EJ:aT prog 134:=⟨call134⟩
theorem EK:aT prog 135:=⟨call135⟩
theorem EL:aT prog 136:=⟨call136⟩
theorem EM:aT prog 137:=⟨call137⟩
theorem EN:aT prog 138:=⟨call138⟩
theorem EO:aT prog 139:=⟨call139⟩
theorem EQ:aT prog 140:=⟨call140⟩
theorem ER:aT prog 141:=⟨call141⟩
theorem ES:aT prog 142:=⟨call142⟩
theorem ET:aT prog 143:=⟨call143⟩
theorem EU:aT prog 144:=⟨call144⟩
theorem EV:aT prog 145:=⟨call145⟩
theorem EW:aT prog 146:=⟨call146⟩
theorem EX:aT prog 149:=⟨call149⟩
theorem EZ:aT prog 150:=⟨call150⟩
theorem E0:aT prog 151:=⟨call151⟩
theorem E1:aT prog 152:=⟨call152⟩
theorem E2:aT prog 153:=⟨call153⟩
theorem E6:aT prog 160:=⟨call160⟩
theorem E7:aT prog 161:=⟨call161⟩
theorem E8:aT prog 167:=⟨call167⟩
theorem E9:aT prog 168:=⟨call168⟩
theorem Fa:aT prog 169:=⟨call169⟩
theorem Fc:aT prog 170:=⟨call170⟩
theorem Fe:aT prog 171:=⟨call171⟩
theorem Ff:aT prog 172:=⟨call172⟩
theorem Fg:aT prog 173:=⟨call173⟩
theorem Fh:aT prog 174:=⟨call174⟩
theorem Fi:aT prog 175:=⟨call175⟩
theorem Fj:aT prog 176:=⟨call176⟩
theorem Fk:aT prog 177:=⟨call177⟩
theorem Fl:aT prog 178:=⟨call178⟩
theorem Fm:aT prog 179:=⟨call179⟩
theorem Fp:aT prog 180:=⟨call180⟩
theorem Fq:aT prog 181:=⟨call181⟩
theorem Ft:aT prog 182:=⟨call182⟩
theorem Fu:aT prog 183:=⟨call183⟩
theorem Fv:aT prog 184:=⟨call184⟩
theorem Fw:aT prog 185:=⟨call185⟩
theorem Fx:aT prog 186:=⟨call186⟩
theorem Fy:aT prog 187:=⟨call187⟩
theorem Fz:aT prog 188:=⟨call188⟩
theorem FA:aT prog 189:=⟨call189⟩
theorem FC:aT prog 190:=⟨call190⟩
theorem FD:aT prog 191:=⟨call191⟩
theorem FE:aT prog 192:=⟨call192⟩
theorem FF:aT prog 193:=⟨call193⟩
theorem FH:aT prog 207:=⟨call207⟩
theorem FK:aT prog 221:=⟨call221⟩
theorem FL:aT prog 222:=⟨call222⟩
theorem FM:aT prog 223:=⟨call223⟩
theorem FN:aT prog 224:=⟨call224⟩
theorem FO:aT prog 225:=⟨call225⟩
theorem FP:aT prog 226:=⟨call226⟩
theorem FQ:aT prog 227:=⟨call227⟩
theorem FR:aT prog 228:=⟨call228⟩
theorem FT:aT prog 229:=⟨call229⟩
theorem FV:aT prog 230:=⟨call230⟩
theorem FW:aT prog 231:=⟨call231⟩
theorem FX:aT prog 232:=⟨call232⟩
theorem FY:aT prog 233:=⟨call233⟩
theorem FZ:aT prog 234:=⟨call234⟩
theorem F0:aT prog 235:=⟨call235⟩
theorem F1:aT prog 236:=⟨call236⟩
theorem F2:aT prog 237:=⟨call237⟩
theorem F3:aT prog 238:=⟨call238⟩
theorem F4:aT prog 239:=⟨call239⟩
theorem F6:aT prog 240:=⟨call240⟩
theorem F7:aT prog 241:=⟨call241⟩
theorem F8:aT prog 242:=⟨call242⟩
theorem F9:aT prog 243:=⟨call243⟩
theorem Gb:aT prog 251:=⟨call251⟩
theorem Gc:aT prog 252:=⟨call252⟩
theorem Gd:aT prog 256:=⟨call256⟩
theorem Ge:aT prog 257:=⟨call257⟩
theorem Gf:aT prog 258:=⟨call258⟩
theorem Gg:aT prog 259:=⟨call259⟩
theorem Gi:aT prog 260:=⟨call260⟩
theorem Gj:aT prog 261:=⟨call261⟩
theorem Gk:aT prog 262:=⟨call262⟩
theorem Gl:aT prog 263:=⟨call263⟩
theorem Gn:aT prog 270:=⟨call270⟩
theorem Gp:aT prog 272:=⟨call272⟩
theorem Gs:aT prog 297:=⟨call297⟩
theorem Gt:aT prog 298:=⟨call298⟩
theorem Gu:aT prog 299:=⟨call299⟩
theorem Gw:aT prog 300:=⟨call300⟩
attribute [instance] rI tW Kf D3 LA yg Dw Kj D6 LG rJ tX Kv D9 LM KQ Dg J6 KR Di J8 Dk Ka Lv Ip Iq JE KV Dl Dn Kd Iz IA KY KZ K1 Dq K4 Du xQ yd II IJ yh xR Kk K7 Dx Kl K8 Dy Km Dz Kn IK IL IM IN IP IQ JM DA Ko D7 LH IR IS IT IU DB Kp LI IV IW IY IZ I0 I1 I2 I3 I4 I5 xS ye D8 LJ I6 JN K9 DC Kq La DD Kr I7 I8 I9 JO Lb DE Ks Lc DF Kt DG Ku LK Ja Jb JP Ld DH Kw Le DJ Kx DK Ky Ec LN Jc Jd Je Jf Jg Jh Ji JQ KA CV JR He Hf Hg Jn xJ xZ DL Lf Hh Hi Hj Jo xK x1 DM Lg Hk Hl Hm Jp CW JS Lh Hn Hp KB CY KC CZ JT Hq Hr Hs Ht Hu Jq xL x9 DN Li Hv Jr KD C0 KE C1 Hw Hx Hy Hz HA HB Js C2 JU HC HD HE Jt KF C3 JV DP Lj KG C4 JW HF HG HH Ju HJ HK Jv C5 JX DQ Lk HL HM Jw KH C6 JY C7 JZ DR Ll HN HO Jx KI xM J0 C8 J1 DT Lm HP HQ HR Jy C9 J2 DU Ln HS HT HU KJ KK KL Da J3 DW Lo KM Db KN Dc HW HX HY HZ H3 H4 H5 Jz KO De J4 DX Lp H6 H7 H8 H9 Ia KP Df J5 Ib Ic Ie Ig Ih Ii JA Dh J7 DY Lq Ij Ik Il JB Dj J9 Lr KS xN ya Ls JC KT Lt KU xO yb DZ Lu Im Io JD Kb D0 Lw Ir Is JF Dm Kc D1 Lx Iu Iv Iw JG xP yc Ly JH KW Dp Ke D2 Lz Ix Iy JI KX K0 K2 Dr IB IC JJ K3 Ds Kg D4 LC ID IE JK Dt Kh D5 LD IF IG IH JL K5 K6 Dv Ki LF tZ jY nX ud xY Jm tY Jj xT Jk xU xV xW Jl xX EP EY E3 Fb Fo FB FG FI FJ FU F5 Ga Gh Gm Gq Gr Gv Gx Gy Gz GA GB GC GD GF GG GH GI GJ GK GL GM GN GO GP GQ GR GS GU GV GW GX GY GZ G0 G1 G2 G3 G4 G5 G6 G7 G8 G9 Ha Hb Hc Hd Ee Ef Eg Eh Ei Ej Ek El Em En Eo Ep Er Et Eu Ev Ex Ey Ez EB EC ED EE EF EG EH EI EJ EK EL EM EN EO EQ ER ES ET EU EV EW EX EZ E0 E1 E2 E6 E7 E8 E9 Fa Fc Fe Ff Fg Fh Fi Fj Fk Fl Fm Fp Fq Ft Fu Fv Fw Fx Fy Fz FA FC FD FE FF FH FK FL FM FN FO FP FQ FR FT FV FW FX FY FZ F0 F1 F2 F3 F4 F6 F7 F8 F9 Gb Gc Gd Ge Gf Gg Gi Gj Gk Gl Gn Gp Gs Gt Gu Gw
theorem mixed:prog.follows .mixedOrders=true:=by kernel_rfl
structure qc(P:Program)(R:aA)(t:TypeId)(v:Value){α:Type}(lt:α→α→Bool)(I:List α→av→Prop):Prop where
 kO:∀L T,I L T→L.length≤1000000000
 len:∀L T,I L T→hY P t v "Len" [] R T fun u T'=>u=.int .i64 L.length∧I L T'
 less:∀L T (i k:Nat) x y,I L T→L[i]? =some x→L[k]? =some y→hY P t v "Less" [.int .i64 i,.int .i64 k] R T fun u T'=>u=.bool (lt x y)∧I L T'
 swap:∀L T (i k:Nat),I L T→i<L.length→k<L.length→hY P t v "Swap" [.int .i64 i,.int .i64 k] R T fun _ T'=>I (dM L i k) T'
section
variable{R:aA}{t:TypeId}{v:Value}{α:Type}{lt:α->α->Bool}{I:List α->av->Prop}
theorem Q8(A:qc prog R t v lt I)(V:SO lt)(L:List α)(T:av)(h:I L T)(j:Nat)(W:j<L.length):
  Spec prog 193 [.iface t v,.int .i64 j] R [T] λu H'=>∃T',H'=[T']/\u=.tuple #[]/\∃L',I L' T'/\L'.Perm L/\(∀k,j<k->L'[k]? =L[k]?)/\∀n,n<=L.length->j<n->Up lt L n j->fE lt L' n:=by
 have z:=A.kO L T h
 refine Spec.body func193 rfl results193 ntmps193 rfl<|.block<|.loop (X:=Nat×List α×av) (λy=>I y.2.1 y.2.2/\y.1<=j/\y.2.1.Perm L/\(∀k,j<k->y.2.1[k]? =L[k]?)/\∀n,n<=L.length->j<n->Up lt L n j->Up lt y.2.1 n y.1) (λy=>[(0,.iface t v),(1,iN y.1)]) (λy=>[y.2.2]) (λy=>y.1) (j,L,T) ⟨h,aci _,.refl _,λ_ _=>rfl,λ_ _ _ h=>h⟩ kE.c.c rH ?_
 rintro⟨i,f,H⟩ ⟨w,O,l,p,r⟩
 simp only at w O l p r⊢
 have Y:=l.length_eq
 obtain⟨x,B⟩:∃x,f[i]? =some x:=⟨_,bk (by omega)⟩
 obtain⟨y,C⟩:∃y,f[cx i]? =some y:=⟨_,bk (by unfold cx;omega)⟩
 refine .block<|.sr<|.mo rfl<|.q (.i64 ((i:Int)-1) .sub ⟨rfl,by omega,by omega⟩)<|.q (.i64 ((cx i:Nat):Int) .quo ⟨Bd,by omega,by unfold cx;omega⟩)<|.ag rfl<|.zs<|.sr<|.mo rfl<|.mo rfl<|.q .cr<|.mo rfl<|.split (t:=11) rfl (λd=>?_) (λd=>?_)
 refine .gF d<|.gF d<|.gF d<|.gF d<|.gF d<|.q (.aU d)<|.zn<|.gL<|.exit (bD (lX (bG (bE ?_))))
 refine gC _ .none rH ?_
 ·have F:cx i=i:=by simp at d;omega
  refine⟨_,rfl,rfl,f,w,l,p,λn o m g=>?_⟩
  have M:i=0:=by
   rcases Nat.eq_zero_or_pos i with e|e
   ·exact e
   ·have:=fO e;omega
  subst M
  exact(r n o m g).A4
 refine .gT d<|.mo rfl<|.gT d<|.mo rfl<|.gT d<|.mo rfl<|.gT d<|.lY (A.less f H i (cx i) x y w B C) (λu J g=>?_)
 obtain⟨rfl,D⟩:=g
 refine .gT d<|.q .not<|.q (.aN d)<|.zn<|.cond rfl (λs=>?_) λs=>?_
 refine .exit (bD (lX (bG (bE ?_))))
 refine gC _ .none rH ?_
 ·refine⟨_,rfl,rfl,f,D,l,p,λn o m g=>(r n o m g).stop λa b E z=>?_⟩
  rw[C]at E;rw[B]at z
  cases E;cases z
  simpa using s
 refine .kn<|.sr<|.mo rfl<|.mo rfl<|.mo rfl ?_
 refine .lY (A.swap f J (cx i) i D (by unfold cx;omega) (by omega)) (λu K N=>?_)
 refine .zn<|.region<|.mo rfl<|.ag rfl<|.nil<|ba ?_
 ·have S:lt x y=true:=by simpa using s
  have F:cx i≠i:=by simp at d;omega
  have G:0<i:=by
   rcases Nat.eq_zero_or_pos i with e|e
   ·subst e;exact absurd rfl F
   ·exact e
  have U:=fO G
  exact bp (cx i,dM f (cx i) i,K) ⟨N,by omega,sX.trans l,λk Q=>by
   rw[gE (by omega) (by omega),acd (by omega),acd (by omega)];exact p k Q,λn o m g=>(r n o m g).step V G (by omega) (by omega) B C S⟩ U kE.c.c rH
theorem CJ(K:qc prog R t v lt I)(F:SO lt)(L:List α)(T:av)(h:I L T)(f n:Nat)(a7:f<=n)(hn:n<=L.length):
  Spec prog 190 [.iface t v,.int .i64 f,.int .i64 n] R [T] λu H'=>∃T',H'=[T']/\∃L' m,I L' T'/\u=.bool m/\L'.Perm L/\(∀k,n<=k->L'[k]? =L[k]?)/\(lT lt L n f->(m=true->fE lt L' n)/\(m=false->Up lt L' n f)):=by
 have J:=K.kO L T h
 refine Spec.body func190 rfl results190 ntmps190 rfl<|.sr<|.ag rfl<|.z<|.mo rfl<|.ag rfl<|.zs<|.block<|.loop (X:=Nat×List α×av) (λy=>I y.2.1 y.2.2/\f<=y.1/\y.1<=n/\y.2.1.Perm L/\(∀k,n<=k->y.2.1[k]? =L[k]?)/\(lT lt L n f->lT lt y.2.1 n y.1/\(y.1≠f->ga lt y.2.1 (cx y.1) y.1))) (λy=>[(0,.iface t v),(1,iN f),(2,iN n),(7,iN y.1)]) (λy=>[y.2.2]) (λy=>n-y.1) (f,L,T) ⟨h,aci _,a7,.refl _,λ_ _=>rfl,λh=>⟨h,λe=>absurd rfl e⟩⟩ kE.c.c.c.c rH ?_
 rintro⟨i,g,T1⟩ ⟨Q,a8,a9,C,G,w⟩
 simp only at Q a8 a9 C G w⊢
 have hl:=C.length_eq
 refine .block<|.sr<|.mo rfl<|.ia (2*i) .mul<|.ia (2*i+1) .add<|.ag rfl<|.zs<|.sr<|.mo rfl<|.mo rfl<|.q .geq<|.mo rfl<|.split (t:=18) rfl (λs=>?_) (λs=>?_)
 refine .gF s<|.gF s<|.q (.aU s)<|.zn<|.gL ?_
 have a6:n<=2*i+1:=by
  (simp at s;omega)
 refine .exit (bD (lX (bG (bE ?_))))
 refine au<|.sr<|.mo rfl<|.mo rfl<|.q .gtr<|.az rfl<|.ret (br _ (.one (.tmp rfl)) rH ?_)
 ·refine⟨_,rfl,g,decide (f<i),by assumption,by simp,C,G,λd=>?_⟩
  have A:Up lt g n i:=(w d).1.stop λc B D r a b H J=>by
   (simp only[cx]at r;omega)
  refine⟨λo=>?_,λo=>?_⟩
  ·have p:i≠f:=by simp at o;omega
   exact A.stop ((w d).2 p)
  ·have p:i=f:=by simp at o;omega
   rw[<-p];exact A
 refine .gT s<|.mo rfl<|.gT s<|.q .lss<|.q (.aN s)<|.zn<|.cond rfl (λh1=>?_) λh1=>?_
 have a6:n<=2*i+1:=by
  (simp at h1;omega)
 refine .exit (bD (lX (bG (bE ?_))))
 refine au<|.sr<|.mo rfl<|.mo rfl<|.q .gtr<|.az rfl<|.ret (br _ (.one (.tmp rfl)) rH ?_)
 ·refine⟨_,rfl,g,decide (f<i),by assumption,by simp,C,G,λd=>?_⟩
  have A:Up lt g n i:=(w d).1.stop λc B D r a b H J=>by
   (simp only[cx]at r;omega)
  refine⟨λo=>?_,λo=>?_⟩
  ·have p:i≠f:=by simp at o;omega
   exact A.stop ((w d).2 p)
  ·have p:i=f:=by simp at o;omega
   rw[<-p];exact A
 have a3:2*i+1<n:=by simp at s;omega
 obtain⟨y0,Y⟩:∃y,g[i]? =some y:=⟨_,bk (by omega)⟩
 obtain⟨Z,E⟩:∃y,g[2*i+1]? =some y:=⟨_,bk (by omega)⟩
 refine .kn<|.sr<|.mo rfl<|.ag rfl<|.zs ?_
 refine bu.cut (X:=Nat×av×α) (λz=>I g z.2.1/\0<z.1/\z.1<n/\cx z.1=i/\g[z.1]? =some z.2.2/\∀c u,0<c->c<n->cx c=i->g[c]? =some u->lt u z.2.2=false) (λz=>[(0,.iface t v),(1,iN f),(2,iN n),(7,iN i),(9,iN z.1)]) (λz=>[z.2.1]) ?_ ?_
 refine .sr<|.mo rfl<|.ia (2*i+2) .add<|.ag rfl<|.z<|.mo rfl<|.mo rfl<|.q .lss<|.mo rfl<|.split (t:=28) rfl (λl=>?_) (λl=>?_)
 have b1:2*i+2<n:=by simp at l;omega
 obtain⟨x2,M⟩:∃y,g[2*i+2]? =some y:=⟨_,bk (by omega)⟩
 refine .gT l<|.mo rfl<|.gT l<|.mo rfl<|.gT l<|.mo rfl<|.gT l<|.lY (K.less g T1 (2*i+2) (2*i+1) x2 Z Q M E) (λu T2 d=>?_)
 obtain⟨rfl,a0⟩:=d
 refine .q (.aU l)<|.zn<|.cond rfl (λN=>?_) λN=>?_
 refine .region<|.mo rfl<|.ag rfl<|.nil ?_
 ·exact aD (2*i+2,T2,x2) ⟨a0,by simp only;omega,b1,by simp only[cx];omega,M,λc u B D r d=>by
   have:c=2*i+1\/c=2*i+2:=by simp only[cx]at r;omega
   rcases this with rfl|rfl
   ·rw[E]at d;cases d;exact F.nS (by simpa using N)
   ·rw[M]at d;cases d;exact F.jZ _⟩ kE.c.c.c.c.c rH
 refine .skip ?_
 ·exact aD (2*i+1,T2,Z) ⟨a0,by simp only;omega,a3,by simp only[cx];omega,E,λc u B D r d=>by
   have:c=2*i+1\/c=2*i+2:=by simp only[cx]at r;omega
   rcases this with rfl|rfl
   ·rw[E]at d;cases d;exact F.jZ _
   ·rw[M]at d;cases d;simpa using N⟩ kE.c.c.c.c.c rH
 refine .gF l<|.gF l<|.gF l<|.gF l<|.q (.aN l)<|.zn<|.dA<|.skip ?_
 ·exact aD (2*i+1,T1,Z) ⟨Q,by simp only;omega,a3,by simp only[cx];omega,E,λc u B D r d=>by
   have:c=2*i+1:=by simp only[cx]at r;simp at l;omega
   subst this
   rw[E]at d;cases d;exact F.jZ _⟩ kE.c.c.c.c.c rH
 intro y hy
 obtain⟨j,T3,x⟩:=y
 obtain⟨a1,S,a2,U,W,V⟩:=hy
 simp only at a1 S a2 U W V⊢
 have b2:i<j:=U▸fO S
 refine au<|.seq<|.sr<|.mo rfl<|.mo rfl<|.mo rfl<|.lY (K.less g T3 j i x y0 a1 W Y) (λu T4 d=>?_)
 obtain⟨rfl,a4⟩:=d
 refine .q .not<|.zn<|.cond rfl (λO=>?_) λO=>?_
 refine .exit (bD (lX (bG (bE ?_))))
 refine au<|.sr<|.mo rfl<|.mo rfl<|.q .gtr<|.az rfl<|.ret (br _ (.one (.tmp rfl)) rH ?_)
 ·refine⟨_,rfl,g,decide (f<i),by assumption,by simp,C,G,λd=>?_⟩
  have A:Up lt g n i:=(w d).1.stop λc B D r a b H J=>by
   (rw[Y]at H;cases H;exact F.la _ _ _ (V c b B D r J) (by simpa using O))
  refine⟨λo=>?_,λo=>?_⟩
  ·have p:i≠f:=by simp at o;omega
   exact A.stop ((w d).2 p)
  ·have p:i=f:=by simp at o;omega
   rw[<-p];exact A
 refine .kn<|.sr<|.mo rfl<|.mo rfl<|.mo rfl ?_
 refine .lY (K.swap g T4 i j a4 (by omega) (by omega)) (λu T5 a5=>?_)
 refine .zn<|.region<|.mo rfl<|.ag rfl<|.nil<|ba ?_
 ·have b0:lt x y0=true:=by simpa using O
  exact bp (j,dM g i j,T5) ⟨a5,by simp only;omega,by simp only;omega,sX.trans C,λk hk=>by
   rw[gE (by omega) (by omega),acd (by omega),acd (by omega)];exact G k hk,λd=>by
    have:=(w d).1.step F S a2 (by omega) U W Y b0 V
    exact⟨this.1,λ_=>this.2⟩⟩ (by simp only;omega) kE.c.c.c.c rH
theorem OA(hi:qc Tryz.prog R t v lt I)(so:SO lt)(L:List α)(T:av)(x:Value)(a:α)(hp:hY Tryz.prog t v "Push" [x] R T fun _ T'=>I (L++[a]) T')(hh:fE lt L L.length):
  Spec prog 153 [.iface t v,x] R [T] fun u H'=>∃T',H'=[T']∧u=.tuple #[]∧∃L',I L' T'∧L'.Perm (L++[a])∧fE lt L' L'.length:=by
 refine Spec.body func153 rfl results153 ntmps153 rfl<|.sr<|.mo rfl<|.mo rfl<|.lY hp (fun u T1 h1=>?_)
 have hb:=hi.kO _ T1 h1
 simp only[List.length_append,List.length_singleton]at hb
 refine .zn<|.region<|.mo rfl<|.mo rfl<|.lY (hi.len _ T1 h1) (fun u T2 hu=>?_)
 obtain⟨rfl,h2⟩:=hu
 refine .q (.i64 ((L.length:Nat):Int) .sub ⟨by simp,by omega,by omega⟩)<|.dT (Q8 hi so _ T2 h2 L.length (by simp)) (fun u T3 hu=>?_)
 obtain⟨rfl,L3,h3,hp3,hs3,hh3⟩:=hu
 have hl3:=hp3.length_eq
 refine .nil<|gC _ .none (bz.refl _) ?_
 ·exact⟨_,rfl,rfl,L3,h3,hp3,by rw[hl3];exact hh3 _ (aci _) (by simp) (by simp;exact hh.push a)⟩
theorem MZ{L a:List α}{n:Nat}{x:α}(c:L.length=n+1)(e:L[n]? =some x)(d:L.Perm a):L=L.take n++[x]/\(L.take n).length=n/\a.Perm (x::L.take n):=by
 have b:L=L.take n++[x]:=by
  apply List.ext_getElem?
  intro k
  rcases Nat.lt_trichotomy k n with h|h|h
  ·rw[List.getElem?_append_left (by simp;omega),List.getElem?_take_of_lt h]
  ·subst h
   rw[List.getElem?_append_right (by simp;omega),e]
   simp[c]
  ·rw[List.getElem?_eq_none (by omega),List.getElem?_eq_none (by simp;omega)]
 refine⟨b,by simp;omega,d.symm.trans ?_⟩
 have:(L.take n++[x]).Perm (x::L.take n):=by simp
 rw[<-b]at this
 exact this
theorem fE.QQ{L:List α}{n:Nat}(h:fE lt L n)(b:n<=L.length):fE lt (L.take n) (L.take n).length:=by
 have e:(L.take n).length=n:=by simp;omega
 rw[e]
 exact h.gP λk a=>List.getElem?_take_of_lt a
theorem Ox(hi:qc prog R t v lt I)(so:SO lt)(L:List α)(T:av)(h:I L T)(x:α)(hx:L[0]? =some x)(hh:fE lt L L.length)(px:α→Value)(J:List α→av→Prop)
  (hp:∀L' T',I (L'++[x]) T'→L'.length+1=L.length→hY Tryz.prog t v "Pop" [] R T' fun u T''=>u=px x∧J L' T''):
  Spec prog 149 [.iface t v] R [T] fun u H'=>∃T',H'=[T']∧u=px x∧∃L',J L' T'∧L.Perm (x::L')∧fE lt L' L'.length:=by
 have hb:=hi.kO L T h
 have hpos:0<L.length:=(acf.1 hx).1
 obtain⟨n,hn⟩:∃n,L.length=n+1:=⟨L.length-1,by omega⟩
 refine Spec.body func149 rfl results149 ntmps149 rfl<|.sr<|.ag rfl<|.z<|.mo rfl<|.lY (hi.len L T h) (fun u T1 hu=>?_)
 obtain⟨rfl,h1⟩:=hu
 refine .q (.i64 ((n:Nat):Int) .sub ⟨by omega,by omega,by omega⟩)<|.ag rfl<|.z<|.mo rfl<|.mo rfl ?_
 refine .lY (hi.swap L T1 0 n h1 (by omega) (by omega)) (fun u T2 h2=>?_)
 refine .z<|.mo rfl<|.mo rfl<|.dT (CJ hi so _ T2 h2 0 n (by omega) (by rw[oE];omega)) (fun u T3 hu=>?_)
 obtain⟨L3,m,h3,rfl,hp3,hs3,hh3⟩:=hu
 have hx3:L3[n]? =some x:=by rw[hs3 n (aci _),gE (by omega) (by omega),ace rfl,hx]
 have hl3:=hp3.length_eq
 rw[oE]at hl3
 obtain⟨e1,e2,e3⟩:=MZ (by omega) hx3 (hp3.trans sX)
 have hhole:lT lt (dM L 0 n) n 0:=(hh.mono (by omega)).hole so (by omega) fun k hk hk0=>by rw[gE (by omega) (by omega),acd (by omega),acd hk0]
 have hH:fE lt L3 n:=by
  cases m with
  |true=>exact(hh3 hhole).1 rfl
  |false=>exact((hh3 hhole).2 rfl).A4
 refine .z<|.mo rfl ?_
 rw[e1]at h3
 refine .lY (hp _ T3 h3 (by omega)) (fun u T4 hu=>?_)
 obtain⟨rfl,h4⟩:=hu
 refine .ag rfl<|.zn<|.ret (br _ (.one (.tmp rfl)) (bz.refl _) ?_)
 ·exact⟨_,rfl,rfl,_,h4,e3,hH.QQ (by omega)⟩
end
set_option maxRecDepth 4000
namespace Mem
structure bJ where
 rev:Int
 config : Int
 space:ByteArray
 id:ByteArray
 rel:ByteArray
 user:ByteArray
 deriving DecidableEq
def bJ.enc (q : bJ) : List Value := [.int .u64 q.rev, .int .i64 q.config, .string q.space, .string q.id, .string q.rel, .string q.user]
theorem bJ.kinds(q:bJ):eM [.i .u64,.i .i64,.s,.s,.s,.s] q.enc:=⟨rfl,rfl,trivial,trivial,trivial,trivial,trivial⟩
theorem bJ.eq(q r:bJ):eI q.enc r.enc=decide (q=r):=by
 cases q;cases r
 simp only[bJ.enc,eI,mB,bJ.mk.injEq]
 rw[Bool.eq_iff_iff];simp
instance bJ.one(q:bJ):cM q.enc:=⟨by simp[bJ.enc,ay]⟩
instance bJ.rU:eF prog 140 (λq:bJ=>.agg q.enc.toArray):=eF.agg xU underlying140 rfl bJ.kinds bJ.eq
structure PM where
 size:Nat
 kept:List (bJ×Bool)
 dK:List bJ
 dh:Int
def mG(b:Bool):List Value:=[.bool b]
def PM.is(b:Nat)(m:PM)(T:av):Prop:=∃vm va Tm Ta,T=(b,.cells [.bool true,.int .i64 m.size,vm,va,.int .i64 m.dh].toArray 138 (0,0))::(Tm++Ta)/\
 MS (λq:bJ=>.agg q.enc.toArray) Value.bool vm m.kept Tm/\OS 140 6 bJ.enc va m.dK Ta
theorem qJ(b:Nat)(mk:Bool)(r:List Value)(R:aA)(H:aM) [rc:RC R H (pT b) (.bool mk::r)]:
  Spec prog 69 [pT b] R H λv H'=>v=.bool mk/\H'=[]:=by
 refine Spec.body func69 rfl results69 ntmps69 rfl ?_
 refine .sr<|.ag rfl<|.z<|.mo rfl<|.q (.uQ rfl rfl) ?_
 refine .mo rfl<|.gt rfl ?_
 refine .mo rfl<|.gt rfl ?_
 refine .nc rfl<|.gt rfl ?_
 refine .fa rfl<|.gt rfl ?_
 refine .lo rfl<|.q .dj<|.az rfl ?_
 refine .ret (aP rfl ?_)
 ·exact⟨rfl,rfl⟩
theorem NM(n:Int)(R:aA)(h:n<0\/65536<n):Spec prog 15 [.int .i64 n] R [] λv H'=>v=.tuple [.pointer none,.int .i64 2].toArray/\H'=[]:=by
 refine Spec.body func15 rfl results15 ntmps15 rfl ?_
 refine .sr<|.ag rfl<|.ag rfl<|.zs<|.sr<|.mo rfl<|.q .lss<|.mo rfl ?_
 refine .split (t:=6) rfl (λa=>?_) (λa=>?_)
 refine .gF a<|.gF a<|.q (.aU a) ?_
 refine .zn<|.gL<|.sr<|.ag rfl<|.az rfl ?_
 refine .ret (aJ (br _ (.two (.tmp rfl) (.tmp rfl)) (.none _) ?_))
 ·exact⟨rfl,rfl⟩
 refine .gT a<|.mo rfl<|.gT a<|.q .gtr<|.q (.aN a) ?_
 refine .zn ?_
 refine .cond rfl (λb=>?_) λb=>?_
 refine .sr<|.ag rfl<|.az rfl ?_
 refine .ret (aJ (br _ (.two (.tmp rfl) (.tmp rfl)) (.none _) ?_))
 ·exact⟨rfl,rfl⟩
 ·simp at a b;omega
theorem zD(n:Nat)(R:aA)(h:n<=65536):Spec prog 15 [.int .i64 n] R [] λv H'=>∃b T,v=.tuple [pT b,.int .i64 0].toArray/\H'=[T]/\PM.is b ⟨n,[],[],0⟩ T:=by
 refine Spec.body func15 rfl results15 ntmps15 rfl ?_
 refine .sr<|.ag rfl<|.ag rfl<|.zs<|.sr<|.mo rfl<|.q .lss<|.mo rfl ?_
 refine .split (t:=6) rfl (λa=>?_) (λa=>?_)
 ·simp at a;omega
 refine .gT a<|.mo rfl<|.gT a<|.q .gtr<|.q (.aN a) ?_
 refine .zn ?_
 refine .cond rfl (λc=>?_) λc=>?_
 ·simp at c;omega
 refine .kn<|.sr<|.mo rfl ?_
 refine .makeMap (λd=>?_)
 refine .q .dw ?_
 refine .cg rfl (λe=>?_)
 refine .ag rfl<|.az rfl ?_
 refine .ret (br _ (.two (.tmp rfl) (.tmp rfl)) (.one [0,0] _) ?_)
 ·exact⟨_,_,rfl,rfl,_,_,[(d,.map #[] 0)],[],rfl,MS.nil,OS.nil⟩
end Mem
namespace Mem
theorem kT(b:Nat)(m:PM)(T:av)(d:PM.is b m T)(R:aA)(c:∀p∈T,R p.1 p.2):
  Spec prog 31 [pT b] R [] λv H'=>v=.int .i64 m.kept.length/\H'=[]:=by
 obtain⟨h,o,j,i,rfl,a,k⟩:=d
 have n:=PC.of (b:=b) (c (b,_) (List.mem_cons_self ..))
 have g:∀H',RM (Rx R H') (λq:bJ=>.agg q.enc.toArray) Value.bool h m.kept:=λH'=>a.rm λp e=>.inl (c p (by simp[e]))
 have l:=a.one
 refine Spec.body func31 rfl results31 ntmps31 rfl ?_
 refine .sr<|.ag rfl<|.zs<|.sr<|.mo rfl ?_
 refine .aQ (qJ b true _ _ _) (λv f=>?_)
 subst f
 refine .q .not<|.zn<|.dA<|.kn<|.sr<|.mo rfl<|.nc rfl<|.fa rfl<|.lo rfl<|.q (.uB (g _) rfl) ?_
 refine .az rfl ?_
 refine .ret (aP rfl ?_)
 ·exact⟨rfl,rfl⟩
theorem yE(b:Nat)(m:PM)(T:av)(d:PM.is b m T)(q:bJ)(R:aA)(c:∀p∈T,R p.1 p.2):
  Spec prog 60 [pT b,.agg q.enc.toArray] R [] λv H'=>v=.tuple [.bool ((cG q m.kept).getD false),.bool (cG q m.kept).isSome].toArray/\H'=[]:=by
 obtain⟨h,r,j,i,rfl,a,l⟩:=d
 have o:=PC.of (b:=b) (c (b,_) (List.mem_cons_self ..))
 have g:∀H',RM (Rx R H') (λq:bJ=>.agg q.enc.toArray) Value.bool h m.kept:=λH'=>a.rm λp e=>.inl (c p (by simp[e]))
 have n:=a.one
 refine Spec.body func60 rfl results60 ntmps60 rfl ?_
 refine .sr ?_
 refine .cg rfl (λk=>?_)
 refine .ag rfl<|.ag rfl<|.zs<|.sr<|.mo rfl ?_
 refine .aQ (qJ b true _ _ _) (λv f=>?_)
 subst f
 refine .q .not<|.zn<|.dA<|.kn<|.seq ?_
 refine .fX mixed (by kernel_rfl) ?_
 refine .mo rfl<|.nc rfl<|.fa rfl<|.lo rfl<|.q (.aL rfl)<|.q (.ny (g _) rfl (show _=some (Value.agg q.enc.toArray)from rfl)) ?_
 refine .mo rfl<|.q .extract<|.q .extract<|.ag rfl<|.ag rfl<|.z<|.mo rfl<|.mo rfl<|.ag rfl<|.az rfl ?_
 refine .ret (br _ (.two (.tmp rfl) (.tmp rfl)) (.none _) ?_)
 ·exact⟨by cases cG q m.kept<;>rfl,rfl⟩
end Mem
namespace Mem
def PM.gw(m:PM)(q:bJ):List bJ:=if(cG q m.kept).isSome then m.dK else m.dK++[q]
def PM.put(m:PM)(q:bJ)(x:Bool):PM:=
 if m.size<(m.gw q).length then match m.gw q with
  |k::r=>⟨m.size,gO k (dy q x m.kept),r,m.dh⟩
  |[]=>⟨m.size,dy q x m.kept,[],m.dh⟩
 else⟨m.size,dy q x m.kept,m.gw q,m.dh⟩
theorem qO(b:Nat)(m:PM)(T:av)(F:PM.is b m T)(q:bJ)(x:Bool)(R:aA)(J:m.dK.length<=1000000):
  Spec prog 59 [pT b,.agg q.enc.toArray,.bool x] R [T] λv H'=>∃T',H'=[T']/\v=.tuple #[]/\PM.is b (m.put q x) T':=by
 obtain⟨w,n,p,i,rfl,j,f⟩:=F
 have K:=j.one
 have L:=f.ay
 refine Spec.gj (H':=[bl b [.bool true,.int .i64 m.size,w,n,.int .i64 m.dh] 138,p,i]) (by simp) ?_
 refine Spec.body func59 rfl results59 ntmps59 rfl ?_
 refine .sr ?_
 refine .cg rfl (λs=>?_)
 refine .zs<|.sr<|.mo rfl ?_
 refine .aQ (qJ b true _ _ _) (λv G=>?_)
 subst G
 refine .q .not<|.zn<|.dA<|.kn<|.seq<|.seq ?_
 refine .fX mixed (by kernel_rfl) ?_
 refine .mo rfl<|.nc rfl<|.fa rfl<|.lo rfl<|.q (.aL rfl)<|.q (.ny j.rx rfl (show _=some (Value.agg q.enc.toArray)from rfl)) ?_
 refine .mo rfl<|.q .extract<|.q .extract<|.ag rfl<|.ag rfl<|.z<|.mo rfl<|.q .not<|.zn ?_
 refine bu.cut (X:=Value×av) (λy=>OS 140 6 bJ.enc y.1 (m.gw q) y.2) (λ_=>[(0,pT b),(2,.bool x),(4,pT s)]) (λy=>[bl s q.enc 140,bl b [.bool true,.int .i64 m.size,w,y.1,.int .i64 m.dh] 138,p,y.2]) ?_ ?_
 refine .cond rfl (λa=>?_) λa=>?_
 refine .dz [7,10] mixed ?_
 refine .tK 0 rfl .move<|.tO 1 rfl .move<|.tO 2 rfl (.nilCheck rfl)<|.tO 3 rfl (.fieldAddr rfl)<|.tO 4 rfl (.cI rfl)<|.tO 5 rfl (.aL rfl) ?_
 refine .sT 6 rfl ?_
 refine .fq (λI=>?_)
 refine .nil (Next.sub ?_)
 refine .sT 7 rfl ?_
 refine .append f (RS.uH (x:=q) rfl rfl (bJ.one q).h) (by simp;omega) (λu T' d=>?_)
 have H:=d.ay
 refine .nil (Next.mod rfl ?_)
 refine .tK 8 rfl (.ml rfl) ?_
 refine .tK 9 rfl (.kr rfl) ?_
 refine .sT 10 rfl ?_
 refine .ek rfl rfl ?_
 refine .nil (Next.mod rfl ?_)
 refine RA.nil (by kernel_rfl) ?_
 ·first
   |exact aD (u,T') (by simp at a;simp only[PM.gw,a];exact d) kE.c.c.c (aK [1,1,1,1])
   |exact aD (n,i) (by simp at a;simp only[PM.gw,a,if_true];exact f) kE.c.c.c rH
 refine .skip ?_
 ·first
   |exact aD (u,T') (by simp at a;simp only[PM.gw,a];exact d) kE.c.c.c (aK [1,1,1,1])
   |exact aD (n,i) (by simp at a;simp only[PM.gw,a,if_true];exact f) kE.c.c.c rH
 intro x e
 obtain⟨Q,o⟩:=x
 have H:=e.ay
 refine au<|.seq ?_
 refine .dY 6 mixed (by kernel_rfl) ?_
 conv=>arg 6;dsimp only[List.take]
 refine .mo rfl<|.nc rfl<|.fa rfl<|.lo rfl<|.q (.aL rfl)<|.mo rfl<|.nil ?_
 refine .update j rfl (show _=some (Value.agg q.enc.toArray)from rfl) rfl (λA t _=>?_)
 refine .zs ?_
 refine .fX mixed (by kernel_rfl) ?_
 refine .mo rfl<|.nc rfl<|.fa rfl<|.lo rfl<|.q (.eR e) ?_
 refine .mo rfl<|.nc rfl<|.fa rfl<|.lo rfl<|.q .gtr<|.zn ?_
 refine .cond rfl (λd=>?_) λd=>?_
 obtain⟨k,r,l⟩:∃k r,m.gw q=k::r:=by
  cases hh:m.gw q with
  |nil=>rw[hh]at d;simp at d;omega
  |cons k r=>exact⟨k,r,rfl⟩
 have E:m.size<(m.gw q).length:=by simpa using d
 refine .seq ?_
 refine .dY 10 mixed (by kernel_rfl) ?_
 conv=>arg 6;dsimp only[List.take]
 refine .mo rfl<|.nc rfl<|.fa rfl<|.lo rfl<|.mo rfl ?_
 refine .nc rfl<|.fa rfl<|.lo rfl ?_
 refine .bh 0 e (z:=k) (by rw[l];rfl) (λN=>?_)
 refine .q (.aL rfl)<|.nil ?_
 refine .delete t rfl (show _=some (Value.agg k.enc.toArray)from rfl) (λB C _=>?_)
 refine .zn<|.region<|.mo rfl<|.mo rfl<|.nc rfl<|.fa rfl<|.lo rfl ?_
 refine .nG 1 (m.gw q).length e ⟨_,rfl⟩ rfl (by omega) (by omega) (λO g=>?_)
 have M:=g.ay
 refine .nc rfl<|.fa rfl<|.ek rfl rfl<|.nil<|gC _ .none (.one [1,1,1] _) ?_
 ·refine⟨_,rfl,rfl,?_⟩
  rw[l]at g
  simp only[List.length_cons,List.drop_succ_cons,List.drop_zero,Nat.add_sub_cancel,acj]at g
  unfold PM.put
  rw[ace E,l]
  exact⟨_,_,B,o,nY _ _ _,C,g⟩
 have D:¬m.size<(m.gw q).length:=by simpa using d
 refine .skip<|gC _ .none (.one [1,1,1] _) ?_
 ·refine⟨_,rfl,rfl,?_⟩
  unfold PM.put
  rw[acd D]
  exact⟨_,_,A,o,nY _ _ _,t,e⟩
end Mem
namespace Mem
instance bJ.MW:eF prog 67 (λq:bJ=>.agg q.enc.toArray):=eF.agg xY underlying67 rfl bJ.kinds bJ.eq
structure cb where
 size:Nat
 qs:List bJ
 bs:List Bool
def cb.is(b:Nat)(m:cb)(T:av):Prop:=∃vq vb Tq Tb,T=(b,.cells [.int .i64 m.size,vq,vb].toArray 72 (0,0))::(Tq++Tb)/\
 OS 67 6 bJ.enc vq m.qs Tq/\OS 4 1 mG vb m.bs Tb
def cb.rd(R:aA)(b:Nat)(m:cb)(vq vb:Value):Prop:=R b (.cells [.int .i64 m.size,vq,vb].toArray 72 (0,0))/\RS R 6 bJ.enc vq m.qs/\RS R 1 mG vb m.bs
theorem Pc(n:Nat)(R:aA)(h:n<=65536):Spec prog 17 [.int .i64 n] R [] λv H'=>∃T,H'=[T]/\∃b,v=.tuple [pT b,.int .i64 0].toArray/\cb.is b ⟨n,[],[]⟩ T:=by
 refine Spec.body func17 rfl results17 ntmps17 rfl ?_
 refine .sr<|.ag rfl<|.ag rfl<|.zs<|.sr<|.mo rfl<|.q .lss<|.mo rfl ?_
 refine .split (t:=6) rfl (λa=>?_) (λa=>?_)
 ·simp at a;omega
 refine .gT a<|.mo rfl<|.gT a<|.q .gtr<|.q (.aN a) ?_
 refine .zn ?_
 refine .cond rfl (λc=>?_) λc=>?_
 ·simp at c;omega
 refine .kn<|.sr<|.mo rfl ?_
 refine .q .dw ?_
 refine .cg rfl (λd=>?_)
 refine .ag rfl<|.az rfl ?_
 refine .ret (br _ (.two (.tmp rfl) (.tmp rfl)) (.one [0] _) ?_)
 ·exact⟨_,rfl,_,rfl,_,_,[],[],rfl,OS.nil,OS.nil⟩
theorem find_spec(b:Nat)(m:cb)(t s:Value)(q:bJ)(R:aA)(r:cb.rd R b m t s):
  Spec prog 28 [pT b,.agg q.enc.toArray] R [] λv H'=>((∃i,m.qs[i]? =some q/\v=iN i)\/(q∉m.qs/\v=.int .i64 (-1)))/\H'=[]:=by
 obtain⟨a,e,u⟩:=r
 have A:=PC.of a
 have y:=e.ay
 have w:=e.le
 refine Spec.body func28 rfl results28 ntmps28 rfl ?_
 refine .sr ?_
 refine .cg rfl (λg=>?_)
 refine .ag rfl<|.zs<|.sr<|.az rfl<|.block ?_
 refine .loop (X:=Nat) (λi=>i<=m.qs.length/\∀j,j<i->m.qs[j]? ≠some q) (λi=>[(0,pT b),(3,pT g),(5,iN i)]) (λ_=>[bl g q.enc 67]) (λi=>m.qs.length-i) 0 ⟨by omega,by omega⟩ kE.c.c.c rH ?_
 intro i k
 refine .seq<|.sr<|.mo rfl<|.mo rfl<|.nc rfl<|.fa rfl<|.lo rfl<|.q (.bK e) ?_
 refine .q .lss<|.zn ?_
 refine .cond rfl (λa=>?_) λa=>?_
 obtain⟨z,f⟩:∃z,m.qs[i]? =some z:=by
  have:i<m.qs.length:=by simp at a;omega
  exact⟨_,bk this⟩
 have x:i<m.qs.length:=by simp at a;omega
 refine .kn<|.seq<|.block<|.seq ?_
 refine .fX mixed (by kernel_rfl) ?_
 refine .mo rfl<|.nc rfl<|.fa rfl<|.lo rfl<|.mo rfl ?_
 refine .bF i e f (λB=>?_)
 refine .q (.aL rfl)<|.q (.aL rfl)<|.q (.nq rfl rfl z.kinds q.kinds) ?_
 refine .zn ?_
 refine .cond rfl (λd=>?_) λd=>?_
 refine .sr<|.mo rfl<|.az rfl ?_
 refine .ret (bA (aJ (cW (bA (aJ (aP rfl ?_))))))
 ·exact⟨.inl ⟨i,by rw[f];simp[bJ.eq]at d;rw[d],rfl⟩,rfl⟩
 refine .skip<|ba<|au<|.region<|.mo rfl ?_
 refine .q (.inc (n:=i) (by omega)) ?_
 refine .ag rfl<|.nil ?_
 ·exact bp (i+1) ⟨by omega,λj l=>by
   rcases Nat.lt_or_ge j i with h|h
   ·exact k.2 j h
   ·obtain rfl:j=i:=by omega
    rw[f];simp[bJ.eq]at d;simpa using d⟩ (by omega) kE.c.c.c rH
 refine .exit<|bD<|bG<|bE<|au<|.sr<|.az rfl ?_
 refine .ret (aP rfl ?_)
 ·refine⟨.inr ⟨λo=>?_,rfl⟩,rfl⟩
  obtain⟨j,l,p⟩:=acm.1 o
  refine k.2 j ?_ (by rw[bk l,p])
  simp at a;omega
def cb.tq(m:cb)(q:bJ)(x:Bool)(m':cb):Prop:=
 (∃i,m.qs[i]? =some q/\m'=⟨m.size,m.qs,m.bs.set i x⟩)\/(q∉m.qs/\m'=if m.size<(m.qs++[q]).length then⟨m.size,(m.qs++[q]).drop 1,(m.bs++[x]).drop 1⟩else⟨m.size,m.qs++[q],m.bs++[x]⟩)
theorem vC(b:Nat)(m:cb)(T:av)(G:cb.is b m T)(q:bJ)(x:Bool)(R:aA)(O:m.qs.length<=1000000)(M:m.bs.length=m.qs.length):
  Spec prog 29 [pT b,.agg q.enc.toArray,.bool x] R [T] λv H'=>∃T',H'=[T']/\v=.tuple #[]/\∃m',cb.is b m' T'/\m.tq q x m':=by
 obtain⟨B,A,o,C,rfl,e,d⟩:=G
 have Q:=e.ay
 have S:=d.ay
 have L:∀y:Bool,(mG y).length=1:=λ_=>rfl
 refine Spec.gj (H':=[bl b [.int .i64 m.size,B,A] 72,o,C]) (by simp) ?_
 refine Spec.body func29 rfl results29 ntmps29 rfl ?_
 refine .sr ?_
 refine .cg rfl (λK=>?_)
 refine .z<|.mo rfl<|.q (.aL rfl) ?_
 refine .aQ (find_spec b m B A q _ ⟨.inr (by simp),e.rx,d.rx⟩) (λv H=>?_)
 obtain⟨j,rfl,s⟩:∃j:Int,v=.int .i64 j/\((∃i:Nat,m.qs[i]? =some q/\j=i)\/(q∉m.qs/\j= -1)):=by
  rcases H with⟨i,a,c⟩|⟨a,c⟩
  ·exact⟨i,c,.inl ⟨i,a,rfl⟩⟩
  ·exact⟨-1,c,.inr ⟨a,rfl⟩⟩
 refine .ag rfl<|.zs<|.sr<|.mo rfl<|.q .geq<|.zn ?_
 refine .cond rfl (λa=>?_) λa=>?_
 have N:0<=j:=by simpa using a
 obtain⟨i,r,rfl⟩:∃i:Nat,m.qs[i]? =some q/\j=i:=by
  rcases s with h|h
  ·exact h
  ·omega
 obtain⟨y,w⟩:∃y,m.bs[i]? =some y:=by
  obtain⟨t,_⟩:=acf.1 r
  exact⟨_,bk (by omega)⟩
 refine .sr<|.mo rfl<|.nc rfl<|.fa rfl<|.lo rfl<|.mo rfl<|.mo rfl ?_
 refine .bh i d w (λY=>?_)
 refine .gk i d w x (λD E=>?_)
 refine .zn ?_
 refine .ret (aJ (br _ .none (.one [1,1,1] _) ?_))
 ·exact⟨_,rfl,rfl,⟨m.size,m.qs,m.bs.set i x⟩,⟨_,_,o,D,nY _ _ _,e,E⟩,.inl ⟨i,r,rfl⟩⟩
 have u:q∉m.qs:=by
  rcases s with⟨i,h,rfl⟩|h
  ·simp at a
  ·exact h.1
 refine .kn<|.seq ?_
 refine .fX mixed (by kernel_rfl) ?_
 refine .mo rfl<|.nc rfl<|.fa rfl<|.lo rfl<|.mo rfl ?_
 refine .nc rfl<|.fa rfl<|.lo rfl<|.ag rfl<|.ag rfl<|.z<|.mo rfl<|.mo rfl<|.mo rfl<|.q (.aL rfl) ?_
 refine .fq (λI=>?_)
 refine .append e (RS.uH (x:=q) rfl rfl (bJ.one q).h) (by simp;omega) (λa1 p f=>?_)
 have U:=f.ay
 refine .mo rfl<|.mo rfl ?_
 refine .jB (λJ=>?_)
 refine .append d (RS.uH (x:=x) rfl rfl (by simp[ay])) (by simp;omega) (λZ n g=>?_)
 have V:=g.ay
 refine .nc rfl<|.fa rfl<|.ek rfl rfl<|.nc rfl<|.fa rfl<|.ek rfl rfl<|.zs ?_
 refine .fX mixed (by kernel_rfl) ?_
 refine .mo rfl<|.nc rfl<|.fa rfl<|.lo rfl<|.q (.eR f) ?_
 refine .mo rfl<|.nc rfl<|.fa rfl<|.lo rfl<|.q .gtr<|.zn ?_
 refine .cond rfl (λc=>?_) λc=>?_
 have t:m.size<(m.qs++[q]).length:=by simp at c⊢;omega
 refine .dz [14,17] mixed ?_
 refine .tO 0 rfl .move<|.tK 1 rfl .move<|.tO 2 rfl .move<|.tO 3 rfl (.nilCheck rfl)<|.tO 4 rfl (.fieldAddr rfl)<|.tO 5 rfl (.cI rfl) ?_
 refine RA.nG 6 rfl 1 (m.qs++[q]).length f ⟨_,rfl⟩ rfl (by simp) (by simp) rfl (by kernel_rfl) (λa2 l=>?_)
 refine .tO 7 rfl .move<|.tO 8 rfl (.nilCheck rfl)<|.tO 9 rfl (.fieldAddr rfl)<|.tO 10 rfl (.cI rfl) ?_
 refine RA.nG 11 rfl 1 (m.bs++[x]).length g ⟨_,rfl⟩ rfl (by simp) (by simp) rfl (by kernel_rfl) (λa0 k=>?_)
 refine .tO 12 rfl (.nilCheck rfl)<|.tO 13 rfl (.fieldAddr rfl) ?_
 refine .sT 14 rfl ?_
 have W:=l.ay
 refine .ek rfl rfl ?_
 refine .nil (Next.mod rfl ?_)
 refine .tK 15 rfl (.ml rfl) ?_
 refine .tK 16 rfl (.kr rfl) ?_
 refine .sT 17 rfl ?_
 have X:=k.ay
 refine .ek rfl rfl ?_
 refine .nil (Next.mod rfl ?_)
 refine RA.nil (by kernel_rfl) ?_
 refine gC _ .none (.one [3,3,3] _) ?_
 ·rw[List.take_of_length_le (by simp)]at l k
  refine⟨_,rfl,rfl,⟨m.size,(m.qs++[q]).drop 1,(m.bs++[x]).drop 1⟩,⟨_,_,p,n,nY _ _ _,l,k⟩,.inr ⟨u,?_⟩⟩
  rw[ace t]
 have F:¬m.size<(m.qs++[q]).length:=by simp at c⊢;omega
 refine .skip<|gC _ .none (.one [3,3,3] _) ?_
 ·refine⟨_,rfl,rfl,⟨m.size,m.qs++[q],m.bs++[x]⟩,⟨_,_,p,n,nY _ _ _,f,g⟩,.inr ⟨u,?_⟩⟩
  rw[acd F]
end Mem
namespace Mem
def keeps(r:Int)(p:bJ×Bool):Bool:=decide (p.1.rev≥r)
def upto(m:cb)(r:Int)(i:Nat):List (bJ×Bool):=((m.qs.zip m.bs).take i).filter (keeps r)
theorem Re{m:cb}{r:Int}{i:Nat}{q:bJ}{x:Bool}(a:m.qs[i]? =some q)(b:m.bs[i]? =some x):upto m r (i+1)=upto m r i++(if keeps r (q,x)then [(q,x)]else []):=by
 have c:(m.qs.zip m.bs)[i]? =some (q,x):=by simp[List.getElem?_zip_eq_some,a,b]
 unfold upto
 rw[ack,c,acn]
 simp only[Option.toList_some,List.filter_cons,List.filter_nil]
theorem Ra{m:cb}{r:Int}{i:Nat}:(upto m r i).length<=m.qs.length:=by
 unfold upto
 refine Nat.le_trans (List.length_filter_le _ _) ?_
 simp;omega
theorem OT(b:Nat)(m:cb)(T:av)(hm:cb.is b m T)(r:Int)(R:aA)(hl:m.qs.length<=1000000)(he:m.bs.length=m.qs.length):
    Spec prog 24 [pT b,.int .u64 r] R [T] λv H'=>∃T',H'=[T']/\v=.tuple #[]/\cb.is b ⟨m.size,(upto m r m.qs.length).map (·.1),(upto m r m.qs.length).map (·.2)⟩ T':=by
  obtain⟨N,M,J,I,rfl,L,U⟩:=hm
  have i1:=L.ay
  have i2:=U.ay
  refine Spec.gj (H':=[bl b [.int .i64 m.size,N,M] 72,J,I,[],[]]) (by simp) ?_
  refine Spec.body func24 rfl results24 ntmps24 rfl ?_
  refine .sr<|.ag rfl<|.z<|.ag rfl<|.zs<|.sr<|.az rfl<|.block ?_
  refine .loop (X:=Nat×(Value×av)×(Value×av)) (λy=>y.1<=m.qs.length/\OS 67 6 bJ.enc y.2.1.1 ((upto m r y.1).map (·.1)) y.2.1.2/\OS 4 1 mG y.2.2.1 ((upto m r y.1).map (·.2)) y.2.2.2) (λy=>[(0,pT b),(1,.int .u64 r),(4,y.2.1.1),(5,y.2.2.1),(6,iN y.1)]) (λy=>[bl b [.int .i64 m.size,N,M] 72,J,I,y.2.1.2,y.2.2.2]) (λy=>m.qs.length-y.1) (0,(sZ,[]),(sZ,[])) ⟨by omega,OS.nil,OS.nil⟩ kE.c.c.c.c.c rH ?_
  rintro⟨i,⟨H,w⟩,⟨G,u⟩⟩ ⟨hi,f,e⟩
  simp only at hi f e⊢
  have i3:=f.ay
  have i4:=e.ay
  refine .seq<|.sr<|.mo rfl<|.mo rfl<|.nc rfl<|.fa rfl<|.lo rfl<|.q (.eR L) ?_
  refine .q .lss<|.zn ?_
  refine .cond rfl (λS=>?_) λS=>?_
  have a0:i<m.qs.length:=by simp at S;omega
  obtain⟨q,V⟩:=ca a0
  obtain⟨x,B⟩:∃x,m.bs[i]? =some x:=⟨_,bk (by omega)⟩
  have k:=Re (r:=r) V B
  have a1:=Ra (m:=m) (r:=r) (i:=i)
  refine .kn<|.seq<|.block<|.sr<|.mo rfl<|.nc rfl<|.fa rfl<|.lo rfl<|.mo rfl ?_
  refine .bh i L V (λps=>?_)
  refine .fa rfl<|.lo rfl<|.mo rfl<|.q .geq<|.mo rfl ?_
  refine .split (t:=26) rfl (λa=>?_) (λa=>?_)
  refine .gT a<|.mo rfl<|.gT a<|.mo rfl<|.gT a<|.nc rfl<|.gT a<|.fa rfl<|.gT a<|.lo rfl<|.gT a<|.q (.eR U) ?_
  refine .gT a<|.q .lss<|.q (.aU a) ?_
  refine .zn ?_
  refine bu.cut (X:=(Value×av)×(Value×av)) (λy=>OS 67 6 bJ.enc y.1.1 ((upto m r (i+1)).map (·.1)) y.1.2/\OS 4 1 mG y.2.1 ((upto m r (i+1)).map (·.2)) y.2.2) (λy=>[(0,pT b),(1,.int .u64 r),(4,y.1.1),(5,y.2.1),(6,iN i)]) (λy=>[bl b [.int .i64 m.size,N,M] 72,J,I,y.1.2,y.2.2]) ?_ ?_
  refine .cond rfl (λA=>?_) λA=>?_
  refine .sK [3,3] [9,19] mixed ?_
  conv=>arg 3;simp only[take,rest,bN,acg,ach]
  conv=>arg 5;simp only[take,rest,bN,acg,ach]
  conv=>arg 9;simp only[take,rest,bN,acg,ach]
  refine .tO 0 rfl .move<|.tO 1 rfl .move<|.tO 2 rfl (.nilCheck rfl)<|.tO 3 rfl (.fieldAddr rfl)<|.tO 4 rfl (.cI rfl)<|.tO 5 rfl .move ?_
  refine RA.bh 6 rfl i L V rfl rfl rfl (by kernel_rfl) (λa2=>?_)
  refine .tO 7 rfl (.aL rfl)<|.tK 10 rfl .move<|.tK 11 rfl .move ?_
  refine .tK 12 rfl (.ml rfl) ?_
  refine .tK 13 rfl (.kr rfl) ?_
  refine .tK 14 rfl (.cI rfl)<|.tK 15 rfl .move ?_
  refine RA.bh 16 rfl i U B rfl rfl rfl (by kernel_rfl) (λa3=>?_)
  refine .tK 17 rfl (.cI rfl) ?_
  refine RA.lN 8 18 rfl rfl (by kernel_rfl) rfl ?_ ?_
  refine .fq (λK=>?_)
  refine .nil (Next.sub ?_)
  refine RA.lN 9 18 rfl rfl (by kernel_rfl) rfl ?_ ?_
  refine .append f (RS.lit (b:=K) (E:=67) (fr:=(0,0)) (x:=q) (by simp[Rx]) rfl rfl (bJ.one q).h) (by simp;omega) (λs o j=>?_)
  have Z:=j.ay
  refine .nil (Next.mod rfl ?_)
  refine .sT 18 rfl ?_
  refine .jB (λC=>?_)
  refine .nil (Next.mod rfl ?_)
  refine .sT 19 rfl ?_
  refine .append e (RS.lit (b:=C) (E:=4) (fr:=(0,0)) (cs:=[.bool x]) (x:=x) (by simp[Rx]) rfl rfl (by simp[ay])) (by simp;omega) (λp l g=>?_)
  have i6:=g.ay
  refine .nil (Next.mod rfl ?_)
  refine .tK 20 rfl .assign<|.tK 21 rfl .assign ?_
  refine RA.nil (by kernel_rfl) ?_
  ·first
      |exact aD ((s,o),(p,l)) (by have d:keeps r (q,x)=true:=a
                                  rw[k,ace d];simpa using⟨j,g⟩) kE.c.c.c.c.c (aK [4,4,4,2,2])
      |exact aD ((H,w),(G,u)) (by have d:keeps r (q,x)=false:=a
                                  rw[k,d];simpa using⟨f,e⟩) kE.c.c.c.c.c rH
      |(exfalso;simp at A;omega)
  refine .jB (λC=>?_)
  refine .nil (Next.sub ?_)
  refine .sT 9 rfl ?_
  refine .append f (RS.lit (b:=K) (E:=67) (fr:=(0,0)) (x:=q) (by simp[Rx]) rfl rfl (bJ.one q).h) (by simp;omega) (λs o j=>?_)
  have Z:=j.ay
  refine .nil (Next.mod rfl ?_)
  refine .sT 19 rfl ?_
  refine .append e (RS.lit (b:=C) (E:=4) (fr:=(0,0)) (cs:=[.bool x]) (x:=x) (by simp[Rx]) rfl rfl (by simp[ay])) (by simp;omega) (λp l g=>?_)
  have i6:=g.ay
  refine .nil (Next.mod rfl ?_)
  refine .tK 20 rfl .assign<|.tK 21 rfl .assign ?_
  refine RA.nil (by kernel_rfl) ?_
  ·first
      |exact aD ((s,o),(p,l)) (by have d:keeps r (q,x)=true:=a
                                  rw[k,ace d];simpa using⟨j,g⟩) kE.c.c.c.c.c (aK [4,4,4,2,2])
      |exact aD ((H,w),(G,u)) (by have d:keeps r (q,x)=false:=a
                                  rw[k,d];simpa using⟨f,e⟩) kE.c.c.c.c.c rH
      |(exfalso;simp at A;omega)
  refine .jB (λC=>?_)
  refine .nil (Next.sub ?_)
  refine .sT 8 rfl ?_
  refine .fq (λK=>?_)
  refine .nil (Next.sub ?_)
  refine .sT 9 rfl ?_
  refine .append f (RS.lit (b:=K) (E:=67) (fr:=(0,0)) (x:=q) (by simp[Rx]) rfl rfl (bJ.one q).h) (by simp;omega) (λs o j=>?_)
  have Z:=j.ay
  refine .nil (Next.mod rfl ?_)
  refine .sT 19 rfl ?_
  refine .append e (RS.lit (b:=C) (E:=4) (fr:=(0,0)) (cs:=[.bool x]) (x:=x) (by simp[Rx]) rfl rfl (by simp[ay])) (by simp;omega) (λp l g=>?_)
  have i6:=g.ay
  refine .nil (Next.mod rfl ?_)
  refine .tK 20 rfl .assign<|.tK 21 rfl .assign ?_
  refine RA.nil (by kernel_rfl) ?_
  ·first
      |exact aD ((s,o),(p,l)) (by have d:keeps r (q,x)=true:=a
                                  rw[k,ace d];simpa using⟨j,g⟩) kE.c.c.c.c.c (aK [4,4,4,2,2])
      |exact aD ((H,w),(G,u)) (by have d:keeps r (q,x)=false:=a
                                  rw[k,d];simpa using⟨f,e⟩) kE.c.c.c.c.c rH
      |(exfalso;simp at A;omega)
  refine .skip ?_
  ·first
      |exact aD ((s,o),(p,l)) (by have d:keeps r (q,x)=true:=a
                                  rw[k,ace d];simpa using⟨j,g⟩) kE.c.c.c.c.c (aK [4,4,4,2,2])
      |exact aD ((H,w),(G,u)) (by have d:keeps r (q,x)=false:=a
                                  rw[k,d];simpa using⟨f,e⟩) kE.c.c.c.c.c rH
      |(exfalso;simp at A;omega)
  intro x B
  obtain⟨⟨Y,Q⟩,⟨W,O⟩⟩:=x
  obtain⟨F,D⟩:=B
  simp only at F D⊢
  refine ba<|au<|.region<|.mo rfl ?_
  refine .q (.inc (n:=i) (by omega)) ?_
  refine .ag rfl<|.nil ?_
  ·exact bp (i+1,(Y,Q),(W,O)) ⟨by omega,F,D⟩ (by simp only;omega) kE.c.c.c.c.c rH
  refine .gF a<|.gF a<|.gF a<|.gF a<|.gF a<|.gF a<|.gF a<|.q (.aN a) ?_
  refine .zn ?_
  refine bu.cut (X:=(Value×av)×(Value×av)) (λy=>OS 67 6 bJ.enc y.1.1 ((upto m r (i+1)).map (·.1)) y.1.2/\OS 4 1 mG y.2.1 ((upto m r (i+1)).map (·.2)) y.2.2) (λy=>[(0,pT b),(1,.int .u64 r),(4,y.1.1),(5,y.2.1),(6,iN i)]) (λy=>[bl b [.int .i64 m.size,N,M] 72,J,I,y.1.2,y.2.2]) ?_ ?_
  refine .dA<|.skip ?_
  ·first
      |exact aD ((s,o),(p,l)) (by have d:keeps r (q,x)=true:=a
                                  rw[k,ace d];simpa using⟨j,g⟩) kE.c.c.c.c.c (aK [4,4,4,2,2])
      |exact aD ((H,w),(G,u)) (by have d:keeps r (q,x)=false:=a
                                  rw[k,d];simpa using⟨f,e⟩) kE.c.c.c.c.c rH
      |(exfalso;simp at A;omega)
  intro x B
  obtain⟨⟨Y,Q⟩,⟨W,O⟩⟩:=x
  obtain⟨F,D⟩:=B
  simp only at F D⊢
  refine ba<|au<|.region<|.mo rfl ?_
  refine .q (.inc (n:=i) (by omega)) ?_
  refine .ag rfl<|.nil ?_
  ·exact bp (i+1,(Y,Q),(W,O)) ⟨by omega,F,D⟩ (by simp only;omega) kE.c.c.c.c.c rH
  refine .exit<|bD<|bG<|bE<|au<|.region<|.mo rfl<|.mo rfl<|.mo rfl<|.mo rfl<|.nc rfl<|.fa rfl<|.ek rfl rfl<|.nc rfl<|.fa rfl<|.ek rfl rfl<|.nil<|gC _ .none (.one [0,2,2] _) ?_
  ·have hn:i=m.qs.length:=by simp at S;omega
   subst hn
   exact⟨_,rfl,rfl,_,_,w,u,nY _ _ _,f,e⟩
end Mem
namespace Mem
theorem mC(v:Value)(xs:List bJ)(R:aA)(h:RS R 6 bJ.enc v xs)(i:xs.length<=1000000):
  Spec prog 71 [v] R [] λv' H'=>∃T,H'=[T]/\OS 140 6 bJ.enc v' xs T:=by
 obtain⟨b,d,rfl⟩:=h.val
 have f:∀H,RS (Rx R H) 6 bJ.enc (.slice b xs.length d) xs:=λH=>h.rx
 refine Spec.gj (H':=[[]]) (by simp) ?_
 refine Spec.body func71 rfl results71 ntmps71 rfl ?_
 refine .sr<|.ag rfl<|.zs<|.sr<|.mo rfl<|.q (.qq rfl rfl) ?_
 refine .zn ?_
 refine .cond rfl (λa=>?_) λa=>?_
 refine .sr<|.az rfl ?_
 refine .ret (aJ (br _ (.one (.tmp rfl)) (.one [0] _) ?_))
 ·obtain rfl:b=none:=by simpa using a
  have:=h.qI
  subst this
  exact⟨[],rfl,OS.nil⟩
 refine .kn<|.sr ?_
 refine .qg (λg=>?_)
 refine .mo rfl ?_
 refine .append (OS.empty (enc:=bJ.enc) (sz:=6)) (f _) (by simp;omega) (λv' c e=>?_)
 refine .az rfl ?_
 refine .ret (br _ (.one (.tmp rfl)) (.one [0] _) ?_)
 ·exact⟨c,by simp[take],by simpa using e⟩
theorem MG{σ:Type}(I:σ->av->Prop)(p:bJ->Bool)(step:σ->bJ->σ)(f:FuncId)(caps:List Value) [e:aT prog f](v:Value)(xs:List bJ)(s:σ)(T:av)(R:aA)(h:RS R 6 bJ.enc v xs)
  (A:qa prog f caps R bJ.enc I p step xs)(u:I s T):
  Spec prog 127 [v,.func (.func f) #[] caps.toArray] R [T] λv' H'=>∃T',H'=[T']/\
   ((∃i x,xs[i]? =some x/\p x=true/\(∀j y,j<i->xs[j]? =some y->p y=false)/\v'=iN i/\I ((xs.take (i+1)).foldl step s) T')\/((∀y∈xs,p y=false)/\v'=.int .i64 (-1)/\I (xs.foldl step s) T')):=by
 have E:=h.le
 refine Spec.body func127 rfl results127 ntmps127 rfl ?_
 refine .sr<|.ag rfl<|.zs<|.sr<|.mo rfl<|.q (.bK h) ?_
 refine .mo rfl<|.zn<|.block ?_
 refine .loop (X:=Nat×av) (λy=>y.1<=xs.length/\(∀j z,j<y.1->xs[j]? =some z->p z=false)/\I ((xs.take y.1).foldl step s) y.2) (λy=>[(0,v),(1,.func (.func f) #[] caps.toArray),(7,.int .i64 xs.length),(8,iN y.1)]) (λy=>[y.2]) (λy=>xs.length-y.1) (0,T) ⟨by omega,by omega,by simpa using u⟩ kE.c.c.c.c rH ?_
 rintro⟨i,t⟩ ⟨B,d,l⟩
 simp only at B d l⊢
 refine .sr<|.q .lss<|.zs ?_
 refine .cond rfl (λg=>?_) λg=>?_
 have C:i<xs.length:=by simp at g;omega
 obtain⟨z,b⟩:=ca C
 refine .kn<|.seq<|.block<|.sr<|.mo rfl<|.ag rfl<|.z<|.mo rfl<|.mo rfl<|.mo rfl ?_
 refine .bF i h b (λF=>?_)
 refine .q (.aL rfl) ?_
 refine .w9 (first:=[]) (A z (aR b) _ _ l) (λv' r D=>?_)
 obtain⟨rfl,m⟩:=D
 rw[<-yA (step:=step) (s:=s) b]at m
 refine .zn ?_
 refine .cond rfl (λk=>?_) λk=>?_
 refine .sr<|.mo rfl<|.az rfl ?_
 refine .ret (bA (aJ (cW (bA (aJ (br _ (.one (.tmp rfl)) (.one [0] _) ?_))))))
 ·exact⟨r,by simp[take],.inl ⟨i,z,b,k,d,rfl,m⟩⟩
 refine .skip<|ba<|au<|.region ?_
 refine .q (.inc (n:=i) (by omega)) ?_
 refine .mo rfl<|.nil ?_
 ·exact bp (i+1,r) ⟨by omega,λj y o a=>by
   rcases Nat.lt_or_ge j i with hh|hh
   ·exact d j y hh a
   ·obtain rfl:j=i:=by omega
    rw[b]at a;cases a;exact k,m⟩ (by simp only;omega) kE.c.c.c.c rH
 refine .exit<|bD<|bG<|bE<|au<|.sr<|.az rfl ?_
 refine .ret (br _ (.one (.tmp rfl)) (.one [0] _) ?_)
 ·have w:i=xs.length:=by simp at g;omega
  subst w
  refine⟨t,by simp[take],.inr ⟨λy a=>?_,rfl,by simpa using l⟩⟩
  obtain⟨j,o,rfl⟩:=acm.1 a
  exact d j _ o (bk o)
end Mem
namespace Mem
theorem tJ{α:Type}{ys xs:List α}{i j:Nat}{z:α}{q:α->Bool}(a:ys.take i=(xs.take j).filter q)(d:xs[j]? =some z)(b:i<ys.length)(c:q z=true):(ys.set i z).take (i+1)=(xs.take (j+1)).filter q:=by
 rw[ack,ack,d,acn,List.take_set_of_le (aci _),a]
 simp[c,b]
theorem qm{α:Type}{ys xs:List α}{i j:Nat}{z:α}{q:α->Bool}(a:ys.take i=(xs.take j).filter q)(c:xs[j]? =some z)(b:q z=false):ys.take i=(xs.take (j+1)).filter q:=by
 rw[ack,c,acn,a]
 simp[b]
theorem ql{α:Type}{ys xs:List α}{j:Nat}(h:ys.drop j=xs.drop j):ys.drop (j+1)=xs.drop (j+1):=by
 have:=congrArg (List.drop 1) h
 simpa[List.drop_drop,Nat.add_comm]using this
theorem xx{α:Type}{ys xs:List α}{j:Nat}(h:ys.drop j=xs.drop j):ys[j]? =xs[j]? :=by
 have:=congrArg (λl=>l[0]?) h
 simpa using this
theorem xy{α:Type}{xs:List α}{p:α->Bool}(h:∀y∈xs,p y=false):xs.filter (λy=> !p y)=xs:=by
 rw[List.filter_eq_self]
 intro y a
 simp[h y a]
theorem xw{α:Type}{xs:List α}{p:α->Bool}{i:Nat}{x:α}(d:xs[i]? =some x)(c:p x=true)(h:∀j y,j<i->xs[j]? =some y->p y=false):xs.take i=(xs.take (i+1)).filter (λy=> !p y):=by
 have a:xs.take i=(xs.take i).filter (λy=> !p y):=by
  rw[eq_comm,List.filter_eq_self]
  intro y e
  obtain⟨j,b,rfl⟩:=acm.1 e
  simp only[List.length_take]at b
  rw[List.getElem_take,h j _ (by omega) (bk (by omega))]
  rfl
 exact qm a d (by simp[c])
theorem CH{σ:Type}(I:σ->av->Prop)(p:bJ->Bool)(step:σ->bJ->σ)(f:FuncId)(caps:List Value) [e:aT prog f](v:Value)(xs:List bJ)(s:σ)(F T:av)(R:aA)(h:OS 140 6 bJ.enc v xs F)
  (N:qa prog f caps R bJ.enc I p step xs)(Y:I s T):
  Spec prog 70 [v,.func (.func f) #[] caps.toArray] R [F,T] λv' H'=>∃Tx' T',H'=[Tx',T']/\
   OS 140 6 bJ.enc v' (xs.filter λy=> !p y) Tx'/\I (xs.foldl step s) T':=by
 obtain⟨G,cap,rfl,a1⟩:=h.shape
 obtain⟨n,D⟩:∃n,n=xs.length:=⟨_,rfl⟩
 rw[<-D]at h a1⊢
 have a8:=h.le
 refine Spec.body func70 rfl results70 ntmps70 rfl ?_
 refine .sr<|.ag rfl<|.z<|.mo rfl<|.mo rfl ?_
 refine .call [1] (MG I p step f caps _ xs s T _ (h.rs λq hq=>.inr (by simpa[rest,bN]using hq)) (N.mono λ_ _=>.inl) Y) (λv H' w=>?_)
 obtain⟨r,rfl,w⟩:=w
 conv=>arg 8;simp only[rest,bN,List.cons_append,List.nil_append]
 obtain⟨j,rfl,hj⟩:∃j:Int,v=.int .i64 j/\((∃(i:Nat) (x:bJ),xs[i]? =some x/\p x=true/\(∀j y,j<i->xs[j]? =some y->p y=false)/\j=i/\I ((xs.take (i+1)).foldl step s) r)\/((∀y∈xs,p y=false)/\j= -1/\I (xs.foldl step s) r)):=by
  rcases w with⟨i,x,b,d,a,K,W⟩|⟨b,d,a⟩
  ·exact⟨i,K,.inl ⟨i,x,b,d,a,rfl,W⟩⟩
  ·exact⟨-1,d,.inr ⟨b,rfl,a⟩⟩
 refine .ag rfl<|.zs<|.sr<|.mo rfl<|.q .cr<|.zn ?_
 refine .cond rfl (λb=>?_) λb=>?_
 have a7:j= -1:=by simpa using b
 have O:(∀y∈xs,p y=false)/\I (xs.foldl step s) r:=by
  rcases hj with⟨i,x,_,_,_,K,_⟩|⟨b,_,a⟩
  ·omega
  ·exact⟨b,a⟩
 refine .sr<|.mo rfl<|.az rfl ?_
 refine .ret (aJ (br _ (.one (.tmp rfl)) (aK [1,0]) ?_))
 ·exact⟨_,_,rfl,by rw[xy O.1];exact h,O.2⟩
 obtain⟨E,x0,U,a4,a0,rfl,Z⟩:∃(i:Nat) (x:bJ),xs[i]? =some x/\p x=true/\(∀j y,j<i->xs[j]? =some y->p y=false)/\j=i/\I ((xs.take (i+1)).foldl step s) r:=by
  rcases hj with hj|⟨_,d,_⟩
  ·exact hj
  ·subst d;simp at b
 have a6:E<xs.length:=(acf.1 U).1
 refine .kn<|.seq<|.sr<|.mo rfl ?_
 refine .q (.inc (n:=E) (by omega)) ?_
 refine .az rfl<|.block ?_
 refine .loop (X:=Nat×Nat×List bJ×av×av) (λy=>(y.1<=y.2.1/\y.2.1<=n)/\(y.2.2.1.length=n/\y.2.2.1.take y.1=(xs.take y.2.1).filter (λy=> !p y)/\y.2.2.1.drop y.2.1=xs.drop y.2.1)/\OS 140 6 bJ.enc (.slice G n cap) y.2.2.1 y.2.2.2.1/\I ((xs.take y.2.1).foldl step s) y.2.2.2.2) (λy=>[(0,.slice G n cap),(1,.func (.func f) #[] caps.toArray),(5,iN y.1),(6,iN y.2.1)]) (λy=>[y.2.2.2.2,y.2.2.2.1]) (λy=>n-y.2.1) (E,E+1,xs,F,r) ⟨⟨by simp,by simp only;omega⟩,⟨D.symm,xw U a4 a0,rfl⟩,h,Z⟩ kE.c.c.c.c rH ?_
 rintro⟨i,j,o,H,T1⟩ ⟨⟨a2,a3⟩,⟨A,l,k⟩,g,C⟩
 simp only at a2 a3 A l k g C⊢
 refine .seq<|.sr<|.mo rfl<|.mo rfl<|.q (.eR g) ?_
 refine .q .lss<|.zn ?_
 refine .cond rfl (λd=>?_) λd=>?_
 have a9:j<n:=by simp at d;omega
 obtain⟨z,V⟩:∃z,o[j]? =some z:=⟨_,bk (by omega)⟩
 have m:xs[j]? =some z:=by rw[<-xx k];exact V
 obtain⟨u,S⟩:∃u,o[i]? =some u:=⟨_,bk (by omega)⟩
 refine .kn<|.seq<|.block<|.sr<|.mo rfl<|.mo rfl ?_
 refine .bh j g V (λps=>?_)
 refine .q (.aL rfl) ?_
 refine .cq (λb7=>?_)
 refine .bZ rfl rfl<|.z<|.mo rfl<|.q (.aL rfl) ?_
 refine .w9 (first:=[]) (vs:=[.agg z.enc.toArray]) (N z (aR m) _ _ C) (λv' B w=>?_)
 obtain⟨rfl,t⟩:=w
 rw[<-yA (step:=step) (s:=s) m]at t
 refine .q .not<|.zn ?_
 refine .cond rfl (λa=>?_) λa=>?_
 refine .sr<|.mo rfl<|.mo rfl<|.q (.aL rfl) ?_
 refine .bh i g S (λb0=>?_)
 refine .eK i g S z (λJ L=>?_) (bJ.one z).h
 refine .zn<|.region<|.mo rfl ?_
 refine .q (.inc (n:=i) (by omega)) ?_
 refine .ag rfl<|.nil<|ba<|au<|.region<|.mo rfl ?_
 refine .q (.inc (n:=j) (by omega)) ?_
 refine .ag rfl<|.nil ?_
 ·first
   |exact bp (i+1,j+1,o.set i z,J,B) ⟨⟨by simp only;omega,by simp only;omega⟩,⟨by simp[A],tJ l m (by omega) a,by simp only;rw[List.drop_set_of_lt (by omega)];exact ql k⟩,L,t⟩ (by simp only;omega) kE.c.c.c.c (aK [1,1])
   |exact bp (i,j+1,o,H,B) ⟨⟨by simp only;omega,by simp only;omega⟩,⟨A,qm l m a,ql k⟩,g,t⟩ (by simp only;omega) kE.c.c.c.c (aK [1,1])
 refine .skip<|ba<|au<|.region<|.mo rfl ?_
 refine .q (.inc (n:=j) (by omega)) ?_
 refine .ag rfl<|.nil ?_
 ·first
   |exact bp (i+1,j+1,o.set i z,J,B) ⟨⟨by simp only;omega,by simp only;omega⟩,⟨by simp[A],tJ l m (by omega) a,by simp only;rw[List.drop_set_of_lt (by omega)];exact ql k⟩,L,t⟩ (by simp only;omega) kE.c.c.c.c (aK [1,1])
   |exact bp (i,j+1,o,H,B) ⟨⟨by simp only;omega,by simp only;omega⟩,⟨A,qm l m a,ql k⟩,g,t⟩ (by simp only;omega) kE.c.c.c.c (aK [1,1])
 refine .exit<|bD<|bG<|bE<|au<|.sr<|.mo rfl<|.mo rfl ?_
 have Q:j=n:=by simp at d;omega
 refine .q (.AT (sz:=6) i n ⟨_,rfl⟩ rfl (by omega) (by omega)) ?_
 refine .Cy i g (by omega) rfl (λa5 M=>?_)
 refine .z<|.mo rfl<|.mo rfl ?_
 refine .q (.AT (sz:=6) (n:=n) (cap:=cap) (p:=G) 0 i rfl ⟨_,rfl⟩ (by omega) (by omega)) ?_
 refine .az rfl ?_
 refine .ret (br _ (.one (.tmp rfl)) (aK [1,0]) ?_)
 ·refine⟨_,_,rfl,?_,?_⟩
  ·rw[l,Q,D,acj]at M
   exact M
  ·rw[Q,D,acj]at C
   exact C
end Mem
namespace Mem
def old(r:Int)(q:bJ):Bool:= !decide (q.rev≥r)
def kz(r:Int)(M:List (bJ×Bool))(q:bJ):List (bJ×Bool):=if old r q then gO q M else M
theorem Mk(q:bJ)(r:Int)(b b2 d:Nat)(m:PM)(vm va:Value)(M:List (bJ×Bool))(T:av)(R:aA)(e:MS (λq:bJ=>.agg q.enc.toArray) Value.bool vm M T)
  (a:R b (.cells [.bool true,.int .i64 m.size,vm,va,.int .i64 m.dh].toArray 138 (0,0)))(g:R b2 (.cells [pT b].toArray 35 (0,0)))(h:R d (.cells [.int .u64 r].toArray 45 (0,0))):
  Spec prog 72 [.agg q.enc.toArray,pT d,pT b2] R [T] λv H'=>∃T',H'=[T']/\v=.bool (old r q)/\MS (λq:bJ=>.agg q.enc.toArray) Value.bool vm (kz r M q) T':=by
 have k:=PC.of a
 have l:=PC.of g
 have n:=PC.of h
 have j:=e.one
 refine Spec.body func72 rfl results72 ntmps72 rfl ?_
 refine .sr ?_
 refine .cg rfl (λd=>?_)
 refine .ag rfl<|.zs<|.sr<|.fa rfl<|.lo rfl<|.lo rfl<|.q .geq<|.zn ?_
 refine .cond rfl (λa=>?_) λa=>?_
 refine .sr<|.az rfl ?_
 refine .ret (aJ (br _ (.one (.tmp rfl)) (.one [1] _) ?_))
 ·have c:old r q=false:=by simp only[old];rw[a];rfl
  exact⟨T,by simp[take],by rw[c],by simp only[kz,c];exact e⟩
 refine .kn<|.seq ?_
 refine .dY 5 mixed (by kernel_rfl) ?_
 conv=>arg 6;dsimp only[List.take]
 refine .lo rfl ?_
 refine .nc rfl<|.fa rfl<|.lo rfl<|.q (.aL rfl)<|.nil ?_
 refine .delete e rfl (show _=some (Value.agg q.enc.toArray)from rfl) (λf i _=>?_)
 refine .z<|.az rfl ?_
 refine .ret (br _ (.one (.tmp rfl)) (.one [1] _) ?_)
 ·have c:old r q=true:=by simp only[old];rw[a];rfl
  exact⟨f,by simp[take],by rw[c],by simp only[kz,c,if_true];exact i⟩
theorem Ml(b:Nat)(m:PM)(T:av)(u:PM.is b m T)(r:Int)(R:aA)(t:m.dK.length<=1000000):
  Spec prog 23 [pT b,.int .u64 r] R [T] λv H'=>∃T',H'=[T']/\v=.tuple #[]/\PM.is b ⟨m.size,m.dK.foldl (kz r) m.kept,m.dK.filter λq=> !old r q,m.dh⟩ T':=by
 obtain⟨e,d,f,l,rfl,a,i⟩:=u
 have x:=a.one
 have y:=i.ay
 refine Spec.gj (H':=[bl b [.bool true,.int .i64 m.size,e,d,.int .i64 m.dh] 138,f,l]) (by simp) ?_
 refine Spec.body func23 rfl results23 ntmps23 rfl ?_
 refine .sr ?_
 refine .tD rfl (λg=>?_)
 refine .tD rfl (λh=>?_)
 refine .zs<|.sr<|.lo rfl ?_
 refine .aQ (qJ b true _ _ _) (λv c=>?_)
 subst c
 refine .q .not<|.zn<|.dA<|.kn<|.sK [2,2,2] [7,10] mixed ?_
 conv=>arg 3;simp only[take,rest,bN,acg,ach]
 conv=>arg 5;simp only[take,rest,bN,acg,ach]
 conv=>arg 9;simp only[take,rest,bN,acg,ach]
 refine .tK 0 rfl (.cI rfl)<|.tO 1 rfl (.cI rfl)<|.tO 2 rfl (.nilCheck rfl)<|.tO 3 rfl (.fieldAddr rfl)<|.tO 4 rfl (.cI rfl)<|.tO 6 rfl .makeFunc ?_
 refine .sT 5 rfl ?_
 refine .dx (mC d m.dK _ i.rx t) (λw n j=>?_)
 have z:=j.ay
 refine .nil (Next.sub ?_)
 refine .sT 7 rfl ?_
 refine .call [0,1] (CH (λM T=>MS (λq:bJ=>.agg q.enc.toArray) Value.bool e M T) (old r) (kz r) 72 [pT h,pT g] w m.dK m.kept n f _ j (λq _ M T a=>Mk q r b g h m e d M T _ a (by simp[Rx,rest,bN]) (by simp[Rx,rest,bN]) (by simp[Rx,rest,bN])) a) (λB H' c=>?_)
 obtain⟨p,o,rfl,k,s⟩:=c
 have A:=k.ay
 conv=>arg 8;simp only[rest,bN,List.cons_append,List.nil_append]
 refine .nil (Next.mod rfl ?_)
 refine .tK 8 rfl (.ml rfl) ?_
 refine .tK 9 rfl (.kr rfl) ?_
 refine .sT 10 rfl ?_
 refine .ek rfl rfl ?_
 refine .nil (Next.mod rfl ?_)
 refine RA.nil (by kernel_rfl) ?_
 refine gC _ .none (.one [2,1,0] _) ?_
 ·exact⟨_,rfl,rfl,_,_,o,p,nY _ _ _,s,k⟩
end Mem
namespace Mem
def cb.of(n:Nat)(z:List (bJ×Bool)):cb:=⟨n,z.map (·.1),z.map (·.2)⟩
structure ly(n:Nat)(m:PM)(z:List (bJ×Bool)):Prop where
 ms:m.size=n
 dK:m.dK=z.map (·.1)
 nd:(z.map (·.1)).Nodup
 kn:(m.kept.map (·.1)).Nodup
 get:∀p∈z,cG p.1 m.kept=some p.2
 ky:∀q,q∉z.map (·.1)->cG q m.kept=none
structure Inv(n:Nat)(m:PM)(z:List (bJ×Bool)):Prop extends ly n m z where
 le:z.length<=n
theorem uC{α:Type} [DecidableEq α]:∀{l1 l2:List α},l1.Nodup->(∀a∈l1,a∈l2)->l1.length<=l2.length
 |[],_,_,_=>by simp
 |a::l,l2,h,hs=>by
  rw[List.nodup_cons]at h
  have d:=uC (l1:=l) (l2:=l2.erase a) h.2 λb c=>by
   rw[List.mem_erase_of_ne (λe:b=a=>h.1 (by rw[<-e];exact c))]
   exact hs b (List.mem_cons_of_mem _ c)
  have f:=List.length_erase_of_mem (hs a (by simp))
  have g:=List.length_pos_of_mem (hs a (by simp))
  simp only[List.length_cons]
  omega
theorem ly.len{n:Nat}{m:PM}{z:List (bJ×Bool)}(h:ly n m z):m.kept.length=z.length:=by
 have b:∀q,q∈m.kept.map (·.1)↔q∈z.map (·.1):=λq=>by
  constructor
  ·intro a
   rcases Decidable.em (q∈z.map (·.1))with h1|h1
   ·exact h1
   ·exact absurd a (pi.1 (h.ky q h1))
  ·intro a
   rcases Decidable.em (q∈m.kept.map (·.1))with h1|h1
   ·exact h1
   ·obtain⟨p,e,rfl⟩:=List.mem_map.1 a
    have:=h.get p e
    rw[pi.2 h1]at this
    cases this
 have c:=uC h.kn λq a=>(b q).1 a
 have d:=uC h.nd λq a=>(b q).2 a
 simp only[List.length_map]at c d
 omega
theorem Inv.new(n:Nat):Inv n ⟨n,[],[],0⟩ []:=⟨⟨rfl,rfl,by simp,by simp,by simp,λ_ _=>rfl⟩,by simp⟩
theorem ly.ext{n:Nat}{m:PM}{z:List (bJ×Bool)}(h:ly n m z){q:bJ}(x:Bool)(g:q∉z.map (·.1)):ly n ⟨m.size,dy q x m.kept,m.dK++[q],m.dh⟩ (z++[(q,x)]):=by
 refine⟨h.ms,by simp[h.dK],?_,su h.kn,λp hp=>?_,λk c=>?_⟩
 ·rw[List.map_append,List.nodup_append]
  refine⟨h.nd,by simp,λa i b d=>?_⟩
  simp at d;subst d;exact λe=>g (e▸i)
 ·rw[kV]
  rcases List.mem_append.1 hp with hp|hp
  ·rw[acd (λe:p.1=q=>g (by rw[<-e];exact List.mem_map_of_mem (f:=(·.1)) hp)),h.get p hp]
  ·simp at hp;subst hp;simp
 ·simp only[List.map_append,List.map_cons,List.map_nil,List.mem_append,List.mem_singleton,not_or]at c
  rw[kV,acd c.2,h.ky k c.1]
theorem ly.pop{n:Nat}{m:PM}{p:bJ×Bool}{z:List (bJ×Bool)}(h:ly n m (p::z)):ly n ⟨m.size,gO p.1 m.kept,z.map (·.1),m.dh⟩ z:=by
 have a:=h.nd
 simp only[List.map_cons,List.nodup_cons]at a
 refine⟨h.ms,rfl,a.2,sh h.kn,λu b=>?_,λk c=>?_⟩
 ·rw[sm h.kn,acd (λe:u.1=p.1=>a.1 (by rw[<-e];exact List.mem_map_of_mem (f:=(·.1)) b)),h.get u (List.mem_cons_of_mem _ b)]
 ·rw[sm h.kn]
  split
  ·rfl
  ·rename_i d
   exact h.ky k (by simp only[List.map_cons,List.mem_cons,not_or];exact⟨d,c⟩)
theorem NX{α:Type}{l:List α}(h:l.Nodup){i j:Nat}{a:α}(d:l[i]? =some a)(e:l[j]? =some a):i=j:=by
 obtain⟨f,b⟩:=acf.1 d
 obtain⟨g,c⟩:=acf.1 e
 exact(List.getElem_inj h).1 (b.trans c.symm)
theorem Inv.set{n:Nat}{m:PM}{z:List (bJ×Bool)}(h:Inv n m z){q:bJ}{x y:Bool}{i:Nat}(c:z[i]? =some (q,y)):Inv n ⟨m.size,dy q x m.kept,m.dK,m.dh⟩ (z.set i (q,x))/\cb.of n (z.set i (q,x))=⟨n,z.map (·.1),(z.map (·.2)).set i x⟩:=by
 have b:(z.set i (q,x)).map (·.1)=z.map (·.1):=by
  rw[List.map_set]
  apply List.ext_getElem?
  intro j
  rw[List.getElem?_set]
  split
  ·rename_i d;subst d
   obtain⟨o,_⟩:=acf.1 c
   rw[ace (by simpa using o)]
   simp[c]
  ·rfl
 have g:(z.map (·.1))[i]? =some q:=by simp[c]
 refine⟨⟨⟨h.ms,by rw[b];exact h.dK,by rw[b];exact h.nd,su h.kn,λp r=>?_,λk f=>?_⟩,by simpa using h.le⟩,?_⟩
 ·obtain⟨j,a⟩:=List.mem_iff_getElem?.1 r
  rw[List.getElem?_set]at a
  rw[kV]
  split at a
  ·split at a
   ·cases a;simp
   ·cases a
  ·rename_i d
   have l:(z.map (·.1))[j]? =some p.1:=by simp[a]
   rw[acd (λe:p.1=q=>d (NX h.nd g (by rw[<-e];exact l))),h.get p (aR a)]
 ·rw[b]at f
  rw[kV,acd (λe=>f (by rw[e];exact aR g)),h.ky k f]
 ·simp only[cb.of,b,List.map_set]
theorem Inv.put{n:Nat}{m:PM}{z:List (bJ×Bool)}(h:Inv n m z){q:bJ}{x:Bool}{r:cb}(u:(cb.of n z).tq q x r):∃z',Inv n (m.put q x) z'/\r=cb.of n z':=by
 rcases u with⟨i,g,rfl⟩|⟨v,rfl⟩
 ·simp only[cb.of,List.getElem?_map,Option.map_eq_some_iff]at g
  obtain⟨⟨o,y⟩,l,k⟩:=g
  simp only at k;subst k
  obtain⟨d,s⟩:=h.set (x:=x) l
  have t:=h.get _ (aR l)
  have b:m.gw o=m.dK:=by simp[PM.gw,t]
  have a:¬m.size<(m.gw o).length:=by rw[b,h.ms,h.dK,List.length_map];have:=h.le;omega
  refine⟨_,?_,s.symm⟩
  unfold PM.put
  rw[acd a,b]
  exact d
 ·have j:q∉z.map (·.1):=v
  have b:m.gw q=m.dK++[q]:=by simp[PM.gw,h.ky q j]
  have f:=h.toly.ext x j
  have c:(m.gw q).length=z.length+1:=by rw[b,h.dK];simp
  unfold PM.put
  by_cases a:m.size<(m.gw q).length
  ·rw[ace a,ace (by simp only[cb.of];rw[c,h.ms]at a;simpa using a)]
   rw[c,h.ms]at a
   cases z with
   |nil=>
    have e:m.gw q=[q]:=by rw[b,h.dK];rfl
    rw[e]
    have:=(ly.pop (z:=[]) f)
    exact⟨[],⟨this,by simp⟩,rfl⟩
   |cons p z=>
    have e:m.gw q=p.1::((z++[(q,x)]).map (·.1)):=by rw[b,h.dK];simp
    rw[e]
    have d:=ly.pop (p:=p) (z:=z++[(q,x)]) f
    exact⟨z++[(q,x)],⟨d,by have:=h.le;simp at this⊢;omega⟩,by simp[cb.of]⟩
  ·rw[acd a,acd (by simp only[cb.of];rw[c,h.ms]at a;simpa using a)]
   rw[c,h.ms]at a
   rw[b]
   exact⟨z++[(q,x)],⟨f,by simp;omega⟩,by simp[cb.of]⟩
theorem yB{r:Int}:∀{L:List bJ} {M:List (bJ×Bool)},(M.map (·.1)).Nodup->((L.foldl (kz r) M).map (·.1)).Nodup
 |[],_,h=>h
 |q::L,M,h=>by
  rw[List.foldl_cons]
  refine yB ?_
  unfold kz
  split
  ·exact sh h
  ·exact h
theorem N6{r:Int}{k q:bJ}{M:List (bJ×Bool)}(h:(M.map (·.1)).Nodup):cG k (kz r M q)=if k=q/\old r q=true then none else cG k M:=by
 unfold kz
 by_cases a:old r q=true
 ·rw[ace a,sm h];simp[a]
 ·rw[acd a];simp[a]
theorem ul{r:Int}{k:bJ}:∀{L:List bJ} {M:List (bJ×Bool)},(M.map (·.1)).Nodup->cG k (L.foldl (kz r) M)=if k∈L/\old r k=true then none else cG k M
 |[],M,_=>by simp
 |q::L,M,h=>by
  rw[List.foldl_cons]
  have d:((kz r M q).map (·.1)).Nodup:=by
   unfold kz
   split
   ·exact sh h
   ·exact h
  rw[ul d,N6 h]
  by_cases b:old r k=true
  ·by_cases c:k∈L
   ·simp[b,c]
   ·by_cases a:k=q
    ·subst a;simp[b]
    ·simp[c,a]
  ·by_cases a:k=q
   ·subst a;simp[b]
   ·simp[b,a]
theorem ti{α β:Type}:∀z:List (α×β),(z.map (·.1)).zip (z.map (·.2))=z
 |[]=>rfl
 |p::z=>by simp[ti z]
theorem Rb{n:Nat}{z:List (bJ×Bool)}{r:Int}:upto (cb.of n z) r (cb.of n z).qs.length=z.filter (keeps r):=by
 unfold upto
 simp only[cb.of,ti,List.length_map,acj]
theorem Inv.forget{n:Nat}{m:PM}{z:List (bJ×Bool)}(h:Inv n m z)(r:Int):Inv n ⟨m.size,m.dK.foldl (kz r) m.kept,m.dK.filter λq=> !old r q,m.dh⟩ (z.filter (keeps r)):=by
 have d:∀p:bJ×Bool,keeps r p= !old r p.1:=λp=>by simp[keeps,old]
 have b:(z.filter (keeps r)).map (·.1)=(z.map (·.1)).filter λq=> !old r q:=by
  rw[List.filter_map]
  congr 1
  apply List.filter_congr
  intro p _
  exact d p
 refine⟨⟨h.ms,by rw[b,h.dK],by rw[b];exact h.nd.filter _,yB h.kn,λp a=>?_,λk e=>?_⟩,Nat.le_trans (List.length_filter_le _ _) h.le⟩
 ·rw[List.mem_filter,d]at a
  rw[ul h.kn,acd (by simp only[Bool.not_eq_true']at a;simp[a.2]),h.get p a.1]
 ·rw[b,List.mem_filter]at e
  rw[ul h.kn,h.dK]
  split
  ·rfl
  ·rename_i g
   exact h.ky k λc=>by
    by_cases f:old r k=true
    ·exact g ⟨c,f⟩
    ·exact e ⟨c,by simp[f]⟩
end Mem
namespace Mem
def q1:bJ:=⟨1,0,.empty,.empty,.empty,.empty⟩
theorem z8:(PM.put ⟨2,[],[],0⟩ q1 true)=⟨2,[(q1,true)],[q1],0⟩:=by
 simp[PM.put,PM.gw,cG,dy]
theorem ph(R:aA):Spec prog 16 [] R [] λv H'=>v=.bool true/\H'=[]:=by
 refine Spec.body func16 rfl results16 ntmps16 rfl ?_
 refine .sr<|.ag rfl<|.z ?_
 refine .dx ((zD 2 _ (by omega)).mono λv H' ⟨b,T,e,f,g⟩=>(⟨T,f,b,e,g⟩:∃T,H'=[T]/\∃b,v=.tuple [pT b,.int .i64 0].toArray/\PM.is b ⟨2,[],[],0⟩ T)) (λv T c=>?_)
 obtain⟨b,rfl,h⟩:=c
 refine .mo rfl<|.q .extract<|.q .extract<|.ag rfl<|.ag rfl<|.zs<|.sr<|.mo rfl<|.q .de<|.zn<|.dA<|.kn<|.sr<|.mo rfl ?_
 refine .q (show bq _ _ _ _ _ _ (.agg q1.enc.toArray)from .dw rfl rfl) ?_
 refine .dT (qO b _ T h q1 true R (by simp)) (λv d c=>?_)
 obtain⟨rfl,i⟩:=c
 refine .z<|.mo rfl ?_
 refine .q (show bq _ _ _ _ _ _ (.agg q1.enc.toArray)from .dw rfl rfl) ?_
 refine .aQ (yE b _ d i q1 _ (λp j=>.inr (by simpa using j))) (λv c=>?_)
 subst c
 refine .mo rfl<|.q .extract<|.q .extract<|.ag rfl<|.ag rfl<|.z<|.mo rfl<|.mo rfl ?_
 refine .split (t:=21) rfl (λa=>?_) (λa=>?_)
 refine .gT a<|.mo rfl<|.q (.aU a) ?_
 refine .az rfl ?_
 refine .ret (aP rfl ?_)
 ·exact⟨by rw[z8];simp[cG],rfl⟩
 refine .gF a<|.q (.aN a) ?_
 refine .az rfl ?_
 refine .ret (aP rfl ?_)
 ·exfalso
  rw[z8]at a
  simp[cG]at a
end Mem
end Go.Proofs.YtdljmchhecoakaaGreat

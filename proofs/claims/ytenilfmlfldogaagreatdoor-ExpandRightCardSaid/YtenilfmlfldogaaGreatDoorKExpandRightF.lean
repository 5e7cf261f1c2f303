/- What the law 'ExpandRight' uses. No condition. -/
import Derived.Test.YtenilfmlfldogaaGreatDoorChecked
import Derived.Test.YtenilfmlfldogaaGreatDoorKExpandRightB
namespace Go.Proofs.YtenilfmlfldogaaGreatDoor
open Tryz
set_option linter.unusedVariables false
theorem JJ:bS prog 2 (.int .i64):=⟨underlying2⟩
theorem Ci:cR prog 2 false:=⟨isAgg2⟩
theorem tg:bS prog 3 (.int .i64):=⟨underlying3⟩
theorem wS:cR prog 3 false:=⟨isAgg3⟩
theorem Ja:Sz prog 3 1:=⟨sizeOf3⟩
theorem C4:By prog 3 8:=⟨λw=>⟨_,typeInfo3 w,rfl⟩⟩
theorem Kz:Zr prog 3 (.int .i64 0):=⟨zeroValue3⟩
theorem xd:bS prog 4 (.bool):=⟨underlying4⟩
theorem Cw:cR prog 4 false:=⟨isAgg4⟩
theorem Jd:Sz prog 4 1:=⟨sizeOf4⟩
theorem C5:By prog 4 1:=⟨λw=>⟨_,typeInfo4 w,rfl⟩⟩
theorem KB:Zr prog 4 (.bool false):=⟨zeroValue4⟩
theorem J4:bS prog 5 (.int .u8):=⟨underlying5⟩
theorem CB:cR prog 5 false:=⟨isAgg5⟩
theorem Ji:Sz prog 5 1:=⟨sizeOf5⟩
theorem C7:By prog 5 1:=⟨λw=>⟨_,typeInfo5 w,rfl⟩⟩
theorem KD:Zr prog 5 (.int .u8 0):=⟨zeroValue5⟩
theorem oq:bS prog 9 (.string):=⟨underlying9⟩
theorem te:cR prog 9 false:=⟨isAgg9⟩
theorem Ju:Sz prog 9 1:=⟨sizeOf9⟩
theorem Da:By prog 9 16:=⟨λw=>⟨_,typeInfo9 w,rfl⟩⟩
theorem KJ:Zr prog 9 (.string {data:=#[]}):=⟨zeroValue9⟩
theorem JM:bS prog 22 (.slice 101):=⟨underlying22⟩
theorem Cl:cR prog 22 false:=⟨isAgg22⟩
theorem I4:Sz prog 22 1:=⟨sizeOf22⟩
theorem JN:bS prog 23 (.slice 106):=⟨underlying23⟩
theorem Cm:cR prog 23 false:=⟨isAgg23⟩
theorem I5:Sz prog 23 1:=⟨sizeOf23⟩
theorem Cn:cR prog 25 true:=⟨isAgg25⟩
theorem I6:Sz prog 25 2:=⟨sizeOf25⟩
theorem Kw:Zr prog 25 (.agg [sZ,sZ].toArray):=⟨zeroValue25⟩
theorem Hy:ba prog 25 0 0:=ba.of underlying25 rfl sizeOf22 rfl rfl
theorem Hz:ba prog 25 1 1:=ba.of underlying25 rfl sizeOf23 rfl rfl
theorem IC:fb prog 25 [(0,1),(1,1)] [sZ,sZ]:=⟨_,underlying25,zeroValue25,λw=>by simp[sizeOf22,sizeOf23]⟩
theorem JT:bS prog 26 (.slice 69):=⟨underlying26⟩
theorem Cr:cR prog 26 false:=⟨isAgg26⟩
theorem Cs:cR prog 28 true:=⟨isAgg28⟩
theorem I9:Sz prog 28 3:=⟨sizeOf28⟩
theorem HA:ba prog 28 0 0:=ba.of underlying28 rfl sizeOf25 rfl rfl
theorem HB:ba prog 28 1 2:=ba.of underlying28 rfl sizeOf26 rfl rfl
theorem wT:cR prog 30 true:=⟨isAgg30⟩
theorem xa:Sz prog 30 2:=⟨sizeOf30⟩
theorem HC:ba prog 30 0 0:=ba.of underlying30 rfl sizeOf9 rfl rfl
theorem HD:ba prog 30 1 1:=ba.of underlying30 rfl sizeOf9 rfl rfl
theorem IG:fb prog 30 [(0,1),(1,1)] [.string {data:=#[]},.string {data:=#[]}]:=⟨_,underlying30,zeroValue30,λw=>by simp[sizeOf9]⟩
theorem JX:bS prog 31 (.pointer 117):=⟨underlying31⟩
theorem JZ:bS prog 32 (.pointer 121):=⟨underlying32⟩
theorem Cu:cR prog 32 false:=⟨isAgg32⟩
theorem J0:bS prog 39 (.slice 42):=⟨underlying39⟩
theorem Cv:cR prog 39 false:=⟨isAgg39⟩
theorem Jc:Sz prog 39 1:=⟨sizeOf39⟩
theorem J1:bS prog 40 (.slice 9):=⟨underlying40⟩
theorem Cx:cR prog 40 false:=⟨isAgg40⟩
theorem Je:Sz prog 40 1:=⟨sizeOf40⟩
theorem Cy:cR prog 42 true:=⟨isAgg42⟩
theorem Jf:Sz prog 42 6:=⟨sizeOf42⟩
theorem C6:By prog 42 88:=⟨λw=>⟨_,typeInfo42 w,rfl⟩⟩
theorem KC:Zr prog 42 (.agg [.int .i64 0,.bool false,.int .i64 0,.string {data:=#[]},sZ,sZ].toArray):=⟨zeroValue42⟩
theorem HE:ba prog 42 0 0:=ba.of underlying42 rfl sizeOf3 rfl rfl
theorem HF:ba prog 42 1 1:=ba.of underlying42 rfl sizeOf4 rfl rfl
theorem HG:ba prog 42 2 2:=ba.of underlying42 rfl sizeOf2 rfl rfl
theorem HH:ba prog 42 3 3:=ba.of underlying42 rfl sizeOf9 rfl rfl
theorem HJ:ba prog 42 4 4:=ba.of underlying42 rfl sizeOf39 rfl rfl
theorem HK:ba prog 42 5 5:=ba.of underlying42 rfl sizeOf40 rfl rfl
theorem IH:fb prog 42 [(0,1),(1,1),(2,1),(3,1),(4,1),(5,1)] [.int .i64 0,.bool false,.int .i64 0,.string {data:=#[]},sZ,sZ]:=⟨_,underlying42,zeroValue42,λw=>by simp[sizeOf2,sizeOf3,sizeOf39,sizeOf4,sizeOf40,sizeOf9]⟩
theorem J2:bS prog 46 (.slice 142):=⟨underlying46⟩
theorem Cz:cR prog 46 false:=⟨isAgg46⟩
theorem Jg:Sz prog 46 1:=⟨sizeOf46⟩
theorem J3:bS prog 47 (.int .u64):=⟨underlying47⟩
theorem CA:cR prog 47 false:=⟨isAgg47⟩
theorem Jh:Sz prog 47 1:=⟨sizeOf47⟩
theorem HL:ba prog 49 0 0:=ba.of underlying49 rfl sizeOf46 rfl rfl
theorem HM:ba prog 49 1 1:=ba.of underlying49 rfl sizeOf47 rfl rfl
theorem II:fb prog 49 [(0,1),(1,1),(2,1)] [sZ,.int .u64 0,.int .u64 0]:=⟨_,underlying49,zeroValue49,λw=>by simp[sizeOf46,sizeOf47]⟩
theorem J5:bS prog 57 (.slice 113):=⟨underlying57⟩
theorem CC:cR prog 57 false:=⟨isAgg57⟩
theorem Jj:Sz prog 57 1:=⟨sizeOf57⟩
theorem J6:bS prog 64 (.slice 132):=⟨underlying64⟩
theorem CD:cR prog 64 false:=⟨isAgg64⟩
theorem Jk:Sz prog 64 1:=⟨sizeOf64⟩
theorem J7:bS prog 65 (.slice 134):=⟨underlying65⟩
theorem CE:cR prog 65 false:=⟨isAgg65⟩
theorem Jl:Sz prog 65 1:=⟨sizeOf65⟩
theorem CF:cR prog 67 true:=⟨isAgg67⟩
theorem Jm:Sz prog 67 7:=⟨sizeOf67⟩
theorem HN:ba prog 67 0 0:=ba.of underlying67 rfl sizeOf9 rfl rfl
theorem HO:ba prog 67 1 1:=ba.of underlying67 rfl sizeOf9 rfl rfl
theorem HP:ba prog 67 2 2:=ba.of underlying67 rfl sizeOf9 rfl rfl
theorem HQ:ba prog 67 3 3:=ba.of underlying67 rfl sizeOf9 rfl rfl
theorem HR:ba prog 67 4 4:=ba.of underlying67 rfl sizeOf30 rfl rfl
theorem HS:ba prog 67 5 6:=ba.of underlying67 rfl sizeOf9 rfl rfl
theorem IJ:fb prog 67 [(0,1),(1,1),(2,1),(3,1),(4,2),(6,1)] [.string {data:=#[]},.string {data:=#[]},.string {data:=#[]},.string {data:=#[]},.string {data:=#[]},.string {data:=#[]},.string {data:=#[]}]:=⟨_,underlying67,zeroValue67,λw=>by simp[sizeOf30,sizeOf9]⟩
theorem CG:cR prog 69 true:=⟨isAgg69⟩
theorem Jn:Sz prog 69 12:=⟨sizeOf69⟩
theorem C8:By prog 69 200:=⟨λw=>⟨_,typeInfo69 w,rfl⟩⟩
theorem KE:Zr prog 69 (.agg [.int .i64 0,sZ,sZ,sZ,.string {data:=#[]},.string {data:=#[]},.string {data:=#[]},.string {data:=#[]},.string {data:=#[]},.string {data:=#[]},.string {data:=#[]},.int .u64 0].toArray):=⟨zeroValue69⟩
theorem HT:ba prog 69 0 0:=ba.of underlying69 rfl sizeOf3 rfl rfl
theorem HU:ba prog 69 1 1:=ba.of underlying69 rfl sizeOf64 rfl rfl
theorem HW:ba prog 69 2 2:=ba.of underlying69 rfl sizeOf64 rfl rfl
theorem HX:ba prog 69 3 3:=ba.of underlying69 rfl sizeOf65 rfl rfl
theorem J8:bS prog 75 (.slice 204):=⟨underlying75⟩
theorem CH:cR prog 75 false:=⟨isAgg75⟩
theorem Jo:Sz prog 75 1:=⟨sizeOf75⟩
theorem CI:cR prog 77 true:=⟨isAgg77⟩
theorem Jp:Sz prog 77 8:=⟨sizeOf77⟩
theorem C9:By prog 77 136:=⟨λw=>⟨_,typeInfo77 w,rfl⟩⟩
theorem KF:Zr prog 77 (.agg [.string {data:=#[]},.string {data:=#[]},.string {data:=#[]},.bool false,sZ,sZ,sZ,.int .i64 0].toArray):=⟨zeroValue77⟩
theorem HY:ba prog 77 0 0:=ba.of underlying77 rfl sizeOf30 rfl rfl
theorem HZ:ba prog 77 1 2:=ba.of underlying77 rfl sizeOf9 rfl rfl
theorem H3:ba prog 77 2 3:=ba.of underlying77 rfl sizeOf4 rfl rfl
theorem H4:ba prog 77 3 4:=ba.of underlying77 rfl sizeOf75 rfl rfl
theorem H5:ba prog 77 4 5:=ba.of underlying77 rfl sizeOf40 rfl rfl
theorem H6:ba prog 77 5 6:=ba.of underlying77 rfl sizeOf57 rfl rfl
theorem IK:fb prog 77 [(0,2),(2,1),(3,1),(4,1),(5,1),(6,1),(7,1)] [.string {data:=#[]},.string {data:=#[]},.string {data:=#[]},.bool false,sZ,sZ,sZ,.int .i64 0]:=⟨_,underlying77,zeroValue77,λw=>by simp[sizeOf3,sizeOf30,sizeOf4,sizeOf40,sizeOf57,sizeOf75,sizeOf9]⟩
theorem J9:bS prog 78 (.slice 77):=⟨underlying78⟩
theorem CJ:cR prog 78 false:=⟨isAgg78⟩
theorem Jq:Sz prog 78 1:=⟨sizeOf78⟩
theorem CL:cR prog 80 true:=⟨isAgg80⟩
theorem Jr:Sz prog 80 2:=⟨sizeOf80⟩
theorem KG:Zr prog 80 (.agg [sZ,.int .i64 0].toArray):=⟨zeroValue80⟩
theorem H7:ba prog 80 0 0:=ba.of underlying80 rfl sizeOf78 rfl rfl
theorem H8:ba prog 80 1 1:=ba.of underlying80 rfl sizeOf3 rfl rfl
theorem IL:fb prog 80 [(0,1),(1,1)] [sZ,.int .i64 0]:=⟨_,underlying80,zeroValue80,λw=>by simp[sizeOf3,sizeOf78]⟩
theorem Ka:bS prog 83 (.pointer 86):=⟨underlying83⟩
theorem CM:cR prog 83 false:=⟨isAgg83⟩
theorem Js:Sz prog 83 1:=⟨sizeOf83⟩
theorem Kb:bS prog 84 (.slice 5):=⟨underlying84⟩
theorem CN:cR prog 84 false:=⟨isAgg84⟩
theorem Jt:Sz prog 84 1:=⟨sizeOf84⟩
theorem KH:Zr prog 86 (.agg [.pointer none,sZ].toArray):=⟨zeroValue86⟩
theorem H9:ba prog 86 0 0:=ba.of underlying86 rfl sizeOf83 rfl rfl
theorem Ia:ba prog 86 1 1:=ba.of underlying86 rfl sizeOf84 rfl rfl
theorem KI:Zr prog 88 (.agg [.pointer none,sZ].toArray):=⟨zeroValue88⟩
theorem Ib:ba prog 88 0 0:=ba.of underlying88 rfl sizeOf86 rfl rfl
theorem Ic:ba prog 95 0 0:=ba.of underlying95 rfl sizeOf9 rfl rfl
theorem Ie:ba prog 95 1 1:=ba.of underlying95 rfl sizeOf3 rfl rfl
theorem Ig:ba prog 95 2 2:=ba.of underlying95 rfl sizeOf4 rfl rfl
theorem IM:fb prog 95 [(0,1),(1,1),(2,1)] [.string {data:=#[]},.int .i64 0,.bool false]:=⟨_,underlying95,zeroValue95,λw=>by simp[sizeOf3,sizeOf4,sizeOf9]⟩
theorem Kc:bS prog 99 (.slice 104):=⟨underlying99⟩
theorem CO:cR prog 99 false:=⟨isAgg99⟩
theorem Jv:Sz prog 99 1:=⟨sizeOf99⟩
theorem B2:cR prog 101 true:=⟨isAgg101⟩
theorem IN:Sz prog 101 2:=⟨sizeOf101⟩
theorem CP:By prog 101 40:=⟨λw=>⟨_,typeInfo101 w,rfl⟩⟩
theorem Kd:Zr prog 101 (.agg [.string {data:=#[]},sZ].toArray):=⟨zeroValue101⟩
theorem Gv:ba prog 101 0 0:=ba.of underlying101 rfl sizeOf9 rfl rfl
theorem Gw:ba prog 101 1 1:=ba.of underlying101 rfl sizeOf99 rfl rfl
theorem Ik:fb prog 101 [(0,1),(1,1)] [.string {data:=#[]},sZ]:=⟨_,underlying101,zeroValue101,λw=>by simp[sizeOf9,sizeOf99]⟩
theorem Jw:bS prog 102 (.slice 186):=⟨underlying102⟩
theorem wM:cR prog 102 false:=⟨isAgg102⟩
theorem IP:Sz prog 102 1:=⟨sizeOf102⟩
theorem B3:cR prog 104 true:=⟨isAgg104⟩
theorem IQ:Sz prog 104 3:=⟨sizeOf104⟩
theorem CQ:By prog 104 64:=⟨λw=>⟨_,typeInfo104 w,rfl⟩⟩
theorem Ke:Zr prog 104 (.agg [.string {data:=#[]},sZ,sZ].toArray):=⟨zeroValue104⟩
theorem Gx:ba prog 104 0 0:=ba.of underlying104 rfl sizeOf9 rfl rfl
theorem Gy:ba prog 104 1 1:=ba.of underlying104 rfl sizeOf102 rfl rfl
theorem Gz:ba prog 104 2 2:=ba.of underlying104 rfl sizeOf75 rfl rfl
theorem Il:fb prog 104 [(0,1),(1,1),(2,1)] [.string {data:=#[]},sZ,sZ]:=⟨_,underlying104,zeroValue104,λw=>by simp[sizeOf102,sizeOf75,sizeOf9]⟩
theorem B4:cR prog 106 true:=⟨isAgg106⟩
theorem IR:Sz prog 106 4:=⟨sizeOf106⟩
theorem CR:By prog 106 64:=⟨λw=>⟨_,typeInfo106 w,rfl⟩⟩
theorem Kf:Zr prog 106 (.agg [.string {data:=#[]},.string {data:=#[]},.string {data:=#[]},.string {data:=#[]}].toArray):=⟨zeroValue106⟩
theorem GA:ba prog 106 0 0:=ba.of underlying106 rfl sizeOf9 rfl rfl
theorem GB:ba prog 106 1 1:=ba.of underlying106 rfl sizeOf30 rfl rfl
theorem GC:ba prog 106 2 3:=ba.of underlying106 rfl sizeOf9 rfl rfl
theorem Jx:bS prog 108 (.slice 192):=⟨underlying108⟩
theorem Jy:bS prog 111 (.slice 189):=⟨underlying111⟩
theorem Jz:bS prog 113 (.slice 3):=⟨underlying113⟩
theorem B5:cR prog 113 false:=⟨isAgg113⟩
theorem IS:Sz prog 113 1:=⟨sizeOf113⟩
theorem CS:By prog 113 24:=⟨λw=>⟨_,typeInfo113 w,rfl⟩⟩
theorem Kg:Zr prog 113 (sZ):=⟨zeroValue113⟩
theorem JA:bS prog 115 (.slice 125):=⟨underlying115⟩
theorem B6:cR prog 115 false:=⟨isAgg115⟩
theorem IT:Sz prog 115 1:=⟨sizeOf115⟩
theorem GD:ba prog 117 0 0:=ba.of underlying117 rfl sizeOf4 rfl rfl
theorem GF:ba prog 117 1 1:=ba.of underlying117 rfl sizeOf115 rfl rfl
theorem GG:ba prog 117 2 2:=ba.of underlying117 rfl sizeOf3 rfl rfl
theorem Im:fb prog 117 [(0,1),(1,1),(2,1)] [.bool false,sZ,.int .i64 0]:=⟨_,underlying117,zeroValue117,λw=>by simp[sizeOf115,sizeOf3,sizeOf4]⟩
theorem JB:bS prog 118 (.map 212 214):=⟨underlying118⟩
theorem B7:cR prog 118 false:=⟨isAgg118⟩
theorem JC:bS prog 119 (.map 130 214):=⟨underlying119⟩
theorem B8:cR prog 119 false:=⟨isAgg119⟩
theorem GH:ba prog 121 0 0:=ba.of underlying121 rfl sizeOf4 rfl rfl
theorem GI:ba prog 121 1 1:=ba.of underlying121 rfl sizeOf47 rfl rfl
theorem GJ:ba prog 121 2 2:=ba.of underlying121 rfl sizeOf47 rfl rfl
theorem GK:ba prog 121 3 3:=ba.of underlying121 rfl sizeOf3 rfl rfl
theorem GL:ba prog 121 4 4:=ba.of underlying121 rfl sizeOf118 rfl rfl
theorem GM:ba prog 121 5 5:=ba.of underlying121 rfl sizeOf119 rfl rfl
theorem Io:fb prog 121 [(0,1),(1,1),(2,1),(3,1),(4,1),(5,1)] [.bool false,.int .u64 0,.int .u64 0,.int .i64 0,.map none,.map none]:=⟨_,underlying121,zeroValue121,λw=>by simp[sizeOf118,sizeOf119,sizeOf3,sizeOf4,sizeOf47]⟩
theorem GN:ba prog 123 0 0:=ba.of underlying123 rfl sizeOf47 rfl rfl
theorem GO:ba prog 123 1 1:=ba.of underlying123 rfl sizeOf25 rfl rfl
theorem Ip:fb prog 123 [(0,1),(1,2)] [.int .u64 0,sZ,sZ]:=⟨_,underlying123,zeroValue123,λw=>by simp[sizeOf25,sizeOf47]⟩
theorem B9:cR prog 125 true:=⟨isAgg125⟩
theorem IU:Sz prog 125 4:=⟨sizeOf125⟩
theorem CT:By prog 125 80:=⟨λw=>⟨_,typeInfo125 w,rfl⟩⟩
theorem Kh:Zr prog 125 (.agg [.int .u64 0,sZ,sZ,sZ].toArray):=⟨zeroValue125⟩
theorem GP:ba prog 125 0 0:=ba.of underlying125 rfl sizeOf123 rfl rfl
theorem GQ:ba prog 125 1 3:=ba.of underlying125 rfl sizeOf57 rfl rfl
theorem Iq:fb prog 125 [(0,3),(3,1)] [.int .u64 0,sZ,sZ,sZ]:=⟨_,underlying125,zeroValue125,λw=>by simp[sizeOf123,sizeOf57]⟩
theorem wN:cR prog 130 true:=⟨isAgg130⟩
theorem wY:Sz prog 130 4:=⟨sizeOf130⟩
theorem CU:By prog 130 64:=⟨λw=>⟨_,typeInfo130 w,rfl⟩⟩
theorem Ki:Zr prog 130 (.agg [.string {data:=#[]},.string {data:=#[]},.string {data:=#[]},.string {data:=#[]}].toArray):=⟨zeroValue130⟩
theorem GR:ba prog 130 0 0:=ba.of underlying130 rfl sizeOf9 rfl rfl
theorem GS:ba prog 130 1 1:=ba.of underlying130 rfl sizeOf30 rfl rfl
theorem GU:ba prog 130 2 3:=ba.of underlying130 rfl sizeOf9 rfl rfl
theorem Ir:fb prog 130 [(0,1),(1,2),(3,1)] [.string {data:=#[]},.string {data:=#[]},.string {data:=#[]},.string {data:=#[]}]:=⟨_,underlying130,zeroValue130,λw=>by simp[sizeOf30,sizeOf9]⟩
theorem wO:cR prog 132 true:=⟨isAgg132⟩
theorem wZ:Sz prog 132 7:=⟨sizeOf132⟩
theorem CV:By prog 132 112:=⟨λw=>⟨_,typeInfo132 w,rfl⟩⟩
theorem Kj:Zr prog 132 (.agg [.string {data:=#[]},.string {data:=#[]},.string {data:=#[]},.string {data:=#[]},.string {data:=#[]},.string {data:=#[]},.string {data:=#[]}].toArray):=⟨zeroValue132⟩
theorem GV:ba prog 132 0 0:=ba.of underlying132 rfl sizeOf30 rfl rfl
theorem GW:ba prog 132 1 2:=ba.of underlying132 rfl sizeOf9 rfl rfl
theorem GX:ba prog 132 2 3:=ba.of underlying132 rfl sizeOf130 rfl rfl
theorem Is:fb prog 132 [(0,2),(2,1),(3,4)] [.string {data:=#[]},.string {data:=#[]},.string {data:=#[]},.string {data:=#[]},.string {data:=#[]},.string {data:=#[]},.string {data:=#[]}]:=⟨_,underlying132,zeroValue132,λw=>by simp[sizeOf130,sizeOf30,sizeOf9]⟩
theorem Ca:cR prog 134 true:=⟨isAgg134⟩
theorem IV:Sz prog 134 8:=⟨sizeOf134⟩
theorem Kk:Zr prog 134 (.agg [.bool false,.string {data:=#[]},.string {data:=#[]},.string {data:=#[]},.string {data:=#[]},.string {data:=#[]},.string {data:=#[]},.string {data:=#[]}].toArray):=⟨zeroValue134⟩
theorem GY:ba prog 134 0 0:=ba.of underlying134 rfl sizeOf4 rfl rfl
theorem GZ:ba prog 134 1 1:=ba.of underlying134 rfl sizeOf132 rfl rfl
theorem Cb:cR prog 137 true:=⟨isAgg137⟩
theorem IW:Sz prog 137 9:=⟨sizeOf137⟩
theorem G0:ba prog 137 0 0:=ba.of underlying137 rfl sizeOf132 rfl rfl
theorem G1:ba prog 137 1 7:=ba.of underlying137 rfl sizeOf47 rfl rfl
theorem G2:ba prog 137 2 8:=ba.of underlying137 rfl sizeOf47 rfl rfl
theorem Iu:fb prog 137 [(0,7),(7,1),(8,1)] [.string {data:=#[]},.string {data:=#[]},.string {data:=#[]},.string {data:=#[]},.string {data:=#[]},.string {data:=#[]},.string {data:=#[]},.int .u64 0,.int .u64 0]:=⟨_,underlying137,zeroValue137,λw=>by simp[sizeOf132,sizeOf47]⟩
theorem JD:bS prog 138 (.pointer 137):=⟨underlying138⟩
theorem Cc:cR prog 138 false:=⟨isAgg138⟩
theorem IY:Sz prog 138 1:=⟨sizeOf138⟩
theorem CW:By prog 138 8:=⟨λw=>⟨_,typeInfo138 w,rfl⟩⟩
theorem Kl:Zr prog 138 (.pointer none):=⟨zeroValue138⟩
theorem Cd:cR prog 142 true:=⟨isAgg142⟩
theorem IZ:Sz prog 142 9:=⟨sizeOf142⟩
theorem CX:By prog 142 128:=⟨λw=>⟨_,typeInfo142 w,rfl⟩⟩
theorem Km:Zr prog 142 (.agg [.string {data:=#[]},.string {data:=#[]},.string {data:=#[]},.string {data:=#[]},.string {data:=#[]},.string {data:=#[]},.string {data:=#[]},.int .u64 0,.int .u64 0].toArray):=⟨zeroValue142⟩
theorem G3:ba prog 142 0 0:=ba.of underlying142 rfl sizeOf132 rfl rfl
theorem G4:ba prog 142 1 7:=ba.of underlying142 rfl sizeOf47 rfl rfl
theorem G5:ba prog 142 2 8:=ba.of underlying142 rfl sizeOf47 rfl rfl
theorem Iv:fb prog 142 [(0,7),(7,1),(8,1)] [.string {data:=#[]},.string {data:=#[]},.string {data:=#[]},.string {data:=#[]},.string {data:=#[]},.string {data:=#[]},.string {data:=#[]},.int .u64 0,.int .u64 0]:=⟨_,underlying142,zeroValue142,λw=>by simp[sizeOf132,sizeOf47]⟩
theorem Kn:Zr prog 146 (.agg [.int .i64 0,.bool false,.int .i64 0,.string {data:=#[]},sZ,sZ].toArray):=⟨zeroValue146⟩
theorem G6:ba prog 146 0 0:=ba.of underlying146 rfl sizeOf42 rfl rfl
theorem JE:bS prog 155 (.map 186 3):=⟨underlying155⟩
theorem Ce:cR prog 155 false:=⟨isAgg155⟩
theorem JF:bS prog 158 (.map 227 3):=⟨underlying158⟩
theorem Cg:cR prog 158 false:=⟨isAgg158⟩
theorem G7:ba prog 160 0 0:=ba.of underlying160 rfl sizeOf25 rfl rfl
theorem G8:ba prog 160 1 2:=ba.of underlying160 rfl sizeOf155 rfl rfl
theorem G9:ba prog 160 2 3:=ba.of underlying160 rfl sizeOf32 rfl rfl
theorem Ha:ba prog 160 3 4:=ba.of underlying160 rfl sizeOf47 rfl rfl
theorem Hb:ba prog 160 4 5:=ba.of underlying160 rfl sizeOf158 rfl rfl
theorem Hc:ba prog 160 5 6:=ba.of underlying160 rfl sizeOf80 rfl rfl
theorem Hd:ba prog 160 6 8:=ba.of underlying160 rfl sizeOf3 rfl rfl
theorem Iw:fb prog 160 [(0,2),(2,1),(3,1),(4,1),(5,1),(6,2),(8,1)] [sZ,sZ,.map none,.pointer none,.int .u64 0,.map none,sZ,.int .i64 0,.int .i64 0]:=⟨_,underlying160,zeroValue160,λw=>by simp[sizeOf155,sizeOf158,sizeOf25,sizeOf3,sizeOf32,sizeOf47,sizeOf80]⟩
theorem JG:bS prog 172 (.pointer 5):=⟨underlying172⟩
theorem JH:bS prog 181 (.int .u64):=⟨underlying181⟩
theorem wP:cR prog 186 true:=⟨isAgg186⟩
theorem w5:Sz prog 186 2:=⟨sizeOf186⟩
theorem CY:By prog 186 32:=⟨λw=>⟨_,typeInfo186 w,rfl⟩⟩
theorem Ko:Zr prog 186 (.agg [.string {data:=#[]},.string {data:=#[]}].toArray):=⟨zeroValue186⟩
theorem He:ba prog 186 0 0:=ba.of underlying186 rfl sizeOf9 rfl rfl
theorem Hf:ba prog 186 1 1:=ba.of underlying186 rfl sizeOf9 rfl rfl
theorem Ix:fb prog 186 [(0,1),(1,1)] [.string {data:=#[]},.string {data:=#[]}]:=⟨_,underlying186,zeroValue186,λw=>by simp[sizeOf9]⟩
theorem I0:Sz prog 189 4:=⟨sizeOf189⟩
theorem CZ:By prog 189 80:=⟨λw=>⟨_,typeInfo189 w,rfl⟩⟩
theorem Kp:Zr prog 189 (.agg [.string {data:=#[]},.string {data:=#[]},sZ,sZ].toArray):=⟨zeroValue189⟩
theorem Hg:ba prog 189 0 0:=ba.of underlying189 rfl sizeOf9 rfl rfl
theorem Hh:ba prog 189 1 1:=ba.of underlying189 rfl sizeOf104 rfl rfl
theorem Iy:fb prog 189 [(0,1),(1,3)] [.string {data:=#[]},.string {data:=#[]},sZ,sZ]:=⟨_,underlying189,zeroValue189,λw=>by simp[sizeOf104,sizeOf9]⟩
theorem Ch:cR prog 192 true:=⟨isAgg192⟩
theorem I1:Sz prog 192 3:=⟨sizeOf192⟩
theorem C0:By prog 192 24:=⟨λw=>⟨_,typeInfo192 w,rfl⟩⟩
theorem Kq:Zr prog 192 (.agg [.int .i64 0,.int .i64 0,.bool false].toArray):=⟨zeroValue192⟩
theorem Hi:ba prog 192 0 0:=ba.of underlying192 rfl sizeOf3 rfl rfl
theorem Hj:ba prog 192 1 1:=ba.of underlying192 rfl sizeOf3 rfl rfl
theorem Hk:ba prog 192 2 2:=ba.of underlying192 rfl sizeOf4 rfl rfl
theorem Iz:fb prog 192 [(0,1),(1,1),(2,1)] [.int .i64 0,.int .i64 0,.bool false]:=⟨_,underlying192,zeroValue192,λw=>by simp[sizeOf3,sizeOf4]⟩
theorem JI:bS prog 196 (.slice 259):=⟨underlying196⟩
theorem Cj:cR prog 204 true:=⟨isAgg204⟩
theorem I2:Sz prog 204 5:=⟨sizeOf204⟩
theorem C1:By prog 204 56:=⟨λw=>⟨_,typeInfo204 w,rfl⟩⟩
theorem Kr:Zr prog 204 (.agg [.int .i64 0,.string {data:=#[]},.string {data:=#[]},.int .i64 0,.int .i64 0].toArray):=⟨zeroValue204⟩
theorem Hl:ba prog 204 0 0:=ba.of underlying204 rfl sizeOf3 rfl rfl
theorem Hm:ba prog 204 1 1:=ba.of underlying204 rfl sizeOf9 rfl rfl
theorem Hn:ba prog 204 2 2:=ba.of underlying204 rfl sizeOf9 rfl rfl
theorem Hp:ba prog 204 3 3:=ba.of underlying204 rfl sizeOf3 rfl rfl
theorem Hq:ba prog 204 4 4:=ba.of underlying204 rfl sizeOf3 rfl rfl
theorem Ck:cR prog 207 false:=⟨isAgg207⟩
theorem I3:Sz prog 207 1:=⟨sizeOf207⟩
theorem Ks:Zr prog 207 (.nilFunc):=⟨zeroValue207⟩
theorem JK:bS prog 208 (.map 132 4):=⟨underlying208⟩
theorem wQ:cR prog 212 true:=⟨isAgg212⟩
theorem w8:Sz prog 212 3:=⟨sizeOf212⟩
theorem Kt:Zr prog 212 (.agg [.string {data:=#[]},.string {data:=#[]},.string {data:=#[]}].toArray):=⟨zeroValue212⟩
theorem IA:fb prog 212 [(0,2),(2,1)] [.string {data:=#[]},.string {data:=#[]},.string {data:=#[]}]:=⟨_,underlying212,zeroValue212,λw=>by simp[sizeOf30,sizeOf9]⟩
theorem JL:bS prog 214 (.slice 138):=⟨underlying214⟩
theorem Ku:Zr prog 214 (sZ):=⟨zeroValue214⟩
theorem wR:cR prog 227 true:=⟨isAgg227⟩
theorem w9:Sz prog 227 3:=⟨sizeOf227⟩
theorem Kv:Zr prog 227 (.agg [.string {data:=#[]},.string {data:=#[]},.string {data:=#[]}].toArray):=⟨zeroValue227⟩
theorem IB:fb prog 227 [(0,2),(2,1)] [.string {data:=#[]},.string {data:=#[]},.string {data:=#[]}]:=⟨_,underlying227,zeroValue227,λw=>by simp[sizeOf30,sizeOf9]⟩
theorem JO:bS prog 231 (.slice 130):=⟨underlying231⟩
theorem JQ:bS prog 234 (.map 3 4):=⟨underlying234⟩
theorem JR:bS prog 237 (.map 9 4):=⟨underlying237⟩
theorem JS:bS prog 251 (.map 186 255):=⟨underlying251⟩
theorem Co:cR prog 251 false:=⟨isAgg251⟩
theorem Hr:ba prog 253 0 0:=ba.of underlying253 rfl sizeOf25 rfl rfl
theorem Hs:ba prog 253 1 2:=ba.of underlying253 rfl sizeOf251 rfl rfl
theorem ID:fb prog 253 [(0,2),(2,1)] [sZ,sZ,.map none]:=⟨_,underlying253,zeroValue253,λw=>by simp[sizeOf25,sizeOf251]⟩
theorem Cp:cR prog 255 true:=⟨isAgg255⟩
theorem I7:Sz prog 255 2:=⟨sizeOf255⟩
theorem C2:By prog 255 16:=⟨λw=>⟨_,typeInfo255 w,rfl⟩⟩
theorem Kx:Zr prog 255 (.agg [.int .i64 0,.int .i64 0].toArray):=⟨zeroValue255⟩
theorem Ht:ba prog 255 0 0:=ba.of underlying255 rfl sizeOf3 rfl rfl
theorem Hu:ba prog 255 1 1:=ba.of underlying255 rfl sizeOf3 rfl rfl
theorem IE:fb prog 255 [(0,1),(1,1)] [.int .i64 0,.int .i64 0]:=⟨_,underlying255,zeroValue255,λw=>by simp[sizeOf3]⟩
theorem Cq:cR prog 259 true:=⟨isAgg259⟩
theorem I8:Sz prog 259 5:=⟨sizeOf259⟩
theorem C3:By prog 259 40:=⟨λw=>⟨_,typeInfo259 w,rfl⟩⟩
theorem Ky:Zr prog 259 (.agg [.int .i64 0,.int .i64 0,.int .i64 0,.int .i64 0,.bool false].toArray):=⟨zeroValue259⟩
theorem Hv:ba prog 259 0 0:=ba.of underlying259 rfl sizeOf255 rfl rfl
theorem Hw:ba prog 259 1 2:=ba.of underlying259 rfl sizeOf255 rfl rfl
theorem Hx:ba prog 259 2 4:=ba.of underlying259 rfl sizeOf4 rfl rfl
theorem IF:fb prog 259 [(0,2),(2,2),(4,1)] [.int .i64 0,.int .i64 0,.int .i64 0,.int .i64 0,.bool false]:=⟨_,underlying259,zeroValue259,λw=>by simp[sizeOf255,sizeOf4]⟩
theorem JU:bS prog 287 (.slice 4):=⟨underlying287⟩
theorem JW:bS prog 289 (.slice 255):=⟨underlying289⟩
theorem JY:bS prog 317 (.int .u64):=⟨underlying317⟩
theorem Ct:cR prog 317 false:=⟨isAgg317⟩
theorem Jb:Sz prog 317 1:=⟨sizeOf317⟩
theorem KA:Zr prog 317 (.int .u64 0):=⟨zeroValue317⟩
theorem lL:fp prog 9 1 [.s] false:=fp.str oq te
theorem py:fp prog 30 2 [.s,.s] true:=fp.struct (n:=1) underlying30 stoodInHeld30 wT xa (eV.more lL (eV.more lL eV.nil))
theorem tf:fp prog 130 3 [.s,.s,.s,.s] true:=fp.struct (n:=2) underlying130 stoodInHeld130 wN wY (eV.more lL (eV.more py (eV.more lL eV.nil)))
theorem Ih:qp prog 130:=⟨eqGuardType130⟩
theorem wU:fp prog 132 4 [.s,.s,.s,.s,.s,.s,.s] true:=fp.struct (n:=3) underlying132 stoodInHeld132 wO wZ (eV.more py (eV.more lL (eV.more tf eV.nil)))
theorem Ii:qp prog 132:=⟨eqGuardType132⟩
theorem wV:fp prog 186 2 [.s,.s] true:=fp.struct (n:=1) underlying186 stoodInHeld186 wP w5 (eV.more lL (eV.more lL eV.nil))
theorem Ij:qp prog 186:=⟨eqGuardType186⟩
theorem wW:fp prog 212 3 [.s,.s,.s] true:=fp.struct (n:=2) underlying212 stoodInHeld212 wQ w8 (eV.more py (eV.more lL eV.nil))
theorem wX:fp prog 227 3 [.s,.s,.s] true:=fp.struct (n:=2) underlying227 stoodInHeld227 wR w9 (eV.more py (eV.more lL eV.nil))
theorem Fo:aT prog 4:=⟨call4⟩
theorem FB:aT prog 5:=⟨call5⟩
theorem FM:aT prog 6:=⟨call6⟩
theorem FY:aT prog 7:=⟨call7⟩
theorem F8:aT prog 8:=⟨call8⟩
theorem Gj:aT prog 9:=⟨call9⟩
theorem Db:aT prog 10:=⟨call10⟩
theorem Dn:aT prog 11:=⟨call11⟩
theorem Dy:aT prog 12:=⟨call12⟩
theorem DK:aT prog 13:=⟨call13⟩
theorem DY:aT prog 14:=⟨call14⟩
theorem D6:aT prog 15:=⟨call15⟩
theorem Ef:aT prog 16:=⟨call16⟩
theorem Er:aT prog 17:=⟨call17⟩
theorem EF:aT prog 18:=⟨call18⟩
theorem EL:aT prog 19:=⟨call19⟩
theorem EQ:aT prog 20:=⟨call20⟩
theorem EZ:aT prog 21:=⟨call21⟩
theorem E2:aT prog 22:=⟨call22⟩
theorem E3:aT prog 23:=⟨call23⟩
theorem E6:aT prog 24:=⟨call24⟩
theorem E7:aT prog 25:=⟨call25⟩
theorem E8:aT prog 26:=⟨call26⟩
theorem E9:aT prog 27:=⟨call27⟩
theorem Fa:aT prog 28:=⟨call28⟩
theorem Fb:aT prog 29:=⟨call29⟩
theorem Fc:aT prog 30:=⟨call30⟩
theorem Fe:aT prog 31:=⟨call31⟩
theorem Ff:aT prog 32:=⟨call32⟩
theorem Fg:aT prog 33:=⟨call33⟩
theorem Fh:aT prog 34:=⟨call34⟩
theorem Fi:aT prog 35:=⟨call35⟩
theorem Fj:aT prog 36:=⟨call36⟩
theorem Fk:aT prog 37:=⟨call37⟩
theorem Fl:aT prog 38:=⟨call38⟩
theorem Fm:aT prog 39:=⟨call39⟩
theorem Fp:aT prog 40:=⟨call40⟩
theorem Fq:aT prog 41:=⟨call41⟩
theorem Ft:aT prog 42:=⟨call42⟩
theorem Fu:aT prog 43:=⟨call43⟩
theorem Fv:aT prog 44:=⟨call44⟩
theorem Fw:aT prog 45:=⟨call45⟩
theorem Fx:aT prog 46:=⟨call46⟩
theorem Fy:aT prog 47:=⟨call47⟩
theorem Fz:aT prog 48:=⟨call48⟩
theorem FA:aT prog 49:=⟨call49⟩
theorem FC:aT prog 50:=⟨call50⟩
theorem FD:aT prog 51:=⟨call51⟩
theorem FE:aT prog 52:=⟨call52⟩
theorem FF:aT prog 53:=⟨call53⟩
theorem FG:aT prog 54:=⟨call54⟩
theorem FH:aT prog 55:=⟨call55⟩
theorem FI:aT prog 56:=⟨call56⟩
theorem FJ:aT prog 57:=⟨call57⟩
theorem FK:aT prog 58:=⟨call58⟩
theorem FL:aT prog 59:=⟨call59⟩
theorem FN:aT prog 60:=⟨call60⟩
theorem FO:aT prog 61:=⟨call61⟩
theorem FP:aT prog 62:=⟨call62⟩
theorem FQ:aT prog 63:=⟨call63⟩
theorem FR:aT prog 64:=⟨call64⟩
theorem FT:aT prog 65:=⟨call65⟩
theorem FU:aT prog 66:=⟨call66⟩
theorem FV:aT prog 67:=⟨call67⟩
theorem FW:aT prog 68:=⟨call68⟩
theorem FX:aT prog 69:=⟨call69⟩
theorem FZ:aT prog 70:=⟨call70⟩
theorem F0:aT prog 72:=⟨call72⟩
theorem F1:aT prog 73:=⟨call73⟩
theorem F2:aT prog 74:=⟨call74⟩
theorem F3:aT prog 75:=⟨call75⟩
theorem F4:aT prog 76:=⟨call76⟩
theorem F5:aT prog 77:=⟨call77⟩
theorem F6:aT prog 78:=⟨call78⟩
theorem F7:aT prog 79:=⟨call79⟩
theorem F9:aT prog 80:=⟨call80⟩
theorem Ga:aT prog 81:=⟨call81⟩
theorem Gb:aT prog 82:=⟨call82⟩
theorem Gc:aT prog 83:=⟨call83⟩
theorem Gd:aT prog 84:=⟨call84⟩
theorem Ge:aT prog 85:=⟨call85⟩
theorem Gf:aT prog 86:=⟨call86⟩
theorem Gg:aT prog 87:=⟨call87⟩
theorem Gh:aT prog 88:=⟨call88⟩
theorem Gi:aT prog 89:=⟨call89⟩
theorem Gk:aT prog 90:=⟨call90⟩
theorem Gl:aT prog 91:=⟨call91⟩
theorem Gm:aT prog 92:=⟨call92⟩
theorem Gn:aT prog 93:=⟨call93⟩
theorem Gp:aT prog 94:=⟨call94⟩
theorem Gq:aT prog 95:=⟨call95⟩
theorem Gr:aT prog 96:=⟨call96⟩
theorem Gs:aT prog 97:=⟨call97⟩
theorem Gt:aT prog 98:=⟨call98⟩
theorem Gu:aT prog 99:=⟨call99⟩
theorem Dc:aT prog 100:=⟨call100⟩
theorem De:aT prog 101:=⟨call101⟩
theorem Df:aT prog 102:=⟨call102⟩
theorem Dg:aT prog 103:=⟨call103⟩
theorem Dh:aT prog 104:=⟨call104⟩
theorem Di:aT prog 105:=⟨call105⟩
theorem Dj:aT prog 106:=⟨call106⟩
theorem Dk:aT prog 107:=⟨call107⟩
theorem Dl:aT prog 108:=⟨call108⟩
theorem Dm:aT prog 109:=⟨call109⟩
theorem Dp:aT prog 110:=⟨call110⟩
theorem Dq:aT prog 111:=⟨call111⟩
theorem Dr:aT prog 112:=⟨call112⟩
theorem Ds:aT prog 113:=⟨call113⟩
theorem Dt:aT prog 114:=⟨call114⟩
theorem Du:aT prog 115:=⟨call115⟩
theorem Dv:aT prog 116:=⟨call116⟩
theorem Dw:aT prog 118:=⟨call118⟩
theorem Dx:aT prog 119:=⟨call119⟩
theorem Dz:aT prog 120:=⟨call120⟩
theorem DA:aT prog 121:=⟨call121⟩
theorem DB:aT prog 122:=⟨call122⟩
theorem DC:aT prog 123:=⟨call123⟩
theorem DD:aT prog 124:=⟨call124⟩
theorem DE:aT prog 125:=⟨call125⟩
theorem DF:aT prog 126:=⟨call126⟩
theorem DG:aT prog 127:=⟨call127⟩
theorem DH:aT prog 128:=⟨call128⟩
theorem DJ:aT prog 129:=⟨call129⟩
theorem DL:aT prog 130:=⟨call130⟩
theorem DM:aT prog 131:=⟨call131⟩
theorem DN:aT prog 132:=⟨call132⟩
theorem DP:aT prog 133:=⟨call133⟩
theorem DQ:aT prog 134:=⟨call134⟩
theorem DR:aT prog 135:=⟨call135⟩
theorem DT:aT prog 136:=⟨call136⟩
theorem DU:aT prog 137:=⟨call137⟩
theorem DW:aT prog 138:=⟨call138⟩
theorem DX:aT prog 139:=⟨call139⟩
theorem DZ:aT prog 140:=⟨call140⟩
theorem D0:aT prog 141:=⟨call141⟩
theorem D1:aT prog 142:=⟨call142⟩
theorem D2:aT prog 143:=⟨call143⟩
theorem D3:aT prog 144:=⟨call144⟩
theorem D4:aT prog 145:=⟨call145⟩
theorem D5:aT prog 147:=⟨call147⟩
theorem D7:aT prog 153:=⟨call153⟩
theorem D8:aT prog 154:=⟨call154⟩
theorem D9:aT prog 157:=⟨call157⟩
theorem Ec:aT prog 158:=⟨call158⟩
theorem Ee:aT prog 159:=⟨call159⟩
theorem Eg:aT prog 160:=⟨call160⟩
theorem Eh:aT prog 161:=⟨call161⟩
theorem Ei:aT prog 162:=⟨call162⟩
theorem Ej:aT prog 163:=⟨call163⟩
theorem Ek:aT prog 164:=⟨call164⟩
theorem El:aT prog 165:=⟨call165⟩
theorem Em:aT prog 166:=⟨call166⟩
theorem En:aT prog 167:=⟨call167⟩
theorem Eo:aT prog 168:=⟨call168⟩
theorem Ep:aT prog 169:=⟨call169⟩
theorem Et:aT prog 170:=⟨call170⟩
theorem Eu:aT prog 171:=⟨call171⟩
theorem Ev:aT prog 172:=⟨call172⟩
theorem Ex:aT prog 173:=⟨call173⟩
theorem Ey:aT prog 174:=⟨call174⟩
theorem Ez:aT prog 175:=⟨call175⟩
theorem EB:aT prog 176:=⟨call176⟩
theorem EC:aT prog 177:=⟨call177⟩
theorem ED:aT prog 178:=⟨call178⟩
theorem EE:aT prog 179:=⟨call179⟩
theorem EG:aT prog 180:=⟨call180⟩
theorem EH:aT prog 181:=⟨call181⟩
theorem EI:aT prog 184:=⟨call184⟩
theorem EJ:aT prog 185:=⟨call185⟩
theorem EK:aT prog 186:=⟨call186⟩
theorem EM:aT prog 192:=⟨call192⟩
theorem EN:aT prog 197:=⟨call197⟩
theorem EO:aT prog 198:=⟨call198⟩
theorem EP:aT prog 199:=⟨call199⟩
theorem ER:aT prog 200:=⟨call200⟩
theorem ES:aT prog 201:=⟨call201⟩
theorem ET:aT prog 202:=⟨call202⟩
theorem EU:aT prog 203:=⟨call203⟩
theorem EV:aT prog 204:=⟨call204⟩
theorem EW:aT prog 205:=⟨call205⟩
theorem EX:aT prog 206:=⟨call206⟩
theorem EY:aT prog 207:=⟨call207⟩
theorem E0:aT prog 215:=⟨call215⟩
theorem E1:aT prog 217:=⟨call217⟩
attribute [instance] JJ Ci tg wS Ja C4 Kz xd Cw Jd C5 KB J4 CB Ji C7 KD oq te Ju Da KJ JM Cl I4 JN Cm I5 Cn I6 Kw Hy Hz IC JT Cr Cs I9 HA HB wT xa HC HD IG JX JZ Cu J0 Cv Jc J1 Cx Je Cy Jf C6 KC HE HF HG HH HJ HK IH J2 Cz Jg J3 CA Jh HL HM II J5 CC Jj J6 CD Jk J7 CE Jl CF Jm HN HO HP HQ HR HS IJ CG Jn C8 KE HT HU HW HX J8 CH Jo CI Jp C9 KF HY HZ H3 H4 H5 H6 IK J9 CJ Jq CL Jr KG H7 H8 IL Ka CM Js Kb CN Jt KH H9 Ia KI Ib Ic Ie Ig IM Kc CO Jv B2 IN CP Kd Gv Gw Ik Jw wM IP B3 IQ CQ Ke Gx Gy Gz Il B4 IR CR Kf GA GB GC Jx Jy Jz B5 IS CS Kg JA B6 IT GD GF GG Im JB B7 JC B8 GH GI GJ GK GL GM Io GN GO Ip B9 IU CT Kh GP GQ Iq wN wY CU Ki GR GS GU Ir wO wZ CV Kj GV GW GX Is Ca IV Kk GY GZ Cb IW G0 G1 G2 Iu JD Cc IY CW Kl Cd IZ CX Km G3 G4 G5 Iv Kn G6 JE Ce JF Cg G7 G8 G9 Ha Hb Hc Hd Iw JG JH wP w5 CY Ko He Hf Ix I0 CZ Kp Hg Hh Iy Ch I1 C0 Kq Hi Hj Hk Iz JI Cj I2 C1 Kr Hl Hm Hn Hp Hq Ck I3 Ks JK wQ w8 Kt IA JL Ku wR w9 Kv IB JO JQ JR JS Co Hr Hs ID Cp I7 C2 Kx Ht Hu IE Cq I8 C3 Ky Hv Hw Hx IF JU JW JY Ct Jb KA lL py tf Ih wU Ii wV Ij wW wX Fo FB FM FY F8 Gj Db Dn Dy DK DY D6 Ef Er EF EL EQ EZ E2 E3 E6 E7 E8 E9 Fa Fb Fc Fe Ff Fg Fh Fi Fj Fk Fl Fm Fp Fq Ft Fu Fv Fw Fx Fy Fz FA FC FD FE FF FG FH FI FJ FK FL FN FO FP FQ FR FT FU FV FW FX FZ F0 F1 F2 F3 F4 F5 F6 F7 F9 Ga Gb Gc Gd Ge Gf Gg Gh Gi Gk Gl Gm Gn Gp Gq Gr Gs Gt Gu Dc De Df Dg Dh Di Dj Dk Dl Dm Dp Dq Dr Ds Dt Du Dv Dw Dx Dz DA DB DC DD DE DF DG DH DJ DL DM DN DP DQ DR DT DU DW DX DZ D0 D1 D2 D3 D4 D5 D7 D8 D9 Ec Ee Eg Eh Ei Ej Ek El Em En Eo Ep Et Eu Ev Ex Ey Ez EB EC ED EE EG EH EI EJ EK EM EN EO EP ER ES ET EU EV EW EX EY E0 E1
theorem mixed:prog.follows .mixedOrders=true:=by kernel_rfl
end Go.Proofs.YtenilfmlfldogaaGreatDoor

/- What the law 'KeepOpens' uses. No condition. -/
import Derived.Test.YtocjmmbldeljnaaGreatDoorChecked
import Derived.Test.YtocjmmbldeljnaaGreatDoorKKeepOpensB
set_option linter.unusedSimpArgs false
set_option linter.unusedVariables false
namespace Go.Proofs.YtocjmmbldeljnaaGreatDoor
set_option linter.defProp false
def ab1:=@Nat.le_refl
open Tryz
set_option linter.unusedVariables false
theorem KB:bh prog 2 (.int .i64):=⟨underlying2⟩
theorem AG:bV prog 2 false:=⟨isAgg2⟩
theorem JY:Sz prog 2 1:=⟨sizeOf2⟩
theorem sf:bh prog 3 (.int .i64):=⟨underlying3⟩
theorem vH:bV prog 3 false:=⟨isAgg3⟩
theorem J7:Sz prog 3 1:=⟨sizeOf3⟩
theorem Lw:Zr prog 3 (.int .i64 0):=⟨zeroValue3⟩
theorem vX:bh prog 4 (.bool):=⟨underlying4⟩
theorem AZ:bV prog 4 false:=⟨isAgg4⟩
theorem Ka:Sz prog 4 1:=⟨sizeOf4⟩
theorem K2:bh prog 5 (.int .u8):=⟨underlying5⟩
theorem A8:bV prog 5 false:=⟨isAgg5⟩
theorem Kg:Sz prog 5 1:=⟨sizeOf5⟩
theorem Bs:By prog 5 1:=⟨λw=>⟨_,typeInfo5 w,rfl⟩⟩
theorem LC:Zr prog 5 (.int .u8 0):=⟨zeroValue5⟩
theorem qf:bh prog 9 (.string):=⟨underlying9⟩
theorem r9:bV prog 9 false:=⟨isAgg9⟩
theorem Kj:Sz prog 9 1:=⟨sizeOf9⟩
theorem Bt:By prog 9 16:=⟨λw=>⟨_,typeInfo9 w,rfl⟩⟩
theorem LF:Zr prog 9 (.string {data:=#[]}):=⟨zeroValue9⟩
theorem KF:bh prog 22 (.slice 9):=⟨underlying22⟩
theorem AK:bV prog 22 false:=⟨isAgg22⟩
theorem J0:Sz prog 22 1:=⟨sizeOf22⟩
theorem Lo:Zr prog 22 (sZ):=⟨zeroValue22⟩
theorem AM:bV prog 24 true:=⟨isAgg24⟩
theorem J1:Sz prog 24 4:=⟨sizeOf24⟩
theorem Bo:By prog 24 80:=⟨λw=>⟨_,typeInfo24 w,rfl⟩⟩
theorem Lp:Zr prog 24 (.agg [.string {data:=#[]},.string {data:=#[]},sZ,sZ].toArray):=⟨zeroValue24⟩
theorem HV:aC prog 24 0 0:=aC.of underlying24 rfl sizeOf9 rfl rfl
theorem HW:aC prog 24 1 1:=aC.of underlying24 rfl sizeOf9 rfl rfl
theorem HX:aC prog 24 2 2:=aC.of underlying24 rfl sizeOf22 rfl rfl
theorem HY:aC prog 24 3 3:=aC.of underlying24 rfl sizeOf22 rfl rfl
theorem Jx:dS prog 24 [(0,1),(1,1),(2,1),(3,1)] [.string {data:=#[]},.string {data:=#[]},sZ,sZ]:=⟨_,underlying24,zeroValue24,λw=>by simp[sizeOf22,sizeOf9]⟩
theorem KG:bh prog 25 (.slice 5):=⟨underlying25⟩
theorem AN:bV prog 25 false:=⟨isAgg25⟩
theorem J2:Sz prog 25 1:=⟨sizeOf25⟩
theorem Bp:By prog 25 24:=⟨λw=>⟨_,typeInfo25 w,rfl⟩⟩
theorem Lq:Zr prog 25 (sZ):=⟨zeroValue25⟩
theorem KH:bh prog 26 (.slice 154):=⟨underlying26⟩
theorem AO:bV prog 26 false:=⟨isAgg26⟩
theorem J3:Sz prog 26 1:=⟨sizeOf26⟩
theorem Lr:Zr prog 26 (sZ):=⟨zeroValue26⟩
theorem KJ:bh prog 27 (.slice 183):=⟨underlying27⟩
theorem AQ:bV prog 27 false:=⟨isAgg27⟩
theorem J4:Sz prog 27 1:=⟨sizeOf27⟩
theorem vV:bh prog 28 (.int .u64):=⟨underlying28⟩
theorem vF:bV prog 28 false:=⟨isAgg28⟩
theorem J5:Sz prog 28 1:=⟨sizeOf28⟩
theorem AX:bV prog 30 true:=⟨isAgg30⟩
theorem J8:Sz prog 30 19:=⟨sizeOf30⟩
theorem Lx:Zr prog 30 (.agg [.int .i64 0,.int .i64 0,.string {data:=#[]},.string {data:=#[]},sZ,sZ,.string {data:=#[]},.string {data:=#[]},.string {data:=#[]},.string {data:=#[]},sZ,.string {data:=#[]},.string {data:=#[]},sZ,sZ,sZ,sZ,sZ,.int .u64 0].toArray):=⟨zeroValue30⟩
theorem Ik:aC prog 30 0 0:=aC.of underlying30 rfl sizeOf3 rfl rfl
theorem Il:aC prog 30 1 1:=aC.of underlying30 rfl sizeOf2 rfl rfl
theorem Iu:aC prog 30 2 2:=aC.of underlying30 rfl sizeOf24 rfl rfl
theorem Iv:aC prog 30 3 6:=aC.of underlying30 rfl sizeOf9 rfl rfl
theorem Iw:aC prog 30 4 7:=aC.of underlying30 rfl sizeOf9 rfl rfl
theorem Ix:aC prog 30 5 8:=aC.of underlying30 rfl sizeOf9 rfl rfl
theorem Iy:aC prog 30 6 9:=aC.of underlying30 rfl sizeOf9 rfl rfl
theorem Iz:aC prog 30 7 10:=aC.of underlying30 rfl sizeOf22 rfl rfl
theorem IA:aC prog 30 8 11:=aC.of underlying30 rfl sizeOf9 rfl rfl
theorem IB:aC prog 30 9 12:=aC.of underlying30 rfl sizeOf9 rfl rfl
theorem Im:aC prog 30 10 13:=aC.of underlying30 rfl sizeOf25 rfl rfl
theorem Io:aC prog 30 11 14:=aC.of underlying30 rfl sizeOf25 rfl rfl
theorem Ip:aC prog 30 12 15:=aC.of underlying30 rfl sizeOf26 rfl rfl
theorem Iq:aC prog 30 13 16:=aC.of underlying30 rfl sizeOf26 rfl rfl
theorem Ir:aC prog 30 14 17:=aC.of underlying30 rfl sizeOf27 rfl rfl
theorem Is:aC prog 30 15 18:=aC.of underlying30 rfl sizeOf28 rfl rfl
theorem JE:dS prog 30 [(0,1),(1,1),(2,4),(6,1),(7,1),(8,1),(9,1),(10,1),(11,1),(12,1),(13,1),(14,1),(15,1),(16,1),(17,1),(18,1)] [.int .i64 0,.int .i64 0,.string {data:=#[]},.string {data:=#[]},sZ,sZ,.string {data:=#[]},.string {data:=#[]},.string {data:=#[]},.string {data:=#[]},sZ,.string {data:=#[]},.string {data:=#[]},sZ,sZ,sZ,sZ,sZ,.int .u64 0]:=⟨_,underlying30,zeroValue30,λw=>by simp[sizeOf2,sizeOf22,sizeOf24,sizeOf25,sizeOf26,sizeOf27,sizeOf28,sizeOf3,sizeOf9]⟩
theorem KR:bh prog 32 (.pointer 58):=⟨underlying32⟩
theorem AY:bV prog 32 false:=⟨isAgg32⟩
theorem vW:bh prog 33 (.int .i64):=⟨underlying33⟩
theorem r0:bV prog 33 false:=⟨isAgg33⟩
theorem J9:Sz prog 33 1:=⟨sizeOf33⟩
theorem KT:bh prog 36 (.pointer 44):=⟨underlying36⟩
theorem KU:bh prog 40 (.pointer 85):=⟨underlying40⟩
theorem A0:bV prog 40 false:=⟨isAgg40⟩
theorem KV:bh prog 41 (.pointer 94):=⟨underlying41⟩
theorem A1:bV prog 41 false:=⟨isAgg41⟩
theorem KW:bh prog 42 (.pointer 103):=⟨underlying42⟩
theorem A2:bV prog 42 false:=⟨isAgg42⟩
theorem Kb:Sz prog 42 1:=⟨sizeOf42⟩
theorem IH:aC prog 44 0 0:=aC.of underlying44 rfl sizeOf40 rfl rfl
theorem II:aC prog 44 1 1:=aC.of underlying44 rfl sizeOf41 rfl rfl
theorem IJ:aC prog 44 2 2:=aC.of underlying44 rfl sizeOf42 rfl rfl
theorem IK:aC prog 44 3 3:=aC.of underlying44 rfl sizeOf33 rfl rfl
theorem JI:dS prog 44 [(0,1),(1,1),(2,1),(3,1)] [.pointer none,.pointer none,.pointer none,.int .i64 0]:=⟨_,underlying44,zeroValue44,λw=>by simp[sizeOf33,sizeOf40,sizeOf41,sizeOf42]⟩
theorem vI:bV prog 46 true:=⟨isAgg46⟩
theorem vU:Sz prog 46 4:=⟨sizeOf46⟩
theorem Lz:Zr prog 46 (.agg [.string {data:=#[]},.string {data:=#[]},.int .u64 0,.int .i64 0].toArray):=⟨zeroValue46⟩
theorem JJ:dS prog 46 [(0,1),(1,1),(2,1),(3,1)] [.string {data:=#[]},.string {data:=#[]},.int .u64 0,.int .i64 0]:=⟨_,underlying46,zeroValue46,λw=>by simp[sizeOf28,sizeOf33,sizeOf9]⟩
theorem A6:bV prog 48 true:=⟨isAgg48⟩
theorem Ke:Sz prog 48 19:=⟨sizeOf48⟩
theorem LA:Zr prog 48 (.agg [.int .i64 0,.int .i64 0,.string {data:=#[]},.string {data:=#[]},sZ,sZ,.string {data:=#[]},.string {data:=#[]},.string {data:=#[]},.string {data:=#[]},sZ,.string {data:=#[]},.string {data:=#[]},sZ,sZ,sZ,sZ,sZ,.int .u64 0].toArray):=⟨zeroValue48⟩
theorem IL:aC prog 48 0 0:=aC.of underlying48 rfl sizeOf3 rfl rfl
theorem IM:aC prog 48 1 1:=aC.of underlying48 rfl sizeOf2 rfl rfl
theorem IU:aC prog 48 2 2:=aC.of underlying48 rfl sizeOf24 rfl rfl
theorem IV:aC prog 48 3 6:=aC.of underlying48 rfl sizeOf9 rfl rfl
theorem IW:aC prog 48 4 7:=aC.of underlying48 rfl sizeOf9 rfl rfl
theorem IX:aC prog 48 5 8:=aC.of underlying48 rfl sizeOf9 rfl rfl
theorem IY:aC prog 48 6 9:=aC.of underlying48 rfl sizeOf9 rfl rfl
theorem IZ:aC prog 48 7 10:=aC.of underlying48 rfl sizeOf22 rfl rfl
theorem I0:aC prog 48 8 11:=aC.of underlying48 rfl sizeOf9 rfl rfl
theorem I1:aC prog 48 9 12:=aC.of underlying48 rfl sizeOf9 rfl rfl
theorem IN:aC prog 48 10 13:=aC.of underlying48 rfl sizeOf25 rfl rfl
theorem IP:aC prog 48 11 14:=aC.of underlying48 rfl sizeOf25 rfl rfl
theorem IQ:aC prog 48 12 15:=aC.of underlying48 rfl sizeOf26 rfl rfl
theorem IR:aC prog 48 13 16:=aC.of underlying48 rfl sizeOf26 rfl rfl
theorem IS:aC prog 48 14 17:=aC.of underlying48 rfl sizeOf27 rfl rfl
theorem IT:aC prog 48 15 18:=aC.of underlying48 rfl sizeOf28 rfl rfl
theorem JK:dS prog 48 [(0,1),(1,1),(2,4),(6,1),(7,1),(8,1),(9,1),(10,1),(11,1),(12,1),(13,1),(14,1),(15,1),(16,1),(17,1),(18,1)] [.int .i64 0,.int .i64 0,.string {data:=#[]},.string {data:=#[]},sZ,sZ,.string {data:=#[]},.string {data:=#[]},.string {data:=#[]},.string {data:=#[]},sZ,.string {data:=#[]},.string {data:=#[]},sZ,sZ,sZ,sZ,sZ,.int .u64 0]:=⟨_,underlying48,zeroValue48,λw=>by simp[sizeOf2,sizeOf22,sizeOf24,sizeOf25,sizeOf26,sizeOf27,sizeOf28,sizeOf3,sizeOf9]⟩
theorem K3:bh prog 54 (.slice 190):=⟨underlying54⟩
theorem A9:bV prog 54 false:=⟨isAgg54⟩
theorem K4:bh prog 55 (.map 3 190):=⟨underlying55⟩
theorem Ba:bV prog 55 false:=⟨isAgg55⟩
theorem K5:bh prog 56 (.slice 192):=⟨underlying56⟩
theorem Bb:bV prog 56 false:=⟨isAgg56⟩
theorem Kh:Sz prog 56 1:=⟨sizeOf56⟩
theorem I2:aC prog 58 0 0:=aC.of underlying58 rfl sizeOf54 rfl rfl
theorem I3:aC prog 58 1 1:=aC.of underlying58 rfl sizeOf55 rfl rfl
theorem I4:aC prog 58 2 2:=aC.of underlying58 rfl sizeOf56 rfl rfl
theorem I5:aC prog 58 3 3:=aC.of underlying58 rfl sizeOf3 rfl rfl
theorem I6:aC prog 58 4 4:=aC.of underlying58 rfl sizeOf4 rfl rfl
theorem JL:dS prog 58 [(0,1),(1,1),(2,1),(3,1),(4,1)] [sZ,.map none,sZ,.int .i64 0,.bool false]:=⟨_,underlying58,zeroValue58,λw=>by simp[sizeOf3,sizeOf4,sizeOf54,sizeOf55,sizeOf56]⟩
theorem K8:bh prog 65 (.slice 25):=⟨underlying65⟩
theorem K9:bh prog 77 (.pointer 194):=⟨underlying77⟩
theorem Bd:bV prog 77 false:=⟨isAgg77⟩
theorem I7:aC prog 85 0 0:=aC.of underlying85 rfl sizeOf32 rfl rfl
theorem I8:aC prog 85 1 1:=aC.of underlying85 rfl sizeOf3 rfl rfl
theorem I9:aC prog 85 2 2:=aC.of underlying85 rfl sizeOf3 rfl rfl
theorem Ja:aC prog 85 5 5:=aC.of underlying85 rfl sizeOf3 rfl rfl
theorem JM:dS prog 85 [(0,1),(1,1),(2,1),(3,1),(4,1),(5,1),(6,1),(7,1)] [.pointer none,.int .i64 0,.int .i64 0,.int .i64 0,.int .i64 0,.int .i64 0,.int .i64 0,.int .i64 0]:=⟨_,underlying85,zeroValue85,λw=>by simp[sizeOf3,sizeOf32,sizeOf33]⟩
theorem La:bh prog 88 (.pointer 203):=⟨underlying88⟩
theorem Jb:aC prog 94 0 0:=aC.of underlying94 rfl sizeOf32 rfl rfl
theorem Jc:aC prog 94 2 2:=aC.of underlying94 rfl sizeOf3 rfl rfl
theorem Jd:aC prog 94 3 3:=aC.of underlying94 rfl sizeOf3 rfl rfl
theorem Je:aC prog 94 4 4:=aC.of underlying94 rfl sizeOf3 rfl rfl
theorem Jf:aC prog 94 5 5:=aC.of underlying94 rfl sizeOf3 rfl rfl
theorem Jg:aC prog 94 6 6:=aC.of underlying94 rfl sizeOf33 rfl rfl
theorem JN:dS prog 94 [(0,1),(1,1),(2,1),(3,1),(4,1),(5,1),(6,1)] [.pointer none,.int .i64 0,.int .i64 0,.int .i64 0,.int .i64 0,.int .i64 0,.int .i64 0]:=⟨_,underlying94,zeroValue94,λw=>by simp[sizeOf3,sizeOf32,sizeOf33]⟩
theorem Kk:bh prog 100 (.pointer 221):=⟨underlying100⟩
theorem Ar:bV prog 100 false:=⟨isAgg100⟩
theorem Kl:bh prog 101 (.pointer 300):=⟨underlying101⟩
theorem As:bV prog 101 false:=⟨isAgg101⟩
theorem GV:aC prog 103 0 0:=aC.of underlying103 rfl sizeOf77 rfl rfl
theorem GW:aC prog 103 1 1:=aC.of underlying103 rfl sizeOf100 rfl rfl
theorem GX:aC prog 103 2 2:=aC.of underlying103 rfl sizeOf101 rfl rfl
theorem Jk:dS prog 103 [(0,1),(1,1),(2,1)] [.pointer none,.pointer none,.pointer none]:=⟨_,underlying103,zeroValue103,λw=>by simp[sizeOf100,sizeOf101,sizeOf77]⟩
theorem Km:bh prog 117 (.pointer 260):=⟨underlying117⟩
theorem Kn:bh prog 121 (.slice 24):=⟨underlying121⟩
theorem Ko:bh prog 122 (.pointer 264):=⟨underlying122⟩
theorem At:bV prog 122 false:=⟨isAgg122⟩
theorem Au:bV prog 128 true:=⟨isAgg128⟩
theorem JP:Sz prog 128 3:=⟨sizeOf128⟩
theorem Be:By prog 128 56:=⟨λw=>⟨_,typeInfo128 w,rfl⟩⟩
theorem Lb:Zr prog 128 (.agg [.string {data:=#[]},.string {data:=#[]},sZ].toArray):=⟨zeroValue128⟩
theorem GY:aC prog 128 0 0:=aC.of underlying128 rfl sizeOf9 rfl rfl
theorem GZ:aC prog 128 1 1:=aC.of underlying128 rfl sizeOf9 rfl rfl
theorem G0:aC prog 128 2 2:=aC.of underlying128 rfl sizeOf22 rfl rfl
theorem Jl:dS prog 128 [(0,1),(1,1),(2,1)] [.string {data:=#[]},.string {data:=#[]},sZ]:=⟨_,underlying128,zeroValue128,λw=>by simp[sizeOf22,sizeOf9]⟩
theorem Kp:bh prog 129 (.slice 128):=⟨underlying129⟩
theorem Kq:bh prog 130 (.pointer 275):=⟨underlying130⟩
theorem Av:bV prog 130 false:=⟨isAgg130⟩
theorem Aw:bV prog 136 true:=⟨isAgg136⟩
theorem JQ:Sz prog 136 9:=⟨sizeOf136⟩
theorem Bf:By prog 136 128:=⟨λw=>⟨_,typeInfo136 w,rfl⟩⟩
theorem Lc:Zr prog 136 (.agg [.string {data:=#[]},.string {data:=#[]},.string {data:=#[]},.string {data:=#[]},sZ,.string {data:=#[]},.int .i64 0,.int .i64 0,.bool false].toArray):=⟨zeroValue136⟩
theorem G1:aC prog 136 0 0:=aC.of underlying136 rfl sizeOf9 rfl rfl
theorem G2:aC prog 136 4 4:=aC.of underlying136 rfl sizeOf22 rfl rfl
theorem G3:aC prog 136 6 6:=aC.of underlying136 rfl sizeOf2 rfl rfl
theorem Kr:bh prog 137 (.slice 136):=⟨underlying137⟩
theorem Ks:bh prog 140 (.pointer 287):=⟨underlying140⟩
theorem Ax:bV prog 140 false:=⟨isAgg140⟩
theorem Ay:bV prog 144 true:=⟨isAgg144⟩
theorem JR:Sz prog 144 9:=⟨sizeOf144⟩
theorem Bg:By prog 144 112:=⟨λw=>⟨_,typeInfo144 w,rfl⟩⟩
theorem Ld:Zr prog 144 (.agg [.string {data:=#[]},.int .i64 0,.string {data:=#[]},.string {data:=#[]},sZ,.int .i64 0,.int .i64 0,.int .u64 0,.bool false].toArray):=⟨zeroValue144⟩
theorem G4:aC prog 144 0 0:=aC.of underlying144 rfl sizeOf9 rfl rfl
theorem G5:aC prog 144 1 1:=aC.of underlying144 rfl sizeOf3 rfl rfl
theorem G6:aC prog 144 4 4:=aC.of underlying144 rfl sizeOf22 rfl rfl
theorem G7:aC prog 144 5 5:=aC.of underlying144 rfl sizeOf3 rfl rfl
theorem G8:aC prog 144 6 6:=aC.of underlying144 rfl sizeOf2 rfl rfl
theorem G9:aC prog 144 8 8:=aC.of underlying144 rfl sizeOf4 rfl rfl
theorem Kt:bh prog 145 (.slice 144):=⟨underlying145⟩
theorem vB:bV prog 150 true:=⟨isAgg150⟩
theorem vP:Sz prog 150 2:=⟨sizeOf150⟩
theorem Ha:aC prog 150 0 0:=aC.of underlying150 rfl sizeOf9 rfl rfl
theorem Hb:aC prog 150 1 1:=aC.of underlying150 rfl sizeOf9 rfl rfl
theorem Jm:dS prog 150 [(0,1),(1,1)] [.string {data:=#[]},.string {data:=#[]}]:=⟨_,underlying150,zeroValue150,λw=>by simp[sizeOf9]⟩
theorem vC:bV prog 152 true:=⟨isAgg152⟩
theorem vQ:Sz prog 152 4:=⟨sizeOf152⟩
theorem Le:Zr prog 152 (.agg [.string {data:=#[]},.string {data:=#[]},.string {data:=#[]},.string {data:=#[]}].toArray):=⟨zeroValue152⟩
theorem Hc:aC prog 152 0 0:=aC.of underlying152 rfl sizeOf9 rfl rfl
theorem Hd:aC prog 152 1 1:=aC.of underlying152 rfl sizeOf150 rfl rfl
theorem He:aC prog 152 2 3:=aC.of underlying152 rfl sizeOf9 rfl rfl
theorem Jn:dS prog 152 [(0,1),(1,2),(3,1)] [.string {data:=#[]},.string {data:=#[]},.string {data:=#[]},.string {data:=#[]}]:=⟨_,underlying152,zeroValue152,λw=>by simp[sizeOf150,sizeOf9]⟩
theorem vD:bV prog 154 true:=⟨isAgg154⟩
theorem vR:Sz prog 154 7:=⟨sizeOf154⟩
theorem Bh:By prog 154 112:=⟨λw=>⟨_,typeInfo154 w,rfl⟩⟩
theorem Lf:Zr prog 154 (.agg [.string {data:=#[]},.string {data:=#[]},.string {data:=#[]},.string {data:=#[]},.string {data:=#[]},.string {data:=#[]},.string {data:=#[]}].toArray):=⟨zeroValue154⟩
theorem Hf:aC prog 154 0 0:=aC.of underlying154 rfl sizeOf150 rfl rfl
theorem Hg:aC prog 154 1 2:=aC.of underlying154 rfl sizeOf9 rfl rfl
theorem Hh:aC prog 154 2 3:=aC.of underlying154 rfl sizeOf152 rfl rfl
theorem Jo:dS prog 154 [(0,2),(2,1),(3,4)] [.string {data:=#[]},.string {data:=#[]},.string {data:=#[]},.string {data:=#[]},.string {data:=#[]},.string {data:=#[]},.string {data:=#[]}]:=⟨_,underlying154,zeroValue154,λw=>by simp[sizeOf150,sizeOf152,sizeOf9]⟩
theorem Az:bV prog 156 true:=⟨isAgg156⟩
theorem JS:Sz prog 156 9:=⟨sizeOf156⟩
theorem Bi:By prog 156 128:=⟨λw=>⟨_,typeInfo156 w,rfl⟩⟩
theorem Lh:Zr prog 156 (.agg [.string {data:=#[]},.string {data:=#[]},.string {data:=#[]},.string {data:=#[]},.string {data:=#[]},.string {data:=#[]},.string {data:=#[]},.int .u64 0,.int .u64 0].toArray):=⟨zeroValue156⟩
theorem Hi:aC prog 156 0 0:=aC.of underlying156 rfl sizeOf154 rfl rfl
theorem Hj:aC prog 156 1 7:=aC.of underlying156 rfl sizeOf28 rfl rfl
theorem Hk:aC prog 156 2 8:=aC.of underlying156 rfl sizeOf28 rfl rfl
theorem Ku:bh prog 157 (.slice 156):=⟨underlying157⟩
theorem Kv:bh prog 167 (.slice 166):=⟨underlying167⟩
theorem AA:bV prog 172 true:=⟨isAgg172⟩
theorem JT:Sz prog 172 16:=⟨sizeOf172⟩
theorem Li:Zr prog 172 (.agg [.int .i64 0,.int .i64 0,.string {data:=#[]},.string {data:=#[]},sZ,sZ,.string {data:=#[]},.string {data:=#[]},.string {data:=#[]},.string {data:=#[]},sZ,.string {data:=#[]},.string {data:=#[]},sZ,sZ,.int .u64 0].toArray):=⟨zeroValue172⟩
theorem Hn:aC prog 172 2 2:=aC.of underlying172 rfl sizeOf24 rfl rfl
theorem Hp:aC prog 172 3 6:=aC.of underlying172 rfl sizeOf9 rfl rfl
theorem Hq:aC prog 172 4 7:=aC.of underlying172 rfl sizeOf9 rfl rfl
theorem Hr:aC prog 172 5 8:=aC.of underlying172 rfl sizeOf9 rfl rfl
theorem Hs:aC prog 172 6 9:=aC.of underlying172 rfl sizeOf9 rfl rfl
theorem Ht:aC prog 172 7 10:=aC.of underlying172 rfl sizeOf22 rfl rfl
theorem Hu:aC prog 172 8 11:=aC.of underlying172 rfl sizeOf9 rfl rfl
theorem Hv:aC prog 172 9 12:=aC.of underlying172 rfl sizeOf9 rfl rfl
theorem Hl:aC prog 172 10 13:=aC.of underlying172 rfl sizeOf25 rfl rfl
theorem Hm:aC prog 172 11 14:=aC.of underlying172 rfl sizeOf25 rfl rfl
theorem Jp:dS prog 172 [(0,1),(1,1),(2,4),(6,1),(7,1),(8,1),(9,1),(10,1),(11,1),(12,1),(13,1),(14,1),(15,1)] [.int .i64 0,.int .i64 0,.string {data:=#[]},.string {data:=#[]},sZ,sZ,.string {data:=#[]},.string {data:=#[]},.string {data:=#[]},.string {data:=#[]},sZ,.string {data:=#[]},.string {data:=#[]},sZ,sZ,.int .u64 0]:=⟨_,underlying172,zeroValue172,λw=>by simp[sizeOf2,sizeOf22,sizeOf24,sizeOf25,sizeOf28,sizeOf3,sizeOf9]⟩
theorem AB:bV prog 177 true:=⟨isAgg177⟩
theorem JU:Sz prog 177 12:=⟨sizeOf177⟩
theorem Bj:By prog 177 200:=⟨λw=>⟨_,typeInfo177 w,rfl⟩⟩
theorem Lj:Zr prog 177 (.agg [.int .i64 0,sZ,sZ,sZ,.string {data:=#[]},.string {data:=#[]},.string {data:=#[]},.string {data:=#[]},.string {data:=#[]},.string {data:=#[]},.string {data:=#[]},.int .u64 0].toArray):=⟨zeroValue177⟩
theorem Hw:aC prog 177 1 1:=aC.of underlying177 rfl sizeOf26 rfl rfl
theorem Hx:aC prog 177 2 2:=aC.of underlying177 rfl sizeOf26 rfl rfl
theorem Hy:aC prog 177 3 3:=aC.of underlying177 rfl sizeOf27 rfl rfl
theorem Jq:dS prog 177 [(0,1),(1,1),(2,1),(3,1),(4,7),(11,1)] [.int .i64 0,sZ,sZ,sZ,.string {data:=#[]},.string {data:=#[]},.string {data:=#[]},.string {data:=#[]},.string {data:=#[]},.string {data:=#[]},.string {data:=#[]},.int .u64 0]:=⟨_,underlying177,zeroValue177,λw=>by simp[sizeOf175,sizeOf26,sizeOf27,sizeOf28,sizeOf3]⟩
theorem Kw:bh prog 178 (.slice 177):=⟨underlying178⟩
theorem AD:bV prog 183 true:=⟨isAgg183⟩
theorem JV:Sz prog 183 8:=⟨sizeOf183⟩
theorem Bk:By prog 183 120:=⟨λw=>⟨_,typeInfo183 w,rfl⟩⟩
theorem Lk:Zr prog 183 (.agg [.bool false,.string {data:=#[]},.string {data:=#[]},.string {data:=#[]},.string {data:=#[]},.string {data:=#[]},.string {data:=#[]},.string {data:=#[]}].toArray):=⟨zeroValue183⟩
theorem Hz:aC prog 183 0 0:=aC.of underlying183 rfl sizeOf4 rfl rfl
theorem HA:aC prog 183 1 1:=aC.of underlying183 rfl sizeOf154 rfl rfl
theorem Jr:dS prog 183 [(0,1),(1,7)] [.bool false,.string {data:=#[]},.string {data:=#[]},.string {data:=#[]},.string {data:=#[]},.string {data:=#[]},.string {data:=#[]},.string {data:=#[]}]:=⟨_,underlying183,zeroValue183,λw=>by simp[sizeOf154,sizeOf4]⟩
theorem Kx:bh prog 185 (.slice 207):=⟨underlying185⟩
theorem Ky:bh prog 189 (.slice 3):=⟨underlying189⟩
theorem Kz:bh prog 190 (.array 64 5):=⟨underlying190⟩
theorem AE:bV prog 190 true:=⟨isAgg190⟩
theorem JW:Sz prog 190 64:=⟨sizeOf190⟩
theorem Bl:By prog 190 64:=⟨λw=>⟨_,typeInfo190 w,rfl⟩⟩
theorem Ll:Zr prog 190 (.agg [.int .u8 0,.int .u8 0,.int .u8 0,.int .u8 0,.int .u8 0,.int .u8 0,.int .u8 0,.int .u8 0,.int .u8 0,.int .u8 0,.int .u8 0,.int .u8 0,.int .u8 0,.int .u8 0,.int .u8 0,.int .u8 0,.int .u8 0,.int .u8 0,.int .u8 0,.int .u8 0,.int .u8 0,.int .u8 0,.int .u8 0,.int .u8 0,.int .u8 0,.int .u8 0,.int .u8 0,.int .u8 0,.int .u8 0,.int .u8 0,.int .u8 0,.int .u8 0,.int .u8 0,.int .u8 0,.int .u8 0,.int .u8 0,.int .u8 0,.int .u8 0,.int .u8 0,.int .u8 0,.int .u8 0,.int .u8 0,.int .u8 0,.int .u8 0,.int .u8 0,.int .u8 0,.int .u8 0,.int .u8 0,.int .u8 0,.int .u8 0,.int .u8 0,.int .u8 0,.int .u8 0,.int .u8 0,.int .u8 0,.int .u8 0,.int .u8 0,.int .u8 0,.int .u8 0,.int .u8 0,.int .u8 0,.int .u8 0,.int .u8 0,.int .u8 0].toArray):=⟨zeroValue190⟩
theorem AF:bV prog 192 true:=⟨isAgg192⟩
theorem JX:Sz prog 192 65:=⟨sizeOf192⟩
theorem Bm:By prog 192 72:=⟨λw=>⟨_,typeInfo192 w,rfl⟩⟩
theorem Lm:Zr prog 192 (.agg [.int .i64 0,.int .u8 0,.int .u8 0,.int .u8 0,.int .u8 0,.int .u8 0,.int .u8 0,.int .u8 0,.int .u8 0,.int .u8 0,.int .u8 0,.int .u8 0,.int .u8 0,.int .u8 0,.int .u8 0,.int .u8 0,.int .u8 0,.int .u8 0,.int .u8 0,.int .u8 0,.int .u8 0,.int .u8 0,.int .u8 0,.int .u8 0,.int .u8 0,.int .u8 0,.int .u8 0,.int .u8 0,.int .u8 0,.int .u8 0,.int .u8 0,.int .u8 0,.int .u8 0,.int .u8 0,.int .u8 0,.int .u8 0,.int .u8 0,.int .u8 0,.int .u8 0,.int .u8 0,.int .u8 0,.int .u8 0,.int .u8 0,.int .u8 0,.int .u8 0,.int .u8 0,.int .u8 0,.int .u8 0,.int .u8 0,.int .u8 0,.int .u8 0,.int .u8 0,.int .u8 0,.int .u8 0,.int .u8 0,.int .u8 0,.int .u8 0,.int .u8 0,.int .u8 0,.int .u8 0,.int .u8 0,.int .u8 0,.int .u8 0,.int .u8 0,.int .u8 0].toArray):=⟨zeroValue192⟩
theorem HB:aC prog 192 0 0:=aC.of underlying192 rfl sizeOf3 rfl rfl
theorem HC:aC prog 192 1 1:=aC.of underlying192 rfl sizeOf190 rfl rfl
theorem Js:dS prog 192 [(0,1),(1,64)] [.int .i64 0,.int .u8 0,.int .u8 0,.int .u8 0,.int .u8 0,.int .u8 0,.int .u8 0,.int .u8 0,.int .u8 0,.int .u8 0,.int .u8 0,.int .u8 0,.int .u8 0,.int .u8 0,.int .u8 0,.int .u8 0,.int .u8 0,.int .u8 0,.int .u8 0,.int .u8 0,.int .u8 0,.int .u8 0,.int .u8 0,.int .u8 0,.int .u8 0,.int .u8 0,.int .u8 0,.int .u8 0,.int .u8 0,.int .u8 0,.int .u8 0,.int .u8 0,.int .u8 0,.int .u8 0,.int .u8 0,.int .u8 0,.int .u8 0,.int .u8 0,.int .u8 0,.int .u8 0,.int .u8 0,.int .u8 0,.int .u8 0,.int .u8 0,.int .u8 0,.int .u8 0,.int .u8 0,.int .u8 0,.int .u8 0,.int .u8 0,.int .u8 0,.int .u8 0,.int .u8 0,.int .u8 0,.int .u8 0,.int .u8 0,.int .u8 0,.int .u8 0,.int .u8 0,.int .u8 0,.int .u8 0,.int .u8 0,.int .u8 0,.int .u8 0,.int .u8 0]:=⟨_,underlying192,zeroValue192,λw=>by simp[sizeOf190,sizeOf3]⟩
theorem HD:aC prog 194 0 0:=aC.of underlying194 rfl sizeOf122 rfl rfl
theorem HE:aC prog 194 1 1:=aC.of underlying194 rfl sizeOf130 rfl rfl
theorem HF:aC prog 194 2 2:=aC.of underlying194 rfl sizeOf140 rfl rfl
theorem HG:aC prog 194 3 3:=aC.of underlying194 rfl sizeOf2 rfl rfl
theorem Jt:dS prog 194 [(0,1),(1,1),(2,1),(3,1)] [.pointer none,.pointer none,.pointer none,.int .i64 0]:=⟨_,underlying194,zeroValue194,λw=>by simp[sizeOf122,sizeOf130,sizeOf140,sizeOf2]⟩
theorem KA:bh prog 197 (.int .u64):=⟨underlying197⟩
theorem HH:aC prog 203 0 0:=aC.of underlying203 rfl sizeOf25 rfl rfl
theorem HI:aC prog 203 1 1:=aC.of underlying203 rfl sizeOf33 rfl rfl
theorem HJ:aC prog 203 2 2:=aC.of underlying203 rfl sizeOf4 rfl rfl
theorem Ju:dS prog 203 [(0,1),(1,1),(2,1)] [sZ,.int .i64 0,.bool false]:=⟨_,underlying203,zeroValue203,λw=>by simp[sizeOf25,sizeOf33,sizeOf4]⟩
theorem AH:bV prog 207 true:=⟨isAgg207⟩
theorem JZ:Sz prog 207 5:=⟨sizeOf207⟩
theorem Bn:By prog 207 56:=⟨λw=>⟨_,typeInfo207 w,rfl⟩⟩
theorem Ln:Zr prog 207 (.agg [.int .i64 0,.int .i64 0,.int .i64 0,.int .i64 0,sZ].toArray):=⟨zeroValue207⟩
theorem HK:aC prog 207 0 0:=aC.of underlying207 rfl sizeOf3 rfl rfl
theorem HL:aC prog 207 1 1:=aC.of underlying207 rfl sizeOf3 rfl rfl
theorem HM:aC prog 207 2 2:=aC.of underlying207 rfl sizeOf3 rfl rfl
theorem HN:aC prog 207 3 3:=aC.of underlying207 rfl sizeOf3 rfl rfl
theorem HO:aC prog 207 4 4:=aC.of underlying207 rfl sizeOf25 rfl rfl
theorem Jv:dS prog 207 [(0,1),(1,1),(2,1),(3,1),(4,1)] [.int .i64 0,.int .i64 0,.int .i64 0,.int .i64 0,sZ]:=⟨_,underlying207,zeroValue207,λw=>by simp[sizeOf25,sizeOf3]⟩
theorem KC:bh prog 218 (.map 292 293):=⟨underlying218⟩
theorem AI:bV prog 218 false:=⟨isAgg218⟩
theorem KE:bh prog 219 (.map 152 293):=⟨underlying219⟩
theorem AJ:bV prog 219 false:=⟨isAgg219⟩
theorem HP:aC prog 221 0 0:=aC.of underlying221 rfl sizeOf4 rfl rfl
theorem HQ:aC prog 221 1 1:=aC.of underlying221 rfl sizeOf28 rfl rfl
theorem HR:aC prog 221 2 2:=aC.of underlying221 rfl sizeOf28 rfl rfl
theorem HS:aC prog 221 3 3:=aC.of underlying221 rfl sizeOf3 rfl rfl
theorem HT:aC prog 221 4 4:=aC.of underlying221 rfl sizeOf218 rfl rfl
theorem HU:aC prog 221 5 5:=aC.of underlying221 rfl sizeOf219 rfl rfl
theorem Jw:dS prog 221 [(0,1),(1,1),(2,1),(3,1),(4,1),(5,1)] [.bool false,.int .u64 0,.int .u64 0,.int .i64 0,.map none,.map none]:=⟨_,underlying221,zeroValue221,λw=>by simp[sizeOf218,sizeOf219,sizeOf28,sizeOf3,sizeOf4]⟩
theorem AL:bV prog 224 false:=⟨isAgg224⟩
theorem HZ:aC prog 260 0 0:=aC.of underlying260 rfl sizeOf25 rfl rfl
theorem Jy:dS prog 260 [(0,1)] [sZ]:=⟨_,underlying260,zeroValue260,λw=>by simp[sizeOf25]⟩
theorem KI:bh prog 262 (.map 9 24):=⟨underlying262⟩
theorem AP:bV prog 262 false:=⟨isAgg262⟩
theorem H4:aC prog 264 0 0:=aC.of underlying264 rfl sizeOf262 rfl rfl
theorem Jz:dS prog 264 [(0,1)] [.map none]:=⟨_,underlying264,zeroValue264,λw=>by simp[sizeOf262]⟩
theorem KK:bh prog 271 (.map 277 22):=⟨underlying271⟩
theorem AR:bV prog 271 false:=⟨isAgg271⟩
theorem KL:bh prog 272 (.map 9 136):=⟨underlying272⟩
theorem AS:bV prog 272 false:=⟨isAgg272⟩
theorem KM:bh prog 273 (.pointer 437):=⟨underlying273⟩
theorem AT:bV prog 273 false:=⟨isAgg273⟩
theorem H5:aC prog 275 0 0:=aC.of underlying275 rfl sizeOf271 rfl rfl
theorem H7:aC prog 275 1 1:=aC.of underlying275 rfl sizeOf272 rfl rfl
theorem H8:aC prog 275 2 2:=aC.of underlying275 rfl sizeOf273 rfl rfl
theorem JA:dS prog 275 [(0,1),(1,1),(2,1)] [.map none,.map none,.pointer none]:=⟨_,underlying275,zeroValue275,λw=>by simp[sizeOf271,sizeOf272,sizeOf273]⟩
theorem vE:bV prog 277 true:=⟨isAgg277⟩
theorem vS:Sz prog 277 2:=⟨sizeOf277⟩
theorem Ls:Zr prog 277 (.agg [.string {data:=#[]},.string {data:=#[]}].toArray):=⟨zeroValue277⟩
theorem Ia:aC prog 277 0 0:=aC.of underlying277 rfl sizeOf9 rfl rfl
theorem Ib:aC prog 277 1 1:=aC.of underlying277 rfl sizeOf9 rfl rfl
theorem JB:dS prog 277 [(0,1),(1,1)] [.string {data:=#[]},.string {data:=#[]}]:=⟨_,underlying277,zeroValue277,λw=>by simp[sizeOf9]⟩
theorem KN:bh prog 285 (.map 9 144):=⟨underlying285⟩
theorem AU:bV prog 285 false:=⟨isAgg285⟩
theorem Ic:aC prog 287 0 0:=aC.of underlying287 rfl sizeOf285 rfl rfl
theorem Ie:aC prog 287 1 1:=aC.of underlying287 rfl sizeOf273 rfl rfl
theorem Ig:aC prog 287 2 2:=aC.of underlying287 rfl sizeOf3 rfl rfl
theorem JC:dS prog 287 [(0,1),(1,1),(2,1)] [.map none,.pointer none,.int .i64 0]:=⟨_,underlying287,zeroValue287,λw=>by simp[sizeOf273,sizeOf285,sizeOf3]⟩
theorem vG:bV prog 292 true:=⟨isAgg292⟩
theorem vT:Sz prog 292 3:=⟨sizeOf292⟩
theorem Lt:Zr prog 292 (.agg [.string {data:=#[]},.string {data:=#[]},.string {data:=#[]}].toArray):=⟨zeroValue292⟩
theorem JD:dS prog 292 [(0,2),(2,1)] [.string {data:=#[]},.string {data:=#[]},.string {data:=#[]}]:=⟨_,underlying292,zeroValue292,λw=>by simp[sizeOf150,sizeOf9]⟩
theorem KO:bh prog 293 (.slice 294):=⟨underlying293⟩
theorem Lu:Zr prog 293 (sZ):=⟨zeroValue293⟩
theorem AV:bV prog 294 false:=⟨isAgg294⟩
theorem J6:Sz prog 294 1:=⟨sizeOf294⟩
theorem Bq:By prog 294 8:=⟨λw=>⟨_,typeInfo294 w,rfl⟩⟩
theorem Lv:Zr prog 294 (.pointer none):=⟨zeroValue294⟩
theorem KP:bh prog 298 (.slice 303):=⟨underlying298⟩
theorem AW:bV prog 298 false:=⟨isAgg298⟩
theorem Ih:aC prog 300 0 0:=aC.of underlying300 rfl sizeOf4 rfl rfl
theorem Ii:aC prog 300 1 1:=aC.of underlying300 rfl sizeOf298 rfl rfl
theorem Ij:aC prog 300 2 2:=aC.of underlying300 rfl sizeOf3 rfl rfl
theorem JF:dS prog 300 [(0,1),(1,1),(2,1)] [.bool false,sZ,.int .i64 0]:=⟨_,underlying300,zeroValue300,λw=>by simp[sizeOf298,sizeOf3,sizeOf4]⟩
theorem KQ:bh prog 305 (.slice 26):=⟨underlying305⟩
theorem KS:bh prog 334 (.slice 337):=⟨underlying334⟩
theorem IC:aC prog 431 0 0:=aC.of underlying431 rfl sizeOf9 rfl rfl
theorem ID:aC prog 431 1 1:=aC.of underlying431 rfl sizeOf2 rfl rfl
theorem IE:aC prog 431 2 2:=aC.of underlying431 rfl sizeOf3 rfl rfl
theorem JG:dS prog 431 [(0,1),(1,1),(2,1)] [.string {data:=#[]},.int .i64 0,.int .i64 0]:=⟨_,underlying431,zeroValue431,λw=>by simp[sizeOf2,sizeOf3,sizeOf9]⟩
theorem KX:bh prog 432 (.pointer 431):=⟨underlying432⟩
theorem A3:bV prog 432 false:=⟨isAgg432⟩
theorem Kc:Sz prog 432 1:=⟨sizeOf432⟩
theorem Br:By prog 432 8:=⟨λw=>⟨_,typeInfo432 w,rfl⟩⟩
theorem Ly:Zr prog 432 (.pointer none):=⟨zeroValue432⟩
theorem KY:bh prog 434 (.slice 432):=⟨underlying434⟩
theorem A4:bV prog 434 false:=⟨isAgg434⟩
theorem Kd:Sz prog 434 1:=⟨sizeOf434⟩
theorem KZ:bh prog 435 (.map 9 432):=⟨underlying435⟩
theorem A5:bV prog 435 false:=⟨isAgg435⟩
theorem IF:aC prog 437 0 0:=aC.of underlying437 rfl sizeOf434 rfl rfl
theorem IG:aC prog 437 1 1:=aC.of underlying437 rfl sizeOf435 rfl rfl
theorem JH:dS prog 437 [(0,1),(1,1)] [sZ,.map none]:=⟨_,underlying437,zeroValue437,λw=>by simp[sizeOf434,sizeOf435]⟩
theorem K0:bh prog 439 (.pointer 434):=⟨underlying439⟩
theorem K1:bh prog 491 (.int .u32):=⟨underlying491⟩
theorem A7:bV prog 491 false:=⟨isAgg491⟩
theorem Kf:Sz prog 491 1:=⟨sizeOf491⟩
theorem K6:bh prog 565 (.int .u64):=⟨underlying565⟩
theorem Bc:bV prog 565 false:=⟨isAgg565⟩
theorem Ki:Sz prog 565 1:=⟨sizeOf565⟩
theorem LD:Zr prog 565 (.int .u64 0):=⟨zeroValue565⟩
theorem K7:bh prog 578 (.array 16 491):=⟨underlying578⟩
theorem kz:dN prog 9 1 [.s] false:=dN.str qf r9
theorem vL:dN prog 28 1 [.i .u64] false:=dN.int vV vF
theorem vO:dN prog 33 1 [.i .i64] false:=dN.int vW r0
theorem JO:dN prog 46 2 [.s,.s,.i .u64,.i .i64] true:=dN.struct (n:=1) underlying46 stoodInHeld46 vI vU (dT.more kz (dT.more kz (dT.more vL (dT.more vO dT.nil))))
theorem Jj:oL prog 46:=⟨eqGuardType46⟩
theorem qe:dN prog 150 2 [.s,.s] true:=dN.struct (n:=1) underlying150 stoodInHeld150 vB vP (dT.more kz (dT.more kz dT.nil))
theorem sb:dN prog 152 3 [.s,.s,.s,.s] true:=dN.struct (n:=2) underlying152 stoodInHeld152 vC vQ (dT.more kz (dT.more qe (dT.more kz dT.nil)))
theorem Jh:oL prog 152:=⟨eqGuardType152⟩
theorem vJ:dN prog 154 4 [.s,.s,.s,.s,.s,.s,.s] true:=dN.struct (n:=3) underlying154 stoodInHeld154 vD vR (dT.more qe (dT.more kz (dT.more sb dT.nil)))
theorem Ji:oL prog 154:=⟨eqGuardType154⟩
theorem vK:dN prog 277 2 [.s,.s] true:=dN.struct (n:=1) underlying277 stoodInHeld277 vE vS (dT.more kz (dT.more kz dT.nil))
theorem vM:dN prog 292 3 [.s,.s,.s] true:=dN.struct (n:=2) underlying292 stoodInHeld292 vG vT (dT.more qe (dT.more kz dT.nil))
theorem EY:ap prog 4:=⟨call4⟩
theorem F4:ap prog 5:=⟨call5⟩
theorem Gk:ap prog 6:=⟨call6⟩
theorem Gn:ap prog 7:=⟨call7⟩
theorem Gy:ap prog 8:=⟨call8⟩
theorem GH:ap prog 9:=⟨call9⟩
theorem Bu:ap prog 10:=⟨call10⟩
theorem BF:ap prog 11:=⟨call11⟩
theorem BQ:ap prog 12:=⟨call12⟩
theorem B0:ap prog 13:=⟨call13⟩
theorem B3:ap prog 14:=⟨call14⟩
theorem B4:ap prog 15:=⟨call15⟩
theorem B6:ap prog 16:=⟨call16⟩
theorem Ce:ap prog 17:=⟨call17⟩
theorem Cp:ap prog 18:=⟨call18⟩
theorem Cz:ap prog 19:=⟨call19⟩
theorem CN:ap prog 20:=⟨call20⟩
theorem CZ:ap prog 21:=⟨call21⟩
theorem C6:ap prog 22:=⟨call22⟩
theorem Dg:ap prog 23:=⟨call23⟩
theorem Dq:ap prog 24:=⟨call24⟩
theorem Ds:ap prog 25:=⟨call25⟩
theorem Dy:ap prog 26:=⟨call26⟩
theorem DA:ap prog 27:=⟨call27⟩
theorem DB:ap prog 28:=⟨call28⟩
theorem D9:ap prog 32:=⟨call32⟩
theorem Ee:ap prog 34:=⟨call34⟩
theorem Ef:ap prog 35:=⟨call35⟩
theorem Ei:ap prog 36:=⟨call36⟩
theorem Er:ap prog 37:=⟨call37⟩
theorem EC:ap prog 38:=⟨call38⟩
theorem EN:ap prog 39:=⟨call39⟩
theorem EZ:ap prog 40:=⟨call40⟩
theorem Fa:ap prog 41:=⟨call41⟩
theorem Fl:ap prog 42:=⟨call42⟩
theorem Fq:ap prog 43:=⟨call43⟩
theorem Fs:ap prog 44:=⟨call44⟩
theorem Fw:ap prog 45:=⟨call45⟩
theorem FH:ap prog 46:=⟨call46⟩
theorem FQ:ap prog 47:=⟨call47⟩
theorem FU:ap prog 48:=⟨call48⟩
theorem FY:ap prog 49:=⟨call49⟩
theorem F5:ap prog 50:=⟨call50⟩
theorem F7:ap prog 51:=⟨call51⟩
theorem F8:ap prog 52:=⟨call52⟩
theorem F9:ap prog 53:=⟨call53⟩
theorem Gi:ap prog 54:=⟨call54⟩
theorem Gj:ap prog 55:=⟨call55⟩
theorem Gl:ap prog 68:=⟨call68⟩
theorem Gm:ap prog 69:=⟨call69⟩
theorem Gp:ap prog 70:=⟨call70⟩
theorem Gq:ap prog 71:=⟨call71⟩
theorem Gr:ap prog 72:=⟨call72⟩
theorem Gs:ap prog 73:=⟨call73⟩
theorem Gt:ap prog 74:=⟨call74⟩
theorem Gu:ap prog 75:=⟨call75⟩
theorem Gv:ap prog 76:=⟨call76⟩
theorem Gw:ap prog 78:=⟨call78⟩
theorem Gx:ap prog 79:=⟨call79⟩
theorem Gz:ap prog 81:=⟨call81⟩
theorem GA:ap prog 82:=⟨call82⟩
theorem GB:ap prog 83:=⟨call83⟩
theorem GC:ap prog 84:=⟨call84⟩
theorem GD:ap prog 86:=⟨call86⟩
theorem GF:ap prog 87:=⟨call87⟩
theorem GG:ap prog 88:=⟨call88⟩
theorem GK:ap prog 90:=⟨call90⟩
theorem GL:ap prog 91:=⟨call91⟩
theorem GM:ap prog 92:=⟨call92⟩
theorem GN:ap prog 94:=⟨call94⟩
theorem GO:ap prog 95:=⟨call95⟩
theorem GQ:ap prog 96:=⟨call96⟩
theorem GR:ap prog 97:=⟨call97⟩
theorem GS:ap prog 98:=⟨call98⟩
theorem GU:ap prog 99:=⟨call99⟩
theorem Bv:ap prog 100:=⟨call100⟩
theorem Bw:ap prog 101:=⟨call101⟩
theorem Bx:ap prog 102:=⟨call102⟩
theorem Bz:ap prog 104:=⟨call104⟩
theorem BA:ap prog 105:=⟨call105⟩
theorem BB:ap prog 106:=⟨call106⟩
theorem BC:ap prog 107:=⟨call107⟩
theorem BD:ap prog 108:=⟨call108⟩
theorem BE:ap prog 109:=⟨call109⟩
theorem BG:ap prog 110:=⟨call110⟩
theorem BH:ap prog 111:=⟨call111⟩
theorem BI:ap prog 112:=⟨call112⟩
theorem BJ:ap prog 113:=⟨call113⟩
theorem BK:ap prog 114:=⟨call114⟩
theorem BL:ap prog 115:=⟨call115⟩
theorem BM:ap prog 116:=⟨call116⟩
theorem BN:ap prog 117:=⟨call117⟩
theorem BO:ap prog 118:=⟨call118⟩
theorem BP:ap prog 119:=⟨call119⟩
theorem BR:ap prog 120:=⟨call120⟩
theorem BS:ap prog 121:=⟨call121⟩
theorem BT:ap prog 122:=⟨call122⟩
theorem BU:ap prog 123:=⟨call123⟩
theorem BV:ap prog 124:=⟨call124⟩
theorem BW:ap prog 125:=⟨call125⟩
theorem BX:ap prog 126:=⟨call126⟩
theorem BY:ap prog 127:=⟨call127⟩
theorem BZ:ap prog 128:=⟨call128⟩
theorem B1:ap prog 131:=⟨call131⟩
theorem B2:ap prog 134:=⟨call134⟩
theorem B5:ap prog 155:=⟨call155⟩
theorem B7:ap prog 163:=⟨call163⟩
theorem B8:ap prog 164:=⟨call164⟩
theorem B9:ap prog 165:=⟨call165⟩
theorem Ca:ap prog 166:=⟨call166⟩
theorem Cb:ap prog 167:=⟨call167⟩
theorem Cc:ap prog 168:=⟨call168⟩
theorem Cd:ap prog 169:=⟨call169⟩
theorem Cf:ap prog 170:=⟨call170⟩
theorem Cg:ap prog 171:=⟨call171⟩
theorem Ch:ap prog 172:=⟨call172⟩
theorem Ci:ap prog 173:=⟨call173⟩
theorem Cj:ap prog 174:=⟨call174⟩
theorem Ck:ap prog 175:=⟨call175⟩
theorem Cl:ap prog 176:=⟨call176⟩
theorem Cm:ap prog 177:=⟨call177⟩
theorem Cn:ap prog 178:=⟨call178⟩
theorem Co:ap prog 179:=⟨call179⟩
theorem Cq:ap prog 180:=⟨call180⟩
theorem Cr:ap prog 181:=⟨call181⟩
theorem Cs:ap prog 182:=⟨call182⟩
theorem Ct:ap prog 183:=⟨call183⟩
theorem Cu:ap prog 184:=⟨call184⟩
theorem Cv:ap prog 185:=⟨call185⟩
theorem Cw:ap prog 186:=⟨call186⟩
theorem Cx:ap prog 188:=⟨call188⟩
theorem Cy:ap prog 189:=⟨call189⟩
theorem CA:ap prog 190:=⟨call190⟩
theorem CB:ap prog 191:=⟨call191⟩
theorem CC:ap prog 192:=⟨call192⟩
theorem CD:ap prog 193:=⟨call193⟩
theorem CE:ap prog 194:=⟨call194⟩
theorem CF:ap prog 195:=⟨call195⟩
theorem CG:ap prog 196:=⟨call196⟩
theorem CH:ap prog 197:=⟨call197⟩
theorem CJ:ap prog 198:=⟨call198⟩
theorem CM:ap prog 199:=⟨call199⟩
theorem CO:ap prog 200:=⟨call200⟩
theorem CQ:ap prog 201:=⟨call201⟩
theorem CS:ap prog 202:=⟨call202⟩
theorem CT:ap prog 203:=⟨call203⟩
theorem CU:ap prog 204:=⟨call204⟩
theorem CV:ap prog 205:=⟨call205⟩
theorem CW:ap prog 206:=⟨call206⟩
theorem CX:ap prog 207:=⟨call207⟩
theorem CY:ap prog 209:=⟨call209⟩
theorem C0:ap prog 211:=⟨call211⟩
theorem C1:ap prog 212:=⟨call212⟩
theorem C2:ap prog 214:=⟨call214⟩
theorem C3:ap prog 215:=⟨call215⟩
theorem C4:ap prog 217:=⟨call217⟩
theorem C5:ap prog 218:=⟨call218⟩
theorem C7:ap prog 220:=⟨call220⟩
theorem C8:ap prog 221:=⟨call221⟩
theorem C9:ap prog 222:=⟨call222⟩
theorem Da:ap prog 223:=⟨call223⟩
theorem Db:ap prog 224:=⟨call224⟩
theorem Dc:ap prog 227:=⟨call227⟩
theorem De:ap prog 228:=⟨call228⟩
theorem Df:ap prog 229:=⟨call229⟩
theorem Dh:ap prog 230:=⟨call230⟩
theorem Dj:ap prog 232:=⟨call232⟩
theorem Dl:ap prog 233:=⟨call233⟩
theorem Dm:ap prog 235:=⟨call235⟩
theorem Dn:ap prog 236:=⟨call236⟩
theorem Dp:ap prog 237:=⟨call237⟩
theorem Dr:ap prog 242:=⟨call242⟩
theorem Dt:ap prog 250:=⟨call250⟩
theorem Du:ap prog 256:=⟨call256⟩
theorem Dv:ap prog 257:=⟨call257⟩
theorem Dw:ap prog 258:=⟨call258⟩
theorem Dx:ap prog 259:=⟨call259⟩
theorem Dz:ap prog 266:=⟨call266⟩
theorem DC:ap prog 283:=⟨call283⟩
theorem DD:ap prog 284:=⟨call284⟩
theorem DE:ap prog 286:=⟨call286⟩
theorem DF:ap prog 287:=⟨call287⟩
theorem DG:ap prog 288:=⟨call288⟩
theorem DH:ap prog 289:=⟨call289⟩
theorem DJ:ap prog 290:=⟨call290⟩
theorem DK:ap prog 291:=⟨call291⟩
theorem DL:ap prog 292:=⟨call292⟩
theorem DM:ap prog 296:=⟨call296⟩
theorem DN:ap prog 297:=⟨call297⟩
theorem DO:ap prog 298:=⟨call298⟩
theorem DP:ap prog 299:=⟨call299⟩
theorem DQ:ap prog 300:=⟨call300⟩
theorem DR:ap prog 301:=⟨call301⟩
theorem DS:ap prog 302:=⟨call302⟩
theorem DT:ap prog 303:=⟨call303⟩
theorem DU:ap prog 304:=⟨call304⟩
theorem DV:ap prog 305:=⟨call305⟩
theorem DW:ap prog 306:=⟨call306⟩
theorem DX:ap prog 307:=⟨call307⟩
theorem DY:ap prog 308:=⟨call308⟩
theorem DZ:ap prog 312:=⟨call312⟩
theorem D0:ap prog 313:=⟨call313⟩
theorem D6:ap prog 314:=⟨call314⟩
theorem D7:ap prog 317:=⟨call317⟩
theorem Ea:ap prog 322:=⟨call322⟩
theorem Eb:ap prog 325:=⟨call325⟩
theorem Ec:ap prog 328:=⟨call328⟩
theorem Ed:ap prog 334:=⟨call334⟩
theorem Eg:ap prog 358:=⟨call358⟩
theorem Eh:ap prog 359:=⟨call359⟩
theorem Ej:ap prog 360:=⟨call360⟩
theorem Ek:ap prog 361:=⟨call361⟩
theorem El:ap prog 362:=⟨call362⟩
theorem Em:ap prog 363:=⟨call363⟩
theorem En:ap prog 364:=⟨call364⟩
theorem Eo:ap prog 365:=⟨call365⟩
theorem Ep:ap prog 369:=⟨call369⟩
theorem Es:ap prog 370:=⟨call370⟩
theorem Et:ap prog 371:=⟨call371⟩
theorem Eu:ap prog 372:=⟨call372⟩
theorem Ev:ap prog 373:=⟨call373⟩
theorem Ew:ap prog 374:=⟨call374⟩
theorem Ex:ap prog 375:=⟨call375⟩
theorem Ey:ap prog 376:=⟨call376⟩
theorem Ez:ap prog 377:=⟨call377⟩
theorem EA:ap prog 378:=⟨call378⟩
theorem EB:ap prog 379:=⟨call379⟩
theorem ED:ap prog 380:=⟨call380⟩
theorem EE:ap prog 381:=⟨call381⟩
theorem EF:ap prog 382:=⟨call382⟩
theorem EG:ap prog 383:=⟨call383⟩
theorem EH:ap prog 384:=⟨call384⟩
theorem EI:ap prog 385:=⟨call385⟩
theorem EJ:ap prog 386:=⟨call386⟩
theorem EK:ap prog 387:=⟨call387⟩
theorem EL:ap prog 388:=⟨call388⟩
theorem EM:ap prog 389:=⟨call389⟩
theorem EO:ap prog 390:=⟨call390⟩
theorem EP:ap prog 391:=⟨call391⟩
theorem EQ:ap prog 392:=⟨call392⟩
theorem ER:ap prog 393:=⟨call393⟩
theorem ES:ap prog 394:=⟨call394⟩
theorem ET:ap prog 395:=⟨call395⟩
theorem EU:ap prog 396:=⟨call396⟩
theorem EV:ap prog 397:=⟨call397⟩
theorem EW:ap prog 398:=⟨call398⟩
theorem EX:ap prog 399:=⟨call399⟩
theorem E0:ap prog 400:=⟨call400⟩
theorem E1:ap prog 401:=⟨call401⟩
theorem E2:ap prog 402:=⟨call402⟩
theorem E3:ap prog 403:=⟨call403⟩
theorem E4:ap prog 404:=⟨call404⟩
theorem E5:ap prog 405:=⟨call405⟩
theorem E6:ap prog 406:=⟨call406⟩
theorem E7:ap prog 407:=⟨call407⟩
theorem E8:ap prog 408:=⟨call408⟩
theorem E9:ap prog 409:=⟨call409⟩
theorem Fb:ap prog 410:=⟨call410⟩
theorem Fc:ap prog 412:=⟨call412⟩
theorem Fe:ap prog 413:=⟨call413⟩
theorem Ff:ap prog 414:=⟨call414⟩
theorem Fg:ap prog 415:=⟨call415⟩
theorem Fh:ap prog 416:=⟨call416⟩
theorem Fi:ap prog 417:=⟨call417⟩
theorem Fj:ap prog 418:=⟨call418⟩
theorem Fk:ap prog 419:=⟨call419⟩
theorem Fm:ap prog 420:=⟨call420⟩
theorem Fo:ap prog 422:=⟨call422⟩
theorem Fp:ap prog 423:=⟨call423⟩
theorem Ft:ap prog 447:=⟨call447⟩
theorem Fu:ap prog 448:=⟨call448⟩
theorem Fv:ap prog 449:=⟨call449⟩
theorem Fx:ap prog 450:=⟨call450⟩
theorem Fy:ap prog 451:=⟨call451⟩
theorem Fz:ap prog 452:=⟨call452⟩
theorem FA:ap prog 453:=⟨call453⟩
theorem FB:ap prog 454:=⟨call454⟩
theorem FC:ap prog 455:=⟨call455⟩
theorem FD:ap prog 456:=⟨call456⟩
theorem FE:ap prog 457:=⟨call457⟩
theorem FF:ap prog 458:=⟨call458⟩
theorem FG:ap prog 459:=⟨call459⟩
theorem FI:ap prog 460:=⟨call460⟩
theorem FJ:ap prog 461:=⟨call461⟩
theorem FK:ap prog 462:=⟨call462⟩
theorem FL:ap prog 463:=⟨call463⟩
theorem FM:ap prog 464:=⟨call464⟩
theorem FN:ap prog 467:=⟨call467⟩
theorem FO:ap prog 468:=⟨call468⟩
theorem FP:ap prog 469:=⟨call469⟩
theorem FR:ap prog 470:=⟨call470⟩
theorem FT:ap prog 471:=⟨call471⟩
theorem FV:ap prog 487:=⟨call487⟩
theorem FW:ap prog 488:=⟨call488⟩
theorem FX:ap prog 489:=⟨call489⟩
theorem FZ:ap prog 490:=⟨call490⟩
theorem F0:ap prog 491:=⟨call491⟩
theorem F1:ap prog 492:=⟨call492⟩
theorem F2:ap prog 493:=⟨call493⟩
theorem F3:ap prog 495:=⟨call495⟩
theorem F6:ap prog 503:=⟨call503⟩
theorem Ga:ap prog 531:=⟨call531⟩
theorem Gb:ap prog 532:=⟨call532⟩
theorem Gc:ap prog 533:=⟨call533⟩
theorem Gd:ap prog 534:=⟨call534⟩
theorem Ge:ap prog 535:=⟨call535⟩
theorem Gf:ap prog 536:=⟨call536⟩
theorem Gg:ap prog 537:=⟨call537⟩
theorem Gh:ap prog 538:=⟨call538⟩
attribute [instance] KB AG JY sf vH J7 Lw vX AZ Ka K2 A8 Kg Bs LC qf r9 Kj Bt LF KF AK J0 Lo AM J1 Bo Lp HV HW HX HY Jx KG AN J2 Bp Lq KH AO J3 Lr KJ AQ J4 vV vF J5 AX J8 Lx Ik Il Iu Iv Iw Ix Iy Iz IA IB Im Io Ip Iq Ir Is JE KR AY vW r0 J9 KT KU A0 KV A1 KW A2 Kb IH II IJ IK JI vI vU Lz JJ A6 Ke LA IL IM IU IV IW IX IY IZ I0 I1 IN IP IQ IR IS IT JK K3 A9 K4 Ba K5 Bb Kh I2 I3 I4 I5 I6 JL K8 K9 Bd I7 I8 I9 Ja JM La Jb Jc Jd Je Jf Jg JN Kk Ar Kl As GV GW GX Jk Km Kn Ko At Au JP Be Lb GY GZ G0 Jl Kp Kq Av Aw JQ Bf Lc G1 G2 G3 Kr Ks Ax Ay JR Bg Ld G4 G5 G6 G7 G8 G9 Kt vB vP Ha Hb Jm vC vQ Le Hc Hd He Jn vD vR Bh Lf Hf Hg Hh Jo Az JS Bi Lh Hi Hj Hk Ku Kv AA JT Li Hn Hp Hq Hr Hs Ht Hu Hv Hl Hm Jp AB JU Bj Lj Hw Hx Hy Jq Kw AD JV Bk Lk Hz HA Jr Kx Ky Kz AE JW Bl Ll AF JX Bm Lm HB HC Js HD HE HF HG Jt KA HH HI HJ Ju AH JZ Bn Ln HK HL HM HN HO Jv KC AI KE AJ HP HQ HR HS HT HU Jw AL HZ Jy KI AP H4 Jz KK AR KL AS KM AT H5 H7 H8 JA vE vS Ls Ia Ib JB KN AU Ic Ie Ig JC vG vT Lt JD KO Lu AV J6 Bq Lv KP AW Ih Ii Ij JF KQ KS IC ID IE JG KX A3 Kc Br Ly KY A4 Kd KZ A5 IF IG JH K0 K1 A7 Kf K6 Bc Ki LD K7 kz vL vO JO Jj qe sb Jh vJ Ji vK vM EY F4 Gk Gn Gy GH Bu BF BQ B0 B3 B4 B6 Ce Cp Cz CN CZ C6 Dg Dq Ds Dy DA DB D9 Ee Ef Ei Er EC EN EZ Fa Fl Fq Fs Fw FH FQ FU FY F5 F7 F8 F9 Gi Gj Gl Gm Gp Gq Gr Gs Gt Gu Gv Gw Gx Gz GA GB GC GD GF GG GK GL GM GN GO GQ GR GS GU Bv Bw Bx Bz BA BB BC BD BE BG BH BI BJ BK BL BM BN BO BP BR BS BT BU BV BW BX BY BZ B1 B2 B5 B7 B8 B9 Ca Cb Cc Cd Cf Cg Ch Ci Cj Ck Cl Cm Cn Co Cq Cr Cs Ct Cu Cv Cw Cx Cy CA CB CC CD CE CF CG CH CJ CM CO CQ CS CT CU CV CW CX CY C0 C1 C2 C3 C4 C5 C7 C8 C9 Da Db Dc De Df Dh Dj Dl Dm Dn Dp Dr Dt Du Dv Dw Dx Dz DC DD DE DF DG DH DJ DK DL DM DN DO DP DQ DR DS DT DU DV DW DX DY DZ D0 D6 D7 Ea Eb Ec Ed Eg Eh Ej Ek El Em En Eo Ep Es Et Eu Ev Ew Ex Ey Ez EA EB ED EE EF EG EH EI EJ EK EL EM EO EP EQ ER ES ET EU EV EW EX E0 E1 E2 E3 E4 E5 E6 E7 E8 E9 Fb Fc Fe Ff Fg Fh Fi Fj Fk Fm Fo Fp Ft Fu Fv Fx Fy Fz FA FB FC FD FE FF FG FI FJ FK FL FM FN FO FP FR FT FV FW FX FZ F0 F1 F2 F3 F6 Ga Gb Gc Gd Ge Gf Gg Gh
theorem mixed:prog.follows .mixedOrders=true:=by kernel_rfl
structure nb(P:Program)(R:ao)(t:TypeId)(v:Value){α:Type}(lt:α→α→Bool)(I:List α→au→Prop):Prop where
 bX:∀L T,I L T→L.length≤1000000000
 len:∀L T,I L T→fY P t v "Len" [] R T fun u T'=>u=.int .i64 L.length∧I L T'
 less:∀L T (i k:Nat) x y,I L T→L[i]? =some x→L[k]? =some y→fY P t v "Less" [.int .i64 i,.int .i64 k] R T fun u T'=>u=.bool (lt x y)∧I L T'
 swap:∀L T (i k:Nat),I L T→i<L.length→k<L.length→fY P t v "Swap" [.int .i64 i,.int .i64 k] R T fun _ T'=>I (bY L i k) T'
section
variable{R:ao}{t:TypeId}{v:Value}{α:Type}{lt:α->α->Bool}{I:List α->au->Prop}
theorem yM(hi:nb prog R t v lt I)(U:SO lt)(L:List α)(T:au)(h:I L T)(j:Nat)(V:j<L.length):
  Spec prog 467 [.iface t v,.int .i64 j] R [T] λu H'=>∃T',H'=[T']/\u=.tuple #[]/\∃L',I L' T'/\L'.Perm L/\(∀k,j<k->L'[k]? =L[k]?)/\∀n,n<=L.length->j<n->Up lt L n j->eS lt L' n:=by
 have z:=hi.bX L T h
 refine Spec.body func467 rfl results467 ntmps467 rfl ?_
 refine .block ?_
 refine .loop (X:=Nat×List α×au) (λy=>I y.2.1 y.2.2/\y.1<=j/\y.2.1.Perm L/\(∀k,j<k->y.2.1[k]? =L[k]?)/\∀n,n<=L.length->j<n->Up lt L n j->Up lt y.2.1 n y.1) (λy=>[(0,.iface t v),(1,iN y.1)]) (λy=>[y.2.2]) (λy=>y.1) (j,L,T) ⟨h,ab1 _,.refl _,λ_ _=>rfl,λ_ _ _ h=>h⟩ kE.c.c rH ?_
 rintro⟨i,f,G⟩ ⟨w,N,l,p,r⟩
 simp only at w N l p r⊢
 have W:=l.length_eq
 obtain⟨x,A⟩:∃x,f[i]? =some x:=⟨_,bd (by omega)⟩
 obtain⟨y,B⟩:∃y,f[bx i]? =some y:=⟨_,bd (by unfold bx;omega)⟩
 refine .block<|.sr<|.mo rfl ?_
 refine .q (.i64 ((i:Int)-1) .sub ⟨rfl,by omega,by omega⟩) ?_
 refine .q (.i64 ((bx i:Nat):Int) .quo ⟨tT,by omega,by unfold bx;omega⟩) ?_
 refine .ag rfl<|.zs<|.sr<|.mo rfl<|.mo rfl<|.q .cG<|.mo rfl ?_
 refine .split (t:=11) rfl (λd=>?_) (λd=>?_)
 refine .gF d<|.gF d<|.gF d<|.gF d<|.gF d<|.q (.bA d) ?_
 refine .zn<|.cW ?_
 refine .exit (bk (iP (bw (bq ?_))))
 refine dc _ .none rH ?_
 ·have E:bx i=i:=by simp at d;omega
  refine⟨_,rfl,rfl,f,w,l,p,λn o m g=>?_⟩
  have K:i=0:=by
   rcases Nat.eq_zero_or_pos i with e|e
   ·exact e
   ·have:=eP e;omega
  subst K
  exact(r n o m g).yy
 refine .gT d<|.mo rfl<|.gT d<|.mo rfl<|.gT d<|.mo rfl<|.gT d ?_
 refine .kx (hi.less f G i (bx i) x y w A B) (λu H g=>?_)
 obtain⟨rfl,C⟩:=g
 refine .gT d<|.q .not<|.q (.bg d) ?_
 refine .zn ?_
 refine .cond rfl (λs=>?_) λs=>?_
 refine .exit (bk (iP (bw (bq ?_))))
 refine dc _ .none rH ?_
 ·refine⟨_,rfl,rfl,f,C,l,p,λn o m g=>(r n o m g).stop λa b D z=>?_⟩
  rw[B]at D;rw[A]at z
  cases D;cases z
  simpa using s
 refine .kn<|.sr<|.mo rfl<|.mo rfl<|.mo rfl ?_
 refine .kx (hi.swap f H (bx i) i C (by unfold bx;omega) (by omega)) (λu J M=>?_)
 refine .zn<|.region<|.mo rfl<|.ag rfl<|.nil<|bz ?_
 ·have Q:lt x y=true:=by simpa using s
  have E:bx i≠i:=by simp at d;omega
  have F:0<i:=by
   rcases Nat.eq_zero_or_pos i with e|e
   ·subst e;exact absurd rfl E
   ·exact e
  have S:=eP F
  exact br (bx i,bY f (bx i) i,J) ⟨M,by omega,pN.trans l,λk O=>by
   rw[eg (by omega) (by omega),if_neg (by omega),if_neg (by omega)];exact p k O,λn o m g=>(r n o m g).step U F (by omega) (by omega) A B Q⟩ S kE.c.c rH
theorem vg(hi:nb prog R t v lt I)(p:SO lt)(L:List α)(T:au)(h:I L T)(g n:Nat)(a8:g<=n)(hn:n<=L.length):
  Spec prog 407 [.iface t v,.int .i64 g,.int .i64 n] R [T] λu H'=>∃T',H'=[T']/\∃L' m,I L' T'/\u=.bool m/\L'.Perm L/\(∀k,n<=k->L'[k]? =L[k]?)/\(jO lt L n g->(m=true->eS lt L' n)/\(m=false->Up lt L' n g)):=by
 have O:=hi.bX L T h
 refine Spec.body func407 rfl results407 ntmps407 rfl ?_
 refine .sr<|.ag rfl<|.z<|.mo rfl<|.ag rfl<|.zs<|.block ?_
 refine .loop (X:=Nat×List α×au) (λy=>I y.2.1 y.2.2/\g<=y.1/\y.1<=n/\y.2.1.Perm L/\(∀k,n<=k->y.2.1[k]? =L[k]?)/\(jO lt L n g->jO lt y.2.1 n y.1/\(y.1≠g->fi lt y.2.1 (bx y.1) y.1))) (λy=>[(0,.iface t v),(1,iN g),(2,iN n),(7,iN y.1)]) (λy=>[y.2.2]) (λy=>n-y.1) (g,L,T) ⟨h,ab1 _,a8,.refl _,λ_ _=>rfl,λh=>⟨h,λe=>absurd rfl e⟩⟩ kE.c.c.c.c rH ?_
 rintro⟨i,l,Z⟩ ⟨U,a9,b0,N,V,E⟩
 simp only at U a9 b0 N V E⊢
 have hl:=N.length_eq
 refine .block<|.sr<|.mo rfl ?_
 refine .ia (2*i) .mul ?_
 refine .ia (2*i+1) .add ?_
 refine .ag rfl<|.zs<|.sr<|.mo rfl<|.mo rfl<|.q .geq<|.mo rfl ?_
 refine .split (t:=18) rfl (λC=>?_) (λC=>?_)
 refine .gF C<|.gF C<|.q (.bA C) ?_
 refine .zn<|.cW ?_
 have a7:n<=2*i+1:=by
  first
   |(simp at C;omega)
   |(simp at h1;omega)
 refine .exit (bk (iP (bw (bq ?_))))
 refine aG<|.sr<|.mo rfl<|.mo rfl<|.q .gtr<|.az rfl ?_
 refine .ret (aO _ (.one (.tmp rfl)) rH ?_)
 ·refine⟨_,rfl,l,decide (g<i),by assumption,by simp,N,V,λd=>?_⟩
  have G:Up lt l n i:=(E d).1.stop λc s w f a b F O=>by
   first
    |(simp only[bx]at f;omega)
    |(rw[Y]at F;cases F;exact p.fJ _ _ _ (W c b s w f O) (by simpa using S))
  refine⟨λA=>?_,λA=>?_⟩
  ·have B:i≠g:=by simp at A;omega
   exact G.stop ((E d).2 B)
  ·have B:i=g:=by simp at A;omega
   rw[<-B];exact G
 refine .gT C<|.mo rfl<|.gT C<|.q .lss<|.q (.bg C) ?_
 refine .zn ?_
 refine .cond rfl (λh1=>?_) λh1=>?_
 have a7:n<=2*i+1:=by
  first
   |(simp at C;omega)
   |(simp at h1;omega)
 refine .exit (bk (iP (bw (bq ?_))))
 refine aG<|.sr<|.mo rfl<|.mo rfl<|.q .gtr<|.az rfl ?_
 refine .ret (aO _ (.one (.tmp rfl)) rH ?_)
 ·refine⟨_,rfl,l,decide (g<i),by assumption,by simp,N,V,λd=>?_⟩
  have G:Up lt l n i:=(E d).1.stop λc s w f a b F O=>by
   first
    |(simp only[bx]at f;omega)
    |(rw[Y]at F;cases F;exact p.fJ _ _ _ (W c b s w f O) (by simpa using S))
  refine⟨λA=>?_,λA=>?_⟩
  ·have B:i≠g:=by simp at A;omega
   exact G.stop ((E d).2 B)
  ·have B:i=g:=by simp at A;omega
   rw[<-B];exact G
 have Q:2*i+1<n:=by simp at C;omega
 obtain⟨y0,Y⟩:∃y,l[i]? =some y:=⟨_,bd (by omega)⟩
 obtain⟨J,o⟩:∃y,l[2*i+1]? =some y:=⟨_,bd (by omega)⟩
 refine .kn<|.sr<|.mo rfl<|.ag rfl<|.zs ?_
 refine bF.cut (X:=Nat×au×α) (λz=>I l z.2.1/\0<z.1/\z.1<n/\bx z.1=i/\l[z.1]? =some z.2.2/\∀c u,0<c->c<n->bx c=i->l[c]? =some u->lt u z.2.2=false) (λz=>[(0,.iface t v),(1,iN g),(2,iN n),(7,iN i),(9,iN z.1)]) (λz=>[z.2.1]) ?_ ?_
 refine .sr<|.mo rfl ?_
 refine .ia (2*i+2) .add ?_
 refine .ag rfl<|.z<|.mo rfl<|.mo rfl<|.q .lss<|.mo rfl ?_
 refine .split (t:=28) rfl (λr=>?_) (λr=>?_)
 have a2:2*i+2<n:=by simp at r;omega
 obtain⟨x2,D⟩:∃y,l[2*i+2]? =some y:=⟨_,bd (by omega)⟩
 refine .gT r<|.mo rfl<|.gT r<|.mo rfl<|.gT r<|.mo rfl<|.gT r ?_
 refine .kx (hi.less l Z (2*i+2) (2*i+1) x2 J U D o) (λu K d=>?_)
 obtain⟨rfl,M⟩:=d
 refine .q (.bA r) ?_
 refine .zn ?_
 refine .cond rfl (λH=>?_) λH=>?_
 refine .region<|.mo rfl<|.ag rfl<|.nil ?_
 ·first
   |exact aN (2*i+2,K,x2) ⟨M,by simp only;omega,a2,by simp only[bx];omega,D,λc u s w f d=>by
     have:c=2*i+1\/c=2*i+2:=by simp only[bx]at f;omega
     rcases this with rfl|rfl
     ·rw[o]at d;cases d;exact p.kP (by simpa using H)
     ·rw[D]at d;cases d;exact p.eK _⟩ kE.c.c.c.c.c rH
   |exact aN (2*i+1,K,J) ⟨M,by simp only;omega,Q,by simp only[bx];omega,o,λc u s w f d=>by
     have:c=2*i+1\/c=2*i+2:=by simp only[bx]at f;omega
     rcases this with rfl|rfl
     ·rw[o]at d;cases d;exact p.eK _
     ·rw[D]at d;cases d;simpa using H⟩ kE.c.c.c.c.c rH
   |exact aN (2*i+1,Z,J) ⟨U,by simp only;omega,Q,by simp only[bx];omega,o,λc u s w f d=>by
     have:c=2*i+1:=by simp only[bx]at f;simp at r;omega
     subst this
     rw[o]at d;cases d;exact p.eK _⟩ kE.c.c.c.c.c rH
 refine .skip ?_
 ·first
   |exact aN (2*i+2,K,x2) ⟨M,by simp only;omega,a2,by simp only[bx];omega,D,λc u s w f d=>by
     have:c=2*i+1\/c=2*i+2:=by simp only[bx]at f;omega
     rcases this with rfl|rfl
     ·rw[o]at d;cases d;exact p.kP (by simpa using H)
     ·rw[D]at d;cases d;exact p.eK _⟩ kE.c.c.c.c.c rH
   |exact aN (2*i+1,K,J) ⟨M,by simp only;omega,Q,by simp only[bx];omega,o,λc u s w f d=>by
     have:c=2*i+1\/c=2*i+2:=by simp only[bx]at f;omega
     rcases this with rfl|rfl
     ·rw[o]at d;cases d;exact p.eK _
     ·rw[D]at d;cases d;simpa using H⟩ kE.c.c.c.c.c rH
   |exact aN (2*i+1,Z,J) ⟨U,by simp only;omega,Q,by simp only[bx];omega,o,λc u s w f d=>by
     have:c=2*i+1:=by simp only[bx]at f;simp at r;omega
     subst this
     rw[o]at d;cases d;exact p.eK _⟩ kE.c.c.c.c.c rH
 refine .gF r<|.gF r<|.gF r<|.gF r<|.q (.bg r) ?_
 refine .zn<|.bB<|.skip ?_
 ·first
   |exact aN (2*i+2,K,x2) ⟨M,by simp only;omega,a2,by simp only[bx];omega,D,λc u s w f d=>by
     have:c=2*i+1\/c=2*i+2:=by simp only[bx]at f;omega
     rcases this with rfl|rfl
     ·rw[o]at d;cases d;exact p.kP (by simpa using H)
     ·rw[D]at d;cases d;exact p.eK _⟩ kE.c.c.c.c.c rH
   |exact aN (2*i+1,K,J) ⟨M,by simp only;omega,Q,by simp only[bx];omega,o,λc u s w f d=>by
     have:c=2*i+1\/c=2*i+2:=by simp only[bx]at f;omega
     rcases this with rfl|rfl
     ·rw[o]at d;cases d;exact p.eK _
     ·rw[D]at d;cases d;simpa using H⟩ kE.c.c.c.c.c rH
   |exact aN (2*i+1,Z,J) ⟨U,by simp only;omega,Q,by simp only[bx];omega,o,λc u s w f d=>by
     have:c=2*i+1:=by simp only[bx]at f;simp at r;omega
     subst this
     rw[o]at d;cases d;exact p.eK _⟩ kE.c.c.c.c.c rH
 intro y hy
 obtain⟨j,T3,x⟩:=y
 obtain⟨a3,a0,a4,a1,hx,W⟩:=hy
 simp only at a3 a0 a4 a1 hx W⊢
 have b2:i<j:=a1▸eP a0
 refine aG<|.seq<|.sr<|.mo rfl<|.mo rfl<|.mo rfl ?_
 refine .kx (hi.less l T3 j i x y0 a3 hx Y) (λu T4 d=>?_)
 obtain⟨rfl,a5⟩:=d
 refine .q .not<|.zn ?_
 refine .cond rfl (λS=>?_) λS=>?_
 refine .exit (bk (iP (bw (bq ?_))))
 refine aG<|.sr<|.mo rfl<|.mo rfl<|.q .gtr<|.az rfl ?_
 refine .ret (aO _ (.one (.tmp rfl)) rH ?_)
 ·refine⟨_,rfl,l,decide (g<i),by assumption,by simp,N,V,λd=>?_⟩
  have G:Up lt l n i:=(E d).1.stop λc s w f a b F O=>by
   first
    |(simp only[bx]at f;omega)
    |(rw[Y]at F;cases F;exact p.fJ _ _ _ (W c b s w f O) (by simpa using S))
  refine⟨λA=>?_,λA=>?_⟩
  ·have B:i≠g:=by simp at A;omega
   exact G.stop ((E d).2 B)
  ·have B:i=g:=by simp at A;omega
   rw[<-B];exact G
 refine .kn<|.sr<|.mo rfl<|.mo rfl<|.mo rfl ?_
 refine .kx (hi.swap l T4 i j a5 (by omega) (by omega)) (λu T5 a6=>?_)
 refine .zn<|.region<|.mo rfl<|.ag rfl<|.nil<|bz ?_
 ·have b1:lt x y0=true:=by simpa using S
  exact br (j,bY l i j,T5) ⟨a6,by simp only;omega,by simp only;omega,pN.trans N,λk hk=>by
   rw[eg (by omega) (by omega),if_neg (by omega),if_neg (by omega)];exact V k hk,λd=>by
    have:=(E d).1.step p a0 a4 (by omega) a1 hx Y b1 W
    exact⟨this.1,λ_=>this.2⟩⟩ (by simp only;omega) kE.c.c.c.c rH
theorem L0(hi:nb prog R t v lt I)(n:SO lt)(L:List α)(T:au)(h:I L T)(i:Nat)(x:i<L.length)(g:jO lt L L.length i):
  Spec prog 422 [.iface t v,.int .i64 i] R [T] λu H'=>∃T',H'=[T']/\u=.tuple #[]/\∃L',I L' T'/\L'.Perm L/\eS lt L' L'.length:=by
 refine Spec.body func422 rfl results422 ntmps422 rfl ?_
 refine .sr<|.mo rfl<|.mo rfl<|.mo rfl ?_
 refine .kx (hi.len L T h) (λu p b=>?_)
 obtain⟨rfl,a⟩:=b
 refine .aT (vg hi n L p a i L.length (by omega) (ab1 _)) (λu r b=>?_)
 obtain⟨e,m,f,rfl,d,A,j⟩:=b
 have k:=d.length_eq
 refine .q .not<|.zn ?_
 refine .cond rfl (λa=>?_) λa=>?_
 have c:m=false:=by simpa using a
 refine .region<|.mo rfl<|.mo rfl ?_
 refine .aT (yM hi n e r f i (by omega)) (λu z b=>?_)
 obtain⟨rfl,o,s,l,B,w⟩:=b
 have y:=l.length_eq
 refine .nil<|dc _ .none rH ?_
 ·exact⟨_,rfl,rfl,o,s,l.trans d,by rw[y,k];exact w _ (by omega) x ((j g).2 c)⟩
 have c:m=true:=by simpa using a
 refine .skip<|dc _ .none rH ?_
 ·exact⟨_,rfl,rfl,e,f,d,by rw[k];exact(j g).1 c⟩
theorem Oh(hi:nb Tryz.prog R t v lt I)(so:SO lt)(L:List α)(T:au)(x:Value)(a:α)(hp:fY Tryz.prog t v "Push" [x] R T fun _ T'=>I (L++[a]) T')(hh:eS lt L L.length):
  Spec prog 423 [.iface t v,x] R [T] fun u H'=>∃T',H'=[T']∧u=.tuple #[]∧∃L',I L' T'∧L'.Perm (L++[a])∧eS lt L' L'.length:=by
 refine Spec.body func423 rfl results423 ntmps423 rfl ?_
 refine .sr<|.mo rfl<|.mo rfl ?_
 refine .kx hp (fun u T1 h1=>?_)
 have hb:=hi.bX _ T1 h1
 simp only[List.length_append,List.length_singleton]at hb
 refine .zn<|.region<|.mo rfl<|.mo rfl ?_
 refine .kx (hi.len _ T1 h1) (fun u T2 hu=>?_)
 obtain⟨rfl,h2⟩:=hu
 refine .q (.i64 ((L.length:Nat):Int) .sub ⟨by simp,by omega,by omega⟩) ?_
 refine .aT (yM hi so _ T2 h2 L.length (by simp)) (fun u T3 hu=>?_)
 obtain⟨rfl,L3,h3,hp3,hs3,hh3⟩:=hu
 have hl3:=hp3.length_eq
 refine .nil<|dc _ .none (bu.refl _) ?_
 ·exact⟨_,rfl,rfl,L3,h3,hp3,by rw[hl3];exact hh3 _ (ab1 _) (by simp) (by simp;exact hh.push a)⟩
theorem Nb{L a:List α}{n:Nat}{x:α}(c:L.length=n+1)(e:L[n]? =some x)(d:L.Perm a):L=L.take n++[x]/\(L.take n).length=n/\a.Perm (x::L.take n):=by
 have b:L=L.take n++[x]:=by
  apply List.ext_getElem?
  intro k
  rcases Nat.lt_trichotomy k n with h|h|h
  ·rw[List.getElem?_append_left (by simp;omega),List.getElem?_take_of_lt h]
  ·subst h
   rw[List.getElem?_append_right (by simp;omega),e]
   simp[c]
  ·rw[List.getElem?_eq_none (by omega),List.getElem?_eq_none (by simp;omega)]
 refine⟨b,by simp;omega,d.symm.trans ?_⟩
 have:(L.take n++[x]).Perm (x::L.take n):=by simp
 rw[<-b]at this
 exact this
theorem eS.P2{L:List α}{n:Nat}(h:eS lt L n)(b:n<=L.length):eS lt (L.take n) (L.take n).length:=by
 have e:(L.take n).length=n:=by simp;omega
 rw[e]
 exact h.fK λk a=>List.getElem?_take_of_lt a
theorem Oc(hi:nb prog R t v lt I)(so:SO lt)(L:List α)(T:au)(h:I L T)(x:α)(hx:L[0]? =some x)(hh:eS lt L L.length)(px:α→Value)(J:List α→au→Prop)
  (hp:∀L' T',I (L'++[x]) T'→L'.length+1=L.length→fY Tryz.prog t v "Pop" [] R T' fun u T''=>u=px x∧J L' T''):
  Spec prog 306 [.iface t v] R [T] fun u H'=>∃T',H'=[T']∧u=px x∧∃L',J L' T'∧L.Perm (x::L')∧eS lt L' L'.length:=by
 have hb:=hi.bX L T h
 have hpos:0<L.length:=(List.getElem?_eq_some_iff.1 hx).1
 obtain⟨n,hn⟩:∃n,L.length=n+1:=⟨L.length-1,by omega⟩
 refine Spec.body func306 rfl results306 ntmps306 rfl ?_
 refine .sr<|.ag rfl<|.z<|.mo rfl ?_
 refine .kx (hi.len L T h) (fun u T1 hu=>?_)
 obtain⟨rfl,h1⟩:=hu
 refine .q (.i64 ((n:Nat):Int) .sub ⟨by omega,by omega,by omega⟩) ?_
 refine .ag rfl<|.z<|.mo rfl<|.mo rfl ?_
 refine .kx (hi.swap L T1 0 n h1 (by omega) (by omega)) (fun u T2 h2=>?_)
 refine .z<|.mo rfl<|.mo rfl ?_
 refine .aT (vg hi so _ T2 h2 0 n (by omega) (by rw[kl];omega)) (fun u T3 hu=>?_)
 obtain⟨L3,m,h3,rfl,hp3,hs3,hh3⟩:=hu
 have hx3:L3[n]? =some x:=by rw[hs3 n (ab1 _),eg (by omega) (by omega),if_pos rfl,hx]
 have hl3:=hp3.length_eq
 rw[kl]at hl3
 obtain⟨e1,e2,e3⟩:=Nb (by omega) hx3 (hp3.trans pN)
 have hhole:jO lt (bY L 0 n) n 0:=(hh.mono (by omega)).hole so (by omega) fun k hk hk0=>by rw[eg (by omega) (by omega),if_neg (by omega),if_neg hk0]
 have hH:eS lt L3 n:=by
  cases m with
  |true=>exact(hh3 hhole).1 rfl
  |false=>exact((hh3 hhole).2 rfl).yy
 refine .z<|.mo rfl ?_
 rw[e1]at h3
 refine .kx (hp _ T3 h3 (by omega)) (fun u T4 hu=>?_)
 obtain⟨rfl,h4⟩:=hu
 refine .ag rfl<|.zn ?_
 refine .ret (aO _ (.one (.tmp rfl)) (bu.refl _) ?_)
 ·exact⟨_,rfl,rfl,_,h4,e3,hH.P2 (by omega)⟩
end
end Go.Proofs.YtocjmmbldeljnaaGreatDoor

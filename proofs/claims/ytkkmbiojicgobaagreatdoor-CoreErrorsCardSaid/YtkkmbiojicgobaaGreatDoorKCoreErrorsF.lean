/- What the law 'CoreErrors' uses. No condition. -/
import Derived.Test.YtkkmbiojicgobaaGreatDoorChecked
import Derived.Test.YtkkmbiojicgobaaGreatDoorKCoreErrorsB
set_option linter.unusedSimpArgs false
set_option linter.unusedVariables false
namespace Go.Proofs.YtkkmbiojicgobaaGreatDoor
set_option linter.defProp false
def ab6:=@Nat.le_refl
open Tryz
set_option linter.unusedVariables false
theorem u6:bP prog 2 (.int .i64):=⟨underlying2⟩
theorem AP:dj prog 2 false:=⟨isAgg2⟩
theorem IH:Sz prog 2 1:=⟨sizeOf2⟩
theorem u9:bP prog 3 (.int .i64):=⟨underlying3⟩
theorem A1:dj prog 3 false:=⟨isAgg3⟩
theorem IT:Sz prog 3 1:=⟨sizeOf3⟩
theorem Bo:By prog 3 8:=⟨λw=>⟨_,typeInfo3 w,rfl⟩⟩
theorem JV:Zr prog 3 (.int .i64 0):=⟨zeroValue3⟩
theorem Jy:bP prog 4 (.bool):=⟨underlying4⟩
theorem A8:dj prog 4 false:=⟨isAgg4⟩
theorem IZ:Sz prog 4 1:=⟨sizeOf4⟩
theorem JA:bP prog 5 (.int .u8):=⟨underlying5⟩
theorem Ba:dj prog 5 false:=⟨isAgg5⟩
theorem I1:Sz prog 5 1:=⟨sizeOf5⟩
theorem Bp:By prog 5 1:=⟨λw=>⟨_,typeInfo5 w,rfl⟩⟩
theorem JY:Zr prog 5 (.int .u8 0):=⟨zeroValue5⟩
theorem qn:bP prog 9 (.string):=⟨underlying9⟩
theorem rO:dj prog 9 false:=⟨isAgg9⟩
theorem I4:Sz prog 9 1:=⟨sizeOf9⟩
theorem Bt:By prog 9 16:=⟨λw=>⟨_,typeInfo9 w,rfl⟩⟩
theorem J1:Zr prog 9 (.string {data:=#[]}):=⟨zeroValue9⟩
theorem Jf:bP prog 22 (.slice 29):=⟨underlying22⟩
theorem Ji:bP prog 23 (.slice 9):=⟨underlying23⟩
theorem AS:dj prog 23 false:=⟨isAgg23⟩
theorem IK:Sz prog 23 1:=⟨sizeOf23⟩
theorem JO:Zr prog 23 (sZ):=⟨zeroValue23⟩
theorem AW:dj prog 25 true:=⟨isAgg25⟩
theorem IP:Sz prog 25 4:=⟨sizeOf25⟩
theorem Bn:By prog 25 80:=⟨λw=>⟨_,typeInfo25 w,rfl⟩⟩
theorem JS:Zr prog 25 (.agg [.string {data:=#[]},.string {data:=#[]},sZ,sZ].toArray):=⟨zeroValue25⟩
theorem Hl:bk prog 25 0 0:=bk.of underlying25 rfl sizeOf9 rfl rfl
theorem Hm:bk prog 25 1 1:=bk.of underlying25 rfl sizeOf9 rfl rfl
theorem Hn:bk prog 25 2 2:=bk.of underlying25 rfl sizeOf23 rfl rfl
theorem Hp:bk prog 25 3 3:=bk.of underlying25 rfl sizeOf23 rfl rfl
theorem Iv:hX prog 25 [(0,1),(1,1),(2,1),(3,1)] [.string {data:=#[]},.string {data:=#[]},sZ,sZ]:=⟨_,underlying25,zeroValue25,λw=>by simp[sizeOf23,sizeOf9]⟩
theorem Jn:bP prog 26 (.slice 5):=⟨underlying26⟩
theorem AX:dj prog 26 false:=⟨isAgg26⟩
theorem IQ:Sz prog 26 1:=⟨sizeOf26⟩
theorem u7:bP prog 27 (.int .u64):=⟨underlying27⟩
theorem AY:dj prog 27 false:=⟨isAgg27⟩
theorem A0:dj prog 29 true:=⟨isAgg29⟩
theorem IS:Sz prog 29 16:=⟨sizeOf29⟩
theorem JU:Zr prog 29 (.agg [.int .i64 0,.int .i64 0,.string {data:=#[]},.string {data:=#[]},sZ,sZ,.string {data:=#[]},.string {data:=#[]},.string {data:=#[]},.string {data:=#[]},sZ,.string {data:=#[]},.string {data:=#[]},sZ,sZ,.int .u64 0].toArray):=⟨zeroValue29⟩
theorem Hq:bk prog 29 0 0:=bk.of underlying29 rfl sizeOf3 rfl rfl
theorem Hr:bk prog 29 1 1:=bk.of underlying29 rfl sizeOf2 rfl rfl
theorem Hw:bk prog 29 2 2:=bk.of underlying29 rfl sizeOf25 rfl rfl
theorem Hx:bk prog 29 3 6:=bk.of underlying29 rfl sizeOf9 rfl rfl
theorem Hy:bk prog 29 4 7:=bk.of underlying29 rfl sizeOf9 rfl rfl
theorem Hz:bk prog 29 5 8:=bk.of underlying29 rfl sizeOf9 rfl rfl
theorem HA:bk prog 29 6 9:=bk.of underlying29 rfl sizeOf9 rfl rfl
theorem HB:bk prog 29 7 10:=bk.of underlying29 rfl sizeOf23 rfl rfl
theorem HC:bk prog 29 8 11:=bk.of underlying29 rfl sizeOf9 rfl rfl
theorem HD:bk prog 29 9 12:=bk.of underlying29 rfl sizeOf9 rfl rfl
theorem Ht:bk prog 29 10 13:=bk.of underlying29 rfl sizeOf26 rfl rfl
theorem Hu:bk prog 29 11 14:=bk.of underlying29 rfl sizeOf26 rfl rfl
theorem Hv:bk prog 29 12 15:=bk.of underlying29 rfl sizeOf27 rfl rfl
theorem Jr:bP prog 30 (.pointer 74):=⟨underlying30⟩
theorem Jv:bP prog 33 (.slice 25):=⟨underlying33⟩
theorem A5:dj prog 33 false:=⟨isAgg33⟩
theorem IW:Sz prog 33 1:=⟨sizeOf33⟩
theorem HI:bk prog 35 0 0:=bk.of underlying35 rfl sizeOf33 rfl rfl
theorem Jw:bP prog 36 (.slice 117):=⟨underlying36⟩
theorem A6:dj prog 36 false:=⟨isAgg36⟩
theorem IX:Sz prog 36 1:=⟨sizeOf36⟩
theorem Jx:bP prog 37 (.slice 121):=⟨underlying37⟩
theorem A7:dj prog 37 false:=⟨isAgg37⟩
theorem IY:Sz prog 37 1:=⟨sizeOf37⟩
theorem HJ:bk prog 39 0 0:=bk.of underlying39 rfl sizeOf36 rfl rfl
theorem HK:bk prog 39 1 1:=bk.of underlying39 rfl sizeOf37 rfl rfl
theorem Jz:bP prog 40 (.slice 58):=⟨underlying40⟩
theorem A9:dj prog 40 false:=⟨isAgg40⟩
theorem I0:Sz prog 40 1:=⟨sizeOf40⟩
theorem HL:bk prog 42 0 0:=bk.of underlying42 rfl sizeOf40 rfl rfl
theorem HM:bk prog 42 1 1:=bk.of underlying42 rfl sizeOf3 rfl rfl
theorem HN:bk prog 44 0 0:=bk.of underlying44 rfl sizeOf35 rfl rfl
theorem HO:bk prog 44 1 1:=bk.of underlying44 rfl sizeOf39 rfl rfl
theorem HP:bk prog 44 2 3:=bk.of underlying44 rfl sizeOf42 rfl rfl
theorem HQ:bk prog 44 3 5:=bk.of underlying44 rfl sizeOf2 rfl rfl
theorem Ix:hX prog 44 [(0,1),(1,2),(3,2),(5,1)] [sZ,sZ,sZ,sZ,.int .i64 0,.int .i64 0]:=⟨_,underlying44,zeroValue44,λw=>by simp[sizeOf2,sizeOf35,sizeOf39,sizeOf42]⟩
theorem JB:bP prog 51 (.slice 60):=⟨underlying51⟩
theorem JC:bP prog 52 (.pointer 102):=⟨underlying52⟩
theorem Bb:dj prog 52 false:=⟨isAgg52⟩
theorem Bc:dj prog 58 true:=⟨isAgg58⟩
theorem I2:Sz prog 58 9:=⟨sizeOf58⟩
theorem Bq:By prog 58 112:=⟨λw=>⟨_,typeInfo58 w,rfl⟩⟩
theorem JZ:Zr prog 58 (.agg [.string {data:=#[]},.int .i64 0,.string {data:=#[]},.string {data:=#[]},sZ,.int .i64 0,.int .i64 0,.int .u64 0,.bool false].toArray):=⟨zeroValue58⟩
theorem HR:bk prog 58 0 0:=bk.of underlying58 rfl sizeOf9 rfl rfl
theorem HS:bk prog 58 1 1:=bk.of underlying58 rfl sizeOf3 rfl rfl
theorem HT:bk prog 58 2 2:=bk.of underlying58 rfl sizeOf9 rfl rfl
theorem HU:bk prog 58 3 3:=bk.of underlying58 rfl sizeOf9 rfl rfl
theorem HV:bk prog 58 4 4:=bk.of underlying58 rfl sizeOf23 rfl rfl
theorem HW:bk prog 58 5 5:=bk.of underlying58 rfl sizeOf3 rfl rfl
theorem HX:bk prog 58 6 6:=bk.of underlying58 rfl sizeOf2 rfl rfl
theorem HY:bk prog 58 7 7:=bk.of underlying58 rfl sizeOf27 rfl rfl
theorem HZ:bk prog 58 8 8:=bk.of underlying58 rfl sizeOf4 rfl rfl
theorem Iy:hX prog 58 [(0,1),(1,1),(2,1),(3,1),(4,1),(5,1),(6,1),(7,1),(8,1)] [.string {data:=#[]},.int .i64 0,.string {data:=#[]},.string {data:=#[]},sZ,.int .i64 0,.int .i64 0,.int .u64 0,.bool false]:=⟨_,underlying58,zeroValue58,λw=>by simp[sizeOf2,sizeOf23,sizeOf27,sizeOf3,sizeOf4,sizeOf9]⟩
theorem Bd:dj prog 60 true:=⟨isAgg60⟩
theorem I3:Sz prog 60 9:=⟨sizeOf60⟩
theorem Br:By prog 60 112:=⟨λw=>⟨_,typeInfo60 w,rfl⟩⟩
theorem J0:Zr prog 60 (.agg [.string {data:=#[]},.int .i64 0,.string {data:=#[]},.string {data:=#[]},sZ,.int .i64 0,.int .i64 0,.int .u64 0,.bool false].toArray):=⟨zeroValue60⟩
theorem H3:bk prog 60 0 0:=bk.of underlying60 rfl sizeOf9 rfl rfl
theorem H4:bk prog 60 1 1:=bk.of underlying60 rfl sizeOf3 rfl rfl
theorem H5:bk prog 60 2 2:=bk.of underlying60 rfl sizeOf9 rfl rfl
theorem H6:bk prog 60 3 3:=bk.of underlying60 rfl sizeOf9 rfl rfl
theorem H7:bk prog 60 4 4:=bk.of underlying60 rfl sizeOf23 rfl rfl
theorem H8:bk prog 60 5 5:=bk.of underlying60 rfl sizeOf3 rfl rfl
theorem H9:bk prog 60 6 6:=bk.of underlying60 rfl sizeOf2 rfl rfl
theorem Ia:bk prog 60 7 7:=bk.of underlying60 rfl sizeOf27 rfl rfl
theorem Ib:bk prog 60 8 8:=bk.of underlying60 rfl sizeOf4 rfl rfl
theorem Iz:hX prog 60 [(0,1),(1,1),(2,1),(3,1),(4,1),(5,1),(6,1),(7,1),(8,1)] [.string {data:=#[]},.int .i64 0,.string {data:=#[]},.string {data:=#[]},sZ,.int .i64 0,.int .i64 0,.int .u64 0,.bool false]:=⟨_,underlying60,zeroValue60,λw=>by simp[sizeOf2,sizeOf23,sizeOf27,sizeOf3,sizeOf4,sizeOf9]⟩
theorem JD:bP prog 69 (.pointer 127):=⟨underlying69⟩
theorem Be:dj prog 69 false:=⟨isAgg69⟩
theorem JE:bP prog 71 (.pointer 132):=⟨underlying71⟩
theorem Bf:dj prog 71 false:=⟨isAgg71⟩
theorem Ic:bk prog 74 0 0:=bk.of underlying74 rfl sizeOf69 rfl rfl
theorem Ie:bk prog 74 1 1:=bk.of underlying74 rfl sizeOf71 rfl rfl
theorem Ig:bk prog 74 2 2:=bk.of underlying74 rfl sizeOf52 rfl rfl
theorem Ih:bk prog 74 3 3:=bk.of underlying74 rfl sizeOf2 rfl rfl
theorem IA:hX prog 74 [(0,1),(1,1),(2,1),(3,1)] [.pointer none,.pointer none,.pointer none,.int .i64 0]:=⟨_,underlying74,zeroValue74,λw=>by simp[sizeOf2,sizeOf52,sizeOf69,sizeOf71]⟩
theorem JF:bP prog 99 (.map 9 60):=⟨underlying99⟩
theorem Bg:dj prog 99 false:=⟨isAgg99⟩
theorem I5:bP prog 100 (.pointer 183):=⟨underlying100⟩
theorem AD:dj prog 100 false:=⟨isAgg100⟩
theorem GA:bk prog 102 0 0:=bk.of underlying102 rfl sizeOf99 rfl rfl
theorem GB:bk prog 102 1 1:=bk.of underlying102 rfl sizeOf100 rfl rfl
theorem GC:bk prog 102 2 2:=bk.of underlying102 rfl sizeOf3 rfl rfl
theorem Ii:hX prog 102 [(0,1),(1,1),(2,1)] [.map none,.pointer none,.int .i64 0]:=⟨_,underlying102,zeroValue102,λw=>by simp[sizeOf100,sizeOf3,sizeOf99]⟩
theorem I6:bP prog 109 (.slice 118):=⟨underlying109⟩
theorem I7:bP prog 111 (.slice 123):=⟨underlying111⟩
theorem AE:dj prog 117 true:=⟨isAgg117⟩
theorem IB:Sz prog 117 3:=⟨sizeOf117⟩
theorem Bh:By prog 117 56:=⟨λw=>⟨_,typeInfo117 w,rfl⟩⟩
theorem JG:Zr prog 117 (.agg [.string {data:=#[]},.string {data:=#[]},sZ].toArray):=⟨zeroValue117⟩
theorem GD:bk prog 117 0 0:=bk.of underlying117 rfl sizeOf9 rfl rfl
theorem GF:bk prog 117 1 1:=bk.of underlying117 rfl sizeOf9 rfl rfl
theorem GG:bk prog 117 2 2:=bk.of underlying117 rfl sizeOf23 rfl rfl
theorem Ij:hX prog 117 [(0,1),(1,1),(2,1)] [.string {data:=#[]},.string {data:=#[]},sZ]:=⟨_,underlying117,zeroValue117,λw=>by simp[sizeOf23,sizeOf9]⟩
theorem AF:dj prog 118 true:=⟨isAgg118⟩
theorem IC:Sz prog 118 3:=⟨sizeOf118⟩
theorem Bi:By prog 118 56:=⟨λw=>⟨_,typeInfo118 w,rfl⟩⟩
theorem JH:Zr prog 118 (.agg [.string {data:=#[]},.string {data:=#[]},sZ].toArray):=⟨zeroValue118⟩
theorem GH:bk prog 118 0 0:=bk.of underlying118 rfl sizeOf9 rfl rfl
theorem GK:bk prog 118 1 1:=bk.of underlying118 rfl sizeOf9 rfl rfl
theorem GL:bk prog 118 2 2:=bk.of underlying118 rfl sizeOf23 rfl rfl
theorem Ik:hX prog 118 [(0,1),(1,1),(2,1)] [.string {data:=#[]},.string {data:=#[]},sZ]:=⟨_,underlying118,zeroValue118,λw=>by simp[sizeOf23,sizeOf9]⟩
theorem AG:dj prog 121 true:=⟨isAgg121⟩
theorem ID:Sz prog 121 9:=⟨sizeOf121⟩
theorem Bj:By prog 121 128:=⟨λw=>⟨_,typeInfo121 w,rfl⟩⟩
theorem JI:Zr prog 121 (.agg [.string {data:=#[]},.string {data:=#[]},.string {data:=#[]},.string {data:=#[]},sZ,.string {data:=#[]},.int .i64 0,.int .i64 0,.bool false].toArray):=⟨zeroValue121⟩
theorem GM:bk prog 121 0 0:=bk.of underlying121 rfl sizeOf9 rfl rfl
theorem GN:bk prog 121 1 1:=bk.of underlying121 rfl sizeOf9 rfl rfl
theorem GO:bk prog 121 2 2:=bk.of underlying121 rfl sizeOf9 rfl rfl
theorem GQ:bk prog 121 3 3:=bk.of underlying121 rfl sizeOf9 rfl rfl
theorem GR:bk prog 121 4 4:=bk.of underlying121 rfl sizeOf23 rfl rfl
theorem GS:bk prog 121 5 5:=bk.of underlying121 rfl sizeOf9 rfl rfl
theorem GU:bk prog 121 6 6:=bk.of underlying121 rfl sizeOf2 rfl rfl
theorem GV:bk prog 121 7 7:=bk.of underlying121 rfl sizeOf3 rfl rfl
theorem GW:bk prog 121 8 8:=bk.of underlying121 rfl sizeOf4 rfl rfl
theorem Il:hX prog 121 [(0,1),(1,1),(2,1),(3,1),(4,1),(5,1),(6,1),(7,1),(8,1)] [.string {data:=#[]},.string {data:=#[]},.string {data:=#[]},.string {data:=#[]},sZ,.string {data:=#[]},.int .i64 0,.int .i64 0,.bool false]:=⟨_,underlying121,zeroValue121,λw=>by simp[sizeOf2,sizeOf23,sizeOf3,sizeOf4,sizeOf9]⟩
theorem AH:dj prog 123 true:=⟨isAgg123⟩
theorem IE:Sz prog 123 9:=⟨sizeOf123⟩
theorem Bk:By prog 123 128:=⟨λw=>⟨_,typeInfo123 w,rfl⟩⟩
theorem JJ:Zr prog 123 (.agg [.string {data:=#[]},.string {data:=#[]},.string {data:=#[]},.string {data:=#[]},sZ,.string {data:=#[]},.int .i64 0,.int .i64 0,.bool false].toArray):=⟨zeroValue123⟩
theorem GX:bk prog 123 0 0:=bk.of underlying123 rfl sizeOf9 rfl rfl
theorem GY:bk prog 123 1 1:=bk.of underlying123 rfl sizeOf9 rfl rfl
theorem GZ:bk prog 123 2 2:=bk.of underlying123 rfl sizeOf9 rfl rfl
theorem G0:bk prog 123 3 3:=bk.of underlying123 rfl sizeOf9 rfl rfl
theorem G1:bk prog 123 4 4:=bk.of underlying123 rfl sizeOf23 rfl rfl
theorem G2:bk prog 123 5 5:=bk.of underlying123 rfl sizeOf9 rfl rfl
theorem G3:bk prog 123 6 6:=bk.of underlying123 rfl sizeOf2 rfl rfl
theorem G4:bk prog 123 7 7:=bk.of underlying123 rfl sizeOf3 rfl rfl
theorem G5:bk prog 123 8 8:=bk.of underlying123 rfl sizeOf4 rfl rfl
theorem Im:hX prog 123 [(0,1),(1,1),(2,1),(3,1),(4,1),(5,1),(6,1),(7,1),(8,1)] [.string {data:=#[]},.string {data:=#[]},.string {data:=#[]},.string {data:=#[]},sZ,.string {data:=#[]},.int .i64 0,.int .i64 0,.bool false]:=⟨_,underlying123,zeroValue123,λw=>by simp[sizeOf2,sizeOf23,sizeOf3,sizeOf4,sizeOf9]⟩
theorem I8:bP prog 125 (.map 9 25):=⟨underlying125⟩
theorem AI:dj prog 125 false:=⟨isAgg125⟩
theorem G6:bk prog 127 0 0:=bk.of underlying127 rfl sizeOf125 rfl rfl
theorem Io:hX prog 127 [(0,1)] [.map none]:=⟨_,underlying127,zeroValue127,λw=>by simp[sizeOf125]⟩
theorem I9:bP prog 128 (.map 169 23):=⟨underlying128⟩
theorem AJ:dj prog 128 false:=⟨isAgg128⟩
theorem Ja:bP prog 129 (.map 9 123):=⟨underlying129⟩
theorem AK:dj prog 129 false:=⟨isAgg129⟩
theorem G7:bk prog 132 0 0:=bk.of underlying132 rfl sizeOf128 rfl rfl
theorem G8:bk prog 132 1 1:=bk.of underlying132 rfl sizeOf129 rfl rfl
theorem G9:bk prog 132 2 2:=bk.of underlying132 rfl sizeOf100 rfl rfl
theorem Ip:hX prog 132 [(0,1),(1,1),(2,1)] [.map none,.map none,.pointer none]:=⟨_,underlying132,zeroValue132,λw=>by simp[sizeOf100,sizeOf128,sizeOf129]⟩
theorem AL:dj prog 135 false:=⟨isAgg135⟩
theorem AM:dj prog 147 true:=⟨isAgg147⟩
theorem IF:Sz prog 147 2:=⟨sizeOf147⟩
theorem JK:Zr prog 147 (.agg [.string {data:=#[]},.string {data:=#[]}].toArray):=⟨zeroValue147⟩
theorem Ha:bk prog 147 0 0:=bk.of underlying147 rfl sizeOf9 rfl rfl
theorem Hb:bk prog 147 1 1:=bk.of underlying147 rfl sizeOf9 rfl rfl
theorem Iq:hX prog 147 [(0,1),(1,1)] [.string {data:=#[]},.string {data:=#[]}]:=⟨_,underlying147,zeroValue147,λw=>by simp[sizeOf9]⟩
theorem Jb:bP prog 167 (.int .u64):=⟨underlying167⟩
theorem uY:dj prog 169 true:=⟨isAgg169⟩
theorem u4:Sz prog 169 2:=⟨sizeOf169⟩
theorem JL:Zr prog 169 (.agg [.string {data:=#[]},.string {data:=#[]}].toArray):=⟨zeroValue169⟩
theorem Hc:bk prog 169 0 0:=bk.of underlying169 rfl sizeOf9 rfl rfl
theorem Hd:bk prog 169 1 1:=bk.of underlying169 rfl sizeOf9 rfl rfl
theorem Ir:hX prog 169 [(0,1),(1,1)] [.string {data:=#[]},.string {data:=#[]}]:=⟨_,underlying169,zeroValue169,λw=>by simp[sizeOf9]⟩
theorem Jc:bP prog 179 (.map 9 225):=⟨underlying179⟩
theorem AN:dj prog 179 false:=⟨isAgg179⟩
theorem Jd:bP prog 181 (.slice 225):=⟨underlying181⟩
theorem AO:dj prog 181 false:=⟨isAgg181⟩
theorem IG:Sz prog 181 1:=⟨sizeOf181⟩
theorem He:bk prog 183 0 0:=bk.of underlying183 rfl sizeOf181 rfl rfl
theorem Hf:bk prog 183 1 1:=bk.of underlying183 rfl sizeOf179 rfl rfl
theorem Is:hX prog 183 [(0,1),(1,1)] [sZ,.map none]:=⟨_,underlying183,zeroValue183,λw=>by simp[sizeOf179,sizeOf181]⟩
theorem Je:bP prog 217 (.int .u32):=⟨underlying217⟩
theorem AQ:dj prog 217 false:=⟨isAgg217⟩
theorem II:Sz prog 217 1:=⟨sizeOf217⟩
theorem Bl:By prog 217 4:=⟨λw=>⟨_,typeInfo217 w,rfl⟩⟩
theorem JM:Zr prog 217 (.int .u32 0):=⟨zeroValue217⟩
theorem Hg:bk prog 224 0 0:=bk.of underlying224 rfl sizeOf9 rfl rfl
theorem Hh:bk prog 224 1 1:=bk.of underlying224 rfl sizeOf2 rfl rfl
theorem Hi:bk prog 224 2 2:=bk.of underlying224 rfl sizeOf3 rfl rfl
theorem Iu:hX prog 224 [(0,1),(1,1),(2,1)] [.string {data:=#[]},.int .i64 0,.int .i64 0]:=⟨_,underlying224,zeroValue224,λw=>by simp[sizeOf2,sizeOf3,sizeOf9]⟩
theorem Jg:bP prog 225 (.pointer 224):=⟨underlying225⟩
theorem AR:dj prog 225 false:=⟨isAgg225⟩
theorem IJ:Sz prog 225 1:=⟨sizeOf225⟩
theorem Bm:By prog 225 8:=⟨λw=>⟨_,typeInfo225 w,rfl⟩⟩
theorem JN:Zr prog 225 (.pointer none):=⟨zeroValue225⟩
theorem Jh:bP prog 227 (.pointer 181):=⟨underlying227⟩
theorem Jj:bP prog 232 (.pointer 234):=⟨underlying232⟩
theorem AT:dj prog 232 false:=⟨isAgg232⟩
theorem IL:Sz prog 232 1:=⟨sizeOf232⟩
theorem JP:Zr prog 234 (.agg [.pointer none,sZ].toArray):=⟨zeroValue234⟩
theorem Hj:bk prog 234 0 0:=bk.of underlying234 rfl sizeOf232 rfl rfl
theorem Hk:bk prog 234 1 1:=bk.of underlying234 rfl sizeOf26 rfl rfl
theorem Jk:bP prog 243 (.slice 3):=⟨underlying243⟩
theorem Jl:bP prog 245 (.array 32 5):=⟨underlying245⟩
theorem AU:dj prog 245 true:=⟨isAgg245⟩
theorem IM:Sz prog 245 32:=⟨sizeOf245⟩
theorem JQ:Zr prog 245 (.agg [.int .u8 0,.int .u8 0,.int .u8 0,.int .u8 0,.int .u8 0,.int .u8 0,.int .u8 0,.int .u8 0,.int .u8 0,.int .u8 0,.int .u8 0,.int .u8 0,.int .u8 0,.int .u8 0,.int .u8 0,.int .u8 0,.int .u8 0,.int .u8 0,.int .u8 0,.int .u8 0,.int .u8 0,.int .u8 0,.int .u8 0,.int .u8 0,.int .u8 0,.int .u8 0,.int .u8 0,.int .u8 0,.int .u8 0,.int .u8 0,.int .u8 0,.int .u8 0].toArray):=⟨zeroValue245⟩
theorem Jm:bP prog 247 (.int .u64):=⟨underlying247⟩
theorem AV:dj prog 247 false:=⟨isAgg247⟩
theorem IN:Sz prog 247 1:=⟨sizeOf247⟩
theorem JR:Zr prog 247 (.int .u64 0):=⟨zeroValue247⟩
theorem Jo:bP prog 281 (.pointer 5):=⟨underlying281⟩
theorem Jp:bP prog 284 (.array 32 5):=⟨underlying284⟩
theorem AZ:dj prog 284 true:=⟨isAgg284⟩
theorem IR:Sz prog 284 32:=⟨sizeOf284⟩
theorem JT:Zr prog 284 (.agg [.int .u8 0,.int .u8 0,.int .u8 0,.int .u8 0,.int .u8 0,.int .u8 0,.int .u8 0,.int .u8 0,.int .u8 0,.int .u8 0,.int .u8 0,.int .u8 0,.int .u8 0,.int .u8 0,.int .u8 0,.int .u8 0,.int .u8 0,.int .u8 0,.int .u8 0,.int .u8 0,.int .u8 0,.int .u8 0,.int .u8 0,.int .u8 0,.int .u8 0,.int .u8 0,.int .u8 0,.int .u8 0,.int .u8 0,.int .u8 0,.int .u8 0,.int .u8 0].toArray):=⟨zeroValue284⟩
theorem Jq:bP prog 287 (.slice 217):=⟨underlying287⟩
theorem Js:bP prog 304 (.pointer 317):=⟨underlying304⟩
theorem Jt:bP prog 308 (.array 64 217):=⟨underlying308⟩
theorem A3:dj prog 308 true:=⟨isAgg308⟩
theorem IU:Sz prog 308 64:=⟨sizeOf308⟩
theorem JW:Zr prog 308 (.agg [.int .u32 0,.int .u32 0,.int .u32 0,.int .u32 0,.int .u32 0,.int .u32 0,.int .u32 0,.int .u32 0,.int .u32 0,.int .u32 0,.int .u32 0,.int .u32 0,.int .u32 0,.int .u32 0,.int .u32 0,.int .u32 0,.int .u32 0,.int .u32 0,.int .u32 0,.int .u32 0,.int .u32 0,.int .u32 0,.int .u32 0,.int .u32 0,.int .u32 0,.int .u32 0,.int .u32 0,.int .u32 0,.int .u32 0,.int .u32 0,.int .u32 0,.int .u32 0,.int .u32 0,.int .u32 0,.int .u32 0,.int .u32 0,.int .u32 0,.int .u32 0,.int .u32 0,.int .u32 0,.int .u32 0,.int .u32 0,.int .u32 0,.int .u32 0,.int .u32 0,.int .u32 0,.int .u32 0,.int .u32 0,.int .u32 0,.int .u32 0,.int .u32 0,.int .u32 0,.int .u32 0,.int .u32 0,.int .u32 0,.int .u32 0,.int .u32 0,.int .u32 0,.int .u32 0,.int .u32 0,.int .u32 0,.int .u32 0,.int .u32 0,.int .u32 0].toArray):=⟨zeroValue308⟩
theorem Ju:bP prog 315 (.array 8 217):=⟨underlying315⟩
theorem A4:dj prog 315 true:=⟨isAgg315⟩
theorem IV:Sz prog 315 8:=⟨sizeOf315⟩
theorem JX:Zr prog 315 (.agg [.int .u32 0,.int .u32 0,.int .u32 0,.int .u32 0,.int .u32 0,.int .u32 0,.int .u32 0,.int .u32 0].toArray):=⟨zeroValue315⟩
theorem HE:bk prog 317 0 0:=bk.of underlying317 rfl sizeOf315 rfl rfl
theorem HF:bk prog 317 1 8:=bk.of underlying317 rfl sizeOf4 rfl rfl
theorem HG:bk prog 317 2 9:=bk.of underlying317 rfl sizeOf26 rfl rfl
theorem HH:bk prog 317 3 10:=bk.of underlying317 rfl sizeOf3 rfl rfl
theorem Iw:hX prog 317 [(0,8),(8,1),(9,1),(10,1)] [.int .u32 0,.int .u32 0,.int .u32 0,.int .u32 0,.int .u32 0,.int .u32 0,.int .u32 0,.int .u32 0,.bool false,sZ,.int .i64 0]:=⟨_,underlying317,zeroValue317,λw=>by simp[sizeOf26,sizeOf3,sizeOf315,sizeOf4]⟩
theorem rP:jd prog 9 1 [.s] false:=jd.str qn rO
theorem uZ:jd prog 169 2 [.s,.s] true:=jd.struct (n:=1) underlying169 stoodInHeld169 uY u4 (ki.more rP (ki.more rP ki.nil))
theorem FF:ay prog 5:=⟨call5⟩
theorem FQ:ay prog 6:=⟨call6⟩
theorem F2:ay prog 7:=⟨call7⟩
theorem Gd:ay prog 8:=⟨call8⟩
theorem Gp:ay prog 9:=⟨call9⟩
theorem Bu:ay prog 10:=⟨call10⟩
theorem BG:ay prog 11:=⟨call11⟩
theorem BS:ay prog 12:=⟨call12⟩
theorem B3:ay prog 13:=⟨call13⟩
theorem Ce:ay prog 14:=⟨call14⟩
theorem Cp:ay prog 15:=⟨call15⟩
theorem CZ:ay prog 18:=⟨call18⟩
theorem C8:ay prog 19:=⟨call19⟩
theorem Dk:ay prog 20:=⟨call20⟩
theorem Dw:ay prog 21:=⟨call21⟩
theorem DH:ay prog 22:=⟨call22⟩
theorem DU:ay prog 23:=⟨call23⟩
theorem D6:ay prog 24:=⟨call24⟩
theorem Eh:ay prog 25:=⟨call25⟩
theorem Et:ay prog 26:=⟨call26⟩
theorem EE:ay prog 27:=⟨call27⟩
theorem EN:ay prog 28:=⟨call28⟩
theorem EX:ay prog 29:=⟨call29⟩
theorem E8:ay prog 30:=⟨call30⟩
theorem Fb:ay prog 31:=⟨call31⟩
theorem Fc:ay prog 32:=⟨call32⟩
theorem Fl:ay prog 33:=⟨call33⟩
theorem Fo:ay prog 34:=⟨call34⟩
theorem Fp:ay prog 35:=⟨call35⟩
theorem Fq:ay prog 36:=⟨call36⟩
theorem Fs:ay prog 37:=⟨call37⟩
theorem Ft:ay prog 38:=⟨call38⟩
theorem Fu:ay prog 39:=⟨call39⟩
theorem Fv:ay prog 40:=⟨call40⟩
theorem Fw:ay prog 41:=⟨call41⟩
theorem Fx:ay prog 42:=⟨call42⟩
theorem Fy:ay prog 43:=⟨call43⟩
theorem Fz:ay prog 44:=⟨call44⟩
theorem FA:ay prog 45:=⟨call45⟩
theorem FB:ay prog 46:=⟨call46⟩
theorem FC:ay prog 47:=⟨call47⟩
theorem FD:ay prog 48:=⟨call48⟩
theorem FE:ay prog 49:=⟨call49⟩
theorem FG:ay prog 50:=⟨call50⟩
theorem FH:ay prog 51:=⟨call51⟩
theorem FI:ay prog 52:=⟨call52⟩
theorem FJ:ay prog 53:=⟨call53⟩
theorem FK:ay prog 54:=⟨call54⟩
theorem FL:ay prog 55:=⟨call55⟩
theorem FM:ay prog 56:=⟨call56⟩
theorem FN:ay prog 57:=⟨call57⟩
theorem FO:ay prog 58:=⟨call58⟩
theorem FP:ay prog 59:=⟨call59⟩
theorem FR:ay prog 60:=⟨call60⟩
theorem FT:ay prog 61:=⟨call61⟩
theorem FU:ay prog 62:=⟨call62⟩
theorem FV:ay prog 63:=⟨call63⟩
theorem FW:ay prog 64:=⟨call64⟩
theorem FX:ay prog 65:=⟨call65⟩
theorem FY:ay prog 66:=⟨call66⟩
theorem FZ:ay prog 67:=⟨call67⟩
theorem F0:ay prog 68:=⟨call68⟩
theorem F1:ay prog 69:=⟨call69⟩
theorem F3:ay prog 70:=⟨call70⟩
theorem F4:ay prog 71:=⟨call71⟩
theorem F5:ay prog 72:=⟨call72⟩
theorem F6:ay prog 73:=⟨call73⟩
theorem F7:ay prog 74:=⟨call74⟩
theorem F8:ay prog 75:=⟨call75⟩
theorem F9:ay prog 76:=⟨call76⟩
theorem Ga:ay prog 77:=⟨call77⟩
theorem Gb:ay prog 78:=⟨call78⟩
theorem Gc:ay prog 79:=⟨call79⟩
theorem Ge:ay prog 80:=⟨call80⟩
theorem Gf:ay prog 81:=⟨call81⟩
theorem Gg:ay prog 82:=⟨call82⟩
theorem Gh:ay prog 83:=⟨call83⟩
theorem Gi:ay prog 84:=⟨call84⟩
theorem Gj:ay prog 85:=⟨call85⟩
theorem Gk:ay prog 86:=⟨call86⟩
theorem Gl:ay prog 87:=⟨call87⟩
theorem Gm:ay prog 88:=⟨call88⟩
theorem Gn:ay prog 89:=⟨call89⟩
theorem Gq:ay prog 90:=⟨call90⟩
theorem Gr:ay prog 91:=⟨call91⟩
theorem Gs:ay prog 92:=⟨call92⟩
theorem Gt:ay prog 93:=⟨call93⟩
theorem Gu:ay prog 94:=⟨call94⟩
theorem Gv:ay prog 95:=⟨call95⟩
theorem Gw:ay prog 96:=⟨call96⟩
theorem Gx:ay prog 97:=⟨call97⟩
theorem Gy:ay prog 98:=⟨call98⟩
theorem Gz:ay prog 99:=⟨call99⟩
theorem Bv:ay prog 100:=⟨call100⟩
theorem Bw:ay prog 101:=⟨call101⟩
theorem Bx:ay prog 102:=⟨call102⟩
theorem Bz:ay prog 103:=⟨call103⟩
theorem BA:ay prog 104:=⟨call104⟩
theorem BB:ay prog 105:=⟨call105⟩
theorem BC:ay prog 106:=⟨call106⟩
theorem BD:ay prog 107:=⟨call107⟩
theorem BE:ay prog 108:=⟨call108⟩
theorem BF:ay prog 109:=⟨call109⟩
theorem BH:ay prog 110:=⟨call110⟩
theorem BJ:ay prog 111:=⟨call111⟩
theorem BK:ay prog 112:=⟨call112⟩
theorem BL:ay prog 113:=⟨call113⟩
theorem BM:ay prog 114:=⟨call114⟩
theorem BN:ay prog 115:=⟨call115⟩
theorem BO:ay prog 116:=⟨call116⟩
theorem BP:ay prog 117:=⟨call117⟩
theorem BQ:ay prog 118:=⟨call118⟩
theorem BR:ay prog 119:=⟨call119⟩
theorem BT:ay prog 121:=⟨call121⟩
theorem BU:ay prog 122:=⟨call122⟩
theorem BV:ay prog 123:=⟨call123⟩
theorem BW:ay prog 124:=⟨call124⟩
theorem BX:ay prog 125:=⟨call125⟩
theorem BY:ay prog 126:=⟨call126⟩
theorem BZ:ay prog 127:=⟨call127⟩
theorem B0:ay prog 128:=⟨call128⟩
theorem B1:ay prog 129:=⟨call129⟩
theorem B4:ay prog 130:=⟨call130⟩
theorem B5:ay prog 131:=⟨call131⟩
theorem B6:ay prog 132:=⟨call132⟩
theorem B7:ay prog 133:=⟨call133⟩
theorem B8:ay prog 134:=⟨call134⟩
theorem B9:ay prog 135:=⟨call135⟩
theorem Ca:ay prog 136:=⟨call136⟩
theorem Cb:ay prog 137:=⟨call137⟩
theorem Cc:ay prog 138:=⟨call138⟩
theorem Cd:ay prog 139:=⟨call139⟩
theorem Cf:ay prog 140:=⟨call140⟩
theorem Cg:ay prog 141:=⟨call141⟩
theorem Ch:ay prog 142:=⟨call142⟩
theorem Ci:ay prog 143:=⟨call143⟩
theorem Cj:ay prog 144:=⟨call144⟩
theorem Ck:ay prog 145:=⟨call145⟩
theorem Cl:ay prog 146:=⟨call146⟩
theorem Cm:ay prog 147:=⟨call147⟩
theorem Cn:ay prog 148:=⟨call148⟩
theorem Co:ay prog 149:=⟨call149⟩
theorem Cq:ay prog 150:=⟨call150⟩
theorem Cr:ay prog 151:=⟨call151⟩
theorem Cs:ay prog 152:=⟨call152⟩
theorem Ct:ay prog 153:=⟨call153⟩
theorem Cu:ay prog 154:=⟨call154⟩
theorem Cv:ay prog 155:=⟨call155⟩
theorem Cw:ay prog 156:=⟨call156⟩
theorem Cx:ay prog 157:=⟨call157⟩
theorem Cy:ay prog 158:=⟨call158⟩
theorem Cz:ay prog 159:=⟨call159⟩
theorem CA:ay prog 160:=⟨call160⟩
theorem CB:ay prog 161:=⟨call161⟩
theorem CC:ay prog 162:=⟨call162⟩
theorem CD:ay prog 163:=⟨call163⟩
theorem CE:ay prog 164:=⟨call164⟩
theorem CF:ay prog 165:=⟨call165⟩
theorem CG:ay prog 166:=⟨call166⟩
theorem CH:ay prog 167:=⟨call167⟩
theorem CJ:ay prog 168:=⟨call168⟩
theorem CM:ay prog 169:=⟨call169⟩
theorem CN:ay prog 170:=⟨call170⟩
theorem CO:ay prog 171:=⟨call171⟩
theorem CQ:ay prog 172:=⟨call172⟩
theorem CS:ay prog 173:=⟨call173⟩
theorem CT:ay prog 174:=⟨call174⟩
theorem CU:ay prog 175:=⟨call175⟩
theorem CV:ay prog 176:=⟨call176⟩
theorem CW:ay prog 177:=⟨call177⟩
theorem CX:ay prog 178:=⟨call178⟩
theorem CY:ay prog 179:=⟨call179⟩
theorem C0:ay prog 180:=⟨call180⟩
theorem C1:ay prog 181:=⟨call181⟩
theorem C3:ay prog 185:=⟨call185⟩
theorem C4:ay prog 186:=⟨call186⟩
theorem C5:ay prog 187:=⟨call187⟩
theorem C6:ay prog 188:=⟨call188⟩
theorem C7:ay prog 189:=⟨call189⟩
theorem C9:ay prog 190:=⟨call190⟩
theorem Da:ay prog 191:=⟨call191⟩
theorem Db:ay prog 192:=⟨call192⟩
theorem Dc:ay prog 193:=⟨call193⟩
theorem De:ay prog 194:=⟨call194⟩
theorem Df:ay prog 195:=⟨call195⟩
theorem Dg:ay prog 196:=⟨call196⟩
theorem Dh:ay prog 197:=⟨call197⟩
theorem Di:ay prog 198:=⟨call198⟩
theorem Dj:ay prog 199:=⟨call199⟩
theorem Dl:ay prog 200:=⟨call200⟩
theorem Dm:ay prog 201:=⟨call201⟩
theorem Dn:ay prog 202:=⟨call202⟩
theorem Dp:ay prog 203:=⟨call203⟩
theorem Dq:ay prog 204:=⟨call204⟩
theorem Dr:ay prog 205:=⟨call205⟩
theorem Ds:ay prog 206:=⟨call206⟩
theorem Dt:ay prog 207:=⟨call207⟩
theorem Du:ay prog 208:=⟨call208⟩
theorem Dv:ay prog 209:=⟨call209⟩
theorem Dx:ay prog 210:=⟨call210⟩
theorem Dy:ay prog 211:=⟨call211⟩
theorem Dz:ay prog 212:=⟨call212⟩
theorem DA:ay prog 213:=⟨call213⟩
theorem DB:ay prog 214:=⟨call214⟩
theorem DC:ay prog 215:=⟨call215⟩
theorem DD:ay prog 216:=⟨call216⟩
theorem DE:ay prog 217:=⟨call217⟩
theorem DF:ay prog 218:=⟨call218⟩
theorem DG:ay prog 219:=⟨call219⟩
theorem DI:ay prog 220:=⟨call220⟩
theorem DJ:ay prog 221:=⟨call221⟩
theorem DK:ay prog 222:=⟨call222⟩
theorem DL:ay prog 223:=⟨call223⟩
theorem DN:ay prog 224:=⟨call224⟩
theorem DO:ay prog 225:=⟨call225⟩
theorem DP:ay prog 226:=⟨call226⟩
theorem DQ:ay prog 227:=⟨call227⟩
theorem DR:ay prog 228:=⟨call228⟩
theorem DT:ay prog 229:=⟨call229⟩
theorem DV:ay prog 230:=⟨call230⟩
theorem DW:ay prog 231:=⟨call231⟩
theorem DX:ay prog 232:=⟨call232⟩
theorem DY:ay prog 233:=⟨call233⟩
theorem DZ:ay prog 234:=⟨call234⟩
theorem D0:ay prog 235:=⟨call235⟩
theorem D1:ay prog 236:=⟨call236⟩
theorem D3:ay prog 237:=⟨call237⟩
theorem D4:ay prog 238:=⟨call238⟩
theorem D5:ay prog 239:=⟨call239⟩
theorem D7:ay prog 240:=⟨call240⟩
theorem D8:ay prog 241:=⟨call241⟩
theorem D9:ay prog 242:=⟨call242⟩
theorem Ea:ay prog 243:=⟨call243⟩
theorem Eb:ay prog 244:=⟨call244⟩
theorem Ec:ay prog 245:=⟨call245⟩
theorem Ed:ay prog 246:=⟨call246⟩
theorem Ee:ay prog 247:=⟨call247⟩
theorem Ef:ay prog 248:=⟨call248⟩
theorem Eg:ay prog 249:=⟨call249⟩
theorem Ei:ay prog 250:=⟨call250⟩
theorem Ej:ay prog 251:=⟨call251⟩
theorem Ek:ay prog 252:=⟨call252⟩
theorem El:ay prog 253:=⟨call253⟩
theorem Em:ay prog 254:=⟨call254⟩
theorem En:ay prog 255:=⟨call255⟩
theorem Eo:ay prog 256:=⟨call256⟩
theorem Ep:ay prog 257:=⟨call257⟩
theorem Er:ay prog 258:=⟨call258⟩
theorem Es:ay prog 259:=⟨call259⟩
theorem Eu:ay prog 260:=⟨call260⟩
theorem Ev:ay prog 261:=⟨call261⟩
theorem Ew:ay prog 262:=⟨call262⟩
theorem Ex:ay prog 263:=⟨call263⟩
theorem Ey:ay prog 264:=⟨call264⟩
theorem Ez:ay prog 265:=⟨call265⟩
theorem EA:ay prog 266:=⟨call266⟩
theorem EB:ay prog 267:=⟨call267⟩
theorem EC:ay prog 268:=⟨call268⟩
theorem ED:ay prog 269:=⟨call269⟩
theorem EF:ay prog 270:=⟨call270⟩
theorem EG:ay prog 271:=⟨call271⟩
theorem EH:ay prog 272:=⟨call272⟩
theorem EI:ay prog 273:=⟨call273⟩
theorem EJ:ay prog 274:=⟨call274⟩
theorem EK:ay prog 275:=⟨call275⟩
theorem EL:ay prog 276:=⟨call276⟩
theorem EM:ay prog 277:=⟨call277⟩
theorem EO:ay prog 280:=⟨call280⟩
theorem EP:ay prog 281:=⟨call281⟩
theorem EQ:ay prog 282:=⟨call282⟩
theorem ER:ay prog 283:=⟨call283⟩
theorem ES:ay prog 284:=⟨call284⟩
theorem ET:ay prog 285:=⟨call285⟩
theorem EU:ay prog 287:=⟨call287⟩
theorem EV:ay prog 288:=⟨call288⟩
theorem EW:ay prog 289:=⟨call289⟩
theorem EY:ay prog 290:=⟨call290⟩
theorem EZ:ay prog 291:=⟨call291⟩
theorem E0:ay prog 292:=⟨call292⟩
theorem E3:ay prog 293:=⟨call293⟩
theorem E4:ay prog 295:=⟨call295⟩
theorem E5:ay prog 297:=⟨call297⟩
theorem E6:ay prog 298:=⟨call298⟩
theorem E7:ay prog 299:=⟨call299⟩
theorem E9:ay prog 303:=⟨call303⟩
theorem Fa:ay prog 304:=⟨call304⟩
theorem Fe:ay prog 323:=⟨call323⟩
theorem Ff:ay prog 324:=⟨call324⟩
theorem Fg:ay prog 325:=⟨call325⟩
theorem Fh:ay prog 326:=⟨call326⟩
theorem Fi:ay prog 327:=⟨call327⟩
theorem Fj:ay prog 328:=⟨call328⟩
theorem Fk:ay prog 329:=⟨call329⟩
theorem Fm:ay prog 330:=⟨call330⟩
attribute [instance] u6 AP IH u9 A1 IT Bo JV Jy A8 IZ JA Ba I1 Bp JY qn rO I4 Bt J1 Jf Ji AS IK JO AW IP Bn JS Hl Hm Hn Hp Iv Jn AX IQ u7 AY A0 IS JU Hq Hr Hw Hx Hy Hz HA HB HC HD Ht Hu Hv Jr Jv A5 IW HI Jw A6 IX Jx A7 IY HJ HK Jz A9 I0 HL HM HN HO HP HQ Ix JB JC Bb Bc I2 Bq JZ HR HS HT HU HV HW HX HY HZ Iy Bd I3 Br J0 H3 H4 H5 H6 H7 H8 H9 Ia Ib Iz JD Be JE Bf Ic Ie Ig Ih IA JF Bg I5 AD GA GB GC Ii I6 I7 AE IB Bh JG GD GF GG Ij AF IC Bi JH GH GK GL Ik AG ID Bj JI GM GN GO GQ GR GS GU GV GW Il AH IE Bk JJ GX GY GZ G0 G1 G2 G3 G4 G5 Im I8 AI G6 Io I9 AJ Ja AK G7 G8 G9 Ip AL AM IF JK Ha Hb Iq Jb uY u4 JL Hc Hd Ir Jc AN Jd AO IG He Hf Is Je AQ II Bl JM Hg Hh Hi Iu Jg AR IJ Bm JN Jh Jj AT IL JP Hj Hk Jk Jl AU IM JQ Jm AV IN JR Jo Jp AZ IR JT Jq Js Jt A3 IU JW Ju A4 IV JX HE HF HG HH Iw rP uZ FF FQ F2 Gd Gp Bu BG BS B3 Ce Cp CZ C8 Dk Dw DH DU D6 Eh Et EE EN EX E8 Fb Fc Fl Fo Fp Fq Fs Ft Fu Fv Fw Fx Fy Fz FA FB FC FD FE FG FH FI FJ FK FL FM FN FO FP FR FT FU FV FW FX FY FZ F0 F1 F3 F4 F5 F6 F7 F8 F9 Ga Gb Gc Ge Gf Gg Gh Gi Gj Gk Gl Gm Gn Gq Gr Gs Gt Gu Gv Gw Gx Gy Gz Bv Bw Bx Bz BA BB BC BD BE BF BH BJ BK BL BM BN BO BP BQ BR BT BU BV BW BX BY BZ B0 B1 B4 B5 B6 B7 B8 B9 Ca Cb Cc Cd Cf Cg Ch Ci Cj Ck Cl Cm Cn Co Cq Cr Cs Ct Cu Cv Cw Cx Cy Cz CA CB CC CD CE CF CG CH CJ CM CN CO CQ CS CT CU CV CW CX CY C0 C1 C3 C4 C5 C6 C7 C9 Da Db Dc De Df Dg Dh Di Dj Dl Dm Dn Dp Dq Dr Ds Dt Du Dv Dx Dy Dz DA DB DC DD DE DF DG DI DJ DK DL DN DO DP DQ DR DT DV DW DX DY DZ D0 D1 D3 D4 D5 D7 D8 D9 Ea Eb Ec Ed Ee Ef Eg Ei Ej Ek El Em En Eo Ep Er Es Eu Ev Ew Ex Ey Ez EA EB EC ED EF EG EH EI EJ EK EL EM EO EP EQ ER ES ET EU EV EW EY EZ E0 E3 E4 E5 E6 E7 E9 Fa Fe Ff Fg Fh Fi Fj Fk Fm
theorem mixed:prog.follows .mixedOrders=true:=by kernel_rfl
structure mZ(P:Program)(R:av)(t:TypeId)(v:Value){α:Type}(lt:α→α→Bool)(I:List α→ax→Prop):Prop where
 km:∀L T,I L T→L.length≤1000000000
 len:∀L T,I L T→gW P t v "Len" [] R T fun u T'=>u=.int .i64 L.length∧I L T'
 less:∀L T (i k:Nat) x y,I L T→L[i]? =some x→L[k]? =some y→gW P t v "Less" [.int .i64 i,.int .i64 k] R T fun u T'=>u=.bool (lt x y)∧I L T'
 swap:∀L T (i k:Nat),I L T→i<L.length→k<L.length→gW P t v "Swap" [.int .i64 i,.int .i64 k] R T fun _ T'=>I (swp L i k) T'
section
variable{R:av}{t:TypeId}{v:Value}{α:Type}{lt:α->α->Bool}{I:List α->ax->Prop}
theorem th(A:mZ prog R t v lt I)(V:SO lt)(L:List α)(T:ax)(h:I L T)(j:Nat)(W:j<L.length):
  Spec prog 280 [.iface t v,.int .i64 j] R [T] λu H'=>∃T',H'=[T']/\u=.tuple #[]/\∃L',I L' T'/\L'.Perm L/\(∀k,j<k->L'[k]? =L[k]?)/\∀n,n<=L.length->j<n->Up lt L n j->fD lt L' n:=by
 have z:=A.km L T h
 refine Spec.body func280 rfl results280 ntmps280 rfl ?_
 refine .block ?_
 refine .loop (X:=Nat×List α×ax) (λy=>I y.2.1 y.2.2/\y.1<=j/\y.2.1.Perm L/\(∀k,j<k->y.2.1[k]? =L[k]?)/\∀n,n<=L.length->j<n->Up lt L n j->Up lt y.2.1 n y.1) (λy=>[(0,.iface t v),(1,iN y.1)]) (λy=>[y.2.2]) (λy=>y.1) (j,L,T) ⟨h,ab6 _,.refl _,λ_ _=>rfl,λ_ _ _ h=>h⟩ kE.c.c rH ?_
 rintro⟨i,f,H⟩ ⟨w,O,l,p,r⟩
 simp only at w O l p r⊢
 have Y:=l.length_eq
 obtain⟨x,B⟩:∃x,f[i]? =some x:=⟨_,bC (by omega)⟩
 obtain⟨y,C⟩:∃y,f[bR i]? =some y:=⟨_,bC (by unfold bR;omega)⟩
 refine .block<|.sr<|.mo rfl ?_
 refine .q (.i64 ((i:Int)-1) .sub ⟨rfl,by omega,by omega⟩) ?_
 refine .q (.i64 ((bR i:Nat):Int) .quo ⟨s0,by omega,by unfold bR;omega⟩) ?_
 refine .ag rfl<|.zs<|.sr<|.mo rfl<|.mo rfl<|.q .bS<|.mo rfl ?_
 refine .split (t:=11) rfl (λd=>?_) (λd=>?_)
 refine .gF d<|.gF d<|.gF d<|.gF d<|.gF d<|.q (.aY d) ?_
 refine .zn<|.dF ?_
 refine .exit (bD (jy (bH (bF ?_))))
 refine eh _ .none rH ?_
 ·have F:bR i=i:=by simp at d;omega
  refine⟨_,rfl,rfl,f,w,l,p,λn o m g=>?_⟩
  have M:i=0:=by
   rcases Nat.eq_zero_or_pos i with e|e
   ·exact e
   ·have:=fQ e;omega
  subst M
  exact(r n o m g).yf
 refine .gT d<|.mo rfl<|.gT d<|.mo rfl<|.gT d<|.mo rfl<|.gT d ?_
 refine .jN (A.less f H i (bR i) x y w B C) (λu J g=>?_)
 obtain⟨rfl,D⟩:=g
 refine .gT d<|.q .not<|.q (.aS d) ?_
 refine .zn ?_
 refine .cond rfl (λs=>?_) λs=>?_
 refine .exit (bD (jy (bH (bF ?_))))
 refine eh _ .none rH ?_
 ·refine⟨_,rfl,rfl,f,D,l,p,λn o m g=>(r n o m g).stop λa b E z=>?_⟩
  rw[C]at E;rw[B]at z
  cases E;cases z
  simpa using s
 refine .kn<|.sr<|.mo rfl<|.mo rfl<|.mo rfl ?_
 refine .jN (A.swap f J (bR i) i D (by unfold bR;omega) (by omega)) (λu K N=>?_)
 refine .zn<|.region<|.mo rfl<|.ag rfl<|.nil<|bz ?_
 ·have S:lt x y=true:=by simpa using s
  have F:bR i≠i:=by simp at d;omega
  have G:0<i:=by
   rcases Nat.eq_zero_or_pos i with e|e
   ·subst e;exact absurd rfl F
   ·exact e
  have U:=fQ G
  exact bf (bR i,swp f (bR i) i,K) ⟨N,by omega,lz.trans l,λk Q=>by
   rw[fc (by omega) (by omega),if_neg (by omega),if_neg (by omega)];exact p k Q,λn o m g=>(r n o m g).step V G (by omega) (by omega) B C S⟩ U kE.c.c rH
theorem rK(hi:mZ prog R t v lt I)(p:SO lt)(L:List α)(T:ax)(h:I L T)(g n:Nat)(a8:g<=n)(hn:n<=L.length):
  Spec prog 245 [.iface t v,.int .i64 g,.int .i64 n] R [T] λu H'=>∃T',H'=[T']/\∃L' m,I L' T'/\u=.bool m/\L'.Perm L/\(∀k,n<=k->L'[k]? =L[k]?)/\(kj lt L n g->(m=true->fD lt L' n)/\(m=false->Up lt L' n g)):=by
 have O:=hi.km L T h
 refine Spec.body func245 rfl results245 ntmps245 rfl ?_
 refine .sr<|.ag rfl<|.z<|.mo rfl<|.ag rfl<|.zs<|.block ?_
 refine .loop (X:=Nat×List α×ax) (λy=>I y.2.1 y.2.2/\g<=y.1/\y.1<=n/\y.2.1.Perm L/\(∀k,n<=k->y.2.1[k]? =L[k]?)/\(kj lt L n g->kj lt y.2.1 n y.1/\(y.1≠g->gj lt y.2.1 (bR y.1) y.1))) (λy=>[(0,.iface t v),(1,iN g),(2,iN n),(7,iN y.1)]) (λy=>[y.2.2]) (λy=>n-y.1) (g,L,T) ⟨h,ab6 _,a8,.refl _,λ_ _=>rfl,λh=>⟨h,λe=>absurd rfl e⟩⟩ kE.c.c.c.c rH ?_
 rintro⟨i,l,Z⟩ ⟨U,a9,b0,N,V,E⟩
 simp only at U a9 b0 N V E⊢
 have hl:=N.length_eq
 refine .block<|.sr<|.mo rfl ?_
 refine .ia (2*i) .mul ?_
 refine .ia (2*i+1) .add ?_
 refine .ag rfl<|.zs<|.sr<|.mo rfl<|.mo rfl<|.q .geq<|.mo rfl ?_
 refine .split (t:=18) rfl (λC=>?_) (λC=>?_)
 refine .gF C<|.gF C<|.q (.aY C) ?_
 refine .zn<|.dF ?_
 have a7:n<=2*i+1:=by
  first
   |(simp at C;omega)
   |(simp at h1;omega)
 refine .exit (bD (jy (bH (bF ?_))))
 refine aD<|.sr<|.mo rfl<|.mo rfl<|.q .gtr<|.az rfl ?_
 refine .ret (aR _ (.one (.tmp rfl)) rH ?_)
 ·refine⟨_,rfl,l,decide (g<i),by assumption,by simp,N,V,λd=>?_⟩
  have G:Up lt l n i:=(E d).1.stop λc s w f a b F O=>by
   first
    |(simp only[bR]at f;omega)
    |(rw[Y]at F;cases F;exact p.gU _ _ _ (W c b s w f O) (by simpa using S))
  refine⟨λA=>?_,λA=>?_⟩
  ·have B:i≠g:=by simp at A;omega
   exact G.stop ((E d).2 B)
  ·have B:i=g:=by simp at A;omega
   rw[<-B];exact G
 refine .gT C<|.mo rfl<|.gT C<|.q .lss<|.q (.aS C) ?_
 refine .zn ?_
 refine .cond rfl (λh1=>?_) λh1=>?_
 have a7:n<=2*i+1:=by
  first
   |(simp at C;omega)
   |(simp at h1;omega)
 refine .exit (bD (jy (bH (bF ?_))))
 refine aD<|.sr<|.mo rfl<|.mo rfl<|.q .gtr<|.az rfl ?_
 refine .ret (aR _ (.one (.tmp rfl)) rH ?_)
 ·refine⟨_,rfl,l,decide (g<i),by assumption,by simp,N,V,λd=>?_⟩
  have G:Up lt l n i:=(E d).1.stop λc s w f a b F O=>by
   first
    |(simp only[bR]at f;omega)
    |(rw[Y]at F;cases F;exact p.gU _ _ _ (W c b s w f O) (by simpa using S))
  refine⟨λA=>?_,λA=>?_⟩
  ·have B:i≠g:=by simp at A;omega
   exact G.stop ((E d).2 B)
  ·have B:i=g:=by simp at A;omega
   rw[<-B];exact G
 have Q:2*i+1<n:=by simp at C;omega
 obtain⟨y0,Y⟩:∃y,l[i]? =some y:=⟨_,bC (by omega)⟩
 obtain⟨J,o⟩:∃y,l[2*i+1]? =some y:=⟨_,bC (by omega)⟩
 refine .kn<|.sr<|.mo rfl<|.ag rfl<|.zs ?_
 refine bQ.cut (X:=Nat×ax×α) (λz=>I l z.2.1/\0<z.1/\z.1<n/\bR z.1=i/\l[z.1]? =some z.2.2/\∀c u,0<c->c<n->bR c=i->l[c]? =some u->lt u z.2.2=false) (λz=>[(0,.iface t v),(1,iN g),(2,iN n),(7,iN i),(9,iN z.1)]) (λz=>[z.2.1]) ?_ ?_
 refine .sr<|.mo rfl ?_
 refine .ia (2*i+2) .add ?_
 refine .ag rfl<|.z<|.mo rfl<|.mo rfl<|.q .lss<|.mo rfl ?_
 refine .split (t:=28) rfl (λr=>?_) (λr=>?_)
 have a2:2*i+2<n:=by simp at r;omega
 obtain⟨x2,D⟩:∃y,l[2*i+2]? =some y:=⟨_,bC (by omega)⟩
 refine .gT r<|.mo rfl<|.gT r<|.mo rfl<|.gT r<|.mo rfl<|.gT r ?_
 refine .jN (hi.less l Z (2*i+2) (2*i+1) x2 J U D o) (λu K d=>?_)
 obtain⟨rfl,M⟩:=d
 refine .q (.aY r) ?_
 refine .zn ?_
 refine .cond rfl (λH=>?_) λH=>?_
 refine .region<|.mo rfl<|.ag rfl<|.nil ?_
 ·first
   |exact aB (2*i+2,K,x2) ⟨M,by simp only;omega,a2,by simp only[bR];omega,D,λc u s w f d=>by
     have:c=2*i+1\/c=2*i+2:=by simp only[bR]at f;omega
     rcases this with rfl|rfl
     ·rw[o]at d;cases d;exact p.kH (by simpa using H)
     ·rw[D]at d;cases d;exact p.fK _⟩ kE.c.c.c.c.c rH
   |exact aB (2*i+1,K,J) ⟨M,by simp only;omega,Q,by simp only[bR];omega,o,λc u s w f d=>by
     have:c=2*i+1\/c=2*i+2:=by simp only[bR]at f;omega
     rcases this with rfl|rfl
     ·rw[o]at d;cases d;exact p.fK _
     ·rw[D]at d;cases d;simpa using H⟩ kE.c.c.c.c.c rH
   |exact aB (2*i+1,Z,J) ⟨U,by simp only;omega,Q,by simp only[bR];omega,o,λc u s w f d=>by
     have:c=2*i+1:=by simp only[bR]at f;simp at r;omega
     subst this
     rw[o]at d;cases d;exact p.fK _⟩ kE.c.c.c.c.c rH
 refine .skip ?_
 ·first
   |exact aB (2*i+2,K,x2) ⟨M,by simp only;omega,a2,by simp only[bR];omega,D,λc u s w f d=>by
     have:c=2*i+1\/c=2*i+2:=by simp only[bR]at f;omega
     rcases this with rfl|rfl
     ·rw[o]at d;cases d;exact p.kH (by simpa using H)
     ·rw[D]at d;cases d;exact p.fK _⟩ kE.c.c.c.c.c rH
   |exact aB (2*i+1,K,J) ⟨M,by simp only;omega,Q,by simp only[bR];omega,o,λc u s w f d=>by
     have:c=2*i+1\/c=2*i+2:=by simp only[bR]at f;omega
     rcases this with rfl|rfl
     ·rw[o]at d;cases d;exact p.fK _
     ·rw[D]at d;cases d;simpa using H⟩ kE.c.c.c.c.c rH
   |exact aB (2*i+1,Z,J) ⟨U,by simp only;omega,Q,by simp only[bR];omega,o,λc u s w f d=>by
     have:c=2*i+1:=by simp only[bR]at f;simp at r;omega
     subst this
     rw[o]at d;cases d;exact p.fK _⟩ kE.c.c.c.c.c rH
 refine .gF r<|.gF r<|.gF r<|.gF r<|.q (.aS r) ?_
 refine .zn<|.bZ<|.skip ?_
 ·first
   |exact aB (2*i+2,K,x2) ⟨M,by simp only;omega,a2,by simp only[bR];omega,D,λc u s w f d=>by
     have:c=2*i+1\/c=2*i+2:=by simp only[bR]at f;omega
     rcases this with rfl|rfl
     ·rw[o]at d;cases d;exact p.kH (by simpa using H)
     ·rw[D]at d;cases d;exact p.fK _⟩ kE.c.c.c.c.c rH
   |exact aB (2*i+1,K,J) ⟨M,by simp only;omega,Q,by simp only[bR];omega,o,λc u s w f d=>by
     have:c=2*i+1\/c=2*i+2:=by simp only[bR]at f;omega
     rcases this with rfl|rfl
     ·rw[o]at d;cases d;exact p.fK _
     ·rw[D]at d;cases d;simpa using H⟩ kE.c.c.c.c.c rH
   |exact aB (2*i+1,Z,J) ⟨U,by simp only;omega,Q,by simp only[bR];omega,o,λc u s w f d=>by
     have:c=2*i+1:=by simp only[bR]at f;simp at r;omega
     subst this
     rw[o]at d;cases d;exact p.fK _⟩ kE.c.c.c.c.c rH
 intro y hy
 obtain⟨j,T3,x⟩:=y
 obtain⟨a3,a0,a4,a1,hx,W⟩:=hy
 simp only at a3 a0 a4 a1 hx W⊢
 have b2:i<j:=a1▸fQ a0
 refine aD<|.seq<|.sr<|.mo rfl<|.mo rfl<|.mo rfl ?_
 refine .jN (hi.less l T3 j i x y0 a3 hx Y) (λu T4 d=>?_)
 obtain⟨rfl,a5⟩:=d
 refine .q .not<|.zn ?_
 refine .cond rfl (λS=>?_) λS=>?_
 refine .exit (bD (jy (bH (bF ?_))))
 refine aD<|.sr<|.mo rfl<|.mo rfl<|.q .gtr<|.az rfl ?_
 refine .ret (aR _ (.one (.tmp rfl)) rH ?_)
 ·refine⟨_,rfl,l,decide (g<i),by assumption,by simp,N,V,λd=>?_⟩
  have G:Up lt l n i:=(E d).1.stop λc s w f a b F O=>by
   first
    |(simp only[bR]at f;omega)
    |(rw[Y]at F;cases F;exact p.gU _ _ _ (W c b s w f O) (by simpa using S))
  refine⟨λA=>?_,λA=>?_⟩
  ·have B:i≠g:=by simp at A;omega
   exact G.stop ((E d).2 B)
  ·have B:i=g:=by simp at A;omega
   rw[<-B];exact G
 refine .kn<|.sr<|.mo rfl<|.mo rfl<|.mo rfl ?_
 refine .jN (hi.swap l T4 i j a5 (by omega) (by omega)) (λu T5 a6=>?_)
 refine .zn<|.region<|.mo rfl<|.ag rfl<|.nil<|bz ?_
 ·have b1:lt x y0=true:=by simpa using S
  exact bf (j,swp l i j,T5) ⟨a6,by simp only;omega,by simp only;omega,lz.trans N,λk hk=>by
   rw[fc (by omega) (by omega),if_neg (by omega),if_neg (by omega)];exact V k hk,λd=>by
    have:=(E d).1.step p a0 a4 (by omega) a1 hx Y b1 W
    exact⟨this.1,λ_=>this.2⟩⟩ (by simp only;omega) kE.c.c.c.c rH
theorem Kk(c:mZ prog R t v lt I)(o:SO lt)(L:List α)(T:ax)(h:I L T)(i:Nat)(y:i<L.length)(j:kj lt L L.length i):
  Spec prog 262 [.iface t v,.int .i64 i] R [T] λu H'=>∃T',H'=[T']/\u=.tuple #[]/\∃L',I L' T'/\L'.Perm L/\fD lt L' L'.length:=by
 refine Spec.body func262 rfl results262 ntmps262 rfl ?_
 refine .sr<|.mo rfl<|.mo rfl<|.mo rfl ?_
 refine .jN (c.len L T h) (λu r b=>?_)
 obtain⟨rfl,a⟩:=b
 refine .bW (rK c o L r a i L.length (by omega) (ab6 _)) (λu s b=>?_)
 obtain⟨f,m,g,rfl,e,B,k⟩:=b
 have l:=e.length_eq
 refine .q .not<|.zn ?_
 refine .cond rfl (λa=>?_) λa=>?_
 have d:m=false:=by simpa using a
 refine .region<|.mo rfl<|.mo rfl ?_
 refine .bW (th c o f s g i (by omega)) (λu A b=>?_)
 obtain⟨rfl,p,w,n,C,x⟩:=b
 have z:=n.length_eq
 refine .nil<|eh _ .none rH ?_
 ·exact⟨_,rfl,rfl,p,w,n.trans e,by rw[z,l];exact x _ (by omega) y ((k j).2 d)⟩
 have d:m=true:=by simpa using a
 refine .skip<|eh _ .none rH ?_
 ·exact⟨_,rfl,rfl,f,g,e,by rw[l];exact(k j).1 d⟩
theorem Mc(hi:mZ Tryz.prog R t v lt I)(so:SO lt)(L:List α)(T:ax)(x:Value)(a:α)(hp:gW Tryz.prog t v "Push" [x] R T fun _ T'=>I (L++[a]) T')(hh:fD lt L L.length):
  Spec prog 263 [.iface t v,x] R [T] fun u H'=>∃T',H'=[T']∧u=.tuple #[]∧∃L',I L' T'∧L'.Perm (L++[a])∧fD lt L' L'.length:=by
 refine Spec.body func263 rfl results263 ntmps263 rfl ?_
 refine .sr<|.mo rfl<|.mo rfl ?_
 refine .jN hp (fun u T1 h1=>?_)
 have hb:=hi.km _ T1 h1
 simp only[List.length_append,List.length_singleton]at hb
 refine .zn<|.region<|.mo rfl<|.mo rfl ?_
 refine .jN (hi.len _ T1 h1) (fun u T2 hu=>?_)
 obtain⟨rfl,h2⟩:=hu
 refine .q (.i64 ((L.length:Nat):Int) .sub ⟨by simp,by omega,by omega⟩) ?_
 refine .bW (th hi so _ T2 h2 L.length (by simp)) (fun u T3 hu=>?_)
 obtain⟨rfl,L3,h3,hp3,hs3,hh3⟩:=hu
 have hl3:=hp3.length_eq
 refine .nil<|eh _ .none (aT.refl _) ?_
 ·exact⟨_,rfl,rfl,L3,h3,hp3,by rw[hl3];exact hh3 _ (ab6 _) (by simp) (by simp;exact hh.push a)⟩
theorem vU{L a:List α}{n:Nat}{x:α}(c:L.length=n+1)(e:L[n]? =some x)(d:L.Perm a):L=L.take n++[x]/\(L.take n).length=n/\a.Perm (x::L.take n):=by
 have b:L=L.take n++[x]:=by
  apply List.ext_getElem?
  intro k
  rcases Nat.lt_trichotomy k n with h|h|h
  ·rw[List.getElem?_append_left (by simp;omega),List.getElem?_take_of_lt h]
  ·subst h
   rw[List.getElem?_append_right (by simp;omega),e]
   simp[c]
  ·rw[List.getElem?_eq_none (by omega),List.getElem?_eq_none (by simp;omega)]
 refine⟨b,by simp;omega,d.symm.trans ?_⟩
 have:(L.take n++[x]).Perm (x::L.take n):=by simp
 rw[<-b]at this
 exact this
theorem fD.ym{L:List α}{n:Nat}(h:fD lt L n)(b:n<=L.length):fD lt (L.take n) (L.take n).length:=by
 have e:(L.take n).length=n:=by simp;omega
 rw[e]
 exact h.gV λk a=>List.getElem?_take_of_lt a
theorem LX(hi:mZ prog R t v lt I)(so:SO lt)(L:List α)(T:ax)(h:I L T)(x:α)(hx:L[0]? =some x)(hh:fD lt L L.length)(px:α→Value)(J:List α→ax→Prop)
  (hp:∀L' T',I (L'++[x]) T'→L'.length+1=L.length→gW Tryz.prog t v "Pop" [] R T' fun u T''=>u=px x∧J L' T''):
  Spec prog 190 [.iface t v] R [T] fun u H'=>∃T',H'=[T']∧u=px x∧∃L',J L' T'∧L.Perm (x::L')∧fD lt L' L'.length:=by
 have hb:=hi.km L T h
 have hpos:0<L.length:=(List.getElem?_eq_some_iff.1 hx).1
 obtain⟨n,hn⟩:∃n,L.length=n+1:=⟨L.length-1,by omega⟩
 refine Spec.body func190 rfl results190 ntmps190 rfl ?_
 refine .sr<|.ag rfl<|.z<|.mo rfl ?_
 refine .jN (hi.len L T h) (fun u T1 hu=>?_)
 obtain⟨rfl,h1⟩:=hu
 refine .q (.i64 ((n:Nat):Int) .sub ⟨by omega,by omega,by omega⟩) ?_
 refine .ag rfl<|.z<|.mo rfl<|.mo rfl ?_
 refine .jN (hi.swap L T1 0 n h1 (by omega) (by omega)) (fun u T2 h2=>?_)
 refine .z<|.mo rfl<|.mo rfl ?_
 refine .bW (rK hi so _ T2 h2 0 n (by omega) (by rw[jZ];omega)) (fun u T3 hu=>?_)
 obtain⟨L3,m,h3,rfl,hp3,hs3,hh3⟩:=hu
 have hx3:L3[n]? =some x:=by rw[hs3 n (ab6 _),fc (by omega) (by omega),if_pos rfl,hx]
 have hl3:=hp3.length_eq
 rw[jZ]at hl3
 obtain⟨e1,e2,e3⟩:=vU (by omega) hx3 (hp3.trans lz)
 have hhole:kj lt (swp L 0 n) n 0:=(hh.mono (by omega)).hole so (by omega) fun k hk hk0=>by rw[fc (by omega) (by omega),if_neg (by omega),if_neg hk0]
 have hH:fD lt L3 n:=by
  cases m with
  |true=>exact(hh3 hhole).1 rfl
  |false=>exact((hh3 hhole).2 rfl).yf
 refine .z<|.mo rfl ?_
 rw[e1]at h3
 refine .jN (hp _ T3 h3 (by omega)) (fun u T4 hu=>?_)
 obtain⟨rfl,h4⟩:=hu
 refine .ag rfl<|.zn ?_
 refine .ret (aR _ (.one (.tmp rfl)) (aT.refl _) ?_)
 ·exact⟨_,rfl,rfl,_,h4,e3,hH.ym (by omega)⟩
theorem MH(hi:mZ prog R t v lt I)(so:SO lt)(L:List α)(T:ax)(h:I L T)(i:Nat)(x:α)(hx:L[i]? =some x)(hh:fD lt L L.length)(px:α→Value)(J:List α→ax→Prop)
  (hp:∀L' T',I (L'++[x]) T'→L'.length+1=L.length→gW Tryz.prog t v "Pop" [] R T' fun u T''=>u=px x∧J L' T''):
  Spec prog 250 [.iface t v,.int .i64 i] R [T] fun u H'=>∃T',H'=[T']∧u=px x∧∃L',J L' T'∧L.Perm (x::L')∧fD lt L' L'.length:=by
 have hb:=hi.km L T h
 have hpos:i<L.length:=(List.getElem?_eq_some_iff.1 hx).1
 obtain⟨n,hn⟩:∃n,L.length=n+1:=⟨L.length-1,by omega⟩
 refine Spec.body func250 rfl results250 ntmps250 rfl ?_
 refine .sr<|.ag rfl<|.z<|.mo rfl ?_
 refine .jN (hi.len L T h) (fun u T1 hu=>?_)
 obtain⟨rfl,h1⟩:=hu
 refine .q (.i64 ((n:Nat):Int) .sub ⟨by omega,by omega,by omega⟩) ?_
 refine .ag rfl<|.zs ?_
 refine bQ.cut (X:=List α×ax) (fun y=>I y.1 y.2∧y.1.Perm L∧y.1[n]? =some x∧fD lt y.1 n) (fun y=>[(0,.iface t v)]) (fun y=>[y.2]) ?_ ?_
 refine .sr<|.mo rfl<|.mo rfl<|.q .dL<|.zn ?_
 refine .cond rfl (fun h1=>?_) (fun h1=>?_)
 have hin:i<n:=by simp at h1;omega
 refine .sr<|.mo rfl<|.mo rfl<|.mo rfl ?_
 refine .jN (hi.swap L T1 i n (by assumption) (by omega) (by omega)) (fun u T2 h2=>?_)
 refine .z<|.mo rfl<|.mo rfl<|.mo rfl ?_
 refine .bW (rK hi so _ T2 h2 i n (by omega) (by rw[jZ];omega)) (fun u T3 hu=>?_)
 obtain⟨L3,m,h3,rfl,hp3,hs3,hh3⟩:=hu
 have hx3:L3[n]? =some x:=by rw[hs3 n (ab6 _),fc (by omega) (by omega),if_pos rfl,hx]
 have hl3:=hp3.length_eq
 rw[jZ]at hl3
 have hhole:kj lt (swp L i n) n i:=(hh.mono (by omega)).hole so (by omega) fun k hk hk0=>by rw[fc (by omega) (by omega),if_neg (by omega),if_neg hk0]
 refine .q .not<|.zn ?_
 refine .cond rfl (fun h2=>?_) (fun h2=>?_)
 have hm:m=false:=by simpa using h2
 refine .region<|.mo rfl<|.mo rfl ?_
 refine .bW (th hi so L3 T3 (by assumption) i (by omega)) (fun u T4 hu=>?_)
 obtain⟨rfl,L4,h4,hp4,hs4,hh4⟩:=hu
 refine .nil ?_
 ·first
   |exact aB (L4,T4) ⟨h4,hp4.trans (hp3.trans lz),by simp only;rw[hs4 n hin];exact hx3,hh4 n (by omega) hin ((hh3 hhole).2 hm)⟩ kE.c (aT.refl _)
   |exact aB (L3,T3) ⟨by assumption,hp3.trans lz,hx3,(hh3 hhole).1 hm⟩ kE.c (aT.refl _)
   |exact aB (L,T1) ⟨by assumption,.refl _,hin▸hx,hh.mono (by omega)⟩ kE.c (aT.refl _)
 have hm:m=true:=by simpa using h2
 refine .skip ?_
 ·first
   |exact aB (L4,T4) ⟨h4,hp4.trans (hp3.trans lz),by simp only;rw[hs4 n hin];exact hx3,hh4 n (by omega) hin ((hh3 hhole).2 hm)⟩ kE.c (aT.refl _)
   |exact aB (L3,T3) ⟨by assumption,hp3.trans lz,hx3,(hh3 hhole).1 hm⟩ kE.c (aT.refl _)
   |exact aB (L,T1) ⟨by assumption,.refl _,hin▸hx,hh.mono (by omega)⟩ kE.c (aT.refl _)
 have hin:i=n:=by simp at h1;omega
 refine .skip ?_
 ·first
   |exact aB (L4,T4) ⟨h4,hp4.trans (hp3.trans lz),by simp only;rw[hs4 n hin];exact hx3,hh4 n (by omega) hin ((hh3 hhole).2 hm)⟩ kE.c (aT.refl _)
   |exact aB (L3,T3) ⟨by assumption,hp3.trans lz,hx3,(hh3 hhole).1 hm⟩ kE.c (aT.refl _)
   |exact aB (L,T1) ⟨by assumption,.refl _,hin▸hx,hh.mono (by omega)⟩ kE.c (aT.refl _)
 intro y hy
 obtain⟨L5,T5⟩:=y
 obtain⟨h5,hp5,hx5,hH⟩:=hy
 simp only at h5 hp5 hx5 hH⊢
 have hl5:=hp5.length_eq
 obtain⟨e1,e2,e3⟩:=vU (by omega) hx5 hp5
 refine aD<|.sr<|.mo rfl ?_
 rw[e1]at h5
 refine .jN (hp _ T5 h5 (by omega)) (fun u T6 hu=>?_)
 obtain⟨rfl,h6⟩:=hu
 refine .ag rfl<|.zn ?_
 refine .ret (aR _ (.one (.tmp rfl)) (aT.refl _) ?_)
 ·exact⟨_,rfl,rfl,_,h6,e3,hH.ym (by omega)⟩
end
end Go.Proofs.YtkkmbiojicgobaaGreatDoor

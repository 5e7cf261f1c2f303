/- What the law 'CorePlays' uses. No condition. -/
import Derived.Test.YtkkmbiojicgobaaGreatDoorChecked
import Derived.Test.YtkkmbiojicgobaaGreatDoorKCorePlaysB
set_option linter.unusedSimpArgs false
set_option linter.unusedVariables false
namespace Go.Proofs.YtkkmbiojicgobaaGreatDoor
set_option linter.defProp false
def ab6:=@Nat.le_refl
open Tryz
set_option linter.unusedVariables false
theorem uT:bL prog 2 (.int .i64):=⟨underlying2⟩
theorem Az:dg prog 2 false:=⟨isAgg2⟩
theorem Ip:Sz prog 2 1:=⟨sizeOf2⟩
theorem uV:bL prog 3 (.int .i64):=⟨underlying3⟩
theorem AM:dg prog 3 false:=⟨isAgg3⟩
theorem IB:Sz prog 3 1:=⟨sizeOf3⟩
theorem A8:By prog 3 8:=⟨λw=>⟨_,typeInfo3 w,rfl⟩⟩
theorem JE:Zr prog 3 (.int .i64 0):=⟨zeroValue3⟩
theorem Jh:bL prog 4 (.bool):=⟨underlying4⟩
theorem AS:dg prog 4 false:=⟨isAgg4⟩
theorem IH:Sz prog 4 1:=⟨sizeOf4⟩
theorem Jj:bL prog 5 (.int .u8):=⟨underlying5⟩
theorem AU:dg prog 5 false:=⟨isAgg5⟩
theorem IJ:Sz prog 5 1:=⟨sizeOf5⟩
theorem A9:By prog 5 1:=⟨λw=>⟨_,typeInfo5 w,rfl⟩⟩
theorem JH:Zr prog 5 (.int .u8 0):=⟨zeroValue5⟩
theorem qh:bL prog 9 (.string):=⟨underlying9⟩
theorem rI:dg prog 9 false:=⟨isAgg9⟩
theorem IM:Sz prog 9 1:=⟨sizeOf9⟩
theorem Bc:By prog 9 16:=⟨λw=>⟨_,typeInfo9 w,rfl⟩⟩
theorem JK:Zr prog 9 (.string {data:=#[]}):=⟨zeroValue9⟩
theorem IY:bL prog 22 (.slice 29):=⟨underlying22⟩
theorem I1:bL prog 23 (.slice 9):=⟨underlying23⟩
theorem AD:dg prog 23 false:=⟨isAgg23⟩
theorem Is:Sz prog 23 1:=⟨sizeOf23⟩
theorem Jx:Zr prog 23 (sZ):=⟨zeroValue23⟩
theorem AH:dg prog 25 true:=⟨isAgg25⟩
theorem Ix:Sz prog 25 4:=⟨sizeOf25⟩
theorem A7:By prog 25 80:=⟨λw=>⟨_,typeInfo25 w,rfl⟩⟩
theorem JB:Zr prog 25 (.agg [.string {data:=#[]},.string {data:=#[]},sZ,sZ].toArray):=⟨zeroValue25⟩
theorem G4:bk prog 25 0 0:=bk.of underlying25 rfl sizeOf9 rfl rfl
theorem G5:bk prog 25 1 1:=bk.of underlying25 rfl sizeOf9 rfl rfl
theorem G6:bk prog 25 2 2:=bk.of underlying25 rfl sizeOf23 rfl rfl
theorem G7:bk prog 25 3 3:=bk.of underlying25 rfl sizeOf23 rfl rfl
theorem Ia:hN prog 25 [(0,1),(1,1),(2,1),(3,1)] [.string {data:=#[]},.string {data:=#[]},sZ,sZ]:=⟨_,underlying25,zeroValue25,λw=>by simp[sizeOf23,sizeOf9]⟩
theorem I6:bL prog 26 (.slice 5):=⟨underlying26⟩
theorem AI:dg prog 26 false:=⟨isAgg26⟩
theorem Iy:Sz prog 26 1:=⟨sizeOf26⟩
theorem uU:bL prog 27 (.int .u64):=⟨underlying27⟩
theorem AJ:dg prog 27 false:=⟨isAgg27⟩
theorem AL:dg prog 29 true:=⟨isAgg29⟩
theorem IA:Sz prog 29 16:=⟨sizeOf29⟩
theorem JD:Zr prog 29 (.agg [.int .i64 0,.int .i64 0,.string {data:=#[]},.string {data:=#[]},sZ,sZ,.string {data:=#[]},.string {data:=#[]},.string {data:=#[]},.string {data:=#[]},sZ,.string {data:=#[]},.string {data:=#[]},sZ,sZ,.int .u64 0].toArray):=⟨zeroValue29⟩
theorem G8:bk prog 29 0 0:=bk.of underlying29 rfl sizeOf3 rfl rfl
theorem G9:bk prog 29 1 1:=bk.of underlying29 rfl sizeOf2 rfl rfl
theorem Hd:bk prog 29 2 2:=bk.of underlying29 rfl sizeOf25 rfl rfl
theorem He:bk prog 29 3 6:=bk.of underlying29 rfl sizeOf9 rfl rfl
theorem Hf:bk prog 29 4 7:=bk.of underlying29 rfl sizeOf9 rfl rfl
theorem Hg:bk prog 29 5 8:=bk.of underlying29 rfl sizeOf9 rfl rfl
theorem Hh:bk prog 29 6 9:=bk.of underlying29 rfl sizeOf9 rfl rfl
theorem Hi:bk prog 29 7 10:=bk.of underlying29 rfl sizeOf23 rfl rfl
theorem Hj:bk prog 29 8 11:=bk.of underlying29 rfl sizeOf9 rfl rfl
theorem Hk:bk prog 29 9 12:=bk.of underlying29 rfl sizeOf9 rfl rfl
theorem Ha:bk prog 29 10 13:=bk.of underlying29 rfl sizeOf26 rfl rfl
theorem Hb:bk prog 29 11 14:=bk.of underlying29 rfl sizeOf26 rfl rfl
theorem Hc:bk prog 29 12 15:=bk.of underlying29 rfl sizeOf27 rfl rfl
theorem Ja:bL prog 30 (.pointer 74):=⟨underlying30⟩
theorem Je:bL prog 33 (.slice 25):=⟨underlying33⟩
theorem AP:dg prog 33 false:=⟨isAgg33⟩
theorem IE:Sz prog 33 1:=⟨sizeOf33⟩
theorem Hq:bk prog 35 0 0:=bk.of underlying35 rfl sizeOf33 rfl rfl
theorem Jf:bL prog 36 (.slice 117):=⟨underlying36⟩
theorem AQ:dg prog 36 false:=⟨isAgg36⟩
theorem IF:Sz prog 36 1:=⟨sizeOf36⟩
theorem Jg:bL prog 37 (.slice 121):=⟨underlying37⟩
theorem AR:dg prog 37 false:=⟨isAgg37⟩
theorem IG:Sz prog 37 1:=⟨sizeOf37⟩
theorem Hr:bk prog 39 0 0:=bk.of underlying39 rfl sizeOf36 rfl rfl
theorem Ht:bk prog 39 1 1:=bk.of underlying39 rfl sizeOf37 rfl rfl
theorem Ji:bL prog 40 (.slice 58):=⟨underlying40⟩
theorem AT:dg prog 40 false:=⟨isAgg40⟩
theorem II:Sz prog 40 1:=⟨sizeOf40⟩
theorem Hu:bk prog 42 0 0:=bk.of underlying42 rfl sizeOf40 rfl rfl
theorem Hv:bk prog 42 1 1:=bk.of underlying42 rfl sizeOf3 rfl rfl
theorem Hw:bk prog 44 0 0:=bk.of underlying44 rfl sizeOf35 rfl rfl
theorem Hx:bk prog 44 1 1:=bk.of underlying44 rfl sizeOf39 rfl rfl
theorem Hy:bk prog 44 2 3:=bk.of underlying44 rfl sizeOf42 rfl rfl
theorem Hz:bk prog 44 3 5:=bk.of underlying44 rfl sizeOf2 rfl rfl
theorem Ic:hN prog 44 [(0,1),(1,2),(3,2),(5,1)] [sZ,sZ,sZ,sZ,.int .i64 0,.int .i64 0]:=⟨_,underlying44,zeroValue44,λw=>by simp[sizeOf2,sizeOf35,sizeOf39,sizeOf42]⟩
theorem Jk:bL prog 51 (.slice 60):=⟨underlying51⟩
theorem Jl:bL prog 52 (.pointer 102):=⟨underlying52⟩
theorem AV:dg prog 52 false:=⟨isAgg52⟩
theorem AW:dg prog 58 true:=⟨isAgg58⟩
theorem IK:Sz prog 58 9:=⟨sizeOf58⟩
theorem Ba:By prog 58 112:=⟨λw=>⟨_,typeInfo58 w,rfl⟩⟩
theorem JI:Zr prog 58 (.agg [.string {data:=#[]},.int .i64 0,.string {data:=#[]},.string {data:=#[]},sZ,.int .i64 0,.int .i64 0,.int .u64 0,.bool false].toArray):=⟨zeroValue58⟩
theorem HA:bk prog 58 0 0:=bk.of underlying58 rfl sizeOf9 rfl rfl
theorem HB:bk prog 58 1 1:=bk.of underlying58 rfl sizeOf3 rfl rfl
theorem HC:bk prog 58 2 2:=bk.of underlying58 rfl sizeOf9 rfl rfl
theorem HD:bk prog 58 3 3:=bk.of underlying58 rfl sizeOf9 rfl rfl
theorem HE:bk prog 58 4 4:=bk.of underlying58 rfl sizeOf23 rfl rfl
theorem HF:bk prog 58 5 5:=bk.of underlying58 rfl sizeOf3 rfl rfl
theorem HG:bk prog 58 6 6:=bk.of underlying58 rfl sizeOf2 rfl rfl
theorem HH:bk prog 58 7 7:=bk.of underlying58 rfl sizeOf27 rfl rfl
theorem HI:bk prog 58 8 8:=bk.of underlying58 rfl sizeOf4 rfl rfl
theorem Ie:hN prog 58 [(0,1),(1,1),(2,1),(3,1),(4,1),(5,1),(6,1),(7,1),(8,1)] [.string {data:=#[]},.int .i64 0,.string {data:=#[]},.string {data:=#[]},sZ,.int .i64 0,.int .i64 0,.int .u64 0,.bool false]:=⟨_,underlying58,zeroValue58,λw=>by simp[sizeOf2,sizeOf23,sizeOf27,sizeOf3,sizeOf4,sizeOf9]⟩
theorem AX:dg prog 60 true:=⟨isAgg60⟩
theorem IL:Sz prog 60 9:=⟨sizeOf60⟩
theorem Bb:By prog 60 112:=⟨λw=>⟨_,typeInfo60 w,rfl⟩⟩
theorem JJ:Zr prog 60 (.agg [.string {data:=#[]},.int .i64 0,.string {data:=#[]},.string {data:=#[]},sZ,.int .i64 0,.int .i64 0,.int .u64 0,.bool false].toArray):=⟨zeroValue60⟩
theorem HJ:bk prog 60 0 0:=bk.of underlying60 rfl sizeOf9 rfl rfl
theorem HK:bk prog 60 1 1:=bk.of underlying60 rfl sizeOf3 rfl rfl
theorem HL:bk prog 60 2 2:=bk.of underlying60 rfl sizeOf9 rfl rfl
theorem HM:bk prog 60 3 3:=bk.of underlying60 rfl sizeOf9 rfl rfl
theorem HN:bk prog 60 4 4:=bk.of underlying60 rfl sizeOf23 rfl rfl
theorem HO:bk prog 60 5 5:=bk.of underlying60 rfl sizeOf3 rfl rfl
theorem HP:bk prog 60 6 6:=bk.of underlying60 rfl sizeOf2 rfl rfl
theorem HQ:bk prog 60 7 7:=bk.of underlying60 rfl sizeOf27 rfl rfl
theorem HR:bk prog 60 8 8:=bk.of underlying60 rfl sizeOf4 rfl rfl
theorem Ig:hN prog 60 [(0,1),(1,1),(2,1),(3,1),(4,1),(5,1),(6,1),(7,1),(8,1)] [.string {data:=#[]},.int .i64 0,.string {data:=#[]},.string {data:=#[]},sZ,.int .i64 0,.int .i64 0,.int .u64 0,.bool false]:=⟨_,underlying60,zeroValue60,λw=>by simp[sizeOf2,sizeOf23,sizeOf27,sizeOf3,sizeOf4,sizeOf9]⟩
theorem Jm:bL prog 69 (.pointer 127):=⟨underlying69⟩
theorem AY:dg prog 69 false:=⟨isAgg69⟩
theorem Jn:bL prog 71 (.pointer 132):=⟨underlying71⟩
theorem AZ:dg prog 71 false:=⟨isAgg71⟩
theorem HS:bk prog 74 0 0:=bk.of underlying74 rfl sizeOf69 rfl rfl
theorem HT:bk prog 74 1 1:=bk.of underlying74 rfl sizeOf71 rfl rfl
theorem HU:bk prog 74 2 2:=bk.of underlying74 rfl sizeOf52 rfl rfl
theorem HV:bk prog 74 3 3:=bk.of underlying74 rfl sizeOf2 rfl rfl
theorem Ih:hN prog 74 [(0,1),(1,1),(2,1),(3,1)] [.pointer none,.pointer none,.pointer none,.int .i64 0]:=⟨_,underlying74,zeroValue74,λw=>by simp[sizeOf2,sizeOf52,sizeOf69,sizeOf71]⟩
theorem Jo:bL prog 99 (.map 9 60):=⟨underlying99⟩
theorem A0:dg prog 99 false:=⟨isAgg99⟩
theorem IN:bL prog 100 (.pointer 183):=⟨underlying100⟩
theorem An:dg prog 100 false:=⟨isAgg100⟩
theorem Gi:bk prog 102 0 0:=bk.of underlying102 rfl sizeOf99 rfl rfl
theorem Gj:bk prog 102 1 1:=bk.of underlying102 rfl sizeOf100 rfl rfl
theorem Gk:bk prog 102 2 2:=bk.of underlying102 rfl sizeOf3 rfl rfl
theorem HW:hN prog 102 [(0,1),(1,1),(2,1)] [.map none,.pointer none,.int .i64 0]:=⟨_,underlying102,zeroValue102,λw=>by simp[sizeOf100,sizeOf3,sizeOf99]⟩
theorem IP:bL prog 109 (.slice 118):=⟨underlying109⟩
theorem IQ:bL prog 111 (.slice 123):=⟨underlying111⟩
theorem Ao:dg prog 117 true:=⟨isAgg117⟩
theorem Ii:Sz prog 117 3:=⟨sizeOf117⟩
theorem A1:By prog 117 56:=⟨λw=>⟨_,typeInfo117 w,rfl⟩⟩
theorem Jp:Zr prog 117 (.agg [.string {data:=#[]},.string {data:=#[]},sZ].toArray):=⟨zeroValue117⟩
theorem Gl:bk prog 117 0 0:=bk.of underlying117 rfl sizeOf9 rfl rfl
theorem Gm:bk prog 117 1 1:=bk.of underlying117 rfl sizeOf9 rfl rfl
theorem Gn:bk prog 117 2 2:=bk.of underlying117 rfl sizeOf23 rfl rfl
theorem HX:hN prog 117 [(0,1),(1,1),(2,1)] [.string {data:=#[]},.string {data:=#[]},sZ]:=⟨_,underlying117,zeroValue117,λw=>by simp[sizeOf23,sizeOf9]⟩
theorem Ap:dg prog 118 true:=⟨isAgg118⟩
theorem Ij:Sz prog 118 3:=⟨sizeOf118⟩
theorem A2:By prog 118 56:=⟨λw=>⟨_,typeInfo118 w,rfl⟩⟩
theorem Jq:Zr prog 118 (.agg [.string {data:=#[]},.string {data:=#[]},sZ].toArray):=⟨zeroValue118⟩
theorem Gp:bk prog 118 0 0:=bk.of underlying118 rfl sizeOf9 rfl rfl
theorem Gq:bk prog 118 1 1:=bk.of underlying118 rfl sizeOf9 rfl rfl
theorem Gr:bk prog 118 2 2:=bk.of underlying118 rfl sizeOf23 rfl rfl
theorem HY:hN prog 118 [(0,1),(1,1),(2,1)] [.string {data:=#[]},.string {data:=#[]},sZ]:=⟨_,underlying118,zeroValue118,λw=>by simp[sizeOf23,sizeOf9]⟩
theorem Aq:dg prog 121 true:=⟨isAgg121⟩
theorem Ik:Sz prog 121 9:=⟨sizeOf121⟩
theorem A3:By prog 121 128:=⟨λw=>⟨_,typeInfo121 w,rfl⟩⟩
theorem Jr:Zr prog 121 (.agg [.string {data:=#[]},.string {data:=#[]},.string {data:=#[]},.string {data:=#[]},sZ,.string {data:=#[]},.int .i64 0,.int .i64 0,.bool false].toArray):=⟨zeroValue121⟩
theorem Gs:bk prog 121 0 0:=bk.of underlying121 rfl sizeOf9 rfl rfl
theorem Gt:bk prog 121 1 1:=bk.of underlying121 rfl sizeOf9 rfl rfl
theorem Gu:bk prog 121 2 2:=bk.of underlying121 rfl sizeOf9 rfl rfl
theorem Gv:bk prog 121 3 3:=bk.of underlying121 rfl sizeOf9 rfl rfl
theorem Gw:bk prog 121 4 4:=bk.of underlying121 rfl sizeOf23 rfl rfl
theorem Gx:bk prog 121 5 5:=bk.of underlying121 rfl sizeOf9 rfl rfl
theorem Gy:bk prog 121 6 6:=bk.of underlying121 rfl sizeOf2 rfl rfl
theorem Gz:bk prog 121 7 7:=bk.of underlying121 rfl sizeOf3 rfl rfl
theorem GA:bk prog 121 8 8:=bk.of underlying121 rfl sizeOf4 rfl rfl
theorem HZ:hN prog 121 [(0,1),(1,1),(2,1),(3,1),(4,1),(5,1),(6,1),(7,1),(8,1)] [.string {data:=#[]},.string {data:=#[]},.string {data:=#[]},.string {data:=#[]},sZ,.string {data:=#[]},.int .i64 0,.int .i64 0,.bool false]:=⟨_,underlying121,zeroValue121,λw=>by simp[sizeOf2,sizeOf23,sizeOf3,sizeOf4,sizeOf9]⟩
theorem Ar:dg prog 123 true:=⟨isAgg123⟩
theorem Il:Sz prog 123 9:=⟨sizeOf123⟩
theorem A4:By prog 123 128:=⟨λw=>⟨_,typeInfo123 w,rfl⟩⟩
theorem Js:Zr prog 123 (.agg [.string {data:=#[]},.string {data:=#[]},.string {data:=#[]},.string {data:=#[]},sZ,.string {data:=#[]},.int .i64 0,.int .i64 0,.bool false].toArray):=⟨zeroValue123⟩
theorem GB:bk prog 123 0 0:=bk.of underlying123 rfl sizeOf9 rfl rfl
theorem GC:bk prog 123 1 1:=bk.of underlying123 rfl sizeOf9 rfl rfl
theorem GD:bk prog 123 2 2:=bk.of underlying123 rfl sizeOf9 rfl rfl
theorem GF:bk prog 123 3 3:=bk.of underlying123 rfl sizeOf9 rfl rfl
theorem GG:bk prog 123 4 4:=bk.of underlying123 rfl sizeOf23 rfl rfl
theorem GH:bk prog 123 5 5:=bk.of underlying123 rfl sizeOf9 rfl rfl
theorem GK:bk prog 123 6 6:=bk.of underlying123 rfl sizeOf2 rfl rfl
theorem GL:bk prog 123 7 7:=bk.of underlying123 rfl sizeOf3 rfl rfl
theorem GM:bk prog 123 8 8:=bk.of underlying123 rfl sizeOf4 rfl rfl
theorem H3:hN prog 123 [(0,1),(1,1),(2,1),(3,1),(4,1),(5,1),(6,1),(7,1),(8,1)] [.string {data:=#[]},.string {data:=#[]},.string {data:=#[]},.string {data:=#[]},sZ,.string {data:=#[]},.int .i64 0,.int .i64 0,.bool false]:=⟨_,underlying123,zeroValue123,λw=>by simp[sizeOf2,sizeOf23,sizeOf3,sizeOf4,sizeOf9]⟩
theorem IR:bL prog 125 (.map 9 25):=⟨underlying125⟩
theorem As:dg prog 125 false:=⟨isAgg125⟩
theorem GN:bk prog 127 0 0:=bk.of underlying127 rfl sizeOf125 rfl rfl
theorem H4:hN prog 127 [(0,1)] [.map none]:=⟨_,underlying127,zeroValue127,λw=>by simp[sizeOf125]⟩
theorem IS:bL prog 128 (.map 169 23):=⟨underlying128⟩
theorem At:dg prog 128 false:=⟨isAgg128⟩
theorem IT:bL prog 129 (.map 9 123):=⟨underlying129⟩
theorem Au:dg prog 129 false:=⟨isAgg129⟩
theorem GO:bk prog 132 0 0:=bk.of underlying132 rfl sizeOf128 rfl rfl
theorem GQ:bk prog 132 1 1:=bk.of underlying132 rfl sizeOf129 rfl rfl
theorem GR:bk prog 132 2 2:=bk.of underlying132 rfl sizeOf100 rfl rfl
theorem H5:hN prog 132 [(0,1),(1,1),(2,1)] [.map none,.map none,.pointer none]:=⟨_,underlying132,zeroValue132,λw=>by simp[sizeOf100,sizeOf128,sizeOf129]⟩
theorem Av:dg prog 135 false:=⟨isAgg135⟩
theorem Aw:dg prog 147 true:=⟨isAgg147⟩
theorem Im:Sz prog 147 2:=⟨sizeOf147⟩
theorem Jt:Zr prog 147 (.agg [.string {data:=#[]},.string {data:=#[]}].toArray):=⟨zeroValue147⟩
theorem GS:bk prog 147 0 0:=bk.of underlying147 rfl sizeOf9 rfl rfl
theorem GU:bk prog 147 1 1:=bk.of underlying147 rfl sizeOf9 rfl rfl
theorem H6:hN prog 147 [(0,1),(1,1)] [.string {data:=#[]},.string {data:=#[]}]:=⟨_,underlying147,zeroValue147,λw=>by simp[sizeOf9]⟩
theorem IU:bL prog 167 (.int .u64):=⟨underlying167⟩
theorem uQ:dg prog 169 true:=⟨isAgg169⟩
theorem uS:Sz prog 169 2:=⟨sizeOf169⟩
theorem Ju:Zr prog 169 (.agg [.string {data:=#[]},.string {data:=#[]}].toArray):=⟨zeroValue169⟩
theorem GV:bk prog 169 0 0:=bk.of underlying169 rfl sizeOf9 rfl rfl
theorem GW:bk prog 169 1 1:=bk.of underlying169 rfl sizeOf9 rfl rfl
theorem H7:hN prog 169 [(0,1),(1,1)] [.string {data:=#[]},.string {data:=#[]}]:=⟨_,underlying169,zeroValue169,λw=>by simp[sizeOf9]⟩
theorem IV:bL prog 179 (.map 9 225):=⟨underlying179⟩
theorem Ax:dg prog 179 false:=⟨isAgg179⟩
theorem IW:bL prog 181 (.slice 225):=⟨underlying181⟩
theorem Ay:dg prog 181 false:=⟨isAgg181⟩
theorem Io:Sz prog 181 1:=⟨sizeOf181⟩
theorem GX:bk prog 183 0 0:=bk.of underlying183 rfl sizeOf181 rfl rfl
theorem GY:bk prog 183 1 1:=bk.of underlying183 rfl sizeOf179 rfl rfl
theorem H8:hN prog 183 [(0,1),(1,1)] [sZ,.map none]:=⟨_,underlying183,zeroValue183,λw=>by simp[sizeOf179,sizeOf181]⟩
theorem IX:bL prog 217 (.int .u32):=⟨underlying217⟩
theorem AA:dg prog 217 false:=⟨isAgg217⟩
theorem Iq:Sz prog 217 1:=⟨sizeOf217⟩
theorem A5:By prog 217 4:=⟨λw=>⟨_,typeInfo217 w,rfl⟩⟩
theorem Jv:Zr prog 217 (.int .u32 0):=⟨zeroValue217⟩
theorem GZ:bk prog 224 0 0:=bk.of underlying224 rfl sizeOf9 rfl rfl
theorem G0:bk prog 224 1 1:=bk.of underlying224 rfl sizeOf2 rfl rfl
theorem G1:bk prog 224 2 2:=bk.of underlying224 rfl sizeOf3 rfl rfl
theorem H9:hN prog 224 [(0,1),(1,1),(2,1)] [.string {data:=#[]},.int .i64 0,.int .i64 0]:=⟨_,underlying224,zeroValue224,λw=>by simp[sizeOf2,sizeOf3,sizeOf9]⟩
theorem IZ:bL prog 225 (.pointer 224):=⟨underlying225⟩
theorem AB:dg prog 225 false:=⟨isAgg225⟩
theorem Ir:Sz prog 225 1:=⟨sizeOf225⟩
theorem A6:By prog 225 8:=⟨λw=>⟨_,typeInfo225 w,rfl⟩⟩
theorem Jw:Zr prog 225 (.pointer none):=⟨zeroValue225⟩
theorem I0:bL prog 227 (.pointer 181):=⟨underlying227⟩
theorem I2:bL prog 232 (.pointer 234):=⟨underlying232⟩
theorem AE:dg prog 232 false:=⟨isAgg232⟩
theorem Iu:Sz prog 232 1:=⟨sizeOf232⟩
theorem Jy:Zr prog 234 (.agg [.pointer none,sZ].toArray):=⟨zeroValue234⟩
theorem G2:bk prog 234 0 0:=bk.of underlying234 rfl sizeOf232 rfl rfl
theorem G3:bk prog 234 1 1:=bk.of underlying234 rfl sizeOf26 rfl rfl
theorem I3:bL prog 243 (.slice 3):=⟨underlying243⟩
theorem I4:bL prog 245 (.array 32 5):=⟨underlying245⟩
theorem AF:dg prog 245 true:=⟨isAgg245⟩
theorem Iv:Sz prog 245 32:=⟨sizeOf245⟩
theorem Jz:Zr prog 245 (.agg [.int .u8 0,.int .u8 0,.int .u8 0,.int .u8 0,.int .u8 0,.int .u8 0,.int .u8 0,.int .u8 0,.int .u8 0,.int .u8 0,.int .u8 0,.int .u8 0,.int .u8 0,.int .u8 0,.int .u8 0,.int .u8 0,.int .u8 0,.int .u8 0,.int .u8 0,.int .u8 0,.int .u8 0,.int .u8 0,.int .u8 0,.int .u8 0,.int .u8 0,.int .u8 0,.int .u8 0,.int .u8 0,.int .u8 0,.int .u8 0,.int .u8 0,.int .u8 0].toArray):=⟨zeroValue245⟩
theorem I5:bL prog 247 (.int .u64):=⟨underlying247⟩
theorem AG:dg prog 247 false:=⟨isAgg247⟩
theorem Iw:Sz prog 247 1:=⟨sizeOf247⟩
theorem JA:Zr prog 247 (.int .u64 0):=⟨zeroValue247⟩
theorem I7:bL prog 281 (.pointer 5):=⟨underlying281⟩
theorem I8:bL prog 284 (.array 32 5):=⟨underlying284⟩
theorem AK:dg prog 284 true:=⟨isAgg284⟩
theorem Iz:Sz prog 284 32:=⟨sizeOf284⟩
theorem JC:Zr prog 284 (.agg [.int .u8 0,.int .u8 0,.int .u8 0,.int .u8 0,.int .u8 0,.int .u8 0,.int .u8 0,.int .u8 0,.int .u8 0,.int .u8 0,.int .u8 0,.int .u8 0,.int .u8 0,.int .u8 0,.int .u8 0,.int .u8 0,.int .u8 0,.int .u8 0,.int .u8 0,.int .u8 0,.int .u8 0,.int .u8 0,.int .u8 0,.int .u8 0,.int .u8 0,.int .u8 0,.int .u8 0,.int .u8 0,.int .u8 0,.int .u8 0,.int .u8 0,.int .u8 0].toArray):=⟨zeroValue284⟩
theorem I9:bL prog 287 (.slice 217):=⟨underlying287⟩
theorem Jb:bL prog 304 (.pointer 317):=⟨underlying304⟩
theorem Jc:bL prog 308 (.array 64 217):=⟨underlying308⟩
theorem AN:dg prog 308 true:=⟨isAgg308⟩
theorem IC:Sz prog 308 64:=⟨sizeOf308⟩
theorem JF:Zr prog 308 (.agg [.int .u32 0,.int .u32 0,.int .u32 0,.int .u32 0,.int .u32 0,.int .u32 0,.int .u32 0,.int .u32 0,.int .u32 0,.int .u32 0,.int .u32 0,.int .u32 0,.int .u32 0,.int .u32 0,.int .u32 0,.int .u32 0,.int .u32 0,.int .u32 0,.int .u32 0,.int .u32 0,.int .u32 0,.int .u32 0,.int .u32 0,.int .u32 0,.int .u32 0,.int .u32 0,.int .u32 0,.int .u32 0,.int .u32 0,.int .u32 0,.int .u32 0,.int .u32 0,.int .u32 0,.int .u32 0,.int .u32 0,.int .u32 0,.int .u32 0,.int .u32 0,.int .u32 0,.int .u32 0,.int .u32 0,.int .u32 0,.int .u32 0,.int .u32 0,.int .u32 0,.int .u32 0,.int .u32 0,.int .u32 0,.int .u32 0,.int .u32 0,.int .u32 0,.int .u32 0,.int .u32 0,.int .u32 0,.int .u32 0,.int .u32 0,.int .u32 0,.int .u32 0,.int .u32 0,.int .u32 0,.int .u32 0,.int .u32 0,.int .u32 0,.int .u32 0].toArray):=⟨zeroValue308⟩
theorem Jd:bL prog 315 (.array 8 217):=⟨underlying315⟩
theorem AO:dg prog 315 true:=⟨isAgg315⟩
theorem ID:Sz prog 315 8:=⟨sizeOf315⟩
theorem JG:Zr prog 315 (.agg [.int .u32 0,.int .u32 0,.int .u32 0,.int .u32 0,.int .u32 0,.int .u32 0,.int .u32 0,.int .u32 0].toArray):=⟨zeroValue315⟩
theorem Hl:bk prog 317 0 0:=bk.of underlying317 rfl sizeOf315 rfl rfl
theorem Hm:bk prog 317 1 8:=bk.of underlying317 rfl sizeOf4 rfl rfl
theorem Hn:bk prog 317 2 9:=bk.of underlying317 rfl sizeOf26 rfl rfl
theorem Hp:bk prog 317 3 10:=bk.of underlying317 rfl sizeOf3 rfl rfl
theorem Ib:hN prog 317 [(0,8),(8,1),(9,1),(10,1)] [.int .u32 0,.int .u32 0,.int .u32 0,.int .u32 0,.int .u32 0,.int .u32 0,.int .u32 0,.int .u32 0,.bool false,sZ,.int .i64 0]:=⟨_,underlying317,zeroValue317,λw=>by simp[sizeOf26,sizeOf3,sizeOf315,sizeOf4]⟩
theorem rJ:iZ prog 9 1 [.s] false:=iZ.str qh rI
theorem uR:iZ prog 169 2 [.s,.s] true:=iZ.struct (n:=1) underlying169 stoodInHeld169 uQ uS (kc.more rJ (kc.more rJ kc.nil))
theorem Fm:aw prog 5:=⟨call5⟩
theorem Fz:aw prog 6:=⟨call6⟩
theorem FK:aw prog 7:=⟨call7⟩
theorem FW:aw prog 8:=⟨call8⟩
theorem F7:aw prog 9:=⟨call9⟩
theorem Bd:aw prog 10:=⟨call10⟩
theorem Bo:aw prog 11:=⟨call11⟩
theorem BB:aw prog 12:=⟨call12⟩
theorem BM:aw prog 13:=⟨call13⟩
theorem BX:aw prog 14:=⟨call14⟩
theorem B8:aw prog 15:=⟨call15⟩
theorem Cj:aw prog 16:=⟨call16⟩
theorem Cu:aw prog 17:=⟨call17⟩
theorem CF:aw prog 18:=⟨call18⟩
theorem CS:aw prog 19:=⟨call19⟩
theorem C3:aw prog 20:=⟨call20⟩
theorem Df:aw prog 21:=⟨call21⟩
theorem Dr:aw prog 22:=⟨call22⟩
theorem DC:aw prog 23:=⟨call23⟩
theorem DO:aw prog 24:=⟨call24⟩
theorem D0:aw prog 25:=⟨call25⟩
theorem Eb:aw prog 26:=⟨call26⟩
theorem Em:aw prog 27:=⟨call27⟩
theorem Ew:aw prog 28:=⟨call28⟩
theorem EG:aw prog 29:=⟨call29⟩
theorem EP:aw prog 30:=⟨call30⟩
theorem ES:aw prog 31:=⟨call31⟩
theorem ET:aw prog 32:=⟨call32⟩
theorem E3:aw prog 33:=⟨call33⟩
theorem E5:aw prog 34:=⟨call34⟩
theorem E6:aw prog 35:=⟨call35⟩
theorem E7:aw prog 36:=⟨call36⟩
theorem E8:aw prog 37:=⟨call37⟩
theorem E9:aw prog 38:=⟨call38⟩
theorem Fa:aw prog 39:=⟨call39⟩
theorem Fb:aw prog 40:=⟨call40⟩
theorem Fc:aw prog 41:=⟨call41⟩
theorem Fe:aw prog 42:=⟨call42⟩
theorem Ff:aw prog 43:=⟨call43⟩
theorem Fg:aw prog 44:=⟨call44⟩
theorem Fh:aw prog 45:=⟨call45⟩
theorem Fi:aw prog 46:=⟨call46⟩
theorem Fj:aw prog 47:=⟨call47⟩
theorem Fk:aw prog 48:=⟨call48⟩
theorem Fl:aw prog 49:=⟨call49⟩
theorem Fo:aw prog 50:=⟨call50⟩
theorem Fp:aw prog 51:=⟨call51⟩
theorem Fq:aw prog 52:=⟨call52⟩
theorem Fs:aw prog 53:=⟨call53⟩
theorem Ft:aw prog 54:=⟨call54⟩
theorem Fu:aw prog 55:=⟨call55⟩
theorem Fv:aw prog 56:=⟨call56⟩
theorem Fw:aw prog 57:=⟨call57⟩
theorem Fx:aw prog 58:=⟨call58⟩
theorem Fy:aw prog 59:=⟨call59⟩
theorem FA:aw prog 60:=⟨call60⟩
theorem FB:aw prog 61:=⟨call61⟩
theorem FC:aw prog 62:=⟨call62⟩
theorem FD:aw prog 63:=⟨call63⟩
theorem FE:aw prog 64:=⟨call64⟩
theorem FF:aw prog 65:=⟨call65⟩
theorem FG:aw prog 66:=⟨call66⟩
theorem FH:aw prog 67:=⟨call67⟩
theorem FI:aw prog 68:=⟨call68⟩
theorem FJ:aw prog 69:=⟨call69⟩
theorem FL:aw prog 70:=⟨call70⟩
theorem FM:aw prog 71:=⟨call71⟩
theorem FN:aw prog 72:=⟨call72⟩
theorem FO:aw prog 73:=⟨call73⟩
theorem FP:aw prog 74:=⟨call74⟩
theorem FQ:aw prog 75:=⟨call75⟩
theorem FR:aw prog 76:=⟨call76⟩
theorem FT:aw prog 77:=⟨call77⟩
theorem FU:aw prog 78:=⟨call78⟩
theorem FV:aw prog 79:=⟨call79⟩
theorem FX:aw prog 80:=⟨call80⟩
theorem FY:aw prog 81:=⟨call81⟩
theorem FZ:aw prog 82:=⟨call82⟩
theorem F0:aw prog 83:=⟨call83⟩
theorem F1:aw prog 84:=⟨call84⟩
theorem F2:aw prog 85:=⟨call85⟩
theorem F3:aw prog 86:=⟨call86⟩
theorem F4:aw prog 87:=⟨call87⟩
theorem F5:aw prog 88:=⟨call88⟩
theorem F6:aw prog 89:=⟨call89⟩
theorem F8:aw prog 90:=⟨call90⟩
theorem F9:aw prog 91:=⟨call91⟩
theorem Ga:aw prog 92:=⟨call92⟩
theorem Gb:aw prog 93:=⟨call93⟩
theorem Gc:aw prog 94:=⟨call94⟩
theorem Gd:aw prog 95:=⟨call95⟩
theorem Ge:aw prog 96:=⟨call96⟩
theorem Gf:aw prog 97:=⟨call97⟩
theorem Gg:aw prog 98:=⟨call98⟩
theorem Gh:aw prog 99:=⟨call99⟩
theorem Be:aw prog 100:=⟨call100⟩
theorem Bf:aw prog 101:=⟨call101⟩
theorem Bg:aw prog 102:=⟨call102⟩
theorem Bh:aw prog 103:=⟨call103⟩
theorem Bi:aw prog 104:=⟨call104⟩
theorem Bj:aw prog 105:=⟨call105⟩
theorem Bk:aw prog 106:=⟨call106⟩
theorem Bl:aw prog 107:=⟨call107⟩
theorem Bm:aw prog 108:=⟨call108⟩
theorem Bn:aw prog 109:=⟨call109⟩
theorem Bp:aw prog 110:=⟨call110⟩
theorem Bq:aw prog 111:=⟨call111⟩
theorem Br:aw prog 112:=⟨call112⟩
theorem Bt:aw prog 113:=⟨call113⟩
theorem Bu:aw prog 114:=⟨call114⟩
theorem Bv:aw prog 115:=⟨call115⟩
theorem Bw:aw prog 116:=⟨call116⟩
theorem Bx:aw prog 117:=⟨call117⟩
theorem Bz:aw prog 118:=⟨call118⟩
theorem BA:aw prog 119:=⟨call119⟩
theorem BC:aw prog 121:=⟨call121⟩
theorem BD:aw prog 122:=⟨call122⟩
theorem BE:aw prog 123:=⟨call123⟩
theorem BF:aw prog 124:=⟨call124⟩
theorem BG:aw prog 125:=⟨call125⟩
theorem BH:aw prog 126:=⟨call126⟩
theorem BJ:aw prog 127:=⟨call127⟩
theorem BK:aw prog 128:=⟨call128⟩
theorem BL:aw prog 129:=⟨call129⟩
theorem BN:aw prog 130:=⟨call130⟩
theorem BO:aw prog 131:=⟨call131⟩
theorem BP:aw prog 132:=⟨call132⟩
theorem BQ:aw prog 133:=⟨call133⟩
theorem BR:aw prog 134:=⟨call134⟩
theorem BS:aw prog 135:=⟨call135⟩
theorem BT:aw prog 136:=⟨call136⟩
theorem BU:aw prog 137:=⟨call137⟩
theorem BV:aw prog 138:=⟨call138⟩
theorem BW:aw prog 139:=⟨call139⟩
theorem BY:aw prog 140:=⟨call140⟩
theorem BZ:aw prog 141:=⟨call141⟩
theorem B0:aw prog 142:=⟨call142⟩
theorem B1:aw prog 143:=⟨call143⟩
theorem B2:aw prog 144:=⟨call144⟩
theorem B3:aw prog 145:=⟨call145⟩
theorem B4:aw prog 146:=⟨call146⟩
theorem B5:aw prog 147:=⟨call147⟩
theorem B6:aw prog 148:=⟨call148⟩
theorem B7:aw prog 149:=⟨call149⟩
theorem B9:aw prog 150:=⟨call150⟩
theorem Ca:aw prog 151:=⟨call151⟩
theorem Cb:aw prog 152:=⟨call152⟩
theorem Cc:aw prog 153:=⟨call153⟩
theorem Cd:aw prog 154:=⟨call154⟩
theorem Ce:aw prog 155:=⟨call155⟩
theorem Cf:aw prog 156:=⟨call156⟩
theorem Cg:aw prog 157:=⟨call157⟩
theorem Ch:aw prog 158:=⟨call158⟩
theorem Ci:aw prog 159:=⟨call159⟩
theorem Ck:aw prog 160:=⟨call160⟩
theorem Cl:aw prog 161:=⟨call161⟩
theorem Cm:aw prog 162:=⟨call162⟩
theorem Cn:aw prog 163:=⟨call163⟩
theorem Co:aw prog 164:=⟨call164⟩
theorem Cp:aw prog 165:=⟨call165⟩
theorem Cq:aw prog 166:=⟨call166⟩
theorem Cr:aw prog 167:=⟨call167⟩
theorem Cs:aw prog 168:=⟨call168⟩
theorem Ct:aw prog 169:=⟨call169⟩
theorem Cv:aw prog 170:=⟨call170⟩
theorem Cw:aw prog 171:=⟨call171⟩
theorem Cx:aw prog 172:=⟨call172⟩
theorem Cy:aw prog 173:=⟨call173⟩
theorem Cz:aw prog 174:=⟨call174⟩
theorem CA:aw prog 175:=⟨call175⟩
theorem CB:aw prog 176:=⟨call176⟩
theorem CC:aw prog 177:=⟨call177⟩
theorem CD:aw prog 178:=⟨call178⟩
theorem CE:aw prog 179:=⟨call179⟩
theorem CG:aw prog 180:=⟨call180⟩
theorem CH:aw prog 181:=⟨call181⟩
theorem CJ:aw prog 185:=⟨call185⟩
theorem CM:aw prog 186:=⟨call186⟩
theorem CN:aw prog 187:=⟨call187⟩
theorem CO:aw prog 188:=⟨call188⟩
theorem CQ:aw prog 189:=⟨call189⟩
theorem CT:aw prog 190:=⟨call190⟩
theorem CU:aw prog 191:=⟨call191⟩
theorem CV:aw prog 192:=⟨call192⟩
theorem CW:aw prog 193:=⟨call193⟩
theorem CX:aw prog 194:=⟨call194⟩
theorem CY:aw prog 195:=⟨call195⟩
theorem CZ:aw prog 196:=⟨call196⟩
theorem C0:aw prog 197:=⟨call197⟩
theorem C1:aw prog 198:=⟨call198⟩
theorem C2:aw prog 199:=⟨call199⟩
theorem C4:aw prog 200:=⟨call200⟩
theorem C5:aw prog 201:=⟨call201⟩
theorem C6:aw prog 202:=⟨call202⟩
theorem C7:aw prog 203:=⟨call203⟩
theorem C8:aw prog 204:=⟨call204⟩
theorem C9:aw prog 205:=⟨call205⟩
theorem Da:aw prog 206:=⟨call206⟩
theorem Db:aw prog 207:=⟨call207⟩
theorem Dc:aw prog 208:=⟨call208⟩
theorem De:aw prog 209:=⟨call209⟩
theorem Dg:aw prog 210:=⟨call210⟩
theorem Dh:aw prog 211:=⟨call211⟩
theorem Di:aw prog 212:=⟨call212⟩
theorem Dj:aw prog 213:=⟨call213⟩
theorem Dk:aw prog 214:=⟨call214⟩
theorem Dl:aw prog 215:=⟨call215⟩
theorem Dm:aw prog 216:=⟨call216⟩
theorem Dn:aw prog 217:=⟨call217⟩
theorem Dp:aw prog 218:=⟨call218⟩
theorem Dq:aw prog 219:=⟨call219⟩
theorem Ds:aw prog 220:=⟨call220⟩
theorem Dt:aw prog 221:=⟨call221⟩
theorem Du:aw prog 222:=⟨call222⟩
theorem Dv:aw prog 223:=⟨call223⟩
theorem Dw:aw prog 224:=⟨call224⟩
theorem Dx:aw prog 225:=⟨call225⟩
theorem Dy:aw prog 226:=⟨call226⟩
theorem Dz:aw prog 227:=⟨call227⟩
theorem DA:aw prog 228:=⟨call228⟩
theorem DB:aw prog 229:=⟨call229⟩
theorem DD:aw prog 230:=⟨call230⟩
theorem DE:aw prog 231:=⟨call231⟩
theorem DF:aw prog 232:=⟨call232⟩
theorem DG:aw prog 233:=⟨call233⟩
theorem DH:aw prog 234:=⟨call234⟩
theorem DI:aw prog 235:=⟨call235⟩
theorem DJ:aw prog 236:=⟨call236⟩
theorem DK:aw prog 237:=⟨call237⟩
theorem DL:aw prog 238:=⟨call238⟩
theorem DN:aw prog 239:=⟨call239⟩
theorem DP:aw prog 240:=⟨call240⟩
theorem DQ:aw prog 241:=⟨call241⟩
theorem DR:aw prog 242:=⟨call242⟩
theorem DT:aw prog 243:=⟨call243⟩
theorem DU:aw prog 244:=⟨call244⟩
theorem DV:aw prog 245:=⟨call245⟩
theorem DW:aw prog 246:=⟨call246⟩
theorem DX:aw prog 247:=⟨call247⟩
theorem DY:aw prog 248:=⟨call248⟩
theorem DZ:aw prog 249:=⟨call249⟩
theorem D1:aw prog 250:=⟨call250⟩
theorem D2:aw prog 251:=⟨call251⟩
theorem D3:aw prog 252:=⟨call252⟩
theorem D4:aw prog 253:=⟨call253⟩
theorem D5:aw prog 254:=⟨call254⟩
theorem D6:aw prog 255:=⟨call255⟩
theorem D7:aw prog 256:=⟨call256⟩
theorem D8:aw prog 257:=⟨call257⟩
theorem D9:aw prog 258:=⟨call258⟩
theorem Ea:aw prog 259:=⟨call259⟩
theorem Ec:aw prog 260:=⟨call260⟩
theorem Ed:aw prog 261:=⟨call261⟩
theorem Ee:aw prog 262:=⟨call262⟩
theorem Ef:aw prog 263:=⟨call263⟩
theorem Eg:aw prog 264:=⟨call264⟩
theorem Eh:aw prog 265:=⟨call265⟩
theorem Ei:aw prog 266:=⟨call266⟩
theorem Ej:aw prog 267:=⟨call267⟩
theorem Ek:aw prog 268:=⟨call268⟩
theorem El:aw prog 269:=⟨call269⟩
theorem En:aw prog 270:=⟨call270⟩
theorem Eo:aw prog 271:=⟨call271⟩
theorem Ep:aw prog 272:=⟨call272⟩
theorem Er:aw prog 273:=⟨call273⟩
theorem Es:aw prog 274:=⟨call274⟩
theorem Et:aw prog 275:=⟨call275⟩
theorem Eu:aw prog 276:=⟨call276⟩
theorem Ev:aw prog 277:=⟨call277⟩
theorem Ex:aw prog 280:=⟨call280⟩
theorem Ey:aw prog 281:=⟨call281⟩
theorem Ez:aw prog 282:=⟨call282⟩
theorem EA:aw prog 283:=⟨call283⟩
theorem EB:aw prog 284:=⟨call284⟩
theorem EC:aw prog 285:=⟨call285⟩
theorem ED:aw prog 287:=⟨call287⟩
theorem EE:aw prog 288:=⟨call288⟩
theorem EF:aw prog 289:=⟨call289⟩
theorem EH:aw prog 290:=⟨call290⟩
theorem EI:aw prog 291:=⟨call291⟩
theorem EJ:aw prog 292:=⟨call292⟩
theorem EK:aw prog 293:=⟨call293⟩
theorem EL:aw prog 295:=⟨call295⟩
theorem EM:aw prog 297:=⟨call297⟩
theorem EN:aw prog 298:=⟨call298⟩
theorem EO:aw prog 299:=⟨call299⟩
theorem EQ:aw prog 303:=⟨call303⟩
theorem ER:aw prog 304:=⟨call304⟩
theorem EU:aw prog 323:=⟨call323⟩
theorem EV:aw prog 324:=⟨call324⟩
theorem EW:aw prog 325:=⟨call325⟩
theorem EX:aw prog 326:=⟨call326⟩
theorem EY:aw prog 327:=⟨call327⟩
theorem EZ:aw prog 328:=⟨call328⟩
theorem E0:aw prog 329:=⟨call329⟩
theorem E4:aw prog 330:=⟨call330⟩
attribute [instance] uT Az Ip uV AM IB A8 JE Jh AS IH Jj AU IJ A9 JH qh rI IM Bc JK IY I1 AD Is Jx AH Ix A7 JB G4 G5 G6 G7 Ia I6 AI Iy uU AJ AL IA JD G8 G9 Hd He Hf Hg Hh Hi Hj Hk Ha Hb Hc Ja Je AP IE Hq Jf AQ IF Jg AR IG Hr Ht Ji AT II Hu Hv Hw Hx Hy Hz Ic Jk Jl AV AW IK Ba JI HA HB HC HD HE HF HG HH HI Ie AX IL Bb JJ HJ HK HL HM HN HO HP HQ HR Ig Jm AY Jn AZ HS HT HU HV Ih Jo A0 IN An Gi Gj Gk HW IP IQ Ao Ii A1 Jp Gl Gm Gn HX Ap Ij A2 Jq Gp Gq Gr HY Aq Ik A3 Jr Gs Gt Gu Gv Gw Gx Gy Gz GA HZ Ar Il A4 Js GB GC GD GF GG GH GK GL GM H3 IR As GN H4 IS At IT Au GO GQ GR H5 Av Aw Im Jt GS GU H6 IU uQ uS Ju GV GW H7 IV Ax IW Ay Io GX GY H8 IX AA Iq A5 Jv GZ G0 G1 H9 IZ AB Ir A6 Jw I0 I2 AE Iu Jy G2 G3 I3 I4 AF Iv Jz I5 AG Iw JA I7 I8 AK Iz JC I9 Jb Jc AN IC JF Jd AO ID JG Hl Hm Hn Hp Ib rJ uR Fm Fz FK FW F7 Bd Bo BB BM BX B8 Cj Cu CF CS C3 Df Dr DC DO D0 Eb Em Ew EG EP ES ET E3 E5 E6 E7 E8 E9 Fa Fb Fc Fe Ff Fg Fh Fi Fj Fk Fl Fo Fp Fq Fs Ft Fu Fv Fw Fx Fy FA FB FC FD FE FF FG FH FI FJ FL FM FN FO FP FQ FR FT FU FV FX FY FZ F0 F1 F2 F3 F4 F5 F6 F8 F9 Ga Gb Gc Gd Ge Gf Gg Gh Be Bf Bg Bh Bi Bj Bk Bl Bm Bn Bp Bq Br Bt Bu Bv Bw Bx Bz BA BC BD BE BF BG BH BJ BK BL BN BO BP BQ BR BS BT BU BV BW BY BZ B0 B1 B2 B3 B4 B5 B6 B7 B9 Ca Cb Cc Cd Ce Cf Cg Ch Ci Ck Cl Cm Cn Co Cp Cq Cr Cs Ct Cv Cw Cx Cy Cz CA CB CC CD CE CG CH CJ CM CN CO CQ CT CU CV CW CX CY CZ C0 C1 C2 C4 C5 C6 C7 C8 C9 Da Db Dc De Dg Dh Di Dj Dk Dl Dm Dn Dp Dq Ds Dt Du Dv Dw Dx Dy Dz DA DB DD DE DF DG DH DI DJ DK DL DN DP DQ DR DT DU DV DW DX DY DZ D1 D2 D3 D4 D5 D6 D7 D8 D9 Ea Ec Ed Ee Ef Eg Eh Ei Ej Ek El En Eo Ep Er Es Et Eu Ev Ex Ey Ez EA EB EC ED EE EF EH EI EJ EK EL EM EN EO EQ ER EU EV EW EX EY EZ E0 E4
theorem mixed:prog.follows .mixedOrders=true:=by kernel_rfl
structure mT(P:Program)(R:au)(t:TypeId)(v:Value){α:Type}(lt:α→α→Bool)(I:List α→ax→Prop):Prop where
 kh:∀L T,I L T→L.length≤1000000000
 len:∀L T,I L T→gS P t v "Len" [] R T fun u T'=>u=.int .i64 L.length∧I L T'
 less:∀L T (i k:Nat) x y,I L T→L[i]? =some x→L[k]? =some y→gS P t v "Less" [.int .i64 i,.int .i64 k] R T fun u T'=>u=.bool (lt x y)∧I L T'
 swap:∀L T (i k:Nat),I L T→i<L.length→k<L.length→gS P t v "Swap" [.int .i64 i,.int .i64 k] R T fun _ T'=>I (swp L i k) T'
section
variable{R:au}{t:TypeId}{v:Value}{α:Type}{lt:α->α->Bool}{I:List α->ax->Prop}
theorem s0(A:mT prog R t v lt I)(V:SO lt)(L:List α)(T:ax)(h:I L T)(j:Nat)(W:j<L.length):
  Spec prog 280 [.iface t v,.int .i64 j] R [T] λu H'=>∃T',H'=[T']/\u=.tuple #[]/\∃L',I L' T'/\L'.Perm L/\(∀k,j<k->L'[k]? =L[k]?)/\∀n,n<=L.length->j<n->Up lt L n j->fC lt L' n:=by
 have z:=A.kh L T h
 refine Spec.body func280 rfl results280 ntmps280 rfl ?_
 refine .block ?_
 refine .loop (X:=Nat×List α×ax) (λy=>I y.2.1 y.2.2/\y.1<=j/\y.2.1.Perm L/\(∀k,j<k->y.2.1[k]? =L[k]?)/\∀n,n<=L.length->j<n->Up lt L n j->Up lt y.2.1 n y.1) (λy=>[(0,.iface t v),(1,iN y.1)]) (λy=>[y.2.2]) (λy=>y.1) (j,L,T) ⟨h,ab6 _,.refl _,λ_ _=>rfl,λ_ _ _ h=>h⟩ kE.c.c rH ?_
 rintro⟨i,f,H⟩ ⟨w,O,l,p,r⟩
 simp only at w O l p r⊢
 have Y:=l.length_eq
 obtain⟨x,B⟩:∃x,f[i]? =some x:=⟨_,bB (by omega)⟩
 obtain⟨y,C⟩:∃y,f[bP i]? =some y:=⟨_,bB (by unfold bP;omega)⟩
 refine .block<|.sr<|.mo rfl ?_
 refine .q (.i64 ((i:Int)-1) .sub ⟨rfl,by omega,by omega⟩) ?_
 refine .q (.i64 ((bP i:Nat):Int) .quo ⟨sR,by omega,by unfold bP;omega⟩) ?_
 refine .ag rfl<|.zs<|.sr<|.mo rfl<|.mo rfl<|.q .bR<|.mo rfl ?_
 refine .split (t:=11) rfl (λd=>?_) (λd=>?_)
 refine .gF d<|.gF d<|.gF d<|.gF d<|.gF d<|.q (.aW d) ?_
 refine .zn<|.dn ?_
 refine .exit (bE (jt (bH (bF ?_))))
 refine ed _ .none rH ?_
 ·have F:bP i=i:=by simp at d;omega
  refine⟨_,rfl,rfl,f,w,l,p,λn o m g=>?_⟩
  have M:i=0:=by
   rcases Nat.eq_zero_or_pos i with e|e
   ·exact e
   ·have:=fN e;omega
  subst M
  exact(r n o m g).x3
 refine .gT d<|.mo rfl<|.gT d<|.mo rfl<|.gT d<|.mo rfl<|.gT d ?_
 refine .jJ (A.less f H i (bP i) x y w B C) (λu J g=>?_)
 obtain⟨rfl,D⟩:=g
 refine .gT d<|.q .not<|.q (.aQ d) ?_
 refine .zn ?_
 refine .cond rfl (λs=>?_) λs=>?_
 refine .exit (bE (jt (bH (bF ?_))))
 refine ed _ .none rH ?_
 ·refine⟨_,rfl,rfl,f,D,l,p,λn o m g=>(r n o m g).stop λa b E z=>?_⟩
  rw[C]at E;rw[B]at z
  cases E;cases z
  simpa using s
 refine .kn<|.sr<|.mo rfl<|.mo rfl<|.mo rfl ?_
 refine .jJ (A.swap f J (bP i) i D (by unfold bP;omega) (by omega)) (λu K N=>?_)
 refine .zn<|.region<|.mo rfl<|.ag rfl<|.nil<|bw ?_
 ·have S:lt x y=true:=by simpa using s
  have F:bP i≠i:=by simp at d;omega
  have G:0<i:=by
   rcases Nat.eq_zero_or_pos i with e|e
   ·subst e;exact absurd rfl F
   ·exact e
  have U:=fN G
  exact bd (bP i,swp f (bP i) i,K) ⟨N,by omega,lu.trans l,λk Q=>by
   rw[fb (by omega) (by omega),if_neg (by omega),if_neg (by omega)];exact p k Q,λn o m g=>(r n o m g).step V G (by omega) (by omega) B C S⟩ U kE.c.c rH
theorem rD(hi:mT prog R t v lt I)(p:SO lt)(L:List α)(T:ax)(h:I L T)(g n:Nat)(a8:g<=n)(hn:n<=L.length):
  Spec prog 245 [.iface t v,.int .i64 g,.int .i64 n] R [T] λu H'=>∃T',H'=[T']/\∃L' m,I L' T'/\u=.bool m/\L'.Perm L/\(∀k,n<=k->L'[k]? =L[k]?)/\(ke lt L n g->(m=true->fC lt L' n)/\(m=false->Up lt L' n g)):=by
 have O:=hi.kh L T h
 refine Spec.body func245 rfl results245 ntmps245 rfl ?_
 refine .sr<|.ag rfl<|.z<|.mo rfl<|.ag rfl<|.zs<|.block ?_
 refine .loop (X:=Nat×List α×ax) (λy=>I y.2.1 y.2.2/\g<=y.1/\y.1<=n/\y.2.1.Perm L/\(∀k,n<=k->y.2.1[k]? =L[k]?)/\(ke lt L n g->ke lt y.2.1 n y.1/\(y.1≠g->fY lt y.2.1 (bP y.1) y.1))) (λy=>[(0,.iface t v),(1,iN g),(2,iN n),(7,iN y.1)]) (λy=>[y.2.2]) (λy=>n-y.1) (g,L,T) ⟨h,ab6 _,a8,.refl _,λ_ _=>rfl,λh=>⟨h,λe=>absurd rfl e⟩⟩ kE.c.c.c.c rH ?_
 rintro⟨i,l,Z⟩ ⟨U,a9,b0,N,V,E⟩
 simp only at U a9 b0 N V E⊢
 have hl:=N.length_eq
 refine .block<|.sr<|.mo rfl ?_
 refine .ia (2*i) .mul ?_
 refine .ia (2*i+1) .add ?_
 refine .ag rfl<|.zs<|.sr<|.mo rfl<|.mo rfl<|.q .geq<|.mo rfl ?_
 refine .split (t:=18) rfl (λC=>?_) (λC=>?_)
 refine .gF C<|.gF C<|.q (.aW C) ?_
 refine .zn<|.dn ?_
 have a7:n<=2*i+1:=by
  first
   |(simp at C;omega)
   |(simp at h1;omega)
 refine .exit (bE (jt (bH (bF ?_))))
 refine aD<|.sr<|.mo rfl<|.mo rfl<|.q .gtr<|.az rfl ?_
 refine .ret (aN _ (.one (.tmp rfl)) rH ?_)
 ·refine⟨_,rfl,l,decide (g<i),by assumption,by simp,N,V,λd=>?_⟩
  have G:Up lt l n i:=(E d).1.stop λc s w f a b F O=>by
   first
    |(simp only[bP]at f;omega)
    |(rw[Y]at F;cases F;exact p.gQ _ _ _ (W c b s w f O) (by simpa using S))
  refine⟨λA=>?_,λA=>?_⟩
  ·have B:i≠g:=by simp at A;omega
   exact G.stop ((E d).2 B)
  ·have B:i=g:=by simp at A;omega
   rw[<-B];exact G
 refine .gT C<|.mo rfl<|.gT C<|.q .lss<|.q (.aQ C) ?_
 refine .zn ?_
 refine .cond rfl (λh1=>?_) λh1=>?_
 have a7:n<=2*i+1:=by
  first
   |(simp at C;omega)
   |(simp at h1;omega)
 refine .exit (bE (jt (bH (bF ?_))))
 refine aD<|.sr<|.mo rfl<|.mo rfl<|.q .gtr<|.az rfl ?_
 refine .ret (aN _ (.one (.tmp rfl)) rH ?_)
 ·refine⟨_,rfl,l,decide (g<i),by assumption,by simp,N,V,λd=>?_⟩
  have G:Up lt l n i:=(E d).1.stop λc s w f a b F O=>by
   first
    |(simp only[bP]at f;omega)
    |(rw[Y]at F;cases F;exact p.gQ _ _ _ (W c b s w f O) (by simpa using S))
  refine⟨λA=>?_,λA=>?_⟩
  ·have B:i≠g:=by simp at A;omega
   exact G.stop ((E d).2 B)
  ·have B:i=g:=by simp at A;omega
   rw[<-B];exact G
 have Q:2*i+1<n:=by simp at C;omega
 obtain⟨y0,Y⟩:∃y,l[i]? =some y:=⟨_,bB (by omega)⟩
 obtain⟨J,o⟩:∃y,l[2*i+1]? =some y:=⟨_,bB (by omega)⟩
 refine .kn<|.sr<|.mo rfl<|.ag rfl<|.zs ?_
 refine bO.cut (X:=Nat×ax×α) (λz=>I l z.2.1/\0<z.1/\z.1<n/\bP z.1=i/\l[z.1]? =some z.2.2/\∀c u,0<c->c<n->bP c=i->l[c]? =some u->lt u z.2.2=false) (λz=>[(0,.iface t v),(1,iN g),(2,iN n),(7,iN i),(9,iN z.1)]) (λz=>[z.2.1]) ?_ ?_
 refine .sr<|.mo rfl ?_
 refine .ia (2*i+2) .add ?_
 refine .ag rfl<|.z<|.mo rfl<|.mo rfl<|.q .lss<|.mo rfl ?_
 refine .split (t:=28) rfl (λr=>?_) (λr=>?_)
 have a2:2*i+2<n:=by simp at r;omega
 obtain⟨x2,D⟩:∃y,l[2*i+2]? =some y:=⟨_,bB (by omega)⟩
 refine .gT r<|.mo rfl<|.gT r<|.mo rfl<|.gT r<|.mo rfl<|.gT r ?_
 refine .jJ (hi.less l Z (2*i+2) (2*i+1) x2 J U D o) (λu K d=>?_)
 obtain⟨rfl,M⟩:=d
 refine .q (.aW r) ?_
 refine .zn ?_
 refine .cond rfl (λH=>?_) λH=>?_
 refine .region<|.mo rfl<|.ag rfl<|.nil ?_
 ·first
   |exact aA (2*i+2,K,x2) ⟨M,by simp only;omega,a2,by simp only[bP];omega,D,λc u s w f d=>by
     have:c=2*i+1\/c=2*i+2:=by simp only[bP]at f;omega
     rcases this with rfl|rfl
     ·rw[o]at d;cases d;exact p.kF (by simpa using H)
     ·rw[D]at d;cases d;exact p.fI _⟩ kE.c.c.c.c.c rH
   |exact aA (2*i+1,K,J) ⟨M,by simp only;omega,Q,by simp only[bP];omega,o,λc u s w f d=>by
     have:c=2*i+1\/c=2*i+2:=by simp only[bP]at f;omega
     rcases this with rfl|rfl
     ·rw[o]at d;cases d;exact p.fI _
     ·rw[D]at d;cases d;simpa using H⟩ kE.c.c.c.c.c rH
   |exact aA (2*i+1,Z,J) ⟨U,by simp only;omega,Q,by simp only[bP];omega,o,λc u s w f d=>by
     have:c=2*i+1:=by simp only[bP]at f;simp at r;omega
     subst this
     rw[o]at d;cases d;exact p.fI _⟩ kE.c.c.c.c.c rH
 refine .skip ?_
 ·first
   |exact aA (2*i+2,K,x2) ⟨M,by simp only;omega,a2,by simp only[bP];omega,D,λc u s w f d=>by
     have:c=2*i+1\/c=2*i+2:=by simp only[bP]at f;omega
     rcases this with rfl|rfl
     ·rw[o]at d;cases d;exact p.kF (by simpa using H)
     ·rw[D]at d;cases d;exact p.fI _⟩ kE.c.c.c.c.c rH
   |exact aA (2*i+1,K,J) ⟨M,by simp only;omega,Q,by simp only[bP];omega,o,λc u s w f d=>by
     have:c=2*i+1\/c=2*i+2:=by simp only[bP]at f;omega
     rcases this with rfl|rfl
     ·rw[o]at d;cases d;exact p.fI _
     ·rw[D]at d;cases d;simpa using H⟩ kE.c.c.c.c.c rH
   |exact aA (2*i+1,Z,J) ⟨U,by simp only;omega,Q,by simp only[bP];omega,o,λc u s w f d=>by
     have:c=2*i+1:=by simp only[bP]at f;simp at r;omega
     subst this
     rw[o]at d;cases d;exact p.fI _⟩ kE.c.c.c.c.c rH
 refine .gF r<|.gF r<|.gF r<|.gF r<|.q (.aQ r) ?_
 refine .zn<|.bX<|.skip ?_
 ·first
   |exact aA (2*i+2,K,x2) ⟨M,by simp only;omega,a2,by simp only[bP];omega,D,λc u s w f d=>by
     have:c=2*i+1\/c=2*i+2:=by simp only[bP]at f;omega
     rcases this with rfl|rfl
     ·rw[o]at d;cases d;exact p.kF (by simpa using H)
     ·rw[D]at d;cases d;exact p.fI _⟩ kE.c.c.c.c.c rH
   |exact aA (2*i+1,K,J) ⟨M,by simp only;omega,Q,by simp only[bP];omega,o,λc u s w f d=>by
     have:c=2*i+1\/c=2*i+2:=by simp only[bP]at f;omega
     rcases this with rfl|rfl
     ·rw[o]at d;cases d;exact p.fI _
     ·rw[D]at d;cases d;simpa using H⟩ kE.c.c.c.c.c rH
   |exact aA (2*i+1,Z,J) ⟨U,by simp only;omega,Q,by simp only[bP];omega,o,λc u s w f d=>by
     have:c=2*i+1:=by simp only[bP]at f;simp at r;omega
     subst this
     rw[o]at d;cases d;exact p.fI _⟩ kE.c.c.c.c.c rH
 intro y hy
 obtain⟨j,T3,x⟩:=y
 obtain⟨a3,a0,a4,a1,hx,W⟩:=hy
 simp only at a3 a0 a4 a1 hx W⊢
 have b2:i<j:=a1▸fN a0
 refine aD<|.seq<|.sr<|.mo rfl<|.mo rfl<|.mo rfl ?_
 refine .jJ (hi.less l T3 j i x y0 a3 hx Y) (λu T4 d=>?_)
 obtain⟨rfl,a5⟩:=d
 refine .q .not<|.zn ?_
 refine .cond rfl (λS=>?_) λS=>?_
 refine .exit (bE (jt (bH (bF ?_))))
 refine aD<|.sr<|.mo rfl<|.mo rfl<|.q .gtr<|.az rfl ?_
 refine .ret (aN _ (.one (.tmp rfl)) rH ?_)
 ·refine⟨_,rfl,l,decide (g<i),by assumption,by simp,N,V,λd=>?_⟩
  have G:Up lt l n i:=(E d).1.stop λc s w f a b F O=>by
   first
    |(simp only[bP]at f;omega)
    |(rw[Y]at F;cases F;exact p.gQ _ _ _ (W c b s w f O) (by simpa using S))
  refine⟨λA=>?_,λA=>?_⟩
  ·have B:i≠g:=by simp at A;omega
   exact G.stop ((E d).2 B)
  ·have B:i=g:=by simp at A;omega
   rw[<-B];exact G
 refine .kn<|.sr<|.mo rfl<|.mo rfl<|.mo rfl ?_
 refine .jJ (hi.swap l T4 i j a5 (by omega) (by omega)) (λu T5 a6=>?_)
 refine .zn<|.region<|.mo rfl<|.ag rfl<|.nil<|bw ?_
 ·have b1:lt x y0=true:=by simpa using S
  exact bd (j,swp l i j,T5) ⟨a6,by simp only;omega,by simp only;omega,lu.trans N,λk hk=>by
   rw[fb (by omega) (by omega),if_neg (by omega),if_neg (by omega)];exact V k hk,λd=>by
    have:=(E d).1.step p a0 a4 (by omega) a1 hx Y b1 W
    exact⟨this.1,λ_=>this.2⟩⟩ (by simp only;omega) kE.c.c.c.c rH
theorem J3(c:mT prog R t v lt I)(o:SO lt)(L:List α)(T:ax)(h:I L T)(i:Nat)(y:i<L.length)(j:ke lt L L.length i):
  Spec prog 262 [.iface t v,.int .i64 i] R [T] λu H'=>∃T',H'=[T']/\u=.tuple #[]/\∃L',I L' T'/\L'.Perm L/\fC lt L' L'.length:=by
 refine Spec.body func262 rfl results262 ntmps262 rfl ?_
 refine .sr<|.mo rfl<|.mo rfl<|.mo rfl ?_
 refine .jJ (c.len L T h) (λu r b=>?_)
 obtain⟨rfl,a⟩:=b
 refine .bT (rD c o L r a i L.length (by omega) (ab6 _)) (λu s b=>?_)
 obtain⟨f,m,g,rfl,e,B,k⟩:=b
 have l:=e.length_eq
 refine .q .not<|.zn ?_
 refine .cond rfl (λa=>?_) λa=>?_
 have d:m=false:=by simpa using a
 refine .region<|.mo rfl<|.mo rfl ?_
 refine .bT (s0 c o f s g i (by omega)) (λu A b=>?_)
 obtain⟨rfl,p,w,n,C,x⟩:=b
 have z:=n.length_eq
 refine .nil<|ed _ .none rH ?_
 ·exact⟨_,rfl,rfl,p,w,n.trans e,by rw[z,l];exact x _ (by omega) y ((k j).2 d)⟩
 have d:m=true:=by simpa using a
 refine .skip<|ed _ .none rH ?_
 ·exact⟨_,rfl,rfl,f,g,e,by rw[l];exact(k j).1 d⟩
theorem LS(hi:mT Tryz.prog R t v lt I)(so:SO lt)(L:List α)(T:ax)(x:Value)(a:α)(hp:gS Tryz.prog t v "Push" [x] R T fun _ T'=>I (L++[a]) T')(hh:fC lt L L.length):
  Spec prog 263 [.iface t v,x] R [T] fun u H'=>∃T',H'=[T']∧u=.tuple #[]∧∃L',I L' T'∧L'.Perm (L++[a])∧fC lt L' L'.length:=by
 refine Spec.body func263 rfl results263 ntmps263 rfl ?_
 refine .sr<|.mo rfl<|.mo rfl ?_
 refine .jJ hp (fun u T1 h1=>?_)
 have hb:=hi.kh _ T1 h1
 simp only[List.length_append,List.length_singleton]at hb
 refine .zn<|.region<|.mo rfl<|.mo rfl ?_
 refine .jJ (hi.len _ T1 h1) (fun u T2 hu=>?_)
 obtain⟨rfl,h2⟩:=hu
 refine .q (.i64 ((L.length:Nat):Int) .sub ⟨by simp,by omega,by omega⟩) ?_
 refine .bT (s0 hi so _ T2 h2 L.length (by simp)) (fun u T3 hu=>?_)
 obtain⟨rfl,L3,h3,hp3,hs3,hh3⟩:=hu
 have hl3:=hp3.length_eq
 refine .nil<|ed _ .none (aU.refl _) ?_
 ·exact⟨_,rfl,rfl,L3,h3,hp3,by rw[hl3];exact hh3 _ (ab6 _) (by simp) (by simp;exact hh.push a)⟩
theorem vN{L a:List α}{n:Nat}{x:α}(c:L.length=n+1)(e:L[n]? =some x)(d:L.Perm a):L=L.take n++[x]/\(L.take n).length=n/\a.Perm (x::L.take n):=by
 have b:L=L.take n++[x]:=by
  apply List.ext_getElem?
  intro k
  rcases Nat.lt_trichotomy k n with h|h|h
  ·rw[List.getElem?_append_left (by simp;omega),List.getElem?_take_of_lt h]
  ·subst h
   rw[List.getElem?_append_right (by simp;omega),e]
   simp[c]
  ·rw[List.getElem?_eq_none (by omega),List.getElem?_eq_none (by simp;omega)]
 refine⟨b,by simp;omega,d.symm.trans ?_⟩
 have:(L.take n++[x]).Perm (x::L.take n):=by simp
 rw[<-b]at this
 exact this
theorem fC.yd{L:List α}{n:Nat}(h:fC lt L n)(b:n<=L.length):fC lt (L.take n) (L.take n).length:=by
 have e:(L.take n).length=n:=by simp;omega
 rw[e]
 exact h.gR λk a=>List.getElem?_take_of_lt a
theorem LI(hi:mT prog R t v lt I)(so:SO lt)(L:List α)(T:ax)(h:I L T)(x:α)(hx:L[0]? =some x)(hh:fC lt L L.length)(px:α→Value)(J:List α→ax→Prop)
  (hp:∀L' T',I (L'++[x]) T'→L'.length+1=L.length→gS Tryz.prog t v "Pop" [] R T' fun u T''=>u=px x∧J L' T''):
  Spec prog 190 [.iface t v] R [T] fun u H'=>∃T',H'=[T']∧u=px x∧∃L',J L' T'∧L.Perm (x::L')∧fC lt L' L'.length:=by
 have hb:=hi.kh L T h
 have hpos:0<L.length:=(List.getElem?_eq_some_iff.1 hx).1
 obtain⟨n,hn⟩:∃n,L.length=n+1:=⟨L.length-1,by omega⟩
 refine Spec.body func190 rfl results190 ntmps190 rfl ?_
 refine .sr<|.ag rfl<|.z<|.mo rfl ?_
 refine .jJ (hi.len L T h) (fun u T1 hu=>?_)
 obtain⟨rfl,h1⟩:=hu
 refine .q (.i64 ((n:Nat):Int) .sub ⟨by omega,by omega,by omega⟩) ?_
 refine .ag rfl<|.z<|.mo rfl<|.mo rfl ?_
 refine .jJ (hi.swap L T1 0 n h1 (by omega) (by omega)) (fun u T2 h2=>?_)
 refine .z<|.mo rfl<|.mo rfl ?_
 refine .bT (rD hi so _ T2 h2 0 n (by omega) (by rw[jV];omega)) (fun u T3 hu=>?_)
 obtain⟨L3,m,h3,rfl,hp3,hs3,hh3⟩:=hu
 have hx3:L3[n]? =some x:=by rw[hs3 n (ab6 _),fb (by omega) (by omega),if_pos rfl,hx]
 have hl3:=hp3.length_eq
 rw[jV]at hl3
 obtain⟨e1,e2,e3⟩:=vN (by omega) hx3 (hp3.trans lu)
 have hhole:ke lt (swp L 0 n) n 0:=(hh.mono (by omega)).hole so (by omega) fun k hk hk0=>by rw[fb (by omega) (by omega),if_neg (by omega),if_neg hk0]
 have hH:fC lt L3 n:=by
  cases m with
  |true=>exact(hh3 hhole).1 rfl
  |false=>exact((hh3 hhole).2 rfl).x3
 refine .z<|.mo rfl ?_
 rw[e1]at h3
 refine .jJ (hp _ T3 h3 (by omega)) (fun u T4 hu=>?_)
 obtain⟨rfl,h4⟩:=hu
 refine .ag rfl<|.zn ?_
 refine .ret (aN _ (.one (.tmp rfl)) (aU.refl _) ?_)
 ·exact⟨_,rfl,rfl,_,h4,e3,hH.yd (by omega)⟩
theorem Mq(hi:mT prog R t v lt I)(so:SO lt)(L:List α)(T:ax)(h:I L T)(i:Nat)(x:α)(hx:L[i]? =some x)(hh:fC lt L L.length)(px:α→Value)(J:List α→ax→Prop)
  (hp:∀L' T',I (L'++[x]) T'→L'.length+1=L.length→gS Tryz.prog t v "Pop" [] R T' fun u T''=>u=px x∧J L' T''):
  Spec prog 250 [.iface t v,.int .i64 i] R [T] fun u H'=>∃T',H'=[T']∧u=px x∧∃L',J L' T'∧L.Perm (x::L')∧fC lt L' L'.length:=by
 have hb:=hi.kh L T h
 have hpos:i<L.length:=(List.getElem?_eq_some_iff.1 hx).1
 obtain⟨n,hn⟩:∃n,L.length=n+1:=⟨L.length-1,by omega⟩
 refine Spec.body func250 rfl results250 ntmps250 rfl ?_
 refine .sr<|.ag rfl<|.z<|.mo rfl ?_
 refine .jJ (hi.len L T h) (fun u T1 hu=>?_)
 obtain⟨rfl,h1⟩:=hu
 refine .q (.i64 ((n:Nat):Int) .sub ⟨by omega,by omega,by omega⟩) ?_
 refine .ag rfl<|.zs ?_
 refine bO.cut (X:=List α×ax) (fun y=>I y.1 y.2∧y.1.Perm L∧y.1[n]? =some x∧fC lt y.1 n) (fun y=>[(0,.iface t v)]) (fun y=>[y.2]) ?_ ?_
 refine .sr<|.mo rfl<|.mo rfl<|.q .dF<|.zn ?_
 refine .cond rfl (fun h1=>?_) (fun h1=>?_)
 have hin:i<n:=by simp at h1;omega
 refine .sr<|.mo rfl<|.mo rfl<|.mo rfl ?_
 refine .jJ (hi.swap L T1 i n (by assumption) (by omega) (by omega)) (fun u T2 h2=>?_)
 refine .z<|.mo rfl<|.mo rfl<|.mo rfl ?_
 refine .bT (rD hi so _ T2 h2 i n (by omega) (by rw[jV];omega)) (fun u T3 hu=>?_)
 obtain⟨L3,m,h3,rfl,hp3,hs3,hh3⟩:=hu
 have hx3:L3[n]? =some x:=by rw[hs3 n (ab6 _),fb (by omega) (by omega),if_pos rfl,hx]
 have hl3:=hp3.length_eq
 rw[jV]at hl3
 have hhole:ke lt (swp L i n) n i:=(hh.mono (by omega)).hole so (by omega) fun k hk hk0=>by rw[fb (by omega) (by omega),if_neg (by omega),if_neg hk0]
 refine .q .not<|.zn ?_
 refine .cond rfl (fun h2=>?_) (fun h2=>?_)
 have hm:m=false:=by simpa using h2
 refine .region<|.mo rfl<|.mo rfl ?_
 refine .bT (s0 hi so L3 T3 (by assumption) i (by omega)) (fun u T4 hu=>?_)
 obtain⟨rfl,L4,h4,hp4,hs4,hh4⟩:=hu
 refine .nil ?_
 ·first
   |exact aA (L4,T4) ⟨h4,hp4.trans (hp3.trans lu),by simp only;rw[hs4 n hin];exact hx3,hh4 n (by omega) hin ((hh3 hhole).2 hm)⟩ kE.c (aU.refl _)
   |exact aA (L3,T3) ⟨by assumption,hp3.trans lu,hx3,(hh3 hhole).1 hm⟩ kE.c (aU.refl _)
   |exact aA (L,T1) ⟨by assumption,.refl _,hin▸hx,hh.mono (by omega)⟩ kE.c (aU.refl _)
 have hm:m=true:=by simpa using h2
 refine .skip ?_
 ·first
   |exact aA (L4,T4) ⟨h4,hp4.trans (hp3.trans lu),by simp only;rw[hs4 n hin];exact hx3,hh4 n (by omega) hin ((hh3 hhole).2 hm)⟩ kE.c (aU.refl _)
   |exact aA (L3,T3) ⟨by assumption,hp3.trans lu,hx3,(hh3 hhole).1 hm⟩ kE.c (aU.refl _)
   |exact aA (L,T1) ⟨by assumption,.refl _,hin▸hx,hh.mono (by omega)⟩ kE.c (aU.refl _)
 have hin:i=n:=by simp at h1;omega
 refine .skip ?_
 ·first
   |exact aA (L4,T4) ⟨h4,hp4.trans (hp3.trans lu),by simp only;rw[hs4 n hin];exact hx3,hh4 n (by omega) hin ((hh3 hhole).2 hm)⟩ kE.c (aU.refl _)
   |exact aA (L3,T3) ⟨by assumption,hp3.trans lu,hx3,(hh3 hhole).1 hm⟩ kE.c (aU.refl _)
   |exact aA (L,T1) ⟨by assumption,.refl _,hin▸hx,hh.mono (by omega)⟩ kE.c (aU.refl _)
 intro y hy
 obtain⟨L5,T5⟩:=y
 obtain⟨h5,hp5,hx5,hH⟩:=hy
 simp only at h5 hp5 hx5 hH⊢
 have hl5:=hp5.length_eq
 obtain⟨e1,e2,e3⟩:=vN (by omega) hx5 hp5
 refine aD<|.sr<|.mo rfl ?_
 rw[e1]at h5
 refine .jJ (hp _ T5 h5 (by omega)) (fun u T6 hu=>?_)
 obtain⟨rfl,h6⟩:=hu
 refine .ag rfl<|.zn ?_
 refine .ret (aN _ (.one (.tmp rfl)) (aU.refl _) ?_)
 ·exact⟨_,rfl,rfl,_,h6,e3,hH.yd (by omega)⟩
end
end Go.Proofs.YtkkmbiojicgobaaGreatDoor

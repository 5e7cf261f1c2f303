/- What the law 'SolveRounds' uses. No condition. -/
import Derived.Lib.Bytealg
import Derived.Lib.Slices
import Derived.Lib.Strings
import Derived.Lib.Walk
import Derived.Test.YtdljmchhecoakaaGreatChecked
namespace Go.Proofs
open Tryz
set_option maxHeartbeats 1000000 in
set_option maxRecDepth 100000 in
theorem Bg(a b:ByteArray)(w:World):
  Calls prog 271 #[.string a,.string b] w λe w'=>e=.returned (.int .i64 (Lib.compareBytes a.data.toList b.data.toList))/\w'=w:=by
 go_enter func271,ntmps271
 go_wp2
 rw[run_callFunc_extern func277 (by kernel_rfl) (by kernel_rfl) (by kernel_rfl) (e:=Extern.BytealgCompare.compare) (by kernel_rfl),Lib.run_compareString]
 simp only[Result.andThen]
 rw[Oper.upon_value]
 go_wp2
 go_ret
 exact⟨rfl,rfl⟩
set_option maxHeartbeats 1000000 in
theorem Nz(a b:ByteArray)(w:World):
  Calls prog 261 #[.string a,.string b] w λe w'=>e=.returned (.int .i64 (Lib.compareBytes a.data.toList b.data.toList))/\w'=w:=by
 go_enter func261,ntmps261
 go_wp2_with (go_at_call 271;refine(Bg _ _ _).mono ?_;rintro e w' ⟨rfl,rfl⟩)
 go_ret
 exact⟨rfl,rfl⟩
set_option maxHeartbeats 1000000 in
set_option maxRecDepth 100000 in
theorem NC(s:ByteArray)(c:Int)(w:World):
  Calls prog 246 #[.string s,.int .u8 c] w λe w'=>e=.returned (.int .i64 (Lib.indexByte s.data.toList c.toNat.toUInt8))/\w'=w:=by
 go_enter func246,ntmps246
 go_wp2
 rw[run_callFunc_extern func264 (by kernel_rfl) (by kernel_rfl) (by kernel_rfl) (e:=Extern.BytealgIndexByte.indexByte) (by kernel_rfl),Lib.run_indexByteString]
 simp only[Result.andThen]
 rw[Oper.upon_value]
 go_wp2
 go_ret
 exact⟨rfl,rfl⟩
set_option maxHeartbeats 1000000 in
theorem NB(s p:ByteArray)(w:World):
  Calls prog 196 #[.string s,.string p] w λe w'=>e=.returned (.bool (Lib.hasPrefix s.data.toList p.data.toList))/\w'=w:=by
 rw[<-Lib.hasPrefix_of_take, <-Lib.size_eq, <-Lib.size_eq]
 go_enter func196,ntmps196
 go_wp2
 ·rename_i h
  go_ret
  refine⟨?_,rfl⟩
  show Ending.returned (Value.bool ((s.extract 0 p.size).toList==p.toList))=_
  rw[Lib.extract_toList,Lib.toList_data]
  simp[h]
 ·rename_i h
  go_ret
  refine⟨?_,rfl⟩
  show Ending.returned (Value.bool false)=_
  simp[h]
end Go.Proofs

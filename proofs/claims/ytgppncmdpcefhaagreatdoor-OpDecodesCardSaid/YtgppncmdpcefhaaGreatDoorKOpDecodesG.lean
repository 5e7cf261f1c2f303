/- What the law 'OpDecodes' uses. No condition. -/
import Derived.Lib.Bytealg
import Derived.Lib.Slices
import Derived.Lib.Strings
import Derived.Lib.Walk
import Derived.Test.YtgppncmdpcefhaaGreatDoorChecked
namespace Go.Proofs
open Tryz
set_option maxHeartbeats 1000000 in
set_option maxRecDepth 100000 in
theorem qa(a b:ByteArray)(w:World):
  Calls prog 233 #[.string a,.string b] w λe w'=>e=.returned (.int .i64 (Lib.compareBytes a.data.toList b.data.toList))/\w'=w:=by
 go_enter func233,ntmps233
 go_wp2
 rw[run_callFunc_extern func328 (by kernel_rfl) (by kernel_rfl) (by kernel_rfl) (e:=Extern.BytealgCompare.compare) (by kernel_rfl),Lib.run_compareString]
 simp only[Result.andThen]
 rw[Oper.upon_value]
 go_wp2
 go_ret
 exact⟨rfl,rfl⟩
set_option maxHeartbeats 1000000 in
theorem Ci(a b:ByteArray)(w:World):
  Calls prog 150 #[.string a,.string b] w λe w'=>e=.returned (.int .i64 (Lib.compareBytes a.data.toList b.data.toList))/\w'=w:=by
 go_enter func150,ntmps150
 go_wp2_with (go_at_call 233;refine(qa _ _ _).mono ?_;rintro e w' ⟨rfl,rfl⟩)
 go_ret
 exact⟨rfl,rfl⟩
end Go.Proofs

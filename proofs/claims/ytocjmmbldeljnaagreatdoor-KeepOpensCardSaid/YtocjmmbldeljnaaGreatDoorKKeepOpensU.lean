/- What the law 'KeepOpens' uses. No condition. -/
import Derived.Test.YtocjmmbldeljnaaGreatDoorKKeepOpensR
import Derived.Test.YtocjmmbldeljnaaGreatDoorKKeepOpensT
set_option linter.unusedSimpArgs false
set_option linter.unusedVariables false
namespace Go.Proofs.YtocjmmbldeljnaaGreatDoor
open Tryz
set_option linter.unusedVariables false
set_option maxRecDepth 4000
theorem uF{H:Type}{enc:TypeId×Value->H}{W:World}{f:Nat}{cs:List Value}{x:DataW H×List MemPlace}(h:DataW.trod enc prog W 0 (λ_=>true) true f 25 cs=some x):∃v l,cs=[v]/\RS (Rw W) 1 bS v l:=by
 obtain⟨v,l,a,d,_⟩:=RS.qF (D:=λ_=>True) (sz:=1) (en:=bS) underlying25 (by kernel_rfl) (by omega) h λn cs x g=>by
  obtain⟨z,rfl,b,a⟩:=sC (t:=5) (k:=.u8) g
  have c:0<=z:=b
  have i:z<=255:=a
  refine⟨rfl,by simp[ay],z.toNat.toUInt8,?_,trivial⟩
  have e:(z.toNat.toUInt8).toNat=z.toNat:=by
   rw[Nat.toUInt8,UInt8.toNat_ofNat']
   exact Nat.mod_eq_of_lt (by omega)
  unfold bS
  rw[e,Int.toNat_of_nonneg c]
 exact⟨v,l,a,d⟩
end Go.Proofs.YtocjmmbldeljnaaGreatDoor

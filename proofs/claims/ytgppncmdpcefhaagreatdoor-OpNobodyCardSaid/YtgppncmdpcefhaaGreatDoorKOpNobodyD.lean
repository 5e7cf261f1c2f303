/- What the law 'OpNobody' uses. No condition. -/
import Derived.Lib.Overlaps
import Derived.Test.YtgppncmdpcefhaaGreatDoorKOpNobodyB
namespace Go.Proofs.YtgppncmdpcefhaaGreatDoor
section
set_option linter.unusedVariables false
set_option linter.unusedSimpArgs false
section
variable{P:Program}{N:Nat}{R:aA}{ops:Array Oper}{l:List Oper}{env:Env}{H:aS}{K:Env->aS->Prop}{T:ay}{upd:ay->aS}{ty:TypeId}{pos:String}{af:Array Edge}{α:Type}
theorem FL{sz lo a b off cap:Nat}(h:cap≠lo):gU sz lo a (some ⟨b,off,none⟩) cap=.slice (some ⟨b,off+lo*sz,none⟩) (a-lo) (cap-lo):=by
 unfold gU
 rw[if_neg h,Option.map_some,lL]
theorem OS.G2{R':aA}{E sz cap b off:Nat}{enc:α->List Value}{xs:List α}(h:OS E sz enc (.slice (some ⟨b,off,none⟩) xs.length cap) xs T)(g:∀p∈T,R' p.1 p.2)(i:Nat)(o:i<=xs.length):RS R' sz enc (.slice (some ⟨b,off+i*sz,none⟩) (xs.drop i).length (cap-i)) (xs.drop i):=by
 refine⟨λx d=>h.len x (List.mem_of_mem_drop d),λx d=>h.one x (List.mem_of_mem_drop d),?_⟩
 rcases h.h with⟨a,_,_⟩|⟨j,q,c,k,a,e,l,m,n,f⟩
 ·cases a
 ·cases a
  subst e
  refine⟨_,cap-i,rfl,by rw[List.length_drop];omega,by omega,.inr ⟨b,off+i*sz,c,E,(0,0),rfl,g (b,_) (by simp),?_⟩⟩
  have:=f.piece h.len i (xs.length-i)
  rwa [List.take_of_length_le (by rw[List.length_drop];exact Nat.le_refl _)]at this
end
end
section
set_option linter.unusedVariables false
theorem HF(z:Int):IntKind.u8.wrap z=((BitVec.ofInt 8 z).toNat:Int):=by
 simp only[IntKind.wrap,IntKind.bits,IntKind.signed,BitVec.toNat_ofInt]
 simp
 omega
end
section
set_option linter.unusedVariables false
end
end Go.Proofs.YtgppncmdpcefhaaGreatDoor

/- What the law 'ExpandRight' uses. No condition. -/
import Derived.Carry
import Derived.ChangeShapes
import Derived.Test.YtenilfmlfldogaaGreatDoorKExpandRightR
namespace Go.Proofs.YtenilfmlfldogaaGreatDoor
open Tryz
section
set_option linter.unusedVariables false
set_option maxRecDepth 4000
open Go.ChangeShapes
theorem N2{H:Type}{enc:TypeId×Value->H}{W:World}{f:Nat}{cs:List Value}{d:DataW H}{ps:List MemPlace}(h:DataW.trod enc prog W 0 (λ_=>true) true f 30 cs=some (d,ps))(r:∀n∈DataW.weights prog 30 d,n<=reachBytes):∃s i:ByteArray,cs=[.string s,.string i]/\s.size<=1000000000000000/\i.size<=1000000000000000:=by
 obtain⟨s,i,rfl,_,_⟩:=p8 h
 obtain⟨e,n,rfl,q,v,c,k⟩:=DataW.trod_struct underlying30 h
 have a:DataW.trod enc prog W 0 (λ_=>true) true n 9 ((([.string s,.string i]:List Value).drop 0).take (Program.cellsOf prog 9))=e[0]? :=k 0 _ rfl
 have b:DataW.trod enc prog W 0 (λ_=>true) true n 9 ((([.string s,.string i]:List Value).drop 1).take (Program.cellsOf prog 9))=e[1]? :=k 1 _ rfl
 have m:Program.cellsOf prog 9=1:=xc.n
 rw[m]at a b
 cases n with
 |zero=>
  simp only[DataW.trod]at a
  have:=c
  rw[eq_comm,List.getElem?_eq_none_iff]at a
  rw[c]at a
  simp at a
 |succ n=>
  match e,c with
  |[y0,y1],_=>
   simp only[List.getElem?_cons_zero,List.getElem?_cons_succ]at a b
   obtain⟨z,g,t,_⟩:=DataW.trod_string oq.h a
   obtain⟨A,j,u,_⟩:=DataW.trod_string oq.h b
   simp only[List.drop_zero,List.take_succ_cons,List.take_zero,List.cons.injEq,Value.string.injEq,and_true,List.drop_succ_cons]at g j
   subst g;subst j
   subst t;subst u
   cases q
   have p:DataW.weights prog 30 (H:=H) (.agg [.lit (.string s.data.toList),.lit (.string i.data.toList)])=[s.data.toList.length,i.data.toList.length]:=by
    simp[DataW.weights,underlying30,DataW.weightsEach]
   have l:=λn o=>r n (by
    show n∈DataW.weights prog 30 (H:=H) (.agg [.lit (.string s.data.toList),.lit (.string i.data.toList)])
    rw[p]
    exact o)
   have B:=l s.data.toList.length (by simp)
   have C:=l i.data.toList.length (by simp)
   have x:s.data.toList.length=s.size:=by simp
   have y:i.data.toList.length=i.size:=by simp
   have w:reachBytes<=1000000000000000:=by decide
   exact⟨s,i,rfl,by omega,by omega⟩
theorem PL{H:Type}{s:ByteArray}(a:∀n∈DataW.weights (H:=H) prog 9 (.lit (.string s.data.toList)),n<=reachBytes):s.size<=1000000000000000:=by
 have z:=a s.data.toList.length (by simp[DataW.weights])
 have q:s.data.toList.length=s.size:=by simp
 have b:reachBytes<=1000000000000000:=by decide
 omega
end
end Go.Proofs.YtenilfmlfldogaaGreatDoor

/- What the law 'CoreErrors' uses. No condition. -/
import Derived.Test.YtkkmbiojicgobaaGreatDoorKCoreErrorsC
import Derived.Test.YtkkmbiojicgobaaGreatDoorKCoreErrorsH
import Derived.Test.YtkkmbiojicgobaaGreatDoorKCoreErrorsT
set_option linter.unusedSimpArgs false
set_option linter.unusedVariables false
namespace Go.Proofs.YtkkmbiojicgobaaGreatDoor
open Tryz
set_option linter.unusedVariables false
set_option maxRecDepth 4000
theorem sY{H:Type}{enc:TypeId×Value->H}{W:World}{f:Nat}{cs:List Value}{x:DataW H×List MemPlace}(h:DataW.trod enc prog W 0 (λ_=>true) true f 23 cs=some x):∃v l,cs=[v]/\RS (Rw W) 1 bB v l:=by
 obtain⟨v,l,c,d,_⟩:=RS.sq (D:=λ_=>True) (sz:=1) (en:=bB) underlying23 rQ.n (by omega) h λn cs x e=>by
  have b:=rQ.h enc W 0 _ true n cs x e
  refine⟨b.length,b.bG,?_⟩
  match cs,b with
  |[a],b=>
   obtain⟨a,rfl⟩:=uz b.1
   exact⟨a,rfl,trivial⟩
 exact⟨v,l,c,d⟩
theorem mS{H:Type}{enc:TypeId×Value->H}{W:World}{f:Nat}{cs:List Value}{x:DataW H×List MemPlace}(h:DataW.trod enc prog W 0 (λ_=>true) true f 9 cs=some x):∃s:ByteArray,cs=[.string s]:=by
 have b:=rQ.h enc W 0 _ true f cs x h
 match cs,b with
 |[a],b=>
  obtain⟨a,rfl⟩:=uz b.1
  exact⟨a,rfl⟩
theorem r5{t:TypeId}{k:IntKind} [s:iU prog t [.i k]]{H:Type}{enc:TypeId×Value->H}{W:World}{f:Nat}{cs:List Value}{x:DataW H×List MemPlace}(h:DataW.trod enc prog W 0 (λ_=>true) true f t cs=some x):∃z:Int,cs=[.int k z]:=by
 have b:=s.h enc W 0 _ true f cs x h
 match cs,b with
 |[a],b=>
  obtain⟨a,rfl⟩:=z9 b.1
  exact⟨a,rfl⟩
theorem KP{t:TypeId}{k:IntKind} [u:bP prog t (.int k)]{H:Type}{enc:TypeId×Value->H}{W:World}{f:Nat}{cs:List Value}{x:DataW H×List MemPlace}(h:DataW.trod enc prog W 0 (λ_=>true) true f t cs=some x):∃z:Int,cs=[.int k z]/\k.min<=z/\z<=k.max:=by
 obtain⟨n,rfl,_,a⟩:=DataW.trod_int u.h h
 have a:(Lit.int k n).wf=true:=a
 simp only[Lit.wf,Bool.and_eq_true,decide_eq_true_eq]at a
 exact⟨n,rfl,a⟩
theorem Ab{H:Type}{enc:TypeId×Value->H}{W:World}{f:Nat}{cs:List Value}{x:DataW H×List MemPlace}(h:DataW.trod enc prog W 0 (λ_=>true) true f 25 cs=some x):∃(r:CR) (c:bA),cs=r.cells/\eV (Rw W) r c:=by
 obtain⟨l,e⟩:=xm underlying25 h
 have w:prog.cellsOf 25=4:=by kernel_rfl
 have p:prog.cellsOf 9=1:=by kernel_rfl
 have q:prog.cellsOf 23=1:=by kernel_rfl
 rw[w]at l
 match cs,l with
 |[a,b,c,d],_=>
  obtain⟨D,K,g⟩:∃n y,DataW.trod enc prog W 0 (λ_=>true) true n 9 (([a,b,c,d].drop 0).take (prog.cellsOf 9))=some y:=e 0 _ rfl
  obtain⟨E,L,i⟩:∃n y,DataW.trod enc prog W 0 (λ_=>true) true n 9 (([a,b,c,d].drop 1).take (prog.cellsOf 9))=some y:=e 1 _ rfl
  obtain⟨F,M,j⟩:∃n y,DataW.trod enc prog W 0 (λ_=>true) true n 23 (([a,b,c,d].drop 2).take (prog.cellsOf 23))=some y:=e 2 _ rfl
  obtain⟨G,N,k⟩:∃n y,DataW.trod enc prog W 0 (λ_=>true) true n 23 (([a,b,c,d].drop 3).take (prog.cellsOf 23))=some y:=e 3 _ rfl
  simp only[p,q,List.drop_zero,List.drop_succ_cons,List.take_succ_cons,List.take_zero]at g i j k
  obtain⟨m,s⟩:=mS g
  obtain⟨o,t⟩:=mS i
  obtain⟨I,z,u,B⟩:=sY j
  obtain⟨J,A,v,C⟩:=sY k
  cases s;cases t;cases u;cases v
  exact⟨⟨m,o,_,_⟩,⟨m,o,z,A⟩,rfl,rfl,rfl,B,C⟩
end Go.Proofs.YtkkmbiojicgobaaGreatDoor

/- What the law 'OpCodes' uses. No condition. -/
import Derived.Test.YtgppncmdpcefhaaGreatDoorKOpCodesC
import Derived.Test.YtgppncmdpcefhaaGreatDoorKOpCodesH
import Derived.Test.YtgppncmdpcefhaaGreatDoorKOpCodesT
namespace Go.Proofs.YtgppncmdpcefhaaGreatDoor
set_option linter.defProp false
def ada:=@List.drop_zero
def adb:=@List.drop_succ_cons
def ade:=@List.take_succ_cons
def adf:=@List.take_zero
open Tryz
set_option linter.unusedVariables false
set_option maxRecDepth 4000
theorem nW{H:Type}{enc:TypeId×Value->H}{W:World}{f:Nat}{cs:List Value}{x:DataW H×List MemPlace}(h:DataW.trod enc prog W 0 (λ_=>true) true f 22 cs=some x):∃v l,cs=[v]/\RS (Rw W) 1 cR v l:=by
 obtain⟨v,l,c,d,_⟩:=RS.lV (D:=λ_=>True) (sz:=1) (en:=cR) underlying22 m8.n (by omega) h λn cs x e=>by
  have b:=m8.h enc W 0 _ true n cs x e
  refine⟨b.length,b.cL,?_⟩
  match cs,b with
  |[a],b=>
   obtain⟨a,rfl⟩:=oD b.1
   exact⟨a,rfl,trivial⟩
 exact⟨v,l,c,d⟩
theorem jf{H:Type}{enc:TypeId×Value->H}{W:World}{f:Nat}{cs:List Value}{x:DataW H×List MemPlace}(h:DataW.trod enc prog W 0 (λ_=>true) true f 9 cs=some x):∃s:ByteArray,cs=[.string s]:=by
 have b:=m8.h enc W 0 _ true f cs x h
 match cs,b with
 |[a],b=>
  obtain⟨a,rfl⟩:=oD b.1
  exact⟨a,rfl⟩
theorem CA{t:TypeId}{k:IntKind} [s:fE prog t [.i k]]{H:Type}{enc:TypeId×Value->H}{W:World}{f:Nat}{cs:List Value}{x:DataW H×List MemPlace}(h:DataW.trod enc prog W 0 (λ_=>true) true f t cs=some x):∃z:Int,cs=[.int k z]:=by
 have b:=s.h enc W 0 _ true f cs x h
 match cs,b with
 |[a],b=>
  obtain⟨a,rfl⟩:=rN b.1
  exact⟨a,rfl⟩
theorem rj{t:TypeId} [s:fE prog t [.b]]{H:Type}{enc:TypeId×Value->H}{W:World}{f:Nat}{cs:List Value}{x:DataW H×List MemPlace}(h:DataW.trod enc prog W 0 (λ_=>true) true f t cs=some x):∃z:Bool,cs=[.bool z]:=by
 have c:=s.h enc W 0 _ true f cs x h
 match cs,c with
 |[a],c=>
  obtain⟨a,rfl⟩:=rM c.1
  exact⟨a,rfl⟩
theorem lk{t:TypeId} [u:bC prog t .string]{H:Type}{enc:TypeId×Value->H}{W:World}{f:Nat}{cs:List Value}{x:DataW H×List MemPlace}(h:DataW.trod enc prog W 0 (λ_=>true) true f t cs=some x):∃s:ByteArray,cs=[.string s]/\s.size<=9223372036854775807:=by
 cases f with
 |zero=>simp[DataW.trod]at h
 |succ f=>
  unfold DataW.trod at h
  rw[u.h]at h
  split at h<;>simp_all
  rename_i s _
  exact Nat.le_trans h.1 (by decide)
theorem nk{t:TypeId}{k:IntKind} [u:bC prog t (.int k)]{H:Type}{enc:TypeId×Value->H}{W:World}{f:Nat}{cs:List Value}{x:DataW H×List MemPlace}(h:DataW.trod enc prog W 0 (λ_=>true) true f t cs=some x):∃z:Int,cs=[.int k z]/\k.min<=z/\z<=k.max:=by
 obtain⟨n,rfl,_,a⟩:=DataW.trod_int u.h h
 have a:(Lit.int k n).wf=true:=a
 simp only[Lit.wf,Bool.and_eq_true,decide_eq_true_eq]at a
 exact⟨n,rfl,a⟩
theorem rO{H:Type}{enc:TypeId×Value->H}{W:World}{f:Nat}{cs:List Value}{x:DataW H×List MemPlace}(h:DataW.trod enc prog W 0 (λ_=>true) true f 24 cs=some x):∃(r:CR) (c:cU),cs=r.cells/\ek (Rw W) r c:=by
 obtain⟨l,e⟩:=jZ underlying24 h
 have w:prog.cellsOf 24=4:=by kernel_rfl
 have p:prog.cellsOf 9=1:=by kernel_rfl
 have q:prog.cellsOf 22=1:=by kernel_rfl
 rw[w]at l
 match cs,l with
 |[a,b,c,d],_=>
  obtain⟨D,K,g⟩:∃n y,DataW.trod enc prog W 0 (λ_=>true) true n 9 (([a,b,c,d].drop 0).take (prog.cellsOf 9))=some y:=e 0 _ rfl
  obtain⟨E,L,i⟩:∃n y,DataW.trod enc prog W 0 (λ_=>true) true n 9 (([a,b,c,d].drop 1).take (prog.cellsOf 9))=some y:=e 1 _ rfl
  obtain⟨F,M,j⟩:∃n y,DataW.trod enc prog W 0 (λ_=>true) true n 22 (([a,b,c,d].drop 2).take (prog.cellsOf 22))=some y:=e 2 _ rfl
  obtain⟨G,N,k⟩:∃n y,DataW.trod enc prog W 0 (λ_=>true) true n 22 (([a,b,c,d].drop 3).take (prog.cellsOf 22))=some y:=e 3 _ rfl
  simp only[p,q,ada,adb,ade,adf]at g i j k
  obtain⟨m,s⟩:=jf g
  obtain⟨o,t⟩:=jf i
  obtain⟨I,z,u,B⟩:=nW j
  obtain⟨J,A,v,C⟩:=nW k
  cases s;cases t;cases u;cases v
  exact⟨⟨m,o,_,_⟩,⟨m,o,z,A⟩,rfl,rfl,rfl,B,C⟩
set_option linter.unusedSimpArgs false
theorem p5{H:Type}{enc:TypeId×Value->H}{W:World}{f:Nat}{cs:List Value}{x:DataW H×List MemPlace}(h:DataW.trod enc prog W 0 (λ_=>true) true f 69 cs=some x):∃s i:ByteArray,cs=[.string s,.string i]/\s.size<=9223372036854775807/\i.size<=9223372036854775807:=by
 obtain⟨c,d⟩:=jZ underlying69 h
 have k:prog.cellsOf 69=2:=by kernel_rfl
 rw[k]at c
 have e:prog.cellsOf 9=1:=by kernel_rfl
 match cs,c with
 |[a0,a1],_=>
  obtain⟨q,t,a⟩:∃n y,DataW.trod enc prog W 0 (λ_=>true) true n 9 (([a0,a1].drop 0).take (prog.cellsOf 9))=some y:=d 0 _ rfl
  obtain⟨r,u,b⟩:∃n y,DataW.trod enc prog W 0 (λ_=>true) true n 9 (([a0,a1].drop 1).take (prog.cellsOf 9))=some y:=d 1 _ rfl
  simp only[e,ada,adb,ade,adf]at a b
  obtain⟨o,g,l⟩:=lk a
  obtain⟨p,j,m⟩:=lk b
  cases g;cases j
  exact⟨o,p,rfl,l,m⟩
theorem Ep{H:Type}{enc:TypeId×Value->H}{W:World}{f:Nat}{cs:List Value}{x:DataW H×List MemPlace}(h:DataW.trod enc prog W 0 (λ_=>true) true f 71 cs=some x):∃s:Sub,cs=s.enc/\s.us.size<=9223372036854775807/\s.ss.size<=9223372036854775807/\s.si.size<=9223372036854775807/\s.sr.size<=9223372036854775807:=by
 obtain⟨e,a⟩:=jZ underlying71 h
 have m:prog.cellsOf 71=4:=by kernel_rfl
 rw[m]at e
 have i:prog.cellsOf 9=1:=by kernel_rfl
 have g:prog.cellsOf 69=2:=by kernel_rfl
 match cs,e with
 |[a0,a1,a2,a3],_=>
  obtain⟨z,C,b⟩:∃n y,DataW.trod enc prog W 0 (λ_=>true) true n 9 (([a0,a1,a2,a3].drop 0).take (prog.cellsOf 9))=some y:=a 0 _ rfl
  obtain⟨A,D,c⟩:∃n y,DataW.trod enc prog W 0 (λ_=>true) true n 69 (([a0,a1,a2,a3].drop 1).take (prog.cellsOf 69))=some y:=a 1 _ rfl
  obtain⟨B,E,d⟩:∃n y,DataW.trod enc prog W 0 (λ_=>true) true n 9 (([a0,a1,a2,a3].drop 3).take (prog.cellsOf 9))=some y:=a 2 _ rfl
  simp only[i,g,ada,adb,ade,adf]at b c d
  obtain⟨t,j,o⟩:=lk b
  obtain⟨u,v,k,p,q⟩:=p5 c
  obtain⟨w,l,r⟩:=lk d
  cases j;cases k;cases l
  exact⟨⟨t,u,v,w⟩,rfl,o,p,q,r⟩
theorem qG{H:Type}{enc:TypeId×Value->H}{W:World}{f:Nat}{cs:List Value}{x:DataW H×List MemPlace}(h:DataW.trod enc prog W 0 (λ_=>true) true f 73 cs=some x):∃t:bc,cs=t.enc/\t.fits:=by
 obtain⟨e,a⟩:=jZ underlying73 h
 have o:prog.cellsOf 73=7:=by kernel_rfl
 rw[o]at e
 have j:prog.cellsOf 9=1:=by kernel_rfl
 have g:prog.cellsOf 69=2:=by kernel_rfl
 have i:prog.cellsOf 71=4:=by kernel_rfl
 match cs,e with
 |[a0,a1,a2,a3,a4,a5,a6],_=>
  obtain⟨G,K,b⟩:∃n y,DataW.trod enc prog W 0 (λ_=>true) true n 69 (([a0,a1,a2,a3,a4,a5,a6].drop 0).take (prog.cellsOf 69))=some y:=a 0 _ rfl
  obtain⟨I,L,c⟩:∃n y,DataW.trod enc prog W 0 (λ_=>true) true n 9 (([a0,a1,a2,a3,a4,a5,a6].drop 2).take (prog.cellsOf 9))=some y:=a 1 _ rfl
  obtain⟨J,M,d⟩:∃n y,DataW.trod enc prog W 0 (λ_=>true) true n 71 (([a0,a1,a2,a3,a4,a5,a6].drop 3).take (prog.cellsOf 71))=some y:=a 2 _ rfl
  simp only[j,g,i,ada,adb,ade,adf]at b c d
  obtain⟨z,A,k,p,q⟩:=p5 b
  obtain⟨B,l,r⟩:=lk c
  obtain⟨⟨C,D,E,F⟩,m,s,u,v,w⟩:=Ep d
  cases k;cases l;cases m
  exact⟨⟨z,A,B,C,D,E,F⟩,rfl,p,q,r,s,u,v,w⟩
theorem rK{H:Type}{enc:TypeId×Value->H}{W:World}{f:Nat}{cs:List Value}{x:DataW H×List MemPlace}(h:DataW.trod enc prog W 0 (λ_=>true) true f 76 cs=some x):∃c:cg,cs=c.enc/\c.t.fits:=by
 obtain⟨d,e⟩:=jZ underlying76 h
 have m:prog.cellsOf 76=8:=by kernel_rfl
 rw[m]at d
 have i:prog.cellsOf 4=1:=by kernel_rfl
 have j:prog.cellsOf 73=7:=by kernel_rfl
 match cs,d with
 |[a0,a1,a2,a3,a4,a5,a6,a7],_=>
  obtain⟨p,r,a⟩:∃n y,DataW.trod enc prog W 0 (λ_=>true) true n 4 (([a0,a1,a2,a3,a4,a5,a6,a7].drop 0).take (prog.cellsOf 4))=some y:=e 0 _ rfl
  obtain⟨q,s,b⟩:∃n y,DataW.trod enc prog W 0 (λ_=>true) true n 73 (([a0,a1,a2,a3,a4,a5,a6,a7].drop 1).take (prog.cellsOf 73))=some y:=e 1 _ rfl
  simp only[i,j,ada,adb,ade,adf]at a b
  obtain⟨g,k⟩:=rj a
  obtain⟨t,l,o⟩:=qG b
  cases k;cases l
  exact⟨⟨g,t⟩,rfl,o⟩
theorem qI{H:Type}{enc:TypeId×Value->H}{W:World}{f:Nat}{cs:List Value}{x:DataW H×List MemPlace}(h:DataW.trod enc prog W 0 (λ_=>true) true f 26 cs=some x):∃v l,cs=[v]/\RS (Rw W) 7 bc.enc v l/\∀t∈l,t.fits:=
 RS.lV (D:=λt:bc=>t.fits) (sz:=7) (en:=bc.enc) underlying26 (by kernel_rfl) (by omega) h λn cs x b=>by
  obtain⟨t,rfl,a⟩:=qG b
  exact⟨rfl,(bc.one t).h,t,rfl,a⟩
theorem rL{H:Type}{enc:TypeId×Value->H}{W:World}{f:Nat}{cs:List Value}{x:DataW H×List MemPlace}(h:DataW.trod enc prog W 0 (λ_=>true) true f 27 cs=some x):∃v l,cs=[v]/\RS (Rw W) 8 cg.enc v l/\∀c∈l,c.t.fits:=
 RS.lV (D:=λc:cg=>c.t.fits) (sz:=8) (en:=cg.enc) underlying27 (by kernel_rfl) (by omega) h λn cs x b=>by
  obtain⟨t,rfl,a⟩:=rK b
  exact⟨rfl,(cg.one t).h,t,rfl,a⟩
theorem EH{H:Type}{enc:TypeId×Value->H}{W:World}{f:Nat}{cs:List Value}{x:DataW H×List MemPlace}(h:DataW.trod enc prog W 0 (λ_=>true) true f 28 cs=some x):∃z:Int,cs=[.int .u64 z]/\0<=z/\z<=18446744073709551615:=by
 obtain⟨z,e,a,b⟩:=nk (k:=.u64) h
 refine⟨z,e,?_,?_⟩
 ·simpa[IntKind.min,IntKind.bits,IntKind.signed]using a
 ·have:IntKind.u64.max=18446744073709551615:=by decide
  omega
end Go.Proofs.YtgppncmdpcefhaaGreatDoor

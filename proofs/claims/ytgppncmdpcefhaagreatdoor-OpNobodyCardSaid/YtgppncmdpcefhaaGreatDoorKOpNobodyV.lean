/- What the law 'OpNobody' uses. No condition. -/
import Derived.Test.YtgppncmdpcefhaaGreatDoorKOpNobodyC
import Derived.Test.YtgppncmdpcefhaaGreatDoorKOpNobodyH
import Derived.Test.YtgppncmdpcefhaaGreatDoorKOpNobodyU
namespace Go.Proofs.YtgppncmdpcefhaaGreatDoor
set_option linter.defProp false
def ad3:=@List.drop_zero
def ad4:=@List.drop_succ_cons
def ad5:=@List.take_succ_cons
def ad6:=@List.take_zero
open Tryz
set_option linter.unusedVariables false
set_option linter.unusedSimpArgs false
set_option maxRecDepth 4000
theorem oR{H:Type}{enc:TypeId×Value->H}{W:World}{f:Nat}{cs:List Value}{x:DataW H×List MemPlace}(h:DataW.trod enc prog W 0 (λ_=>true) true f 22 cs=some x):∃v l,cs=[v]/\RS (Rw W) 1 bU v l:=by
 obtain⟨v,l,c,d,_⟩:=RS.m4 (D:=λ_=>True) (sz:=1) (en:=bU) underlying22 oa.n (by omega) h λn cs x e=>by
  have b:=oa.h enc W 0 _ true n cs x e
  refine⟨b.length,b.cK,?_⟩
  match cs,b with
  |[a],b=>
   obtain⟨a,rfl⟩:=pK b.1
   exact⟨a,rfl,trivial⟩
 exact⟨v,l,c,d⟩
theorem jT{H:Type}{enc:TypeId×Value->H}{W:World}{f:Nat}{cs:List Value}{x:DataW H×List MemPlace}(h:DataW.trod enc prog W 0 (λ_=>true) true f 9 cs=some x):∃s:ByteArray,cs=[.string s]:=by
 have b:=oa.h enc W 0 _ true f cs x h
 match cs,b with
 |[a],b=>
  obtain⟨a,rfl⟩:=pK b.1
  exact⟨a,rfl⟩
theorem EL{t:TypeId}{k:IntKind} [s:fP prog t [.i k]]{H:Type}{enc:TypeId×Value->H}{W:World}{f:Nat}{cs:List Value}{x:DataW H×List MemPlace}(h:DataW.trod enc prog W 0 (λ_=>true) true f t cs=some x):∃z:Int,cs=[.int k z]:=by
 have b:=s.h enc W 0 _ true f cs x h
 match cs,b with
 |[a],b=>
  obtain⟨a,rfl⟩:=tZ b.1
  exact⟨a,rfl⟩
theorem tA{t:TypeId} [s:fP prog t [.b]]{H:Type}{enc:TypeId×Value->H}{W:World}{f:Nat}{cs:List Value}{x:DataW H×List MemPlace}(h:DataW.trod enc prog W 0 (λ_=>true) true f t cs=some x):∃z:Bool,cs=[.bool z]:=by
 have c:=s.h enc W 0 _ true f cs x h
 match cs,c with
 |[a],c=>
  obtain⟨a,rfl⟩:=tY c.1
  exact⟨a,rfl⟩
theorem mn{t:TypeId} [u:bL prog t .string]{H:Type}{enc:TypeId×Value->H}{W:World}{f:Nat}{cs:List Value}{x:DataW H×List MemPlace}(h:DataW.trod enc prog W 0 (λ_=>true) true f t cs=some x):∃s:ByteArray,cs=[.string s]/\s.size<=9223372036854775807:=by
 cases f with
 |zero=>simp[DataW.trod]at h
 |succ f=>
  unfold DataW.trod at h
  rw[u.h]at h
  split at h<;>simp_all
  rename_i s _
  exact Nat.le_trans h.1 (by decide)
theorem og{t:TypeId}{k:IntKind} [u:bL prog t (.int k)]{H:Type}{enc:TypeId×Value->H}{W:World}{f:Nat}{cs:List Value}{x:DataW H×List MemPlace}(h:DataW.trod enc prog W 0 (λ_=>true) true f t cs=some x):∃z:Int,cs=[.int k z]/\k.min<=z/\z<=k.max:=by
 obtain⟨n,rfl,_,a⟩:=DataW.trod_int u.h h
 have a:(Lit.int k n).wf=true:=a
 simp only[Lit.wf,Bool.and_eq_true,decide_eq_true_eq]at a
 exact⟨n,rfl,a⟩
theorem ud{H:Type}{enc:TypeId×Value->H}{W:World}{f:Nat}{cs:List Value}{x:DataW H×List MemPlace}(h:DataW.trod enc prog W 0 (λ_=>true) true f 24 cs=some x):∃(r:CR) (c:cd),cs=r.cells/\et (Rw W) r c:=by
 obtain⟨l,e⟩:=lj underlying24 h
 have w:prog.cellsOf 24=4:=by kernel_rfl
 have p:prog.cellsOf 9=1:=by kernel_rfl
 have q:prog.cellsOf 22=1:=by kernel_rfl
 rw[w]at l
 match cs,l with
 |[a,b,c,d],_=>
  obtain⟨D,K,g⟩:∃n y,DataW.trod enc prog W 0 (λ_=>true) true n 9 (([a,b,c,d].drop 0).take (prog.cellsOf 9))=some y:=e 0 _ rfl
  obtain⟨E,L,i⟩:∃n y,DataW.trod enc prog W 0 (λ_=>true) true n 9 (([a,b,c,d].drop 1).take (prog.cellsOf 9))=some y:=e 1 _ rfl
  obtain⟨F,M,j⟩:∃n y,DataW.trod enc prog W 0 (λ_=>true) true n 22 (([a,b,c,d].drop 2).take (prog.cellsOf 22))=some y:=e 2 _ rfl
  obtain⟨G,N,k⟩:∃n y,DataW.trod enc prog W 0 (λ_=>true) true n 22 (([a,b,c,d].drop 3).take (prog.cellsOf 22))=some y:=e 3 _ rfl
  simp only[p,q,ad3,ad4,ad5,ad6]at g i j k
  obtain⟨m,s⟩:=jT g
  obtain⟨o,t⟩:=jT i
  obtain⟨I,z,u,B⟩:=oR j
  obtain⟨J,A,v,C⟩:=oR k
  cases s;cases t;cases u;cases v
  exact⟨⟨m,o,_,_⟩,⟨m,o,z,A⟩,rfl,rfl,rfl,B,C⟩
set_option linter.unusedSimpArgs false
theorem rT{H:Type}{enc:TypeId×Value->H}{W:World}{f:Nat}{cs:List Value}{x:DataW H×List MemPlace}(h:DataW.trod enc prog W 0 (λ_=>true) true f 69 cs=some x):∃s i:ByteArray,cs=[.string s,.string i]/\s.size<=9223372036854775807/\i.size<=9223372036854775807:=by
 obtain⟨c,d⟩:=lj underlying69 h
 have k:prog.cellsOf 69=2:=by kernel_rfl
 rw[k]at c
 have e:prog.cellsOf 9=1:=by kernel_rfl
 match cs,c with
 |[a0,a1],_=>
  obtain⟨q,t,a⟩:∃n y,DataW.trod enc prog W 0 (λ_=>true) true n 9 (([a0,a1].drop 0).take (prog.cellsOf 9))=some y:=d 0 _ rfl
  obtain⟨r,u,b⟩:∃n y,DataW.trod enc prog W 0 (λ_=>true) true n 9 (([a0,a1].drop 1).take (prog.cellsOf 9))=some y:=d 1 _ rfl
  simp only[e,ad3,ad4,ad5,ad6]at a b
  obtain⟨o,g,l⟩:=mn a
  obtain⟨p,j,m⟩:=mn b
  cases g;cases j
  exact⟨o,p,rfl,l,m⟩
theorem G1{H:Type}{enc:TypeId×Value->H}{W:World}{f:Nat}{cs:List Value}{x:DataW H×List MemPlace}(h:DataW.trod enc prog W 0 (λ_=>true) true f 71 cs=some x):∃s:Sub,cs=s.enc/\s.us.size<=9223372036854775807/\s.ss.size<=9223372036854775807/\s.si.size<=9223372036854775807/\s.sr.size<=9223372036854775807:=by
 obtain⟨e,a⟩:=lj underlying71 h
 have m:prog.cellsOf 71=4:=by kernel_rfl
 rw[m]at e
 have i:prog.cellsOf 9=1:=by kernel_rfl
 have g:prog.cellsOf 69=2:=by kernel_rfl
 match cs,e with
 |[a0,a1,a2,a3],_=>
  obtain⟨z,C,b⟩:∃n y,DataW.trod enc prog W 0 (λ_=>true) true n 9 (([a0,a1,a2,a3].drop 0).take (prog.cellsOf 9))=some y:=a 0 _ rfl
  obtain⟨A,D,c⟩:∃n y,DataW.trod enc prog W 0 (λ_=>true) true n 69 (([a0,a1,a2,a3].drop 1).take (prog.cellsOf 69))=some y:=a 1 _ rfl
  obtain⟨B,E,d⟩:∃n y,DataW.trod enc prog W 0 (λ_=>true) true n 9 (([a0,a1,a2,a3].drop 3).take (prog.cellsOf 9))=some y:=a 2 _ rfl
  simp only[i,g,ad3,ad4,ad5,ad6]at b c d
  obtain⟨t,j,o⟩:=mn b
  obtain⟨u,v,k,p,q⟩:=rT c
  obtain⟨w,l,r⟩:=mn d
  cases j;cases k;cases l
  exact⟨⟨t,u,v,w⟩,rfl,o,p,q,r⟩
theorem sL{H:Type}{enc:TypeId×Value->H}{W:World}{f:Nat}{cs:List Value}{x:DataW H×List MemPlace}(h:DataW.trod enc prog W 0 (λ_=>true) true f 73 cs=some x):∃t:bw,cs=t.enc/\t.fits:=by
 obtain⟨e,a⟩:=lj underlying73 h
 have o:prog.cellsOf 73=7:=by kernel_rfl
 rw[o]at e
 have j:prog.cellsOf 9=1:=by kernel_rfl
 have g:prog.cellsOf 69=2:=by kernel_rfl
 have i:prog.cellsOf 71=4:=by kernel_rfl
 match cs,e with
 |[a0,a1,a2,a3,a4,a5,a6],_=>
  obtain⟨G,K,b⟩:∃n y,DataW.trod enc prog W 0 (λ_=>true) true n 69 (([a0,a1,a2,a3,a4,a5,a6].drop 0).take (prog.cellsOf 69))=some y:=a 0 _ rfl
  obtain⟨I,L,c⟩:∃n y,DataW.trod enc prog W 0 (λ_=>true) true n 9 (([a0,a1,a2,a3,a4,a5,a6].drop 2).take (prog.cellsOf 9))=some y:=a 1 _ rfl
  obtain⟨J,M,d⟩:∃n y,DataW.trod enc prog W 0 (λ_=>true) true n 71 (([a0,a1,a2,a3,a4,a5,a6].drop 3).take (prog.cellsOf 71))=some y:=a 2 _ rfl
  simp only[j,g,i,ad3,ad4,ad5,ad6]at b c d
  obtain⟨z,A,k,p,q⟩:=rT b
  obtain⟨B,l,r⟩:=mn c
  obtain⟨⟨C,D,E,F⟩,m,s,u,v,w⟩:=G1 d
  cases k;cases l;cases m
  exact⟨⟨z,A,B,C,D,E,F⟩,rfl,p,q,r,s,u,v,w⟩
theorem tW{H:Type}{enc:TypeId×Value->H}{W:World}{f:Nat}{cs:List Value}{x:DataW H×List MemPlace}(h:DataW.trod enc prog W 0 (λ_=>true) true f 76 cs=some x):∃c:cI,cs=c.enc/\c.t.fits:=by
 obtain⟨d,e⟩:=lj underlying76 h
 have m:prog.cellsOf 76=8:=by kernel_rfl
 rw[m]at d
 have i:prog.cellsOf 4=1:=by kernel_rfl
 have j:prog.cellsOf 73=7:=by kernel_rfl
 match cs,d with
 |[a0,a1,a2,a3,a4,a5,a6,a7],_=>
  obtain⟨p,r,a⟩:∃n y,DataW.trod enc prog W 0 (λ_=>true) true n 4 (([a0,a1,a2,a3,a4,a5,a6,a7].drop 0).take (prog.cellsOf 4))=some y:=e 0 _ rfl
  obtain⟨q,s,b⟩:∃n y,DataW.trod enc prog W 0 (λ_=>true) true n 73 (([a0,a1,a2,a3,a4,a5,a6,a7].drop 1).take (prog.cellsOf 73))=some y:=e 1 _ rfl
  simp only[i,j,ad3,ad4,ad5,ad6]at a b
  obtain⟨g,k⟩:=tA a
  obtain⟨t,l,o⟩:=sL b
  cases k;cases l
  exact⟨⟨g,t⟩,rfl,o⟩
theorem sN{H:Type}{enc:TypeId×Value->H}{W:World}{f:Nat}{cs:List Value}{x:DataW H×List MemPlace}(h:DataW.trod enc prog W 0 (λ_=>true) true f 26 cs=some x):∃v l,cs=[v]/\RS (Rw W) 7 bw.enc v l/\∀t∈l,t.fits:=
 RS.m4 (D:=λt:bw=>t.fits) (sz:=7) (en:=bw.enc) underlying26 (by kernel_rfl) (by omega) h λn cs x b=>by
  obtain⟨t,rfl,a⟩:=sL b
  exact⟨rfl,(bw.one t).h,t,rfl,a⟩
theorem tX{H:Type}{enc:TypeId×Value->H}{W:World}{f:Nat}{cs:List Value}{x:DataW H×List MemPlace}(h:DataW.trod enc prog W 0 (λ_=>true) true f 27 cs=some x):∃v l,cs=[v]/\RS (Rw W) 8 cI.enc v l/\∀c∈l,c.t.fits:=
 RS.m4 (D:=λc:cI=>c.t.fits) (sz:=8) (en:=cI.enc) underlying27 (by kernel_rfl) (by omega) h λn cs x b=>by
  obtain⟨t,rfl,a⟩:=tW b
  exact⟨rfl,(cI.one t).h,t,rfl,a⟩
theorem Hj{H:Type}{enc:TypeId×Value->H}{W:World}{f:Nat}{cs:List Value}{x:DataW H×List MemPlace}(h:DataW.trod enc prog W 0 (λ_=>true) true f 28 cs=some x):∃z:Int,cs=[.int .u64 z]/\0<=z/\z<=18446744073709551615:=by
 obtain⟨z,e,a,b⟩:=og (k:=.u64) h
 refine⟨z,e,?_,?_⟩
 ·simpa[IntKind.min,IntKind.bits,IntKind.signed]using a
 ·have:IntKind.u64.max=18446744073709551615:=by decide
  omega
end Go.Proofs.YtgppncmdpcefhaaGreatDoor

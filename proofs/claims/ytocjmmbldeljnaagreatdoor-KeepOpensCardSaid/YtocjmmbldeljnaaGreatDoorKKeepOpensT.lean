/- What the law 'KeepOpens' uses. No condition. -/
import Derived.Test.YtocjmmbldeljnaaGreatDoorKKeepOpensC
import Derived.Test.YtocjmmbldeljnaaGreatDoorKKeepOpensH
import Derived.Test.YtocjmmbldeljnaaGreatDoorKKeepOpensS
set_option linter.unusedSimpArgs false
set_option linter.unusedVariables false
namespace Go.Proofs.YtocjmmbldeljnaaGreatDoor
set_option linter.defProp false
def aeT:=@List.drop_zero
def aeU:=@List.drop_succ_cons
def aeV:=@List.take_succ_cons
def aeW:=@List.take_zero
open Tryz
set_option linter.unusedVariables false
set_option maxRecDepth 4000
theorem tR{H:Type}{enc:TypeId×Value->H}{W:World}{f:Nat}{cs:List Value}{x:DataW H×List MemPlace}(h:DataW.trod enc prog W 0 (λ_=>true) true f 22 cs=some x):∃v l,cs=[v]/\RS (Rw W) 1 bL v l:=by
 obtain⟨v,l,c,d,_⟩:=RS.qF (D:=λ_=>True) (sz:=1) (en:=bL) underlying22 sd.n (by omega) h λn cs x e=>by
  have b:=sd.h enc W 0 _ true n cs x e
  refine⟨b.length,b.bU,?_⟩
  match cs,b with
  |[a],b=>
   obtain⟨a,rfl⟩:=uR b.1
   exact⟨a,rfl,trivial⟩
 exact⟨v,l,c,d⟩
theorem mx{H:Type}{enc:TypeId×Value->H}{W:World}{f:Nat}{cs:List Value}{x:DataW H×List MemPlace}(h:DataW.trod enc prog W 0 (λ_=>true) true f 9 cs=some x):∃s:ByteArray,cs=[.string s]:=by
 have b:=sd.h enc W 0 _ true f cs x h
 match cs,b with
 |[a],b=>
  obtain⟨a,rfl⟩:=uR b.1
  exact⟨a,rfl⟩
theorem MG{t:TypeId}{k:IntKind} [s:hU prog t [.i k]]{H:Type}{enc:TypeId×Value->H}{W:World}{f:Nat}{cs:List Value}{x:DataW H×List MemPlace}(h:DataW.trod enc prog W 0 (λ_=>true) true f t cs=some x):∃z:Int,cs=[.int k z]:=by
 have b:=s.h enc W 0 _ true f cs x h
 match cs,b with
 |[a],b=>
  obtain⟨a,rfl⟩:=zW b.1
  exact⟨a,rfl⟩
theorem zx{t:TypeId} [s:hU prog t [.b]]{H:Type}{enc:TypeId×Value->H}{W:World}{f:Nat}{cs:List Value}{x:DataW H×List MemPlace}(h:DataW.trod enc prog W 0 (λ_=>true) true f t cs=some x):∃z:Bool,cs=[.bool z]:=by
 have c:=s.h enc W 0 _ true f cs x h
 match cs,c with
 |[a],c=>
  obtain⟨a,rfl⟩:=zV c.1
  exact⟨a,rfl⟩
theorem pM{t:TypeId} [u:bh prog t .string]{H:Type}{enc:TypeId×Value->H}{W:World}{f:Nat}{cs:List Value}{x:DataW H×List MemPlace}(h:DataW.trod enc prog W 0 (λ_=>true) true f t cs=some x):∃s:ByteArray,cs=[.string s]/\s.size<=9223372036854775807:=by
 cases f with
 |zero=>simp[DataW.trod]at h
 |succ f=>
  unfold DataW.trod at h
  rw[u.h]at h
  split at h<;>simp_all
  rename_i s _
  exact Nat.le_trans h.1 (by decide)
theorem sC{t:TypeId}{k:IntKind} [u:bh prog t (.int k)]{H:Type}{enc:TypeId×Value->H}{W:World}{f:Nat}{cs:List Value}{x:DataW H×List MemPlace}(h:DataW.trod enc prog W 0 (λ_=>true) true f t cs=some x):∃z:Int,cs=[.int k z]/\k.min<=z/\z<=k.max:=by
 obtain⟨n,rfl,_,a⟩:=DataW.trod_int u.h h
 have a:(Lit.int k n).wf=true:=a
 simp only[Lit.wf,Bool.and_eq_true,decide_eq_true_eq]at a
 exact⟨n,rfl,a⟩
theorem zZ{H:Type}{enc:TypeId×Value->H}{W:World}{f:Nat}{cs:List Value}{x:DataW H×List MemPlace}(h:DataW.trod enc prog W 0 (λ_=>true) true f 24 cs=some x):∃(r:CR) (c:bP),cs=r.cells/\eG (Rw W) r c:=by
 obtain⟨l,e⟩:=nT underlying24 h
 have w:prog.cellsOf 24=4:=by kernel_rfl
 have p:prog.cellsOf 9=1:=by kernel_rfl
 have q:prog.cellsOf 22=1:=by kernel_rfl
 rw[w]at l
 match cs,l with
 |[a,b,c,d],_=>
  obtain⟨D,K,g⟩:∃n y,DataW.trod enc prog W 0 (λ_=>true) true n 9 (([a,b,c,d].drop 0).take (prog.cellsOf 9))=some y:=e 0 _ rfl
  obtain⟨E,L,i⟩:∃n y,DataW.trod enc prog W 0 (λ_=>true) true n 9 (([a,b,c,d].drop 1).take (prog.cellsOf 9))=some y:=e 1 _ rfl
  obtain⟨F,M,j⟩:∃n y,DataW.trod enc prog W 0 (λ_=>true) true n 22 (([a,b,c,d].drop 2).take (prog.cellsOf 22))=some y:=e 2 _ rfl
  obtain⟨G,N,k⟩:∃n y,DataW.trod enc prog W 0 (λ_=>true) true n 22 (([a,b,c,d].drop 3).take (prog.cellsOf 22))=some y:=e 3 _ rfl
  simp only[p,q,aeT,aeU,aeV,aeW]at g i j k
  obtain⟨m,s⟩:=mx g
  obtain⟨o,t⟩:=mx i
  obtain⟨I,z,u,B⟩:=tR j
  obtain⟨J,A,v,C⟩:=tR k
  cases s;cases t;cases u;cases v
  exact⟨⟨m,o,_,_⟩,⟨m,o,z,A⟩,rfl,rfl,rfl,B,C⟩
set_option linter.unusedSimpArgs false
theorem xU{H:Type}{enc:TypeId×Value->H}{W:World}{f:Nat}{cs:List Value}{x:DataW H×List MemPlace}(h:DataW.trod enc prog W 0 (λ_=>true) true f 150 cs=some x):∃s i:ByteArray,cs=[.string s,.string i]/\s.size<=9223372036854775807/\i.size<=9223372036854775807:=by
 obtain⟨c,d⟩:=nT underlying150 h
 have k:prog.cellsOf 150=2:=by kernel_rfl
 rw[k]at c
 have e:prog.cellsOf 9=1:=by kernel_rfl
 match cs,c with
 |[a0,a1],_=>
  obtain⟨q,t,a⟩:∃n y,DataW.trod enc prog W 0 (λ_=>true) true n 9 (([a0,a1].drop 0).take (prog.cellsOf 9))=some y:=d 0 _ rfl
  obtain⟨r,u,b⟩:∃n y,DataW.trod enc prog W 0 (λ_=>true) true n 9 (([a0,a1].drop 1).take (prog.cellsOf 9))=some y:=d 1 _ rfl
  simp only[e,aeT,aeU,aeV,aeW]at a b
  obtain⟨o,g,l⟩:=pM a
  obtain⟨p,j,m⟩:=pM b
  cases g;cases j
  exact⟨o,p,rfl,l,m⟩
theorem PW{H:Type}{enc:TypeId×Value->H}{W:World}{f:Nat}{cs:List Value}{x:DataW H×List MemPlace}(h:DataW.trod enc prog W 0 (λ_=>true) true f 152 cs=some x):∃s:Sub,cs=s.enc/\s.us.size<=9223372036854775807/\s.ss.size<=9223372036854775807/\s.si.size<=9223372036854775807/\s.sr.size<=9223372036854775807:=by
 obtain⟨e,a⟩:=nT underlying152 h
 have m:prog.cellsOf 152=4:=by kernel_rfl
 rw[m]at e
 have i:prog.cellsOf 9=1:=by kernel_rfl
 have g:prog.cellsOf 150=2:=by kernel_rfl
 match cs,e with
 |[a0,a1,a2,a3],_=>
  obtain⟨z,C,b⟩:∃n y,DataW.trod enc prog W 0 (λ_=>true) true n 9 (([a0,a1,a2,a3].drop 0).take (prog.cellsOf 9))=some y:=a 0 _ rfl
  obtain⟨A,D,c⟩:∃n y,DataW.trod enc prog W 0 (λ_=>true) true n 150 (([a0,a1,a2,a3].drop 1).take (prog.cellsOf 150))=some y:=a 1 _ rfl
  obtain⟨B,E,d⟩:∃n y,DataW.trod enc prog W 0 (λ_=>true) true n 9 (([a0,a1,a2,a3].drop 3).take (prog.cellsOf 9))=some y:=a 2 _ rfl
  simp only[i,g,aeT,aeU,aeV,aeW]at b c d
  obtain⟨t,j,o⟩:=pM b
  obtain⟨u,v,k,p,q⟩:=xU c
  obtain⟨w,l,r⟩:=pM d
  cases j;cases k;cases l
  exact⟨⟨t,u,v,w⟩,rfl,o,p,q,r⟩
theorem yI{H:Type}{enc:TypeId×Value->H}{W:World}{f:Nat}{cs:List Value}{x:DataW H×List MemPlace}(h:DataW.trod enc prog W 0 (λ_=>true) true f 154 cs=some x):∃t:aZ,cs=t.enc/\t.fits:=by
 obtain⟨e,a⟩:=nT underlying154 h
 have o:prog.cellsOf 154=7:=by kernel_rfl
 rw[o]at e
 have j:prog.cellsOf 9=1:=by kernel_rfl
 have g:prog.cellsOf 150=2:=by kernel_rfl
 have i:prog.cellsOf 152=4:=by kernel_rfl
 match cs,e with
 |[a0,a1,a2,a3,a4,a5,a6],_=>
  obtain⟨G,K,b⟩:∃n y,DataW.trod enc prog W 0 (λ_=>true) true n 150 (([a0,a1,a2,a3,a4,a5,a6].drop 0).take (prog.cellsOf 150))=some y:=a 0 _ rfl
  obtain⟨I,L,c⟩:∃n y,DataW.trod enc prog W 0 (λ_=>true) true n 9 (([a0,a1,a2,a3,a4,a5,a6].drop 2).take (prog.cellsOf 9))=some y:=a 1 _ rfl
  obtain⟨J,M,d⟩:∃n y,DataW.trod enc prog W 0 (λ_=>true) true n 152 (([a0,a1,a2,a3,a4,a5,a6].drop 3).take (prog.cellsOf 152))=some y:=a 2 _ rfl
  simp only[j,g,i,aeT,aeU,aeV,aeW]at b c d
  obtain⟨z,A,k,p,q⟩:=xU b
  obtain⟨B,l,r⟩:=pM c
  obtain⟨⟨C,D,E,F⟩,m,s,u,v,w⟩:=PW d
  cases k;cases l;cases m
  exact⟨⟨z,A,B,C,D,E,F⟩,rfl,p,q,r,s,u,v,w⟩
theorem zT{H:Type}{enc:TypeId×Value->H}{W:World}{f:Nat}{cs:List Value}{x:DataW H×List MemPlace}(h:DataW.trod enc prog W 0 (λ_=>true) true f 183 cs=some x):∃c:cj,cs=c.enc/\c.t.fits:=by
 obtain⟨d,e⟩:=nT underlying183 h
 have m:prog.cellsOf 183=8:=by kernel_rfl
 rw[m]at d
 have j:prog.cellsOf 4=1:=by kernel_rfl
 have i:prog.cellsOf 154=7:=by kernel_rfl
 match cs,d with
 |[a0,a1,a2,a3,a4,a5,a6,a7],_=>
  obtain⟨p,r,a⟩:∃n y,DataW.trod enc prog W 0 (λ_=>true) true n 4 (([a0,a1,a2,a3,a4,a5,a6,a7].drop 0).take (prog.cellsOf 4))=some y:=e 0 _ rfl
  obtain⟨q,s,b⟩:∃n y,DataW.trod enc prog W 0 (λ_=>true) true n 154 (([a0,a1,a2,a3,a4,a5,a6,a7].drop 1).take (prog.cellsOf 154))=some y:=e 1 _ rfl
  simp only[j,i,aeT,aeU,aeV,aeW]at a b
  obtain⟨g,k⟩:=zx a
  obtain⟨t,l,o⟩:=yI b
  cases k;cases l
  exact⟨⟨g,t⟩,rfl,o⟩
theorem yK{H:Type}{enc:TypeId×Value->H}{W:World}{f:Nat}{cs:List Value}{x:DataW H×List MemPlace}(h:DataW.trod enc prog W 0 (λ_=>true) true f 26 cs=some x):∃v l,cs=[v]/\RS (Rw W) 7 aZ.enc v l/\∀t∈l,t.fits:=
 RS.qF (D:=λt:aZ=>t.fits) (sz:=7) (en:=aZ.enc) underlying26 (by kernel_rfl) (by omega) h λn cs x b=>by
  obtain⟨t,rfl,a⟩:=yI b
  exact⟨rfl,(aZ.one t).h,t,rfl,a⟩
theorem zU{H:Type}{enc:TypeId×Value->H}{W:World}{f:Nat}{cs:List Value}{x:DataW H×List MemPlace}(h:DataW.trod enc prog W 0 (λ_=>true) true f 27 cs=some x):∃v l,cs=[v]/\RS (Rw W) 8 cj.enc v l/\∀c∈l,c.t.fits:=
 RS.qF (D:=λc:cj=>c.t.fits) (sz:=8) (en:=cj.enc) underlying27 (by kernel_rfl) (by omega) h λn cs x b=>by
  obtain⟨t,rfl,a⟩:=zT b
  exact⟨rfl,(cj.one t).h,t,rfl,a⟩
theorem Qh{H:Type}{enc:TypeId×Value->H}{W:World}{f:Nat}{cs:List Value}{x:DataW H×List MemPlace}(h:DataW.trod enc prog W 0 (λ_=>true) true f 28 cs=some x):∃z:Int,cs=[.int .u64 z]/\0<=z/\z<=18446744073709551615:=by
 obtain⟨z,e,a,b⟩:=sC (k:=.u64) h
 refine⟨z,e,?_,?_⟩
 ·simpa[IntKind.min,IntKind.bits,IntKind.signed]using a
 ·have:IntKind.u64.max=18446744073709551615:=by decide
  omega
end Go.Proofs.YtocjmmbldeljnaaGreatDoor

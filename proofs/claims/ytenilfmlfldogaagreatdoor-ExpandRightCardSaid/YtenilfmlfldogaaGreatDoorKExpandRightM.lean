/- What the law 'ExpandRight' uses. No condition. -/
import Derived.Test.YtenilfmlfldogaaGreatDoorKExpandRightC
import Derived.Test.YtenilfmlfldogaaGreatDoorKExpandRightH
import Derived.Test.YtenilfmlfldogaaGreatDoorKExpandRightL
namespace Go.Proofs.YtenilfmlfldogaaGreatDoor
set_option linter.defProp false
def aef:=@List.drop_zero
def aeg:=@List.drop_succ_cons
def aeh:=@List.take_succ_cons
def aei:=@List.take_zero
open Tryz
set_option linter.unusedVariables false
set_option maxRecDepth 4000
theorem qi{H:Type}{enc:TypeId×Value->H}{W:World}{f:Nat}{cs:List Value}{x:DataW H×List MemPlace}(h:DataW.trod enc prog W 0 (λ_=>true) true f 9 cs=some x):∃s:ByteArray,cs=[.string s]:=by
 have b:=xc.h enc W 0 _ true f cs x h
 match cs,b with
 |[a],b=>
  obtain⟨a,rfl⟩:=Bz b.1
  exact⟨a,rfl⟩
theorem q8{t:TypeId}{k:IntKind} [s:iZ prog t [.i k]]{H:Type}{enc:TypeId×Value->H}{W:World}{f:Nat}{cs:List Value}{x:DataW H×List MemPlace}(h:DataW.trod enc prog W 0 (λ_=>true) true f t cs=some x):∃z:Int,cs=[.int k z]:=by
 have b:=s.h enc W 0 _ true f cs x h
 match cs,b with
 |[a],b=>
  obtain⟨a,rfl⟩:=Bx b.1
  exact⟨a,rfl⟩
theorem Bb{t:TypeId} [s:iZ prog t [.b]]{H:Type}{enc:TypeId×Value->H}{W:World}{f:Nat}{cs:List Value}{x:DataW H×List MemPlace}(h:DataW.trod enc prog W 0 (λ_=>true) true f t cs=some x):∃z:Bool,cs=[.bool z]:=by
 have c:=s.h enc W 0 _ true f cs x h
 match cs,c with
 |[a],c=>
  obtain⟨a,rfl⟩:=Bw c.1
  exact⟨a,rfl⟩
theorem ky{t:TypeId} [u:bS prog t .string]{H:Type}{enc:TypeId×Value->H}{W:World}{f:Nat}{cs:List Value}{x:DataW H×List MemPlace}(h:DataW.trod enc prog W 0 (λ_=>true) true f t cs=some x):∃s:ByteArray,cs=[.string s]/\s.size<=9223372036854775807:=by
 cases f with
 |zero=>simp[DataW.trod]at h
 |succ f=>
  unfold DataW.trod at h
  rw[u.h]at h
  split at h<;>simp_all
  rename_i s _
  exact Nat.le_trans h.1 (by decide)
theorem Lu{t:TypeId}{k:IntKind} [u:bS prog t (.int k)]{H:Type}{enc:TypeId×Value->H}{W:World}{f:Nat}{cs:List Value}{x:DataW H×List MemPlace}(h:DataW.trod enc prog W 0 (λ_=>true) true f t cs=some x):∃z:Int,cs=[.int k z]/\k.min<=z/\z<=k.max:=by
 obtain⟨n,rfl,_,a⟩:=DataW.trod_int u.h h
 have a:(Lit.int k n).wf=true:=a
 simp only[Lit.wf,Bool.and_eq_true,decide_eq_true_eq]at a
 exact⟨n,rfl,a⟩
set_option linter.unusedSimpArgs false
theorem p8{H:Type}{enc:TypeId×Value->H}{W:World}{f:Nat}{cs:List Value}{x:DataW H×List MemPlace}(h:DataW.trod enc prog W 0 (λ_=>true) true f 30 cs=some x):∃s i:ByteArray,cs=[.string s,.string i]/\s.size<=9223372036854775807/\i.size<=9223372036854775807:=by
 obtain⟨c,d⟩:=kp underlying30 h
 have k:prog.cellsOf 30=2:=by kernel_rfl
 rw[k]at c
 have e:prog.cellsOf 9=1:=by kernel_rfl
 match cs,c with
 |[a0,a1],_=>
  obtain⟨q,t,a⟩:∃n y,DataW.trod enc prog W 0 (λ_=>true) true n 9 (([a0,a1].drop 0).take (prog.cellsOf 9))=some y:=d 0 _ rfl
  obtain⟨r,u,b⟩:∃n y,DataW.trod enc prog W 0 (λ_=>true) true n 9 (([a0,a1].drop 1).take (prog.cellsOf 9))=some y:=d 1 _ rfl
  simp only[e,aef,aeg,aeh,aei]at a b
  obtain⟨o,g,l⟩:=ky a
  obtain⟨p,j,m⟩:=ky b
  cases g;cases j
  exact⟨o,p,rfl,l,m⟩
theorem PT{H:Type}{enc:TypeId×Value->H}{W:World}{f:Nat}{cs:List Value}{x:DataW H×List MemPlace}(h:DataW.trod enc prog W 0 (λ_=>true) true f 130 cs=some x):∃s:Sub,cs=s.enc/\s.us.size<=9223372036854775807/\s.ss.size<=9223372036854775807/\s.si.size<=9223372036854775807/\s.sr.size<=9223372036854775807:=by
 obtain⟨e,a⟩:=kp underlying130 h
 have m:prog.cellsOf 130=4:=by kernel_rfl
 rw[m]at e
 have i:prog.cellsOf 9=1:=by kernel_rfl
 have g:prog.cellsOf 30=2:=by kernel_rfl
 match cs,e with
 |[a0,a1,a2,a3],_=>
  obtain⟨z,C,b⟩:∃n y,DataW.trod enc prog W 0 (λ_=>true) true n 9 (([a0,a1,a2,a3].drop 0).take (prog.cellsOf 9))=some y:=a 0 _ rfl
  obtain⟨A,D,c⟩:∃n y,DataW.trod enc prog W 0 (λ_=>true) true n 30 (([a0,a1,a2,a3].drop 1).take (prog.cellsOf 30))=some y:=a 1 _ rfl
  obtain⟨B,E,d⟩:∃n y,DataW.trod enc prog W 0 (λ_=>true) true n 9 (([a0,a1,a2,a3].drop 3).take (prog.cellsOf 9))=some y:=a 2 _ rfl
  simp only[i,g,aef,aeg,aeh,aei]at b c d
  obtain⟨t,j,o⟩:=ky b
  obtain⟨u,v,k,p,q⟩:=p8 c
  obtain⟨w,l,r⟩:=ky d
  cases j;cases k;cases l
  exact⟨⟨t,u,v,w⟩,rfl,o,p,q,r⟩
theorem Am{H:Type}{enc:TypeId×Value->H}{W:World}{f:Nat}{cs:List Value}{x:DataW H×List MemPlace}(h:DataW.trod enc prog W 0 (λ_=>true) true f 132 cs=some x):∃t:aA,cs=t.enc/\t.fits:=by
 obtain⟨e,a⟩:=kp underlying132 h
 have o:prog.cellsOf 132=7:=by kernel_rfl
 rw[o]at e
 have j:prog.cellsOf 9=1:=by kernel_rfl
 have i:prog.cellsOf 30=2:=by kernel_rfl
 have g:prog.cellsOf 130=4:=by kernel_rfl
 match cs,e with
 |[a0,a1,a2,a3,a4,a5,a6],_=>
  obtain⟨G,K,b⟩:∃n y,DataW.trod enc prog W 0 (λ_=>true) true n 30 (([a0,a1,a2,a3,a4,a5,a6].drop 0).take (prog.cellsOf 30))=some y:=a 0 _ rfl
  obtain⟨I,L,c⟩:∃n y,DataW.trod enc prog W 0 (λ_=>true) true n 9 (([a0,a1,a2,a3,a4,a5,a6].drop 2).take (prog.cellsOf 9))=some y:=a 1 _ rfl
  obtain⟨J,M,d⟩:∃n y,DataW.trod enc prog W 0 (λ_=>true) true n 130 (([a0,a1,a2,a3,a4,a5,a6].drop 3).take (prog.cellsOf 130))=some y:=a 2 _ rfl
  simp only[j,i,g,aef,aeg,aeh,aei]at b c d
  obtain⟨z,A,k,p,q⟩:=p8 b
  obtain⟨B,l,r⟩:=ky c
  obtain⟨⟨C,D,E,F⟩,m,s,u,v,w⟩:=PT d
  cases k;cases l;cases m
  exact⟨⟨z,A,B,C,D,E,F⟩,rfl,p,q,r,s,u,v,w⟩
theorem K3{H:Type}{enc:TypeId×Value->H}{W:World}{f:Nat}{cs:List Value}{x:DataW H×List MemPlace}(h:DataW.trod enc prog W 0 (λ_=>true) true f 67 cs=some x):∃t:aA,cs=t.enc:=by
 obtain⟨j,a⟩:=kp underlying67 h
 have u:prog.cellsOf 67=7:=by kernel_rfl
 rw[u]at j
 have l:prog.cellsOf 9=1:=by kernel_rfl
 have k:prog.cellsOf 30=2:=by kernel_rfl
 match cs,j with
 |[a0,a1,a2,a3,a4,a5,a6],_=>
  obtain⟨E,L,b⟩:∃n y,DataW.trod enc prog W 0 (λ_=>true) true n 9 (([a0,a1,a2,a3,a4,a5,a6].drop 0).take (prog.cellsOf 9))=some y:=a 0 _ rfl
  obtain⟨F,M,c⟩:∃n y,DataW.trod enc prog W 0 (λ_=>true) true n 9 (([a0,a1,a2,a3,a4,a5,a6].drop 1).take (prog.cellsOf 9))=some y:=a 1 _ rfl
  obtain⟨G,N,d⟩:∃n y,DataW.trod enc prog W 0 (λ_=>true) true n 9 (([a0,a1,a2,a3,a4,a5,a6].drop 2).take (prog.cellsOf 9))=some y:=a 2 _ rfl
  obtain⟨I,O,e⟩:∃n y,DataW.trod enc prog W 0 (λ_=>true) true n 9 (([a0,a1,a2,a3,a4,a5,a6].drop 3).take (prog.cellsOf 9))=some y:=a 3 _ rfl
  obtain⟨J,Q,g⟩:∃n y,DataW.trod enc prog W 0 (λ_=>true) true n 30 (([a0,a1,a2,a3,a4,a5,a6].drop 4).take (prog.cellsOf 30))=some y:=a 4 _ rfl
  obtain⟨K,S,i⟩:∃n y,DataW.trod enc prog W 0 (λ_=>true) true n 9 (([a0,a1,a2,a3,a4,a5,a6].drop 6).take (prog.cellsOf 9))=some y:=a 5 _ rfl
  simp only[l,k,aef,aeg,aeh,aei]at b c d e g i
  obtain⟨v,m⟩:=qi b
  obtain⟨w,o⟩:=qi c
  obtain⟨z,p⟩:=qi d
  obtain⟨A,q⟩:=qi e
  obtain⟨B,C,r,_,_⟩:=p8 g
  obtain⟨D,s⟩:=qi i
  cases m;cases o;cases p;cases q;cases r;cases s
  exact⟨⟨v,w,z,A,B,C,D⟩,rfl⟩
theorem Bu{H:Type}{enc:TypeId×Value->H}{W:World}{f:Nat}{cs:List Value}{x:DataW H×List MemPlace}(h:DataW.trod enc prog W 0 (λ_=>true) true f 134 cs=some x):∃c:cD,cs=c.enc/\c.t.fits:=by
 obtain⟨d,e⟩:=kp underlying134 h
 have m:prog.cellsOf 134=8:=by kernel_rfl
 rw[m]at d
 have j:prog.cellsOf 4=1:=by kernel_rfl
 have i:prog.cellsOf 132=7:=by kernel_rfl
 match cs,d with
 |[a0,a1,a2,a3,a4,a5,a6,a7],_=>
  obtain⟨p,r,a⟩:∃n y,DataW.trod enc prog W 0 (λ_=>true) true n 4 (([a0,a1,a2,a3,a4,a5,a6,a7].drop 0).take (prog.cellsOf 4))=some y:=e 0 _ rfl
  obtain⟨q,s,b⟩:∃n y,DataW.trod enc prog W 0 (λ_=>true) true n 132 (([a0,a1,a2,a3,a4,a5,a6,a7].drop 1).take (prog.cellsOf 132))=some y:=e 1 _ rfl
  simp only[j,i,aef,aeg,aeh,aei]at a b
  obtain⟨g,k⟩:=Bb a
  obtain⟨t,l,o⟩:=Am b
  cases k;cases l
  exact⟨⟨g,t⟩,rfl,o⟩
theorem Ao{H:Type}{enc:TypeId×Value->H}{W:World}{f:Nat}{cs:List Value}{x:DataW H×List MemPlace}(h:DataW.trod enc prog W 0 (λ_=>true) true f 64 cs=some x):∃v l,cs=[v]/\RS (Rw W) 7 aA.enc v l/\∀t∈l,t.fits:=
 RS.m6 (D:=λt:aA=>t.fits) (sz:=7) (en:=aA.enc) underlying64 (by kernel_rfl) (by omega) h λn cs x b=>by
  obtain⟨t,rfl,a⟩:=Am b
  exact⟨rfl,(aA.one t).h,t,rfl,a⟩
theorem Bv{H:Type}{enc:TypeId×Value->H}{W:World}{f:Nat}{cs:List Value}{x:DataW H×List MemPlace}(h:DataW.trod enc prog W 0 (λ_=>true) true f 65 cs=some x):∃v l,cs=[v]/\RS (Rw W) 8 cD.enc v l/\∀c∈l,c.t.fits:=
 RS.m6 (D:=λc:cD=>c.t.fits) (sz:=8) (en:=cD.enc) underlying65 (by kernel_rfl) (by omega) h λn cs x b=>by
  obtain⟨t,rfl,a⟩:=Bu b
  exact⟨rfl,(cD.one t).h,t,rfl,a⟩
theorem Qh{H:Type}{enc:TypeId×Value->H}{W:World}{f:Nat}{cs:List Value}{x:DataW H×List MemPlace}(h:DataW.trod enc prog W 0 (λ_=>true) true f 47 cs=some x):∃z:Int,cs=[.int .u64 z]/\0<=z/\z<=18446744073709551615:=by
 obtain⟨z,e,a,b⟩:=Lu (k:=.u64) h
 refine⟨z,e,?_,?_⟩
 ·simpa[IntKind.min,IntKind.bits,IntKind.signed]using a
 ·have:IntKind.u64.max=18446744073709551615:=by decide
  omega
theorem O6{H:Type}{enc:TypeId×Value->H}{W:World}{f:Nat}{cs:List Value}{x:DataW H×List MemPlace}(h:DataW.trod enc prog W 0 (λ_=>true) true f 69 cs=some x):∃c:fz,cs=c.enc/\c.is (Rw W):=by
 obtain⟨l,a⟩:=kp underlying69 h
 have D:prog.cellsOf 69=12:=by kernel_rfl
 rw[D]at l
 have m:prog.cellsOf 3=1:=by kernel_rfl
 have o:prog.cellsOf 47=1:=by kernel_rfl
 have p:prog.cellsOf 64=1:=by kernel_rfl
 have q:prog.cellsOf 65=1:=by kernel_rfl
 have r:prog.cellsOf 67=7:=by kernel_rfl
 match cs,l with
 |[a0,a1,a2,a3,a4,a5,a6,a7,a8,a9,a10,a11],_=>
  obtain⟨S,y0,b⟩:∃n y,DataW.trod enc prog W 0 (λ_=>true) true n 3 (([a0,a1,a2,a3,a4,a5,a6,a7,a8,a9,a10,a11].drop 0).take (prog.cellsOf 3))=some y:=a 0 _ rfl
  obtain⟨T,y1,d⟩:∃n y,DataW.trod enc prog W 0 (λ_=>true) true n 64 (([a0,a1,a2,a3,a4,a5,a6,a7,a8,a9,a10,a11].drop 1).take (prog.cellsOf 64))=some y:=a 1 _ rfl
  obtain⟨U,y2,e⟩:∃n y,DataW.trod enc prog W 0 (λ_=>true) true n 64 (([a0,a1,a2,a3,a4,a5,a6,a7,a8,a9,a10,a11].drop 2).take (prog.cellsOf 64))=some y:=a 2 _ rfl
  obtain⟨V,y3,g⟩:∃n y,DataW.trod enc prog W 0 (λ_=>true) true n 65 (([a0,a1,a2,a3,a4,a5,a6,a7,a8,a9,a10,a11].drop 3).take (prog.cellsOf 65))=some y:=a 3 _ rfl
  obtain⟨X,y4,i⟩:∃n y,DataW.trod enc prog W 0 (λ_=>true) true n 67 (([a0,a1,a2,a3,a4,a5,a6,a7,a8,a9,a10,a11].drop 4).take (prog.cellsOf 67))=some y:=a 4 _ rfl
  obtain⟨Y,y5,j⟩:∃n y,DataW.trod enc prog W 0 (λ_=>true) true n 47 (([a0,a1,a2,a3,a4,a5,a6,a7,a8,a9,a10,a11].drop 11).take (prog.cellsOf 47))=some y:=a 5 _ rfl
  simp only[m,o,p,q,r,aef,aeg,aeh,aei]at b d e g i j
  obtain⟨O,s⟩:=q8 (k:=.i64) b
  obtain⟨Z,E,t,K,A⟩:=Ao d
  obtain⟨v2,F,u,L,B⟩:=Ao e
  obtain⟨v3,G,v,M,C⟩:=Bv g
  obtain⟨N,w⟩:=K3 i
  obtain⟨Q,z,I,J⟩:=Qh j
  cases s;cases t;cases u;cases v;cases w;cases z
  exact⟨⟨O,_,_,_,N,Q,E,F,G⟩,rfl,K,L,M,A,B,C,I,J⟩
theorem O7{W:World}{f:Nat}{H:Type}{enc:TypeId×Value->H}{cs:List Value}{x:DataW H×List MemPlace}(h:DataW.trod enc prog W 0 (λ_=>true) true f 26 cs=some x):∃v l,cs=[v]/\RS (Rw W) 12 fz.enc v l/\∀c∈l,c.is (Rw W):=
 RS.m6 (D:=λc:fz=>c.is (Rw W)) (sz:=12) (en:=fz.enc) underlying26 (by kernel_rfl) (by omega) h λn cs x b=>by
  obtain⟨c,rfl,a⟩:=O6 b
  exact⟨rfl,a.cN.h,c,rfl,a⟩
end Go.Proofs.YtenilfmlfldogaaGreatDoor

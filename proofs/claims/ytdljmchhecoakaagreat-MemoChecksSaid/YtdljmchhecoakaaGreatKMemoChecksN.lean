/- What the law 'MemoChecks' uses. No condition. -/
import Derived.Test.YtdljmchhecoakaaGreatKMemoChecksC
import Derived.Test.YtdljmchhecoakaaGreatKMemoChecksH
import Derived.Test.YtdljmchhecoakaaGreatKMemoChecksI
import Derived.Test.YtdljmchhecoakaaGreatKMemoChecksM
namespace Go.Proofs.YtdljmchhecoakaaGreat
set_option linter.defProp false
def aew:=@List.drop_zero
def aex:=@List.drop_succ_cons
def aey:=@List.take_succ_cons
def aez:=@List.take_zero
open Tryz
set_option linter.unusedVariables false
set_option maxRecDepth 4000
theorem qW{H:Type}{enc:TypeId×Value->H}{W:World}{f:Nat}{cs:List Value}{x:DataW H×List MemPlace}(h:DataW.trod enc prog W 0 (λ_=>true) true f 9 cs=some x):∃s:ByteArray,cs=[.string s]:=by
 have b:=Kz.h enc W 0 _ true f cs x h
 match cs,b with
 |[a],b=>
  obtain⟨a,rfl⟩:=Cx b.1
  exact⟨a,rfl⟩
theorem rQ{t:TypeId}{k:IntKind} [s:ja prog t [.i k]]{H:Type}{enc:TypeId×Value->H}{W:World}{f:Nat}{cs:List Value}{x:DataW H×List MemPlace}(h:DataW.trod enc prog W 0 (λ_=>true) true f t cs=some x):∃z:Int,cs=[.int k z]:=by
 have b:=s.h enc W 0 _ true f cs x h
 match cs,b with
 |[a],b=>
  obtain⟨a,rfl⟩:=Cw b.1
  exact⟨a,rfl⟩
theorem rB{t:TypeId} [s:ja prog t [.b]]{H:Type}{enc:TypeId×Value->H}{W:World}{f:Nat}{cs:List Value}{x:DataW H×List MemPlace}(h:DataW.trod enc prog W 0 (λ_=>true) true f t cs=some x):∃z:Bool,cs=[.bool z]:=by
 have c:=s.h enc W 0 _ true f cs x h
 match cs,c with
 |[a],c=>
  obtain⟨a,rfl⟩:=Cv c.1
  exact⟨a,rfl⟩
theorem jL{t:TypeId} [u:bX prog t .string]{H:Type}{enc:TypeId×Value->H}{W:World}{f:Nat}{cs:List Value}{x:DataW H×List MemPlace}(h:DataW.trod enc prog W 0 (λ_=>true) true f t cs=some x):∃s:ByteArray,cs=[.string s]/\s.size<=9223372036854775807:=by
 cases f with
 |zero=>simp[DataW.trod]at h
 |succ f=>
  unfold DataW.trod at h
  rw[u.h]at h
  split at h<;>simp_all
  rename_i s _
  exact Nat.le_trans h.1 (by decide)
theorem yP{t:TypeId}{k:IntKind} [u:bX prog t (.int k)]{H:Type}{enc:TypeId×Value->H}{W:World}{f:Nat}{cs:List Value}{x:DataW H×List MemPlace}(h:DataW.trod enc prog W 0 (λ_=>true) true f t cs=some x):∃z:Int,cs=[.int k z]/\k.min<=z/\z<=k.max:=by
 obtain⟨n,rfl,_,a⟩:=DataW.trod_int u.h h
 have a:(Lit.int k n).wf=true:=a
 simp only[Lit.wf,Bool.and_eq_true,decide_eq_true_eq]at a
 exact⟨n,rfl,a⟩
set_option linter.unusedSimpArgs false
theorem qR{H:Type}{enc:TypeId×Value->H}{W:World}{f:Nat}{cs:List Value}{x:DataW H×List MemPlace}(h:DataW.trod enc prog W 0 (λ_=>true) true f 44 cs=some x):∃s i:ByteArray,cs=[.string s,.string i]/\s.size<=9223372036854775807/\i.size<=9223372036854775807:=by
 obtain⟨c,d⟩:=kd underlying44 h
 have k:prog.cellsOf 44=2:=by kernel_rfl
 rw[k]at c
 have e:prog.cellsOf 9=1:=by kernel_rfl
 match cs,c with
 |[a0,a1],_=>
  obtain⟨q,t,a⟩:∃n y,DataW.trod enc prog W 0 (λ_=>true) true n 9 (([a0,a1].drop 0).take (prog.cellsOf 9))=some y:=d 0 _ rfl
  obtain⟨r,u,b⟩:∃n y,DataW.trod enc prog W 0 (λ_=>true) true n 9 (([a0,a1].drop 1).take (prog.cellsOf 9))=some y:=d 1 _ rfl
  simp only[e,aew,aex,aey,aez]at a b
  obtain⟨o,g,l⟩:=jL a
  obtain⟨p,j,m⟩:=jL b
  cases g;cases j
  exact⟨o,p,rfl,l,m⟩
theorem QC{H:Type}{enc:TypeId×Value->H}{W:World}{f:Nat}{cs:List Value}{x:DataW H×List MemPlace}(h:DataW.trod enc prog W 0 (λ_=>true) true f 117 cs=some x):∃s:Sub,cs=s.enc/\s.us.size<=9223372036854775807/\s.ss.size<=9223372036854775807/\s.si.size<=9223372036854775807/\s.sr.size<=9223372036854775807:=by
 obtain⟨e,a⟩:=kd underlying117 h
 have m:prog.cellsOf 117=4:=by kernel_rfl
 rw[m]at e
 have i:prog.cellsOf 9=1:=by kernel_rfl
 have g:prog.cellsOf 44=2:=by kernel_rfl
 match cs,e with
 |[a0,a1,a2,a3],_=>
  obtain⟨z,C,b⟩:∃n y,DataW.trod enc prog W 0 (λ_=>true) true n 9 (([a0,a1,a2,a3].drop 0).take (prog.cellsOf 9))=some y:=a 0 _ rfl
  obtain⟨A,D,c⟩:∃n y,DataW.trod enc prog W 0 (λ_=>true) true n 44 (([a0,a1,a2,a3].drop 1).take (prog.cellsOf 44))=some y:=a 1 _ rfl
  obtain⟨B,E,d⟩:∃n y,DataW.trod enc prog W 0 (λ_=>true) true n 9 (([a0,a1,a2,a3].drop 3).take (prog.cellsOf 9))=some y:=a 2 _ rfl
  simp only[i,g,aew,aex,aey,aez]at b c d
  obtain⟨t,j,o⟩:=jL b
  obtain⟨u,v,k,p,q⟩:=qR c
  obtain⟨w,l,r⟩:=jL d
  cases j;cases k;cases l
  exact⟨⟨t,u,v,w⟩,rfl,o,p,q,r⟩
theorem Bi{H:Type}{enc:TypeId×Value->H}{W:World}{f:Nat}{cs:List Value}{x:DataW H×List MemPlace}(h:DataW.trod enc prog W 0 (λ_=>true) true f 119 cs=some x):∃t:aw,cs=t.enc/\t.fits:=by
 obtain⟨e,a⟩:=kd underlying119 h
 have o:prog.cellsOf 119=7:=by kernel_rfl
 rw[o]at e
 have j:prog.cellsOf 9=1:=by kernel_rfl
 have i:prog.cellsOf 44=2:=by kernel_rfl
 have g:prog.cellsOf 117=4:=by kernel_rfl
 match cs,e with
 |[a0,a1,a2,a3,a4,a5,a6],_=>
  obtain⟨G,K,b⟩:∃n y,DataW.trod enc prog W 0 (λ_=>true) true n 44 (([a0,a1,a2,a3,a4,a5,a6].drop 0).take (prog.cellsOf 44))=some y:=a 0 _ rfl
  obtain⟨I,L,c⟩:∃n y,DataW.trod enc prog W 0 (λ_=>true) true n 9 (([a0,a1,a2,a3,a4,a5,a6].drop 2).take (prog.cellsOf 9))=some y:=a 1 _ rfl
  obtain⟨J,M,d⟩:∃n y,DataW.trod enc prog W 0 (λ_=>true) true n 117 (([a0,a1,a2,a3,a4,a5,a6].drop 3).take (prog.cellsOf 117))=some y:=a 2 _ rfl
  simp only[j,i,g,aew,aex,aey,aez]at b c d
  obtain⟨z,A,k,p,q⟩:=qR b
  obtain⟨B,l,r⟩:=jL c
  obtain⟨⟨C,D,E,F⟩,m,s,u,v,w⟩:=QC d
  cases k;cases l;cases m
  exact⟨⟨z,A,B,C,D,E,F⟩,rfl,p,q,r,s,u,v,w⟩
theorem Mc{H:Type}{enc:TypeId×Value->H}{W:World}{f:Nat}{cs:List Value}{x:DataW H×List MemPlace}(h:DataW.trod enc prog W 0 (λ_=>true) true f 49 cs=some x):∃t:aw,cs=t.enc:=by
 obtain⟨j,a⟩:=kd underlying49 h
 have u:prog.cellsOf 49=7:=by kernel_rfl
 rw[u]at j
 have l:prog.cellsOf 9=1:=by kernel_rfl
 have k:prog.cellsOf 44=2:=by kernel_rfl
 match cs,j with
 |[a0,a1,a2,a3,a4,a5,a6],_=>
  obtain⟨E,L,b⟩:∃n y,DataW.trod enc prog W 0 (λ_=>true) true n 9 (([a0,a1,a2,a3,a4,a5,a6].drop 0).take (prog.cellsOf 9))=some y:=a 0 _ rfl
  obtain⟨F,M,c⟩:∃n y,DataW.trod enc prog W 0 (λ_=>true) true n 9 (([a0,a1,a2,a3,a4,a5,a6].drop 1).take (prog.cellsOf 9))=some y:=a 1 _ rfl
  obtain⟨G,N,d⟩:∃n y,DataW.trod enc prog W 0 (λ_=>true) true n 9 (([a0,a1,a2,a3,a4,a5,a6].drop 2).take (prog.cellsOf 9))=some y:=a 2 _ rfl
  obtain⟨I,O,e⟩:∃n y,DataW.trod enc prog W 0 (λ_=>true) true n 9 (([a0,a1,a2,a3,a4,a5,a6].drop 3).take (prog.cellsOf 9))=some y:=a 3 _ rfl
  obtain⟨J,Q,g⟩:∃n y,DataW.trod enc prog W 0 (λ_=>true) true n 44 (([a0,a1,a2,a3,a4,a5,a6].drop 4).take (prog.cellsOf 44))=some y:=a 4 _ rfl
  obtain⟨K,S,i⟩:∃n y,DataW.trod enc prog W 0 (λ_=>true) true n 9 (([a0,a1,a2,a3,a4,a5,a6].drop 6).take (prog.cellsOf 9))=some y:=a 5 _ rfl
  simp only[l,k,aew,aex,aey,aez]at b c d e g i
  obtain⟨v,m⟩:=qW b
  obtain⟨w,o⟩:=qW c
  obtain⟨z,p⟩:=qW d
  obtain⟨A,q⟩:=qW e
  obtain⟨B,C,r,_,_⟩:=qR g
  obtain⟨D,s⟩:=qW i
  cases m;cases o;cases p;cases q;cases r;cases s
  exact⟨⟨v,w,z,A,B,C,D⟩,rfl⟩
theorem Ct{H:Type}{enc:TypeId×Value->H}{W:World}{f:Nat}{cs:List Value}{x:DataW H×List MemPlace}(h:DataW.trod enc prog W 0 (λ_=>true) true f 121 cs=some x):∃c:cz,cs=c.enc/\c.t.fits:=by
 obtain⟨d,e⟩:=kd underlying121 h
 have m:prog.cellsOf 121=8:=by kernel_rfl
 rw[m]at d
 have j:prog.cellsOf 4=1:=by kernel_rfl
 have i:prog.cellsOf 119=7:=by kernel_rfl
 match cs,d with
 |[a0,a1,a2,a3,a4,a5,a6,a7],_=>
  obtain⟨p,r,a⟩:∃n y,DataW.trod enc prog W 0 (λ_=>true) true n 4 (([a0,a1,a2,a3,a4,a5,a6,a7].drop 0).take (prog.cellsOf 4))=some y:=e 0 _ rfl
  obtain⟨q,s,b⟩:∃n y,DataW.trod enc prog W 0 (λ_=>true) true n 119 (([a0,a1,a2,a3,a4,a5,a6,a7].drop 1).take (prog.cellsOf 119))=some y:=e 1 _ rfl
  simp only[j,i,aew,aex,aey,aez]at a b
  obtain⟨g,k⟩:=rB a
  obtain⟨t,l,o⟩:=Bi b
  cases k;cases l
  exact⟨⟨g,t⟩,rfl,o⟩
theorem Bk{H:Type}{enc:TypeId×Value->H}{W:World}{f:Nat}{cs:List Value}{x:DataW H×List MemPlace}(h:DataW.trod enc prog W 0 (λ_=>true) true f 46 cs=some x):∃v l,cs=[v]/\RS (Rw W) 7 aw.enc v l/\∀t∈l,t.fits:=
 RS.mO (D:=λt:aw=>t.fits) (sz:=7) (en:=aw.enc) underlying46 (by kernel_rfl) (by omega) h λn cs x b=>by
  obtain⟨t,rfl,a⟩:=Bi b
  exact⟨rfl,(aw.one t).h,t,rfl,a⟩
theorem Cu{H:Type}{enc:TypeId×Value->H}{W:World}{f:Nat}{cs:List Value}{x:DataW H×List MemPlace}(h:DataW.trod enc prog W 0 (λ_=>true) true f 47 cs=some x):∃v l,cs=[v]/\RS (Rw W) 8 cz.enc v l/\∀c∈l,c.t.fits:=
 RS.mO (D:=λc:cz=>c.t.fits) (sz:=8) (en:=cz.enc) underlying47 (by kernel_rfl) (by omega) h λn cs x b=>by
  obtain⟨t,rfl,a⟩:=Ct b
  exact⟨rfl,(cz.one t).h,t,rfl,a⟩
theorem Bm{H:Type}{enc:TypeId×Value->H}{W:World}{f:Nat}{cs:List Value}{x:DataW H×List MemPlace}(h:DataW.trod enc prog W 0 (λ_=>true) true f 45 cs=some x):∃z:Int,cs=[.int .u64 z]/\0<=z/\z<=18446744073709551615:=by
 obtain⟨z,e,a,b⟩:=yP (k:=.u64) h
 refine⟨z,e,?_,?_⟩
 ·simpa[IntKind.min,IntKind.bits,IntKind.signed]using a
 ·have:IntKind.u64.max=18446744073709551615:=by decide
  omega
theorem AD{H:Type}{enc:TypeId×Value->H}{W:World}{f:Nat}{cs:List Value}{x:DataW H×List MemPlace}(h:DataW.trod enc prog W 0 (λ_=>true) true f 51 cs=some x):∃c:eW,cs=c.enc/\c.is (Rw W):=by
 obtain⟨l,a⟩:=kd underlying51 h
 have D:prog.cellsOf 51=12:=by kernel_rfl
 rw[D]at l
 have m:prog.cellsOf 3=1:=by kernel_rfl
 have o:prog.cellsOf 45=1:=by kernel_rfl
 have p:prog.cellsOf 46=1:=by kernel_rfl
 have q:prog.cellsOf 47=1:=by kernel_rfl
 have r:prog.cellsOf 49=7:=by kernel_rfl
 match cs,l with
 |[a0,a1,a2,a3,a4,a5,a6,a7,a8,a9,a10,a11],_=>
  obtain⟨S,y0,b⟩:∃n y,DataW.trod enc prog W 0 (λ_=>true) true n 3 (([a0,a1,a2,a3,a4,a5,a6,a7,a8,a9,a10,a11].drop 0).take (prog.cellsOf 3))=some y:=a 0 _ rfl
  obtain⟨T,y1,d⟩:∃n y,DataW.trod enc prog W 0 (λ_=>true) true n 46 (([a0,a1,a2,a3,a4,a5,a6,a7,a8,a9,a10,a11].drop 1).take (prog.cellsOf 46))=some y:=a 1 _ rfl
  obtain⟨U,y2,e⟩:∃n y,DataW.trod enc prog W 0 (λ_=>true) true n 46 (([a0,a1,a2,a3,a4,a5,a6,a7,a8,a9,a10,a11].drop 2).take (prog.cellsOf 46))=some y:=a 2 _ rfl
  obtain⟨V,y3,g⟩:∃n y,DataW.trod enc prog W 0 (λ_=>true) true n 47 (([a0,a1,a2,a3,a4,a5,a6,a7,a8,a9,a10,a11].drop 3).take (prog.cellsOf 47))=some y:=a 3 _ rfl
  obtain⟨X,y4,i⟩:∃n y,DataW.trod enc prog W 0 (λ_=>true) true n 49 (([a0,a1,a2,a3,a4,a5,a6,a7,a8,a9,a10,a11].drop 4).take (prog.cellsOf 49))=some y:=a 4 _ rfl
  obtain⟨Y,y5,j⟩:∃n y,DataW.trod enc prog W 0 (λ_=>true) true n 45 (([a0,a1,a2,a3,a4,a5,a6,a7,a8,a9,a10,a11].drop 11).take (prog.cellsOf 45))=some y:=a 5 _ rfl
  simp only[m,o,p,q,r,aew,aex,aey,aez]at b d e g i j
  obtain⟨O,s⟩:=rQ (k:=.i64) b
  obtain⟨Z,E,t,K,A⟩:=Bk d
  obtain⟨v2,F,u,L,B⟩:=Bk e
  obtain⟨v3,G,v,M,C⟩:=Cu g
  obtain⟨N,w⟩:=Mc i
  obtain⟨Q,z,I,J⟩:=Bm j
  cases s;cases t;cases u;cases v;cases w;cases z
  exact⟨⟨O,_,_,_,N,Q,E,F,G⟩,rfl,K,L,M,A,B,C,I,J⟩
theorem PP{W:World}{f:Nat}{H:Type}{enc:TypeId×Value->H}{cs:List Value}{x:DataW H×List MemPlace}(h:DataW.trod enc prog W 0 (λ_=>true) true f 26 cs=some x):∃v l,cs=[v]/\RS (Rw W) 12 eW.enc v l/\∀c∈l,c.is (Rw W):=
 RS.mO (D:=λc:eW=>c.is (Rw W)) (sz:=12) (en:=eW.enc) underlying26 (by kernel_rfl) (by omega) h λn cs x b=>by
  obtain⟨c,rfl,a⟩:=AD b
  exact⟨rfl,a.dl.h,c,rfl,a⟩
end Go.Proofs.YtdljmchhecoakaaGreat

/- What the law 'OpDecodes' uses. No condition. -/
import Derived.Test.YtgppncmdpcefhaaGreatDoorKOpDecodesE
import Derived.Test.YtgppncmdpcefhaaGreatDoorKOpDecodesH
import Derived.Test.YtgppncmdpcefhaaGreatDoorKOpDecodesI
namespace Go.Proofs.YtgppncmdpcefhaaGreatDoor
set_option linter.defProp false
def acf:=@List.append_assoc
def acg:=@Option.some.injEq
def ach:=@Prod.mk.injEq
open Tryz
set_option linter.unusedVariables false
set_option linter.unusedSimpArgs false
set_option maxRecDepth 4000
theorem qE(v:Value)(xs:List UInt8)(n:Nat)(b R:aC)(h:RS b 1 bZ v xs)(f:n<=1000000):
  Spec prog 14 [v,iN n] R [] λu H'=>RS b 1 bZ u (xs.take n)/\H'=[]:=by
 have d:=h.le
 have i:=h.aF
 refine Spec.body func14 rfl results14 ntmps14 rfl ?_
 refine .sr<|.ag rfl<|.zs<|.sr<|.mo rfl<|.q (.dw h) ?_
 refine .mo rfl<|.q .gtr<|.zn ?_
 refine .cond rfl (λa=>?_) λa=>?_
 have e:n<xs.length:=cO a
 refine .sr<|.mo rfl<|.mo rfl ?_
 refine .jI 0 n h rfl ⟨_,rfl⟩ (by omega) (by omega) (λj c=>?_)
 have g:=c.aF
 refine .az rfl ?_
 refine .ret (bq (cf rfl ?_))
 ·exact⟨by simpa using c,rfl⟩
 refine .kn<|.sr<|.mo rfl<|.az rfl ?_
 refine .ret (cf rfl ?_)
 ·refine⟨?_,rfl⟩
  rw[List.take_of_length_le (by have:=bc a;omega)]
  exact h
theorem qD(v:Value)(xs:List UInt8)(R:aC)(h:RS R 1 bZ v xs)(c:xs.length<=1000000):
  Spec prog 15 [v] R [] λu H'=>∃T,H'=[T]/\OS 5 1 bZ u xs T:=by
 have e:=h.aF
 refine Spec.eg (H':=[[]]) (by simp) ?_
 refine Spec.body func15 rfl results15 ntmps15 rfl ?_
 refine .sr<|.ag rfl<|.z<|.ag rfl<|.z<|.mo rfl<|.mo rfl ?_
 refine .append (OS.nil (enc:=bZ) (sz:=1)) h.rx (by simp;omega) (λf b a=>?_)
 have d:=a.aF
 refine .az rfl ?_
 refine .ret (bb _ (.one (.tmp rfl)) (.one [0] _) ?_)
 ·exact⟨b,by simp[take],by simpa using a⟩
def uw(z:Int):Nat:=(z % 18446744073709551616).toNat
theorem jK(z:Int):uw z<bW:=by unfold uw bW;omega
theorem ma(z:Int):IntKind.u64.wrap z=(uw z:Int):=by
 simp[IntKind.wrap,IntKind.bits,IntKind.signed,uw]
 omega
theorem Ck{z:Int}(h: -9223372036854775808<=z/\z<=9223372036854775807):IntKind.i64.wrap (uw z:Int)=z:=by
 simp only[IntKind.wrap,IntKind.bits,IntKind.signed,uw]
 simp
 omega
theorem CF{n:Nat}(h:n<bW):uw (IntKind.i64.wrap (n:Int))=n:=by
 unfold bW at h
 simp only[IntKind.wrap,IntKind.bits,IntKind.signed,uw]
 simp
 omega
theorem Cj(n:Int): -9223372036854775808<=IntKind.i64.wrap n/\IntKind.i64.wrap n<=9223372036854775807:=by
 simp only[IntKind.wrap,IntKind.bits,IntKind.signed]
 simp
 omega
def bs.f31(t:bs):Prop:=t.os.size<=2147483647/\t.oi.size<=2147483647/\t.rel.size<=2147483647/\t.us.size<=2147483647/\t.ss.size<=2147483647/\t.si.size<=2147483647/\t.sr.size<=2147483647
def cI(t:bs):List UInt8:=cv t.os++cv t.oi++cv t.rel++cv t.us++cv t.ss++cv t.si++cv t.sr
def gk:List UInt8->Option (bs×List UInt8):=bQ dG λa=>bQ dG λb=>bQ dG λc=>bQ dG λd=>bQ dG λe=>bQ dG λf=>bQ dG λg r=>some (⟨a,b,c,d,e,f,g⟩,r)
theorem jU:eA gk cI bs.f31:=⟨λb t r=>by
 unfold gk
 simp only[ed.bQ]
 constructor
 ·rintro⟨j,q,⟨rfl,a⟩,k,s,⟨rfl,c⟩,l,u,⟨rfl,d⟩,m,v,⟨rfl,e⟩,n,w,⟨rfl,f⟩,o,x,⟨rfl,g⟩,p,y,⟨rfl,i⟩,h⟩
  simp only[acg,ach]at h
  obtain⟨rfl,rfl⟩:=h
  exact⟨by simp only[cI,acf],a,c,d,e,f,g,i⟩
 ·rintro⟨rfl,a,c,d,e,f,g,i⟩
  simp only[cI,acf]
  exact⟨_,_,⟨rfl,a⟩,_,_,⟨rfl,c⟩,_,_,⟨rfl,d⟩,_,_,⟨rfl,e⟩,_,_,⟨rfl,f⟩,_,_,⟨rfl,g⟩,_,_,⟨rfl,i⟩,rfl⟩⟩
def dF(c:cN):List UInt8:=lC c.put++cI c.t
def ib:List UInt8->Option (cN×List UInt8):=bQ jC λp=>bQ gk λt r=>some (⟨p,t⟩,r)
theorem my:eA ib dF λc=>c.t.f31:=⟨λb t r=>by
 unfold ib
 simp only[nM.bQ,jU.bQ]
 constructor
 ·rintro⟨e,g,⟨rfl,a⟩,f,i,⟨rfl,d⟩,h⟩
  simp only[acg,ach]at h
  obtain⟨rfl,rfl⟩:=h
  exact⟨by simp only[dF,acf],d⟩
 ·rintro⟨rfl,a⟩
  simp only[dF,acf]
  exact⟨_,_,⟨rfl,trivial⟩,_,_,⟨rfl,a⟩,rfl⟩⟩
def dy.f31(c:dy):Prop:=c.id.size<=2147483647/\c.dY.size<=2147483647/\(c.iK.length<=4096/\∀s∈c.iK,s.size<=2147483647)/\c.scopes.length<=4096/\∀s∈c.scopes,s.size<=2147483647
def eY(c:dy):List UInt8:=cv c.id++cv c.dY++cF cv c.iK++cF cv c.scopes
def ky:List UInt8->Option (dy×List UInt8):=bQ dG λa=>bQ dG λb=>bQ (eZ dG) λc=>bQ (eZ dG) λd r=>some (⟨a,b,c,d⟩,r)
theorem nL:eA ky eY dy.f31:=⟨λb t r=>by
 unfold ky
 simp only[ed.bQ,(gW ed).bQ]
 constructor
 ·rintro⟨f,k,⟨rfl,a⟩,g,l,⟨rfl,c⟩,i,m,⟨rfl,d⟩,j,n,⟨rfl,e⟩,h⟩
  simp only[acg,ach]at h
  obtain⟨rfl,rfl⟩:=h
  exact⟨by simp only[eY,acf],a,c,d,e⟩
 ·rintro⟨rfl,a,c,d,e⟩
  simp only[eY,acf]
  exact⟨_,_,⟨rfl,a⟩,_,_,⟨rfl,c⟩,_,_,⟨rfl,d⟩,_,_,⟨rfl,e⟩,rfl⟩⟩
structure dJ where
 kind:Int
 n:Int
 cl:dy
 user:ByteArray
 id:ByteArray
 dY:ByteArray
 uri:ByteArray
 scopes:List ByteArray
 word:ByteArray
 text:ByteArray
 x:List UInt8
 y:List UInt8
 cD:List bs
 no:List bs
 cs:List cN
 rev:Nat
def fI(o:dJ):List UInt8:=put (uw o.kind)++put (uw o.n)++eY o.cl++cv o.user++cv o.id++cv o.dY++cv o.uri++cF cv o.scopes++cv o.word++cv o.text++ew o.x++ew o.y++cF cI o.cD++cF cI o.no++cF dF o.cs++put o.rev
structure dJ.n8(o:dJ):Prop where
 k:0<=o.kind/\o.kind<=255
 n: -9223372036854775808<=o.n/\o.n<=9223372036854775807
 c:o.cl.f31
 u:o.user.size<=2147483647
 i:o.id.size<=2147483647
 s:o.dY.size<=2147483647
 a:o.uri.size<=2147483647
 l:o.scopes.length<=4096/\∀s∈o.scopes,s.size<=2147483647
 w:o.word.size<=2147483647
 t:o.text.size<=2147483647
 x:o.x.length<=2147483647
 y:o.y.length<=2147483647
 m:o.cD.length<=4096/\∀t∈o.cD,t.f31
 e:o.no.length<=4096/\∀t∈o.no,t.f31
 g:o.cs.length<=4096/\∀c∈o.cs,c.t.f31
 r:o.rev<bW
def iH:List UInt8->Option (dJ×List UInt8):=bQ (fM 255) λk=>bQ fk λn=>bQ ky λc=>bQ dG λus=>bQ dG λid=>bQ dG λse=>bQ dG λur=>bQ (eZ dG) λsc=>bQ dG λwo=>bQ dG λte=>bQ iG λx=>bQ iG λy=>bQ (eZ gk) λmu=>bQ (eZ gk) λno=>bQ (eZ ib) λcs=>bQ fk λrev r=>
 some (⟨(k:Int),IntKind.i64.wrap (n:Int),c,us,id,se,ur,sc,wo,te,x,y,mu,no,cs,rev⟩,r)
theorem CE{k:Nat}(h:k<bW):uw (k:Int)=k:=by unfold bW at h;unfold uw;omega
theorem qw:eA iH fI dJ.n8:=⟨λb o r=>by
 unfold iH
 simp only[(gY 255).bQ,lc.bQ,nL.bQ,ed.bQ,kZ.bQ,(gW ed).bQ,(gW jU).bQ,(gW my).bQ]
 constructor
 ·rintro⟨K,b1,⟨rfl,d⟩,U,b2,⟨rfl,B⟩,V,b3,⟨rfl,C⟩,W,b4,⟨rfl,D⟩,X,b5,⟨rfl,E⟩,Y,b6,⟨rfl,F⟩,Z,b7,⟨rfl,G⟩,a8,b8,⟨rfl,H⟩,a9,b9,⟨rfl,I⟩,L,a0,⟨rfl,f⟩,M,b0,⟨rfl,j⟩,N,c0,⟨rfl,p⟩,O,c1,⟨rfl,q⟩,Q,c2,⟨rfl,v⟩,S,c3,⟨rfl,z⟩,T,c4,⟨rfl,A⟩,h⟩
  simp only[acg,ach]at h
  obtain⟨rfl,rfl⟩:=h
  refine⟨by simp only[fI,acf,CE d.1,CF B],⟨⟨by simp only;omega,by simp only;omega⟩,Cj _,C,D,E,F,G,H,I,f,j,p,q,v,z,A⟩⟩
 ·rintro⟨rfl,h⟩
  obtain⟨k,n,cl,us,id,se,ur,sc,wo,te,x,y,mu,no,cs,c5⟩:=o
  have J:=h.k
  simp only at J
  simp only[fI,acf]
  refine⟨_,_,⟨rfl,jK _,by unfold uw;omega⟩,_,_,⟨rfl,jK _⟩,_,_,⟨rfl,h.c⟩,_,_,⟨rfl,h.u⟩,_,_,⟨rfl,h.i⟩,_,_,⟨rfl,h.s⟩,_,_,⟨rfl,h.a⟩,_,_,⟨rfl,h.l⟩,_,_,⟨rfl,h.w⟩,_,_,⟨rfl,h.t⟩,_,_,⟨rfl,h.x⟩,_,_,⟨rfl,h.y⟩,_,_,⟨rfl,h.m⟩,_,_,⟨rfl,h.e⟩,_,_,⟨rfl,h.g⟩,_,_,⟨rfl,h.r⟩,?_⟩
  rw[Ck h.n,show((uw k:Nat):Int)=k by unfold uw;omega]⟩
def hP:dJ:=⟨0,0,⟨⟨#[]⟩,⟨#[]⟩,[],[]⟩,⟨#[]⟩,⟨#[]⟩,⟨#[]⟩,⟨#[]⟩,[],⟨#[]⟩,⟨#[]⟩,[],[],[],[],[],0⟩
end Go.Proofs.YtgppncmdpcefhaaGreatDoor

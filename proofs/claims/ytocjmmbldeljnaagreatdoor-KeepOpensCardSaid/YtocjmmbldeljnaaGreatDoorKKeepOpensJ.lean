/- What the law 'KeepOpens' uses. No condition. -/
import Derived.Test.YtocjmmbldeljnaaGreatDoorKKeepOpensE
import Derived.Test.YtocjmmbldeljnaaGreatDoorKKeepOpensH
import Derived.Test.YtocjmmbldeljnaaGreatDoorKKeepOpensI
set_option linter.unusedSimpArgs false
set_option linter.unusedVariables false
namespace Go.Proofs.YtocjmmbldeljnaaGreatDoor
set_option linter.defProp false
def ac5:=@List.append_assoc
def ac6:=@Option.some.injEq
def ac7:=@Prod.mk.injEq
open Tryz
set_option linter.unusedVariables false
set_option maxRecDepth 4000
theorem vd(v:Value)(xs:List UInt8)(n:Nat)(b R:ao)(h:RS b 1 bS v xs)(f:n<=1000000):
  Spec prog 192 [v,iN n] R [] λu H'=>RS b 1 bS u (xs.take n)/\H'=[]:=by
 have d:=h.le
 have i:=h.ay
 refine Spec.body func192 rfl results192 ntmps192 rfl ?_
 refine .sr<|.ag rfl<|.zs<|.sr<|.mo rfl<|.q (.cv h) ?_
 refine .mo rfl<|.q .gtr<|.zn ?_
 refine .cond rfl (λa=>?_) λa=>?_
 have e:n<xs.length:=fg a
 refine .sr<|.mo rfl<|.mo rfl ?_
 refine .ld 0 n h rfl ⟨_,rfl⟩ (by omega) (by omega) (λj c=>?_)
 have g:=c.ay
 refine .az rfl ?_
 refine .ret (aR (aW rfl ?_))
 ·exact⟨by simpa using c,rfl⟩
 refine .kn<|.sr<|.mo rfl<|.az rfl ?_
 refine .ret (aW rfl ?_)
 ·refine⟨?_,rfl⟩
  rw[List.take_of_length_le (by have:=ba a;omega)]
  exact h
theorem uY(v:Value)(xs:List UInt8)(R:ao)(h:RS R 1 bS v xs)(c:xs.length<=1000000):
  Spec prog 191 [v] R [] λu H'=>∃T,H'=[T]/\OS 5 1 bS u xs T:=by
 have e:=h.ay
 refine Spec.du (H':=[[]]) (by simp) ?_
 refine Spec.body func191 rfl results191 ntmps191 rfl ?_
 refine .sr<|.ag rfl<|.z<|.ag rfl<|.z<|.mo rfl<|.mo rfl ?_
 refine .append (OS.nil (enc:=bS) (sz:=1)) h.rx (by simp;omega) (λf b a=>?_)
 have d:=a.ay
 refine .az rfl ?_
 refine .ret (aO _ (.one (.tmp rfl)) (.one [0] _) ?_)
 ·exact⟨b,by simp[take],by simpa using a⟩
structure OC where
 kind:Int
 n:Int
 cl:bP
 user:ByteArray
 id:ByteArray
 cL:ByteArray
 uri:ByteArray
 scopes:List ByteArray
 word:ByteArray
 text:ByteArray
 a:List UInt8
 r:List UInt8
 rev:Int
structure OV where
 cr:CR
 vs:Value
 va:Value
 vr:Value
def mJ(w:OV)(x:OC):List Value:=[.int .i64 x.kind,.int .i64 x.n,.string w.cr.id,.string w.cr.cL,w.cr.vu,w.cr.vs,.string x.user,.string x.id,.string x.cL,.string x.uri,w.vs,.string x.word,.string x.text,w.va,w.vr,.int .u64 x.rev]
def OR(R:ao)(w:OV)(x:OC):Prop:=eG R w.cr x.cl/\RS R 1 bL w.vs x.scopes/\RS R 1 bS w.va x.a/\RS R 1 bS w.vr x.r
theorem OR.bU{R:ao}{w:OV}{x:OC}(h:OR R w x):∀u∈mJ w x,ay u=true:=by
 have a:=h.1.bU
 have c:=h.2.1.ay.h
 have d:=h.2.2.1.ay.h
 have e:=h.2.2.2.ay.h
 have f:ay w.cr.vu=true:=a _ (by simp[CR.cells])
 have g:ay w.cr.vs=true:=a _ (by simp[CR.cells])
 intro u b
 simp only[mJ,List.mem_cons,List.not_mem_nil,or_false]at b
 rcases b with rfl|rfl|rfl|rfl|rfl|rfl|rfl|rfl|rfl|rfl|rfl|rfl|rfl|rfl|rfl|rfl<;>first|rfl|assumption
def OC.ga(x:OC):OC:=⟨x.kind,x.n,x.cl.short,short x.user 40,short x.id 40,short x.cL 70,short x.uri 210,texts x.scopes 6 40,short x.word 140,short x.text 60,x.a.take 30,x.r.take 30,x.rev⟩
theorem N6(w:OV)(x:OC)(R:ao)(h:OR R w x):Spec prog 97 [.agg (mJ w x).toArray] R [] λv H'=>∃T,H'=[T]/\∃w',v=.agg (mJ w' x.ga).toArray/\OR (sg T) w' x.ga:=by
 have i1:bI (mJ w x):=⟨h.bU⟩
 obtain⟨⟨O,Q,vu,Z⟩,vt,X,Y⟩:=w
 obtain⟨k,n,N,H,I,J,K,S,L,M,B,C,a0⟩:=x
 obtain⟨e,i,f,g⟩:=h
 simp only at e i f g
 have i2:=i.ay
 have i3:=f.ay
 have i4:=g.ay
 have i5:=e.u.ay
 have i6:=e.s.ay
 refine Spec.body func97 rfl results97 ntmps97 rfl ?_
 refine .sr ?_
 refine .cc rfl (λb1=>?_)
 refine .cn (λb2=>?_)
 refine .z<|.fa rfl<|.q (.loadT rfl) ?_
 refine .bM (Ac ⟨O,Q,vu,Z⟩ N _ (e.mono λb o c=>.inl c)) (λu D a=>?_)
 obtain⟨⟨r,t,A,y⟩,rfl,d⟩:=a
 have i7:=d.u.ay
 have i8:=d.s.ay
 have i9:bI (CR.cells ⟨r,t,A,y⟩):=⟨d.bU⟩
 refine .fa rfl<|.bZ rfl rfl<|.zs<|.cq [19,21,23,25,27,29] mixed ?_
 refine .tO 0 rfl (.fieldAddr rfl)<|.tO 1 rfl (.bo rfl)<|.tO 3 rfl (.fieldAddr rfl)<|.tO 4 rfl (.bo rfl)<|.tO 6 rfl (.fieldAddr rfl)<|.tO 7 rfl (.bo rfl)<|.tO 9 rfl (.fieldAddr rfl)<|.tO 10 rfl (.bo rfl)<|.tO 12 rfl (.fieldAddr rfl)<|.tO 13 rfl (.bo rfl)<|.tO 15 rfl (.fieldAddr rfl)<|.tO 16 rfl (.bo rfl) ?_
 refine .sT 2 rfl ?_
 refine .aH (gZ H 40 _) (λu a=>?_)
 subst a
 refine .nil (Next.sub ?_)
 refine .tO 18 rfl (.fieldAddr rfl) ?_
 refine .sT 5 rfl ?_
 refine .aH (gZ I 40 _) (λu a=>?_)
 subst a
 refine .nil (Next.sub ?_)
 refine .sT 8 rfl ?_
 refine .aH (gZ J 70 _) (λu a=>?_)
 subst a
 refine .nil (Next.sub ?_)
 refine .sT 11 rfl ?_
 refine .aH (gZ K 210 _) (λu a=>?_)
 subst a
 refine .nil (Next.sub ?_)
 refine .sT 14 rfl ?_
 refine .aH (gZ L 140 _) (λu a=>?_)
 subst a
 refine .nil (Next.sub ?_)
 refine .sT 17 rfl ?_
 refine .aH (gZ M 60 _) (λu a=>?_)
 subst a
 refine .nil (Next.sub ?_)
 refine .sT 19 rfl ?_
 refine .ca rfl rfl ?_
 refine .nil (Next.mod rfl ?_)
 refine .tK 20 rfl (.dU rfl) ?_
 refine .sT 21 rfl ?_
 refine .ca rfl rfl ?_
 refine .nil (Next.mod rfl ?_)
 refine .tK 22 rfl (.dU rfl) ?_
 refine .sT 23 rfl ?_
 refine .ca rfl rfl ?_
 refine .nil (Next.mod rfl ?_)
 refine .tK 24 rfl (.dU rfl) ?_
 refine .sT 25 rfl ?_
 refine .ca rfl rfl ?_
 refine .nil (Next.mod rfl ?_)
 refine .tK 26 rfl (.dU rfl) ?_
 refine .sT 27 rfl ?_
 refine .ca rfl rfl ?_
 refine .nil (Next.mod rfl ?_)
 refine .tK 28 rfl (.dU rfl) ?_
 refine .sT 29 rfl ?_
 refine .ca rfl rfl ?_
 refine .nil (Next.mod rfl ?_)
 refine RA.nil (by kernel_rfl) ?_
 refine aG<|.sr<|.fa rfl<|.lo rfl ?_
 refine .bM (tU vt S 6 40 (by omega) _ i.rx) (λU E j=>?_)
 have j2:=j.ay
 refine .fa rfl<|.ca rfl rfl<|.zs<|.cq [9,11] mixed ?_
 refine .tO 0 rfl (.fieldAddr rfl)<|.tO 1 rfl (.bo rfl)<|.tO 4 rfl (.fieldAddr rfl)<|.tO 5 rfl (.bo rfl) ?_
 refine .sT 2 rfl ?_
 refine .aH (vd X B 30 R _ f (by omega)) (λu a=>?_)
 have j3:=a.ay
 refine .nil (Next.sub ?_)
 refine .sT 3 rfl ?_
 refine .bM (uY _ (B.take 30) _ a.rx (by simp;omega)) (λV F l=>?_)
 have j4:=l.ay
 refine .nil (Next.sub ?_)
 refine .tO 8 rfl (.fieldAddr rfl) ?_
 refine .sT 6 rfl ?_
 refine .aH (vd Y C 30 R _ g (by omega)) (λu2 p=>?_)
 have j5:=p.ay
 refine .nil (Next.sub ?_)
 refine .sT 7 rfl ?_
 refine .bM (uY _ (C.take 30) _ p.rx (by simp;omega)) (λW G m=>?_)
 have j6:=m.ay
 refine .nil (Next.sub ?_)
 refine .sT 9 rfl ?_
 refine .ca rfl rfl ?_
 refine .nil (Next.mod rfl ?_)
 refine .tK 10 rfl (.dU rfl) ?_
 refine .sT 11 rfl ?_
 refine .ca rfl rfl ?_
 refine .nil (Next.mod rfl ?_)
 refine RA.nil (by kernel_rfl) ?_
 refine aG<|.sr<|.q (.bj rfl)<|.bZ rfl rfl<|.zn ?_
 refine .ret (aO _ (.one (.ej rfl rfl)) (.one [0,0,0,0] _) ?_)
 ·exact⟨G++(F++(E++D)),by simp[take,bf],⟨⟨r,t,A,y⟩,U,V,W⟩,rfl,d.mono λb o c=>lO (lO (lO c)),j.sg.mono λb o c=>lO (lO (og c)),l.sg.mono λb o c=>lO (og c),m.sg.mono λb o c=>og c⟩
set_option linter.unusedSimpArgs false
def uw(z:Int):Nat:=(z % 18446744073709551616).toNat
theorem rk(z:Int):uw z<cm:=by unfold uw cm;omega
theorem yX(z:Int):IntKind.u64.wrap z=(uw z:Int):=by
 simp[IntKind.wrap,IntKind.bits,IntKind.signed,uw]
 omega
theorem PY{z:Int}(h: -9223372036854775808<=z/\z<=9223372036854775807):IntKind.i64.wrap (uw z:Int)=z:=by
 simp only[IntKind.wrap,IntKind.bits,IntKind.signed,uw]
 simp
 omega
theorem Qn{n:Nat}(h:n<cm):uw (IntKind.i64.wrap (n:Int))=n:=by
 unfold cm at h
 simp only[IntKind.wrap,IntKind.bits,IntKind.signed,uw]
 simp
 omega
theorem PX(n:Int): -9223372036854775808<=IntKind.i64.wrap n/\IntKind.i64.wrap n<=9223372036854775807:=by
 simp only[IntKind.wrap,IntKind.bits,IntKind.signed]
 simp
 omega
def aZ.f31(t:aZ):Prop:=t.os.size<=2147483647/\t.oi.size<=2147483647/\t.rel.size<=2147483647/\t.us.size<=2147483647/\t.ss.size<=2147483647/\t.si.size<=2147483647/\t.sr.size<=2147483647
def fA(t:aZ):List UInt8:=dF t.os++dF t.oi++dF t.rel++dF t.us++dF t.ss++dF t.si++dF t.sr
def kF:List UInt8->Option (aZ×List UInt8):=bX eZ λa=>bX eZ λb=>bX eZ λc=>bX eZ λd=>bX eZ λe=>bX eZ λf=>bX eZ λg r=>some (⟨a,b,c,d,e,f,g⟩,r)
theorem oU:fX kF fA aZ.f31:=⟨λb t r=>by
 unfold kF
 simp only[fF.bX]
 constructor
 ·rintro⟨j,q,⟨rfl,a⟩,k,s,⟨rfl,c⟩,l,u,⟨rfl,d⟩,m,v,⟨rfl,e⟩,n,w,⟨rfl,f⟩,o,x,⟨rfl,g⟩,p,y,⟨rfl,i⟩,h⟩
  simp only[ac6,ac7]at h
  obtain⟨rfl,rfl⟩:=h
  exact⟨by simp only[fA,ac5],a,c,d,e,f,g,i⟩
 ·rintro⟨rfl,a,c,d,e,f,g,i⟩
  simp only[fA,ac5]
  exact⟨_,_,⟨rfl,a⟩,_,_,⟨rfl,c⟩,_,_,⟨rfl,d⟩,_,_,⟨rfl,e⟩,_,_,⟨rfl,f⟩,_,_,⟨rfl,g⟩,_,_,⟨rfl,i⟩,rfl⟩⟩
def iY(c:cj):List UInt8:=th c.put++fA c.t
def lK:List UInt8->Option (cj×List UInt8):=bX nX λp=>bX kF λt r=>some (⟨p,t⟩,r)
theorem rQ:fX lK iY λc=>c.t.f31:=⟨λb t r=>by
 unfold lK
 simp only[uU.bX,oU.bX]
 constructor
 ·rintro⟨e,g,⟨rfl,a⟩,f,i,⟨rfl,d⟩,h⟩
  simp only[ac6,ac7]at h
  obtain⟨rfl,rfl⟩:=h
  exact⟨by simp only[iY,ac5],d⟩
 ·rintro⟨rfl,a⟩
  simp only[iY,ac5]
  exact⟨_,_,⟨rfl,trivial⟩,_,_,⟨rfl,a⟩,rfl⟩⟩
def bP.f31(c:bP):Prop:=c.id.size<=2147483647/\c.cL.size<=2147483647/\(c.cg.length<=4096/\∀s∈c.cg,s.size<=2147483647)/\c.scopes.length<=4096/\∀s∈c.scopes,s.size<=2147483647
def lI(c:bP):List UInt8:=dF c.id++dF c.cL++eC dF c.cg++eC dF c.scopes
def pD:List UInt8->Option (bP×List UInt8):=bX eZ λa=>bX eZ λb=>bX (iq eZ) λc=>bX (iq eZ) λd r=>some (⟨a,b,c,d⟩,r)
theorem uT:fX pD lI bP.f31:=⟨λb t r=>by
 unfold pD
 simp only[fF.bX,(lu fF).bX]
 constructor
 ·rintro⟨f,k,⟨rfl,a⟩,g,l,⟨rfl,c⟩,i,m,⟨rfl,d⟩,j,n,⟨rfl,e⟩,h⟩
  simp only[ac6,ac7]at h
  obtain⟨rfl,rfl⟩:=h
  exact⟨by simp only[lI,ac5],a,c,d,e⟩
 ·rintro⟨rfl,a,c,d,e⟩
  simp only[lI,ac5]
  exact⟨_,_,⟨rfl,a⟩,_,_,⟨rfl,c⟩,_,_,⟨rfl,d⟩,_,_,⟨rfl,e⟩,rfl⟩⟩
structure eT where
 kind:Int
 n:Int
 cl:bP
 user:ByteArray
 id:ByteArray
 cL:ByteArray
 uri:ByteArray
 scopes:List ByteArray
 word:ByteArray
 text:ByteArray
 x:List UInt8
 y:List UInt8
 cS:List aZ
 no:List aZ
 cs:List cj
 rev:Nat
def fG(o:eT):List UInt8:=put (uw o.kind)++put (uw o.n)++lI o.cl++dF o.user++dF o.id++dF o.cL++dF o.uri++eC dF o.scopes++dF o.word++dF o.text++jJ o.x++jJ o.y++eC fA o.cS++eC fA o.no++eC iY o.cs++put o.rev
structure eT.Mw(o:eT):Prop where
 k:0<=o.kind/\o.kind<=255
 n: -9223372036854775808<=o.n/\o.n<=9223372036854775807
 c:o.cl.f31
 u:o.user.size<=2147483647
 i:o.id.size<=2147483647
 s:o.cL.size<=2147483647
 a:o.uri.size<=2147483647
 l:o.scopes.length<=4096/\∀s∈o.scopes,s.size<=2147483647
 w:o.word.size<=2147483647
 t:o.text.size<=2147483647
 x:o.x.length<=2147483647
 y:o.y.length<=2147483647
 m:o.cS.length<=4096/\∀t∈o.cS,t.f31
 e:o.no.length<=4096/\∀t∈o.no,t.f31
 g:o.cs.length<=4096/\∀c∈o.cs,c.t.f31
 r:o.rev<cm
def lL:List UInt8->Option (eT×List UInt8):=bX (iZ 255) λk=>bX gY λn=>bX pD λc=>bX eZ λus=>bX eZ λid=>bX eZ λse=>bX eZ λur=>bX (iq eZ) λsc=>bX eZ λwo=>bX eZ λte=>bX mj λx=>bX mj λy=>bX (iq kF) λmu=>bX (iq kF) λno=>bX (iq lK) λcs=>bX gY λrev r=>
 some (⟨(k:Int),IntKind.i64.wrap (n:Int),c,us,id,se,ur,sc,wo,te,x,y,mu,no,cs,rev⟩,r)
theorem Qm{k:Nat}(h:k<cm):uw (k:Int)=k:=by unfold cm at h;unfold uw;omega
theorem z5:fX lL fG eT.Mw:=⟨λb o r=>by
 unfold lL
 simp only[(kR 255).bX,oV.bX,uT.bX,fF.bX,qb.bX,(lu fF).bX,(lu oU).bX,(lu rQ).bX]
 constructor
 ·rintro⟨K,b1,⟨rfl,d⟩,U,b2,⟨rfl,B⟩,V,b3,⟨rfl,C⟩,W,b4,⟨rfl,D⟩,X,b5,⟨rfl,E⟩,Y,b6,⟨rfl,F⟩,Z,b7,⟨rfl,G⟩,a8,b8,⟨rfl,H⟩,a9,b9,⟨rfl,I⟩,L,a0,⟨rfl,f⟩,M,b0,⟨rfl,j⟩,N,c0,⟨rfl,p⟩,O,c1,⟨rfl,q⟩,Q,c2,⟨rfl,v⟩,S,c3,⟨rfl,z⟩,T,c4,⟨rfl,A⟩,h⟩
  simp only[ac6,ac7]at h
  obtain⟨rfl,rfl⟩:=h
  refine⟨by simp only[fG,ac5,Qm d.1,Qn B],⟨⟨by simp only;omega,by simp only;omega⟩,PX _,C,D,E,F,G,H,I,f,j,p,q,v,z,A⟩⟩
 ·rintro⟨rfl,h⟩
  obtain⟨k,n,cl,us,id,se,ur,sc,wo,te,x,y,mu,no,cs,c5⟩:=o
  have J:=h.k
  simp only at J
  simp only[fG,ac5]
  refine⟨_,_,⟨rfl,rk _,by unfold uw;omega⟩,_,_,⟨rfl,rk _⟩,_,_,⟨rfl,h.c⟩,_,_,⟨rfl,h.u⟩,_,_,⟨rfl,h.i⟩,_,_,⟨rfl,h.s⟩,_,_,⟨rfl,h.a⟩,_,_,⟨rfl,h.l⟩,_,_,⟨rfl,h.w⟩,_,_,⟨rfl,h.t⟩,_,_,⟨rfl,h.x⟩,_,_,⟨rfl,h.y⟩,_,_,⟨rfl,h.m⟩,_,_,⟨rfl,h.e⟩,_,_,⟨rfl,h.g⟩,_,_,⟨rfl,h.r⟩,?_⟩
  rw[PY h.n,show((uw k:Nat):Int)=k by unfold uw;omega]⟩
def mR:eT:=⟨0,0,⟨⟨#[]⟩,⟨#[]⟩,[],[]⟩,⟨#[]⟩,⟨#[]⟩,⟨#[]⟩,⟨#[]⟩,[],⟨#[]⟩,⟨#[]⟩,[],[],[],[],[],0⟩
def aZ.short(t:aZ):aZ:=⟨Go.Proofs.YtocjmmbldeljnaaGreatDoor.short t.os 40,Go.Proofs.YtocjmmbldeljnaaGreatDoor.short t.oi 40,Go.Proofs.YtocjmmbldeljnaaGreatDoor.short t.rel 40,Go.Proofs.YtocjmmbldeljnaaGreatDoor.short t.us 40,Go.Proofs.YtocjmmbldeljnaaGreatDoor.short t.ss 40,Go.Proofs.YtocjmmbldeljnaaGreatDoor.short t.si 40,Go.Proofs.YtocjmmbldeljnaaGreatDoor.short t.sr 40⟩
def cj.short(c:cj):cj:=⟨c.put,c.t.short⟩
def eT.ga(o:eT):eT:=⟨o.kind,o.n,o.cl.short,short o.user 40,short o.id 40,short o.cL 70,short o.uri 210,texts o.scopes 6 40,short o.word 140,short o.text (if o.kind=11 then 900 else 60),o.x.take 30,o.y.take 30,(o.cS.take 34).map aZ.short,(o.no.take 34).map aZ.short,(o.cs.take 34).map cj.short,o.rev⟩
end Go.Proofs.YtocjmmbldeljnaaGreatDoor

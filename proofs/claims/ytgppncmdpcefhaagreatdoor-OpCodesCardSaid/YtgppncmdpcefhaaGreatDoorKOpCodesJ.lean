/- What the law 'OpCodes' uses. No condition. -/
import Derived.Test.YtgppncmdpcefhaaGreatDoorKOpCodesE
import Derived.Test.YtgppncmdpcefhaaGreatDoorKOpCodesH
import Derived.Test.YtgppncmdpcefhaaGreatDoorKOpCodesI
namespace Go.Proofs.YtgppncmdpcefhaaGreatDoor
set_option linter.defProp false
def acg:=@Nat.le_trans
def ach:=@List.append_assoc
def aci:=@List.length_append
def acj:=@List.mem_map
def ack:=@Option.some.injEq
def acm:=@Prod.mk.injEq
open Tryz
set_option linter.unusedVariables false
set_option maxRecDepth 4000
theorem oH(v:Value)(xs:List UInt8)(n:Nat)(b R:aC)(h:RS b 1 ca v xs)(f:n<=1000000):
  Spec prog 14 [v,iN n] R [] λu H'=>RS b 1 ca u (xs.take n)/\H'=[]:=by
 have d:=h.le
 have i:=h.aB
 refine Spec.body func14 rfl results14 ntmps14 rfl ?_
 refine .sr<|.ag rfl<|.zs<|.sr<|.mo rfl<|.q (.db h) ?_
 refine .mo rfl<|.q .gtr<|.zn ?_
 refine .cond rfl (λa=>?_) λa=>?_
 have e:n<xs.length:=cS a
 refine .sr<|.mo rfl<|.mo rfl ?_
 refine .iK 0 n h rfl ⟨_,rfl⟩ (by omega) (by omega) (λj c=>?_)
 have g:=c.aB
 refine .az rfl ?_
 refine .ret (bs (cw rfl ?_))
 ·exact⟨by simpa using c,rfl⟩
 refine .kn<|.sr<|.mo rfl<|.az rfl ?_
 refine .ret (cw rfl ?_)
 ·refine⟨?_,rfl⟩
  rw[List.take_of_length_le (by have:=aZ a;omega)]
  exact h
theorem oG(v:Value)(xs:List UInt8)(R:aC)(h:RS R 1 ca v xs)(c:xs.length<=1000000):
  Spec prog 15 [v] R [] λu H'=>∃T,H'=[T]/\OS 5 1 ca u xs T:=by
 have e:=h.aB
 refine Spec.ej (H':=[[]]) (by simp) ?_
 refine Spec.body func15 rfl results15 ntmps15 rfl ?_
 refine .sr<|.ag rfl<|.z<|.ag rfl<|.z<|.mo rfl<|.mo rfl ?_
 refine .append (OS.nil (enc:=ca) (sz:=1)) h.rx (by simp;omega) (λf b a=>?_)
 have d:=a.aB
 refine .az rfl ?_
 refine .ret (ba _ (.one (.tmp rfl)) (.one [0] _) ?_)
 ·exact⟨b,by simp[take],by simpa using a⟩
structure OC where
 kind:Int
 n:Int
 cl:cU
 user:ByteArray
 id:ByteArray
 dc:ByteArray
 uri:ByteArray
 scopes:List ByteArray
 word:ByteArray
 text:ByteArray
 a:List UInt8
 r:List UInt8
 rev:Int
structure OV where
 cr:CR
 vs:Value
 va:Value
 vr:Value
def jt(w:OV)(x:OC):List Value:=[.int .i64 x.kind,.int .i64 x.n,.string w.cr.id,.string w.cr.dc,w.cr.vu,w.cr.vs,.string x.user,.string x.id,.string x.dc,.string x.uri,w.vs,.string x.word,.string x.text,w.va,w.vr,.int .u64 x.rev]
def OR(R:aC)(w:OV)(x:OC):Prop:=ek R w.cr x.cl/\RS R 1 cR w.vs x.scopes/\RS R 1 ca w.va x.a/\RS R 1 ca w.vr x.r
theorem OR.cL{R:aC}{w:OV}{x:OC}(h:OR R w x):∀u∈jt w x,aB u=true:=by
 have a:=h.1.cL
 have c:=h.2.1.aB.h
 have d:=h.2.2.1.aB.h
 have e:=h.2.2.2.aB.h
 have f:aB w.cr.vu=true:=a _ (by simp[CR.cells])
 have g:aB w.cr.vs=true:=a _ (by simp[CR.cells])
 intro u b
 simp only[jt,List.mem_cons,List.not_mem_nil,or_false]at b
 rcases b with rfl|rfl|rfl|rfl|rfl|rfl|rfl|rfl|rfl|rfl|rfl|rfl|rfl|rfl|rfl|rfl<;>first|rfl|assumption
def OC.cd(x:OC):OC:=⟨x.kind,x.n,x.cl.short,short x.user 40,short x.id 40,short x.dc 70,short x.uri 210,texts x.scopes 6 40,short x.word 140,short x.text 60,x.a.take 30,x.r.take 30,x.rev⟩
theorem Dk(w:OV)(x:OC)(R:aC)(h:OR R w x):Spec prog 50 [.agg (jt w x).toArray] R [] λv H'=>∃T,H'=[T]/\∃w',v=.agg (jt w' x.cd).toArray/\OR (sg T) w' x.cd:=by
 have i1:cq (jt w x):=⟨h.cL⟩
 obtain⟨⟨O,Q,vu,Z⟩,vt,X,Y⟩:=w
 obtain⟨k,n,N,H,I,J,K,S,L,M,B,C,a0⟩:=x
 obtain⟨e,i,f,g⟩:=h
 simp only at e i f g
 have i2:=i.aB
 have i3:=f.aB
 have i4:=g.aB
 have i5:=e.u.aB
 have i6:=e.s.aB
 refine Spec.body func50 rfl results50 ntmps50 rfl ?_
 refine .sr ?_
 refine .cK rfl (λb1=>?_)
 refine .cZ (λb2=>?_)
 refine .z<|.fa rfl<|.q (.loadT rfl) ?_
 refine .bS (r0 ⟨O,Q,vu,Z⟩ N _ (e.mono λb o c=>.inl c)) (λu D a=>?_)
 obtain⟨⟨r,t,A,y⟩,rfl,d⟩:=a
 have i7:=d.u.aB
 have i8:=d.s.aB
 have i9:cq (CR.cells ⟨r,t,A,y⟩):=⟨d.cL⟩
 refine .fa rfl<|.cW rfl rfl<|.zs<|.bK [19,21,23,25,27,29] mixed ?_
 refine .tO 0 rfl (.fieldAddr rfl)<|.tO 1 rfl (.bN rfl)<|.tO 3 rfl (.fieldAddr rfl)<|.tO 4 rfl (.bN rfl)<|.tO 6 rfl (.fieldAddr rfl)<|.tO 7 rfl (.bN rfl)<|.tO 9 rfl (.fieldAddr rfl)<|.tO 10 rfl (.bN rfl)<|.tO 12 rfl (.fieldAddr rfl)<|.tO 13 rfl (.bN rfl)<|.tO 15 rfl (.fieldAddr rfl)<|.tO 16 rfl (.bN rfl) ?_
 refine .sT 2 rfl ?_
 refine .br (fj H 40 _) (λu a=>?_)
 subst a
 refine .nil (Next.sub ?_)
 refine .tO 18 rfl (.fieldAddr rfl) ?_
 refine .sT 5 rfl ?_
 refine .br (fj I 40 _) (λu a=>?_)
 subst a
 refine .nil (Next.sub ?_)
 refine .sT 8 rfl ?_
 refine .br (fj J 70 _) (λu a=>?_)
 subst a
 refine .nil (Next.sub ?_)
 refine .sT 11 rfl ?_
 refine .br (fj K 210 _) (λu a=>?_)
 subst a
 refine .nil (Next.sub ?_)
 refine .sT 14 rfl ?_
 refine .br (fj L 140 _) (λu a=>?_)
 subst a
 refine .nil (Next.sub ?_)
 refine .sT 17 rfl ?_
 refine .br (fj M 60 _) (λu a=>?_)
 subst a
 refine .nil (Next.sub ?_)
 refine .sT 19 rfl ?_
 refine .cv rfl rfl ?_
 refine .nil (Next.mod rfl ?_)
 refine .tK 20 rfl (.dB rfl) ?_
 refine .sT 21 rfl ?_
 refine .cv rfl rfl ?_
 refine .nil (Next.mod rfl ?_)
 refine .tK 22 rfl (.dB rfl) ?_
 refine .sT 23 rfl ?_
 refine .cv rfl rfl ?_
 refine .nil (Next.mod rfl ?_)
 refine .tK 24 rfl (.dB rfl) ?_
 refine .sT 25 rfl ?_
 refine .cv rfl rfl ?_
 refine .nil (Next.mod rfl ?_)
 refine .tK 26 rfl (.dB rfl) ?_
 refine .sT 27 rfl ?_
 refine .cv rfl rfl ?_
 refine .nil (Next.mod rfl ?_)
 refine .tK 28 rfl (.dB rfl) ?_
 refine .sT 29 rfl ?_
 refine .cv rfl rfl ?_
 refine .nil (Next.mod rfl ?_)
 refine RA.nil (by kernel_rfl) ?_
 refine aF<|.sr<|.fa rfl<|.lo rfl ?_
 refine .bS (nY vt S 6 40 (by omega) _ i.rx) (λU E j=>?_)
 have j2:=j.aB
 refine .fa rfl<|.cv rfl rfl<|.zs<|.bK [9,11] mixed ?_
 refine .tO 0 rfl (.fieldAddr rfl)<|.tO 1 rfl (.bN rfl)<|.tO 4 rfl (.fieldAddr rfl)<|.tO 5 rfl (.bN rfl) ?_
 refine .sT 2 rfl ?_
 refine .br (oH X B 30 R _ f (by omega)) (λu a=>?_)
 have j3:=a.aB
 refine .nil (Next.sub ?_)
 refine .sT 3 rfl ?_
 refine .bS (oG _ (B.take 30) _ a.rx (by simp;omega)) (λV F l=>?_)
 have j4:=l.aB
 refine .nil (Next.sub ?_)
 refine .tO 8 rfl (.fieldAddr rfl) ?_
 refine .sT 6 rfl ?_
 refine .br (oH Y C 30 R _ g (by omega)) (λu2 p=>?_)
 have j5:=p.aB
 refine .nil (Next.sub ?_)
 refine .sT 7 rfl ?_
 refine .bS (oG _ (C.take 30) _ p.rx (by simp;omega)) (λW G m=>?_)
 have j6:=m.aB
 refine .nil (Next.sub ?_)
 refine .sT 9 rfl ?_
 refine .cv rfl rfl ?_
 refine .nil (Next.mod rfl ?_)
 refine .tK 10 rfl (.dB rfl) ?_
 refine .sT 11 rfl ?_
 refine .cv rfl rfl ?_
 refine .nil (Next.mod rfl ?_)
 refine RA.nil (by kernel_rfl) ?_
 refine aF<|.sr<|.q (.aD rfl)<|.cW rfl rfl<|.zn ?_
 refine .ret (ba _ (.one (.fk rfl rfl)) (.one [0,0,0,0] _) ?_)
 ·exact⟨G++(F++(E++D)),by simp[take,bF],⟨⟨r,t,A,y⟩,U,V,W⟩,rfl,d.mono λb o c=>jD (jD (jD c)),j.sg.mono λb o c=>jD (jD (my c)),l.sg.mono λb o c=>jD (my c),m.sg.mono λb o c=>my c⟩
def uw(z:Int):Nat:=(z % 18446744073709551616).toNat
theorem jh(z:Int):uw z<bP:=by unfold uw bP;omega
theorem mH(z:Int):IntKind.u64.wrap z=(uw z:Int):=by
 simp[IntKind.wrap,IntKind.bits,IntKind.signed,uw]
 omega
theorem Es{z:Int}(h: -9223372036854775808<=z/\z<=9223372036854775807):IntKind.i64.wrap (uw z:Int)=z:=by
 simp only[IntKind.wrap,IntKind.bits,IntKind.signed,uw]
 simp
 omega
theorem EO{n:Nat}(h:n<bP):uw (IntKind.i64.wrap (n:Int))=n:=by
 unfold bP at h
 simp only[IntKind.wrap,IntKind.bits,IntKind.signed,uw]
 simp
 omega
theorem Er(n:Int): -9223372036854775808<=IntKind.i64.wrap n/\IntKind.i64.wrap n<=9223372036854775807:=by
 simp only[IntKind.wrap,IntKind.bits,IntKind.signed]
 simp
 omega
def bc.f31(t:bc):Prop:=t.os.size<=2147483647/\t.oi.size<=2147483647/\t.rel.size<=2147483647/\t.us.size<=2147483647/\t.ss.size<=2147483647/\t.si.size<=2147483647/\t.sr.size<=2147483647
def cH(t:bc):List UInt8:=cf t.os++cf t.oi++cf t.rel++cf t.us++cf t.ss++cf t.si++cf t.sr
def gC:List UInt8->Option (bc×List UInt8):=bT dP λa=>bT dP λb=>bT dP λc=>bT dP λd=>bT dP λe=>bT dP λf=>bT dP λg r=>some (⟨a,b,c,d,e,f,g⟩,r)
theorem kz:eI gC cH bc.f31:=⟨λb t r=>by
 unfold gC
 simp only[et.bT]
 constructor
 ·rintro⟨j,q,⟨rfl,a⟩,k,s,⟨rfl,c⟩,l,u,⟨rfl,d⟩,m,v,⟨rfl,e⟩,n,w,⟨rfl,f⟩,o,x,⟨rfl,g⟩,p,y,⟨rfl,i⟩,h⟩
  simp only[ack,acm]at h
  obtain⟨rfl,rfl⟩:=h
  exact⟨by simp only[cH,ach],a,c,d,e,f,g,i⟩
 ·rintro⟨rfl,a,c,d,e,f,g,i⟩
  simp only[cH,ach]
  exact⟨_,_,⟨rfl,a⟩,_,_,⟨rfl,c⟩,_,_,⟨rfl,d⟩,_,_,⟨rfl,e⟩,_,_,⟨rfl,f⟩,_,_,⟨rfl,g⟩,_,_,⟨rfl,i⟩,rfl⟩⟩
def dG(c:cg):List UInt8:=kc c.put++cH c.t
def iF:List UInt8->Option (cg×List UInt8):=bT kg λp=>bT gC λt r=>some (⟨p,t⟩,r)
theorem mV:eI iF dG λc=>c.t.f31:=⟨λb t r=>by
 unfold iF
 simp only[oF.bT,kz.bT]
 constructor
 ·rintro⟨e,g,⟨rfl,a⟩,f,i,⟨rfl,d⟩,h⟩
  simp only[ack,acm]at h
  obtain⟨rfl,rfl⟩:=h
  exact⟨by simp only[dG,ach],d⟩
 ·rintro⟨rfl,a⟩
  simp only[dG,ach]
  exact⟨_,_,⟨rfl,trivial⟩,_,_,⟨rfl,a⟩,rfl⟩⟩
def cU.f31(c:cU):Prop:=c.id.size<=2147483647/\c.dc.size<=2147483647/\(c.gn.length<=4096/\∀s∈c.gn,s.size<=2147483647)/\c.scopes.length<=4096/\∀s∈c.scopes,s.size<=2147483647
def fi(c:cU):List UInt8:=cf c.id++cf c.dc++cD cf c.gn++cD cf c.scopes
def kY:List UInt8->Option (cU×List UInt8):=bT dP λa=>bT dP λb=>bT (fq dP) λc=>bT (fq dP) λd r=>some (⟨a,b,c,d⟩,r)
theorem oE:eI kY fi cU.f31:=⟨λb t r=>by
 unfold kY
 simp only[et.bT,(hZ et).bT]
 constructor
 ·rintro⟨f,k,⟨rfl,a⟩,g,l,⟨rfl,c⟩,i,m,⟨rfl,d⟩,j,n,⟨rfl,e⟩,h⟩
  simp only[ack,acm]at h
  obtain⟨rfl,rfl⟩:=h
  exact⟨by simp only[fi,ach],a,c,d,e⟩
 ·rintro⟨rfl,a,c,d,e⟩
  simp only[fi,ach]
  exact⟨_,_,⟨rfl,a⟩,_,_,⟨rfl,c⟩,_,_,⟨rfl,d⟩,_,_,⟨rfl,e⟩,rfl⟩⟩
structure cC where
 kind:Int
 n:Int
 cl:cU
 user:ByteArray
 id:ByteArray
 dc:ByteArray
 uri:ByteArray
 scopes:List ByteArray
 word:ByteArray
 text:ByteArray
 x:List UInt8
 y:List UInt8
 cj:List bc
 no:List bc
 cs:List cg
 rev:Nat
def fR(o:cC):List UInt8:=put (uw o.kind)++put (uw o.n)++fi o.cl++cf o.user++cf o.id++cf o.dc++cf o.uri++cD cf o.scopes++cf o.word++cf o.text++ei o.x++ei o.y++cD cH o.cj++cD cH o.no++cD dG o.cs++put o.rev
structure cC.nj(o:cC):Prop where
 k:0<=o.kind/\o.kind<=255
 n: -9223372036854775808<=o.n/\o.n<=9223372036854775807
 c:o.cl.f31
 u:o.user.size<=2147483647
 i:o.id.size<=2147483647
 s:o.dc.size<=2147483647
 a:o.uri.size<=2147483647
 l:o.scopes.length<=4096/\∀s∈o.scopes,s.size<=2147483647
 w:o.word.size<=2147483647
 t:o.text.size<=2147483647
 x:o.x.length<=2147483647
 y:o.y.length<=2147483647
 m:o.cj.length<=4096/\∀t∈o.cj,t.f31
 e:o.no.length<=4096/\∀t∈o.no,t.f31
 g:o.cs.length<=4096/\∀c∈o.cs,c.t.f31
 r:o.rev<bP
def iG:List UInt8->Option (cC×List UInt8):=bT (fW 255) λk=>bT fA λn=>bT kY λc=>bT dP λus=>bT dP λid=>bT dP λse=>bT dP λur=>bT (fq dP) λsc=>bT dP λwo=>bT dP λte=>bT jd λx=>bT jd λy=>bT (fq gC) λmu=>bT (fq gC) λno=>bT (fq iF) λcs=>bT fA λrev r=>
 some (⟨(k:Int),IntKind.i64.wrap (n:Int),c,us,id,se,ur,sc,wo,te,x,y,mu,no,cs,rev⟩,r)
theorem EN{k:Nat}(h:k<bP):uw (k:Int)=k:=by unfold bP at h;unfold uw;omega
theorem rT:eI iG fR cC.nj:=⟨λb o r=>by
 unfold iG
 simp only[(ie 255).bT,lH.bT,oE.bT,et.bT,lG.bT,(hZ et).bT,(hZ kz).bT,(hZ mV).bT]
 constructor
 ·rintro⟨K,b1,⟨rfl,d⟩,U,b2,⟨rfl,B⟩,V,b3,⟨rfl,C⟩,W,b4,⟨rfl,D⟩,X,b5,⟨rfl,E⟩,Y,b6,⟨rfl,F⟩,Z,b7,⟨rfl,G⟩,a8,b8,⟨rfl,H⟩,a9,b9,⟨rfl,I⟩,L,a0,⟨rfl,f⟩,M,b0,⟨rfl,j⟩,N,c0,⟨rfl,p⟩,O,c1,⟨rfl,q⟩,Q,c2,⟨rfl,v⟩,S,c3,⟨rfl,z⟩,T,c4,⟨rfl,A⟩,h⟩
  simp only[ack,acm]at h
  obtain⟨rfl,rfl⟩:=h
  refine⟨by simp only[fR,ach,EN d.1,EO B],⟨⟨by simp only;omega,by simp only;omega⟩,Er _,C,D,E,F,G,H,I,f,j,p,q,v,z,A⟩⟩
 ·rintro⟨rfl,h⟩
  obtain⟨k,n,cl,us,id,se,ur,sc,wo,te,x,y,mu,no,cs,c5⟩:=o
  have J:=h.k
  simp only at J
  simp only[fR,ach]
  refine⟨_,_,⟨rfl,jh _,by unfold uw;omega⟩,_,_,⟨rfl,jh _⟩,_,_,⟨rfl,h.c⟩,_,_,⟨rfl,h.u⟩,_,_,⟨rfl,h.i⟩,_,_,⟨rfl,h.s⟩,_,_,⟨rfl,h.a⟩,_,_,⟨rfl,h.l⟩,_,_,⟨rfl,h.w⟩,_,_,⟨rfl,h.t⟩,_,_,⟨rfl,h.x⟩,_,_,⟨rfl,h.y⟩,_,_,⟨rfl,h.m⟩,_,_,⟨rfl,h.e⟩,_,_,⟨rfl,h.g⟩,_,_,⟨rfl,h.r⟩,?_⟩
  rw[Es h.n,show((uw k:Nat):Int)=k by unfold uw;omega]⟩
def jz:cC:=⟨0,0,⟨⟨#[]⟩,⟨#[]⟩,[],[]⟩,⟨#[]⟩,⟨#[]⟩,⟨#[]⟩,⟨#[]⟩,[],⟨#[]⟩,⟨#[]⟩,[],[],[],[],[],0⟩
def bc.short(t:bc):bc:=⟨Go.Proofs.YtgppncmdpcefhaaGreatDoor.short t.os 40,Go.Proofs.YtgppncmdpcefhaaGreatDoor.short t.oi 40,Go.Proofs.YtgppncmdpcefhaaGreatDoor.short t.rel 40,Go.Proofs.YtgppncmdpcefhaaGreatDoor.short t.us 40,Go.Proofs.YtgppncmdpcefhaaGreatDoor.short t.ss 40,Go.Proofs.YtgppncmdpcefhaaGreatDoor.short t.si 40,Go.Proofs.YtgppncmdpcefhaaGreatDoor.short t.sr 40⟩
def cg.short(c:cg):cg:=⟨c.put,c.t.short⟩
def cC.cd(o:cC):cC:=⟨o.kind,o.n,o.cl.short,short o.user 40,short o.id 40,short o.dc 70,short o.uri 210,texts o.scopes 6 40,short o.word 140,short o.text (if o.kind=11 then 900 else 60),o.x.take 30,o.y.take 30,(o.cj.take 34).map bc.short,(o.no.take 34).map bc.short,(o.cs.take 34).map cg.short,o.rev⟩
theorem bc.nS(t:bc):t.short.f31:=by
 refine⟨?_,?_,?_,?_,?_,?_,?_⟩<;>(unfold bc.short;simp only;exact acg eN (by decide))
theorem cC.rk{o:cC}(f:0<=o.kind/\o.kind<=255)(h: -9223372036854775808<=o.n/\o.n<=9223372036854775807)(j:o.rev<bP):o.cd.nj where
 k:=f
 n:=h
 c:=by
  refine⟨acg eN (by decide),acg eN (by decide),⟨?_,λs b=>acg (ko s b) (by decide)⟩,?_,λs b=>acg (ko s b) (by decide)⟩
  ·unfold cC.cd cU.short texts;simp;omega
  ·unfold cC.cd cU.short texts;simp;omega
 u:=acg eN (by decide)
 i:=acg eN (by decide)
 s:=acg eN (by decide)
 a:=acg eN (by decide)
 l:=⟨by unfold cC.cd texts;simp;omega,λs b=>acg (ko s b) (by decide)⟩
 w:=acg eN (by decide)
 t:=acg (eN (n:=if o.kind=11 then 900 else 60)) (by split<;>decide)
 x:=by unfold cC.cd;simp;omega
 y:=by unfold cC.cd;simp;omega
 m:=⟨by unfold cC.cd;simp;omega,λt d=>by obtain⟨u,_,rfl⟩:=acj.1 d;exact u.nS⟩
 e:=⟨by unfold cC.cd;simp;omega,λt d=>by obtain⟨u,_,rfl⟩:=acj.1 d;exact u.nS⟩
 g:=⟨by unfold cC.cd;simp;omega,λt d=>by obtain⟨u,_,rfl⟩:=acj.1 d;exact u.t.nS⟩
 r:=j
theorem nw{l:List UInt8}{m:Nat}(h:l.length<=m)(a:m<=1000000):(ei l).length<=m+10:=by
 unfold ei
 have:=gl (x:=l.length) (by unfold bP;omega)
 rw[aci];omega
theorem gk{s:ByteArray}{m:Nat}(h:s.size<=m)(a:m<=1000000):(cf s).length<=m+10:=nw (by rw[Array.length_toList];exact h) a
theorem o2{α:Type}{enc:α->List UInt8}{m:Nat}:∀{l:List α},(∀a∈l,(enc a).length<=m)->(l.flatMap enc).length<=l.length*m
 |[],_=>by simp
 |a::l,h=>by
  rw[List.flatMap_cons,aci,List.length_cons,Nat.succ_mul]
  have c:=h a (by simp)
  have d:=o2 (l:=l) λx b=>h x (by simp[b])
  omega
theorem kd{α:Type}{enc:α->List UInt8}{m k:Nat}{l:List α}(b:l.length<=k)(f:k<=1000000)(h:∀a∈l,(enc a).length<=m):(cD enc l).length<=k*m+10:=by
 unfold cD
 have c:=gl (x:=l.length) (by unfold bP;omega)
 have d:=o2 h
 have e:l.length*m<=k*m:=Nat.mul_le_mul_right m b
 rw[aci];omega
theorem nx(t:bc):(cH t.short).length<=350:=by
 have h (s:ByteArray):(cf (short s 40)).length<=50:=gk eN (by decide)
 have a:=h t.os
 have b:=h t.oi
 have c:=h t.rel
 have d:=h t.us
 have e:=h t.ss
 have f:=h t.si
 have g:=h t.sr
 unfold cH bc.short
 simp only[aci]
 omega
theorem Dt(b:Bool):(kc b).length=1:=by cases b<;>(unfold kc;rw[jc (by decide)];rfl)
theorem sl{o:cC}(c:o.rev<bP):(fR o.cd).length<=60000:=by
 have h:(put (uw o.cd.kind)).length<=10:=gl (jh _)
 have v:(put (uw o.cd.n)).length<=10:=gl (jh _)
 have w:(fi o.cd.cl).length<=4000:=by
  have d:(cf o.cd.cl.id).length<=50:=gk eN (by decide)
  have e:(cf o.cd.cl.dc).length<=80:=gk eN (by decide)
  have f:(cD cf o.cd.cl.gn).length<=10*220+10:=kd (by unfold cC.cd cU.short texts;simp;omega) (by decide) λs a=>gk (m:=210) (ko s a) (by decide)
  have g:(cD cf o.cd.cl.scopes).length<=18*50+10:=kd (by unfold cC.cd cU.short texts;simp;omega) (by decide) λs a=>gk (m:=40) (ko s a) (by decide)
  unfold fi
  simp only[aci]
  omega
 have z:(cf o.cd.user).length<=50:=gk eN (by decide)
 have A:(cf o.cd.id).length<=50:=gk eN (by decide)
 have B:(cf o.cd.dc).length<=80:=gk eN (by decide)
 have C:(cf o.cd.uri).length<=220:=gk eN (by decide)
 have D:(cD cf o.cd.scopes).length<=6*50+10:=kd (by unfold cC.cd texts;simp;omega) (by decide) λs a=>gk (m:=40) (ko s a) (by decide)
 have E:(cf o.cd.word).length<=150:=gk eN (by decide)
 have i:(cf o.cd.text).length<=910:=gk (acg (eN (n:=if o.kind=11 then 900 else 60)) (by split<;>decide)) (by decide)
 have j:(ei o.cd.x).length<=40:=nw (by unfold cC.cd;simp;omega) (by decide)
 have k:(ei o.cd.y).length<=40:=nw (by unfold cC.cd;simp;omega) (by decide)
 have l:(cD cH o.cd.cj).length<=34*350+10:=kd (by unfold cC.cd;simp;omega) (by decide) λt b=>by obtain⟨u,_,rfl⟩:=acj.1 b;exact nx u
 have p:(cD cH o.cd.no).length<=34*350+10:=kd (by unfold cC.cd;simp;omega) (by decide) λt b=>by obtain⟨u,_,rfl⟩:=acj.1 b;exact nx u
 have q:(cD dG o.cd.cs).length<=34*351+10:=kd (by unfold cC.cd;simp;omega) (by decide) λt b=>by
  obtain⟨u,_,rfl⟩:=acj.1 b
  unfold dG
  rw[aci,Dt]
  have:=nx u.t
  unfold cg.short
  simp only
  omega
 have r:(put o.cd.rev).length<=10:=gl c
 unfold fR
 simp only[aci]
 omega
end Go.Proofs.YtgppncmdpcefhaaGreatDoor

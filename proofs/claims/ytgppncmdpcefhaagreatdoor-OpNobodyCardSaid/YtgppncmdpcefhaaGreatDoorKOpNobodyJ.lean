/- What the law 'OpNobody' uses. No condition. -/
import Derived.Test.YtgppncmdpcefhaaGreatDoorKOpNobodyE
import Derived.Test.YtgppncmdpcefhaaGreatDoorKOpNobodyH
import Derived.Test.YtgppncmdpcefhaaGreatDoorKOpNobodyI
namespace Go.Proofs.YtgppncmdpcefhaaGreatDoor
open Tryz
set_option linter.unusedVariables false
set_option linter.unusedSimpArgs false
set_option maxRecDepth 4000
theorem pU(v:Value)(xs:List UInt8)(n:Nat)(b R:aA)(h:RS b 1 dt v xs)(f:n<=1000000):
  Spec prog 14 [v,iN n] R [] λu H'=>RS b 1 dt u (xs.take n)/\H'=[]:=by
 have d:=h.le
 have i:=h.aL
 refine Spec.body func14 rfl results14 ntmps14 rfl ?_
 refine .sr<|.ag rfl<|.zs<|.sr<|.mo rfl<|.q (.dH h) ?_
 refine .mo rfl<|.q .gtr<|.zn ?_
 refine .cond rfl (λa=>?_) λa=>?_
 have e:n<xs.length:=de a
 refine .sr<|.mo rfl<|.mo rfl ?_
 refine .jS 0 n h rfl ⟨_,rfl⟩ (by omega) (by omega) (λj c=>?_)
 have g:=c.aL
 refine .az rfl ?_
 refine .ret (aT (br rfl ?_))
 ·exact⟨by simpa using c,rfl⟩
 refine .kn<|.sr<|.mo rfl<|.az rfl ?_
 refine .ret (br rfl ?_)
 ·refine⟨?_,rfl⟩
  rw[List.take_of_length_le (by have:=aY a;omega)]
  exact h
theorem pO(v:Value)(xs:List UInt8)(R:aA)(h:RS R 1 dt v xs)(c:xs.length<=1000000):
  Spec prog 15 [v] R [] λu H'=>∃T,H'=[T]/\OS 5 1 dt u xs T:=by
 have e:=h.aL
 refine Spec.ep (H':=[[]]) (by simp) ?_
 refine Spec.body func15 rfl results15 ntmps15 rfl ?_
 refine .sr<|.ag rfl<|.z<|.ag rfl<|.z<|.mo rfl<|.mo rfl ?_
 refine .append (OS.nil (enc:=dt) (sz:=1)) h.rx (by simp;omega) (λf b a=>?_)
 have d:=a.aL
 refine .az rfl ?_
 refine .ret (aZ _ (.one (.tmp rfl)) (.one [0] _) ?_)
 ·exact⟨b,by simp[take],by simpa using a⟩
structure OC where
 kind:Int
 n:Int
 cl:cd
 user:ByteArray
 id:ByteArray
 cU:ByteArray
 uri:ByteArray
 scopes:List ByteArray
 word:ByteArray
 text:ByteArray
 a:List UInt8
 r:List UInt8
 rev:Int
structure OV where
 cr:CR
 vs:Value
 va:Value
 vr:Value
def kg(w:OV)(x:OC):List Value:=[.int .i64 x.kind,.int .i64 x.n,.string w.cr.id,.string w.cr.cU,w.cr.vu,w.cr.vs,.string x.user,.string x.id,.string x.cU,.string x.uri,w.vs,.string x.word,.string x.text,w.va,w.vr,.int .u64 x.rev]
def OR(R:aA)(w:OV)(x:OC):Prop:=et R w.cr x.cl/\RS R 1 bU w.vs x.scopes/\RS R 1 dt w.va x.a/\RS R 1 dt w.vr x.r
theorem OR.cK{R:aA}{w:OV}{x:OC}(h:OR R w x):∀u∈kg w x,aL u=true:=by
 have a:=h.1.cK
 have c:=h.2.1.aL.h
 have d:=h.2.2.1.aL.h
 have e:=h.2.2.2.aL.h
 have f:aL w.cr.vu=true:=a _ (by simp[CR.cells])
 have g:aL w.cr.vs=true:=a _ (by simp[CR.cells])
 intro u b
 simp only[kg,List.mem_cons,List.not_mem_nil,or_false]at b
 rcases b with rfl|rfl|rfl|rfl|rfl|rfl|rfl|rfl|rfl|rfl|rfl|rfl|rfl|rfl|rfl|rfl<;>first|rfl|assumption
def OC.fh(x:OC):OC:=⟨x.kind,x.n,x.cl.short,short x.user 40,short x.id 40,short x.cU 70,short x.uri 210,texts x.scopes 6 40,short x.word 140,short x.text 60,x.a.take 30,x.r.take 30,x.rev⟩
theorem FH(w:OV)(x:OC)(R:aA)(h:OR R w x):Spec prog 50 [.agg (kg w x).toArray] R [] λv H'=>∃T,H'=[T]/\∃w',v=.agg (kg w' x.fh).toArray/\OR (sg T) w' x.fh:=by
 have i1:cg (kg w x):=⟨h.cK⟩
 obtain⟨⟨O,Q,vu,Z⟩,vt,X,Y⟩:=w
 obtain⟨k,n,N,H,I,J,K,S,L,M,B,C,a0⟩:=x
 obtain⟨e,i,f,g⟩:=h
 simp only at e i f g
 have i2:=i.aL
 have i3:=f.aL
 have i4:=g.aL
 have i5:=e.u.aL
 have i6:=e.s.aL
 refine Spec.body func50 rfl results50 ntmps50 rfl ?_
 refine .sr ?_
 refine .cJ rfl (λb1=>?_)
 refine .dz (λb2=>?_)
 refine .z<|.fa rfl<|.q (.loadT rfl) ?_
 refine .cL (uo ⟨O,Q,vu,Z⟩ N _ (e.mono λb o c=>.inl c)) (λu D a=>?_)
 obtain⟨⟨r,t,A,y⟩,rfl,d⟩:=a
 have i7:=d.u.aL
 have i8:=d.s.aL
 have i9:cg (CR.cells ⟨r,t,A,y⟩):=⟨d.cK⟩
 refine .fa rfl<|.dx rfl rfl<|.zs<|.bF [19,21,23,25,27,29] mixed ?_
 refine .tO 0 rfl (.fieldAddr rfl)<|.tO 1 rfl (.bO rfl)<|.tO 3 rfl (.fieldAddr rfl)<|.tO 4 rfl (.bO rfl)<|.tO 6 rfl (.fieldAddr rfl)<|.tO 7 rfl (.bO rfl)<|.tO 9 rfl (.fieldAddr rfl)<|.tO 10 rfl (.bO rfl)<|.tO 12 rfl (.fieldAddr rfl)<|.tO 13 rfl (.bO rfl)<|.tO 15 rfl (.fieldAddr rfl)<|.tO 16 rfl (.bO rfl) ?_
 refine .sT 2 rfl ?_
 refine .bc (fK H 40 _) (λu a=>?_)
 subst a
 refine .nil (Next.sub ?_)
 refine .tO 18 rfl (.fieldAddr rfl) ?_
 refine .sT 5 rfl ?_
 refine .bc (fK I 40 _) (λu a=>?_)
 subst a
 refine .nil (Next.sub ?_)
 refine .sT 8 rfl ?_
 refine .bc (fK J 70 _) (λu a=>?_)
 subst a
 refine .nil (Next.sub ?_)
 refine .sT 11 rfl ?_
 refine .bc (fK K 210 _) (λu a=>?_)
 subst a
 refine .nil (Next.sub ?_)
 refine .sT 14 rfl ?_
 refine .bc (fK L 140 _) (λu a=>?_)
 subst a
 refine .nil (Next.sub ?_)
 refine .sT 17 rfl ?_
 refine .bc (fK M 60 _) (λu a=>?_)
 subst a
 refine .nil (Next.sub ?_)
 refine .sT 19 rfl ?_
 refine .cO rfl rfl ?_
 refine .nil (Next.mod rfl ?_)
 refine .tK 20 rfl (.hY rfl) ?_
 refine .sT 21 rfl ?_
 refine .cO rfl rfl ?_
 refine .nil (Next.mod rfl ?_)
 refine .tK 22 rfl (.hY rfl) ?_
 refine .sT 23 rfl ?_
 refine .cO rfl rfl ?_
 refine .nil (Next.mod rfl ?_)
 refine .tK 24 rfl (.hY rfl) ?_
 refine .sT 25 rfl ?_
 refine .cO rfl rfl ?_
 refine .nil (Next.mod rfl ?_)
 refine .tK 26 rfl (.hY rfl) ?_
 refine .sT 27 rfl ?_
 refine .cO rfl rfl ?_
 refine .nil (Next.mod rfl ?_)
 refine .tK 28 rfl (.hY rfl) ?_
 refine .sT 29 rfl ?_
 refine .cO rfl rfl ?_
 refine .nil (Next.mod rfl ?_)
 refine RA.nil (by kernel_rfl) ?_
 refine aD<|.sr<|.fa rfl<|.lo rfl ?_
 refine .cL (oU vt S 6 40 (by omega) _ i.rx) (λU E j=>?_)
 have j2:=j.aL
 refine .fa rfl<|.cO rfl rfl<|.zs<|.bF [9,11] mixed ?_
 refine .tO 0 rfl (.fieldAddr rfl)<|.tO 1 rfl (.bO rfl)<|.tO 4 rfl (.fieldAddr rfl)<|.tO 5 rfl (.bO rfl) ?_
 refine .sT 2 rfl ?_
 refine .bc (pU X B 30 R _ f (by omega)) (λu a=>?_)
 have j3:=a.aL
 refine .nil (Next.sub ?_)
 refine .sT 3 rfl ?_
 refine .cL (pO _ (B.take 30) _ a.rx (by simp;omega)) (λV F l=>?_)
 have j4:=l.aL
 refine .nil (Next.sub ?_)
 refine .tO 8 rfl (.fieldAddr rfl) ?_
 refine .sT 6 rfl ?_
 refine .bc (pU Y C 30 R _ g (by omega)) (λu2 p=>?_)
 have j5:=p.aL
 refine .nil (Next.sub ?_)
 refine .sT 7 rfl ?_
 refine .cL (pO _ (C.take 30) _ p.rx (by simp;omega)) (λW G m=>?_)
 have j6:=m.aL
 refine .nil (Next.sub ?_)
 refine .sT 9 rfl ?_
 refine .cO rfl rfl ?_
 refine .nil (Next.mod rfl ?_)
 refine .tK 10 rfl (.hY rfl) ?_
 refine .sT 11 rfl ?_
 refine .cO rfl rfl ?_
 refine .nil (Next.mod rfl ?_)
 refine RA.nil (by kernel_rfl) ?_
 refine aD<|.sr<|.q (.aE rfl)<|.dx rfl rfl<|.zn ?_
 refine .ret (aZ _ (.one (.hN rfl rfl)) (.one [0,0,0,0] _) ?_)
 ·exact⟨G++(F++(E++D)),by simp[take,cq],⟨⟨r,t,A,y⟩,U,V,W⟩,rfl,d.mono λb o c=>kx (kx (kx c)),j.sg.mono λb o c=>kx (kx (ny c)),l.sg.mono λb o c=>kx (ny c),m.sg.mono λb o c=>ny c⟩
set_option linter.unusedSimpArgs false
structure fN where
 kind:Int
 n:Int
 cl:cd
 user:ByteArray
 id:ByteArray
 cU:ByteArray
 uri:ByteArray
 scopes:List ByteArray
 word:ByteArray
 text:ByteArray
 x:List UInt8
 y:List UInt8
 dm:List bw
 no:List bw
 cs:List cI
 rev:Nat
def na:fN:=⟨0,0,⟨⟨#[]⟩,⟨#[]⟩,[],[]⟩,⟨#[]⟩,⟨#[]⟩,⟨#[]⟩,⟨#[]⟩,[],⟨#[]⟩,⟨#[]⟩,[],[],[],[],[],0⟩
def bw.short(t:bw):bw:=⟨Go.Proofs.YtgppncmdpcefhaaGreatDoor.short t.os 40,Go.Proofs.YtgppncmdpcefhaaGreatDoor.short t.oi 40,Go.Proofs.YtgppncmdpcefhaaGreatDoor.short t.rel 40,Go.Proofs.YtgppncmdpcefhaaGreatDoor.short t.us 40,Go.Proofs.YtgppncmdpcefhaaGreatDoor.short t.ss 40,Go.Proofs.YtgppncmdpcefhaaGreatDoor.short t.si 40,Go.Proofs.YtgppncmdpcefhaaGreatDoor.short t.sr 40⟩
def cI.short(c:cI):cI:=⟨c.put,c.t.short⟩
def fN.fh(o:fN):fN:=⟨o.kind,o.n,o.cl.short,short o.user 40,short o.id 40,short o.cU 70,short o.uri 210,texts o.scopes 6 40,short o.word 140,short o.text (if o.kind=11 then 900 else 60),o.x.take 30,o.y.take 30,(o.dm.take 34).map bw.short,(o.no.take 34).map bw.short,(o.cs.take 34).map cI.short,o.rev⟩
end Go.Proofs.YtgppncmdpcefhaaGreatDoor

/- What the law 'OpNobody' uses. No condition. -/
import Derived.Test.YtgppncmdpcefhaaGreatDoorKOpNobodyJ
import Derived.Test.YtgppncmdpcefhaaGreatDoorKOpNobodyK
namespace Go.Proofs.YtgppncmdpcefhaaGreatDoor
set_option linter.defProp false
def acX:=@List.take_of_length_le
def acY:=@List.take_add_one
def acZ:=@List.take_length
set_option linter.unusedVariables false
set_option linter.unusedSimpArgs false
set_option maxRecDepth 4000
structure OW where
 cr:CR
 vs:Value
 vx:Value
 vy:Value
 vm:Value
 vn:Value
 vc:Value
def dZ(w:OW)(o:fN):List Value:=[.int .i64 o.kind,.int .i64 o.n,.string w.cr.id,.string w.cr.cU,w.cr.vu,w.cr.vs,.string o.user,.string o.id,.string o.cU,.string o.uri,w.vs,.string o.word,.string o.text,w.vx,w.vy,w.vm,w.vn,w.vc,.int .u64 (o.rev:Nat)]
structure gI(R:aA)(w:OW)(o:fN):Prop where
 c:et R w.cr o.cl
 s:RS R 1 bU w.vs o.scopes
 x:RS R 1 dt w.vx o.x
 y:RS R 1 dt w.vy o.y
 m:RS R 7 bw.enc w.vm o.dm
 n:RS R 7 bw.enc w.vn o.no
 g:RS R 8 cI.enc w.vc o.cs
theorem gI.mono{R R':aA}{w:OW}{o:fN}(h:gI R w o)(a:∀b x,R b x->R' b x):gI R' w o:=⟨h.c.mono a,h.s.mono a,h.x.mono a,h.y.mono a,h.m.mono a,h.n.mono a,h.g.mono a⟩
theorem gI.cK{R:aA}{w:OW}{o:fN}(h:gI R w o):∀u∈dZ w o,aL u=true:=by
 have b:=h.s.aL.h
 have d:=h.x.aL.h
 have e:=h.y.aL.h
 have f:=h.m.aL.h
 have i:=h.n.aL.h
 have j:=h.g.aL.h
 have k:=h.c.u.aL.h
 have l:=h.c.s.aL.h
 intro u a
 simp only[dZ,List.mem_cons,List.not_mem_nil,or_false]at a
 rcases a with rfl|rfl|rfl|rfl|rfl|rfl|rfl|rfl|rfl|rfl|rfl|rfl|rfl|rfl|rfl|rfl|rfl|rfl|rfl<;>first|rfl|assumption
def nI(s:Option (List UInt8)):Prop:=∀xs,s=some xs->xs.length<=1000000000
theorem nI.next{α:Type}{rd:List UInt8->Option (α×List UInt8)}{enc:α->List UInt8}{ok:α->Prop}(c:mA rd enc ok){s b:Option (List UInt8)}{a:α}(d:nI s)(h:s.bind rd=b.map λr=>(a,r)):nI b:=λf e=>by
 subst e
 cases s with
 |none=>simp at h
 |some ys=>
  simp only[Option.bind_some,Option.map_some]at h
  obtain⟨rfl,_⟩:=(c.h ys a f).1 h
  have:=d _ rfl
  rw[List.length_append]at this
  omega
theorem RS.jN{α:Type}{R:aA}{sz:Nat}{enc:α->List Value}:RS R sz enc (sZ) ([]:List α):=(OS.nil (E:=0) (sz:=sz) (enc:=enc)).rs λp a=>(by cases a)
def ko:OW:=⟨⟨⟨#[]⟩,⟨#[]⟩,sZ,sZ⟩,sZ,sZ,sZ,sZ,sZ,sZ⟩
open Tryz
theorem oZ(t:bw)(R:aA):Spec prog 53 [.agg t.enc.toArray] R [] λu H'=>u=.agg t.short.enc.toArray/\H'=[]:=by
 obtain⟨c,b,d,h,g,e,f⟩:=t
 refine Spec.body func53 rfl results53 ntmps53 rfl ?_
 refine .sr ?_
 refine .cJ rfl (λi=>?_)
 refine .dz (λj=>?_)
 refine .z<|.fa rfl<|.q (.loadT rfl) ?_
 refine .dz (λk=>?_)
 refine .dx rfl rfl<|.zs<|.bF [29] mixed ?_
 refine .tO 0 rfl (.fieldAddr rfl)<|.tO 1 rfl (.fieldAddr rfl)<|.tO 2 rfl (.bO rfl)<|.tO 4 rfl (.fieldAddr rfl)<|.tO 5 rfl (.fieldAddr rfl)<|.tO 6 rfl (.bO rfl)<|.tO 9 rfl (.fieldAddr rfl)<|.tO 10 rfl (.bO rfl)<|.tO 12 rfl (.fieldAddr rfl)<|.tO 13 rfl (.bO rfl)<|.tO 15 rfl (.fieldAddr rfl)<|.tO 16 rfl (.fieldAddr rfl)<|.tO 17 rfl (.bO rfl)<|.tO 19 rfl (.fieldAddr rfl)<|.tO 20 rfl (.fieldAddr rfl)<|.tO 21 rfl (.bO rfl)<|.tO 24 rfl (.fieldAddr rfl)<|.tO 25 rfl (.bO rfl) ?_
 refine .sT 3 rfl ?_
 refine .bc (fK c 40 _) (λu a=>?_)
 subst a
 refine .nil (Next.sub ?_)
 refine .sT 7 rfl ?_
 refine .bc (fK b 40 _) (λu a=>?_)
 subst a
 refine .nil (Next.sub ?_)
 refine .tO 8 rfl .dR ?_
 refine .sT 11 rfl ?_
 refine .bc (fK d 40 _) (λu a=>?_)
 subst a
 refine .nil (Next.sub ?_)
 refine .sT 14 rfl ?_
 refine .bc (fK h 40 _) (λu a=>?_)
 subst a
 refine .nil (Next.sub ?_)
 refine .sT 18 rfl ?_
 refine .bc (fK g 40 _) (λu a=>?_)
 subst a
 refine .nil (Next.sub ?_)
 refine .sT 22 rfl ?_
 refine .bc (fK e 40 _) (λu a=>?_)
 subst a
 refine .nil (Next.sub ?_)
 refine .tO 23 rfl .dR ?_
 refine .sT 26 rfl ?_
 refine .bc (fK f 40 _) (λu a=>?_)
 subst a
 refine .nil (Next.sub ?_)
 refine .tO 27 rfl .dR ?_
 refine .tO 28 rfl .dR ?_
 refine .sT 29 rfl ?_
 refine .dx rfl rfl ?_
 refine .nil (Next.mod rfl ?_)
 refine RA.nil (by kernel_rfl) ?_
 refine aD ?_
 refine .ret (aZ _ (.one (.hN rfl rfl)) (.none _) ?_)
 ·exact⟨rfl,rfl⟩
abbrev kM(l:List Value):List Value:=l
def fc(a b c:Value):List Value:=[.int .i64 0,a,b,c,.string ⟨#[]⟩,.string ⟨#[]⟩,.string ⟨#[]⟩,.string ⟨#[]⟩,.string ⟨#[]⟩,.string ⟨#[]⟩,.string ⟨#[]⟩,.int .u64 0]
theorem ob(a b c:Value) [One a] [One b] [One c]:cg (fc a b c):=by unfold fc;infer_instance
theorem Eg(v l j g:Value)(dm no:List bw)(cs:List cI)(R d:aA)(h:RS R 12 kM v [fc l j g])(p:RS d 7 bw.enc l dm)(r:RS d 7 bw.enc j no)(o:RS d 8 cI.enc g cs):
  Spec prog 51 [v,.int .i64 1] R [] λu H'=>∃T,H'=[T]/\∃a b c,OS 103 12 kM u [fc a b c] T/\RS d 7 bw.enc a (dm.take 34)/\RS d 7 bw.enc b (no.take 34)/\RS d 8 cI.enc c (cs.take 34):=by
 have iv:=h.aL
 have im:=p.aL
 have a3:=r.aL
 have ic:=o.aL
 have a4:cg (kM (fc l j g)):=ob l j g
 refine Spec.ep (H':=[[]]) (by simp) ?_
 refine Spec.body func51 rfl results51 ntmps51 rfl ?_
 refine .sr<|.ag rfl<|.z<|.ag rfl<|.zs<|.sr<|.az rfl<|.block ?_
 refine .loop (X:=Nat×Value×ay) (λy=>One y.2.1/\((y.1=0/\y.2.1=sZ/\y.2.2=[])\/(y.1=1/\∃a b c,OS 103 12 kM y.2.1 [fc a b c] y.2.2/\RS d 7 bw.enc a (dm.take 34)/\RS d 7 bw.enc b (no.take 34)/\RS d 8 cI.enc c (cs.take 34)))) (λy=>[(0,v),(1,.int .i64 1),(5,y.2.1),(6,iN y.1)]) (λy=>[y.2.2]) (λy=>1-y.1) (0,sZ,[]) ⟨⟨rfl⟩,.inl ⟨rfl,rfl,rfl⟩⟩ kE.c.c.c.c rH ?_
 rintro⟨i,vo,N⟩ ⟨io,F⟩
 simp only at io F⊢
 refine .seq<|.sr<|.mo rfl<|.mo rfl<|.q (.dH h) ?_
 refine .q .lss<|.mo rfl ?_
 refine .split (t:=12) rfl (λe=>?_) (λe=>?_)
 refine .gT e<|.mo rfl<|.gT e<|.mo rfl<|.gT e<|.q .lss<|.q (.bu e) ?_
 refine .zn ?_
 refine .cond rfl (λH=>?_) λH=>?_
 have a2:i<1:=by
  have:=bo e
  simp only[List.length_cons,List.length_nil]at this
  omega
 obtain⟨rfl,rfl,rfl⟩:=F.resolve_right (λD=>by omega)
 refine .kn<|.seq<|.block<|.sr<|.mo rfl<|.mo rfl ?_
 refine .cR 0 h (show [fc l j g][0]? =some (fc l j g)from rfl) (λa8=>?_)
 refine .q (.aE rfl) ?_
 refine .dz (λm=>?_)
 refine .dx rfl rfl<|.zs<|.sr<|.fa rfl<|.lo rfl<|.q (.dH p) ?_
 refine .q .gtr<|.zn ?_
 refine bp.cut (X:=Value) (λw=>RS d 7 bw.enc w (dm.take 34)) (λw=>[(0,v),(1,.int .i64 1),(5,sZ),(6,.int .i64 0),(7,pT m)]) (λw=>[bl m (fc w j g) 103,[]]) ?_ ?_
 refine .cond rfl (λA=>?_) λA=>?_
 refine .region<|.fa rfl<|.lo rfl ?_
 refine .jS (R':=d) 0 34 p rfl ⟨_,rfl⟩ (by omega) (by have:=bo A;omega) (λk f=>?_)
 have W:=f.aL
 refine .fa rfl<|.cO rfl rfl<|.nil ?_
 ·first
   |exact ax k (by simpa using f) kE.c.c.c.c.c rH
   |exact ax l (by rw[acX (by have:=aY A;omega)];exact p) kE.c.c.c.c.c rH
 refine .skip ?_
 ·first
   |exact ax k (by simpa using f) kE.c.c.c.c.c rH
   |exact ax l (by rw[acX (by have:=aY A;omega)];exact p) kE.c.c.c.c.c rH
 intro x Q
 revert x
 intro n U
 have a6:=U.aL
 refine aD<|.seq<|.sr<|.fa rfl<|.lo rfl<|.q (.dH r) ?_
 refine .q .gtr<|.zn ?_
 refine bp.cut (X:=Value) (λw=>RS d 7 bw.enc w (no.take 34)) (λw=>[(0,v),(1,.int .i64 1),(5,sZ),(6,.int .i64 0),(7,pT m)]) (λw=>[bl m (fc n w g) 103,[]]) ?_ ?_
 refine .cond rfl (λB=>?_) λB=>?_
 refine .region<|.fa rfl<|.lo rfl ?_
 refine .jS (R':=d) 0 34 r rfl ⟨_,rfl⟩ (by omega) (by have:=bo B;omega) (λk f=>?_)
 have W:=f.aL
 refine .fa rfl<|.cO rfl rfl<|.nil ?_
 ·first
   |exact ax k (by simpa using f) kE.c.c.c.c.c rH
   |exact ax j (by rw[acX (by have:=aY B;omega)];exact r) kE.c.c.c.c.c rH
 refine .skip ?_
 ·first
   |exact ax k (by simpa using f) kE.c.c.c.c.c rH
   |exact ax j (by rw[acX (by have:=aY B;omega)];exact r) kE.c.c.c.c.c rH
 intro x Q
 revert x
 intro s V
 have a7:=V.aL
 refine aD<|.seq<|.sr<|.fa rfl<|.lo rfl<|.q (.dH o) ?_
 refine .q .gtr<|.zn ?_
 refine bp.cut (X:=Value) (λw=>RS d 8 cI.enc w (cs.take 34)) (λw=>[(0,v),(1,.int .i64 1),(5,sZ),(6,.int .i64 0),(7,pT m)]) (λw=>[bl m (fc n s w) 103,[]]) ?_ ?_
 refine .cond rfl (λC=>?_) λC=>?_
 refine .region<|.fa rfl<|.lo rfl ?_
 refine .jS (R':=d) 0 34 o rfl ⟨_,rfl⟩ (by omega) (by have:=bo C;omega) (λk f=>?_)
 have W:=f.aL
 refine .fa rfl<|.cO rfl rfl<|.nil ?_
 ·first
   |exact ax k (by simpa using f) kE.c.c.c.c.c rH
   |exact ax g (by rw[acX (by have:=aY C;omega)];exact o) kE.c.c.c.c.c rH
 refine .skip ?_
 ·first
   |exact ax k (by simpa using f) kE.c.c.c.c.c rH
   |exact ax g (by rw[acX (by have:=aY C;omega)];exact o) kE.c.c.c.c.c rH
 intro x Q
 revert x
 intro G S
 have a5:=S.aL
 have a0:cg (fc n s G):=ob n s G
 refine aD<|.region<|.mo rfl<|.q (.aE rfl) ?_
 refine .je (λa1=>?_)
 refine .append (OS.nil (E:=103) (sz:=12) (enc:=kM)) (RS.lits (xs:=[fc n s G]) rfl (by simp[fc]) (by have:=a0.h;simpa using this)) (by simp) (λv9 Y O=>?_)
 have Z:=O.aL
 refine .ag rfl<|.nil<|bi<|aD<|.region<|.mo rfl ?_
 refine .ia (0+1) .add ?_
 refine .ag rfl<|.nil ?_
 ·exact aN (1,v9,Y) ⟨Z,.inr ⟨rfl,n,s,G,by simpa using O,U,V,S⟩⟩ (by simp) kE.c.c.c.c (cu [2])
 refine .exit<|aP<|aV<|aR<|aD<|.sr<|.mo rfl<|.az rfl ?_
 refine .ret (aZ _ (.one (.tmp rfl)) (.one [0] _) ?_)
 ·have M:i≠0:=by
   first
    |(have:=aY e;simp at this;omega)
    |(have:=aY H;omega)
  obtain⟨_,a,b,c,I,J,K,L⟩:=F.resolve_left (λD=>M D.1)
  exact⟨N,by simp[take],a,b,c,I,J,K,L⟩
 refine .gF e<|.gF e<|.gF e<|.q (.bq e) ?_
 refine .zn<|.bB<|.exit<|aP<|aV<|aR<|aD<|.sr<|.mo rfl<|.az rfl ?_
 refine .ret (aZ _ (.one (.tmp rfl)) (.one [0] _) ?_)
 ·have M:i≠0:=by
   first
    |(have:=aY e;simp at this;omega)
    |(have:=aY H;omega)
  obtain⟨_,a,b,c,I,J,K,L⟩:=F.resolve_left (λD=>M D.1)
  exact⟨N,by simp[take],a,b,c,I,J,K,L⟩
def c5(o:fN)(cr:CR)(vs vx vy:Value)(tx:ByteArray)(a b c:Value):List Value:=[.int .i64 o.kind,.int .i64 o.n,.string cr.id,.string cr.cU,cr.vu,cr.vs,.string (short o.user 40),.string (short o.id 40),.string (short o.cU 70),.string (short o.uri 210),vs,.string (short o.word 140),.string tx,vx,vy,a,b,c,.int .u64 (o.rev:Nat)]
theorem pA(o:fN)(d:CR)(vs e f:Value)(g:ByteArray)(a b c:Value) [One d.vu] [One d.vs] [One vs] [One e] [One f] [One a] [One b] [One c]:cg (c5 o d vs e f g a b c):=by unfold c5;infer_instance
theorem Fz(w:OW)(o:fN)(R:aA)(h:gI R w o):Spec prog 11 [.agg (dZ w o).toArray] R [] λu H'=>∃T,H'=[T]/\∃w',u=.agg (dZ w' o.fh).toArray/\gI (sg T) w' o.fh:=by
  have i1:cg (dZ w o):=⟨h.cK⟩
  obtain⟨⟨a7,a8,vu,a9⟩,vs,vx,vy,vm,vn,vc⟩:=w
  have hc:et R ⟨a7,a8,vu,a9⟩ o.cl:=h.c
  have hs:RS R 1 bU vs o.scopes:=h.s
  have hx:RS R 1 dt vx o.x:=h.x
  have hy:RS R 1 dt vy o.y:=h.y
  have hm:RS R 7 bw.enc vm o.dm:=h.m
  have hn:RS R 7 bw.enc vn o.no:=h.n
  have hg:RS R 8 cI.enc vc o.cs:=h.g
  have j7:=hc.u.aL
  have j8:=hc.s.aL
  simp only at j7 j8
  clear h
  obtain⟨q1,k1,rfl⟩:=hs.val
  obtain⟨q2,k2,rfl⟩:=hx.val
  obtain⟨q3,k3,rfl⟩:=hy.val
  obtain⟨q4,k4,rfl⟩:=hm.val
  obtain⟨q5,k5,rfl⟩:=hn.val
  obtain⟨q6,k6,rfl⟩:=hg.val
  refine Spec.body func11 rfl results11 ntmps11 rfl ?_
  refine .sr ?_
  refine .cJ rfl (λb1=>?_)
  refine .dz (λF=>?_)
  refine .z<|.fa rfl<|.q (.loadT rfl) ?_
  refine .fa rfl<|.lo rfl<|.fa rfl<|.lo rfl<|.fa rfl<|.lo rfl<|.fa rfl<|.lo rfl<|.fa rfl<|.lo rfl<|.fa rfl<|.lo rfl<|.fa rfl<|.lo rfl<|.fa rfl<|.lo rfl<|.fa rfl<|.lo rfl ?_
  refine .q .dR ?_
  refine .cL (FH ⟨⟨a7,a8,vu,a9⟩,.slice q1 o.scopes.length k1,.slice q2 o.x.length k2,.slice q3 o.y.length k3⟩ ⟨0,0,o.cl,o.user,o.id,o.cU,o.uri,o.scopes,o.word,o.text,o.x,o.y,0⟩ _ ⟨hc.mono λb o e=>.inl e,hs.rx,hx.rx,hy.rx⟩) (λu l r=>?_)
  obtain⟨⟨⟨v,A,D,C⟩,b0,b6,b7⟩,rfl,V⟩:=r
  have a3:et (sg l) ⟨v,A,D,C⟩ o.cl.short:=V.1
  have a4:RS (sg l) 1 bU b0 (texts o.scopes 6 40):=V.2.1
  have a5:RS (sg l) 1 dt b6 (o.x.take 30):=V.2.2.1
  have a6:RS (sg l) 1 dt b7 (o.y.take 30):=V.2.2.2
  have ir:cg (kg ⟨⟨v,A,D,C⟩,b0,b6,b7⟩ (OC.fh ⟨0,0,o.cl,o.user,o.id,o.cU,o.uri,o.scopes,o.word,o.text,o.x,o.y,0⟩)):=⟨V.cK⟩
  have r7:=a3.u.aL
  have r8:=a3.s.aL
  simp only at r7 r8
  have r1:=a4.aL
  have r2:=a5.aL
  have r3:=a6.aL
  clear V
  obtain⟨Q,M,rfl⟩:=a4.val
  obtain⟨S,N,rfl⟩:=a5.val
  obtain⟨U,O,rfl⟩:=a6.val
  refine .dz (λb3=>?_)
  refine .dx rfl rfl<|.z ?_
  conv=>arg 8;simp only[cF,kg,OC.fh]
  refine .fa rfl<|.lo rfl<|.fa rfl<|.lo rfl<|.fa rfl<|.lo rfl ?_
  refine .q .dR ?_
  refine .je (λc0=>?_)
  refine .cL (Eg _ (.slice q4 o.dm.length k4) (.slice q5 o.no.length k5) (.slice q6 o.cs.length k6) o.dm o.no o.cs _ R (RS.lits (xs:=[fc (.slice q4 o.dm.length k4) (.slice q5 o.no.length k5) (.slice q6 o.cs.length k6)]) rfl (by simp[fc]) (by simp[fc,aL])) hm hn hg) (λu TF r=>?_)
  obtain⟨a,b,c,hF,ha,e,Z⟩:=r
  have ia:=ha.aL
  have ib:=e.aL
  have ic:=Z.aL
  have c6:cg (kM (fc a b c)):=ob a b c
  have c8:(o.dm.take 34).length<=34:=by simp;omega
  have c9:(o.no.take 34).length<=34:=by simp;omega
  have c7:(o.cs.take 34).length<=34:=by simp;omega
  refine .au 0 hF (show [fc a b c][0]? =some (fc a b c)from rfl) (λd1=>?_)
  refine .q (.aE rfl) ?_
  refine .dz (λG=>?_)
  refine .dx rfl rfl<|.z<|.fa rfl<|.lo rfl<|.fa rfl<|.lo rfl<|.fa rfl<|.q (.loadT rfl) ?_
  refine .fa rfl<|.lo rfl<|.fa rfl<|.lo rfl<|.fa rfl<|.lo rfl<|.fa rfl<|.lo rfl<|.fa rfl<|.lo rfl<|.fa rfl<|.lo rfl<|.fa rfl<|.lo rfl<|.fa rfl<|.lo rfl<|.fa rfl<|.lo rfl<|.fa rfl<|.lo rfl ?_
  have c3:cg (c5 o ⟨v,A,D,C⟩ (.slice Q (texts o.scopes 6 40).length M) (.slice S (o.x.take 30).length N) (.slice U (o.y.take 30).length O) (short o.text 60) (sZ) (sZ) (sZ)):=pA _ _ _ _ _ _ _ _ _
  refine .q (.cast (v':=.agg (c5 o ⟨v,A,D,C⟩ (.slice Q (texts o.scopes 6 40).length M) (.slice S (o.x.take 30).length N) (.slice U (o.y.take 30).length O) (short o.text 60) (sZ) (sZ) (sZ)).toArray) .dR rfl) ?_
  refine .dz (λH=>?_)
  refine .dx rfl rfl<|.zs<|.sr<|.fa rfl<|.lo rfl<|.q .cA<|.zn ?_
  refine bp.cut (X:=ByteArray) (λtx=>tx=short o.text (if o.kind=11 then 900 else 60)) (λtx=>[(1,pT b1),(2,pT F),(4,pT G),(5,pT H)]) (λtx=>[bl H (c5 o ⟨v,A,D,C⟩ (.slice Q (texts o.scopes 6 40).length M) (.slice S (o.x.take 30).length N) (.slice U (o.y.take 30).length O) tx (sZ) (sZ) (sZ)) 30,bl G (fc a b c) 103,l,bl F (dZ ko na) 30]) ?_ ?_
  refine .cond rfl (λY=>?_) λY=>?_
  refine .region<|.fa rfl<|.lo rfl ?_
  refine .bc (fK o.text 900 _) (λu r=>?_)
  subst r
  refine .fa rfl<|.cO rfl rfl<|.nil ?_
  ·first
      |exact ax (short o.text 900) (by have L:o.kind=11:=by simpa using Y
                                       rw[if_pos L]) kE.c.c.c.c (cu [0,0,3,3])
      |exact ax (short o.text 60) (by have L:¬o.kind=11:=by simpa using Y
                                      rw[if_neg L]) kE.c.c.c.c (cu [0,0,3,3])
  refine .skip ?_
  ·first
      |exact ax (short o.text 900) (by have L:o.kind=11:=by simpa using Y
                                       rw[if_pos L]) kE.c.c.c.c (cu [0,0,3,3])
      |exact ax (short o.text 60) (by have L:¬o.kind=11:=by simpa using Y
                                      rw[if_neg L]) kE.c.c.c.c (cu [0,0,3,3])
  intro x hx
  refine aD<|.seq<|.sr<|.az rfl<|.block ?_
  refine .loop (X:=Nat×Value×ay) (λy=>y.1<=(o.dm.take 34).length/\OS 73 7 bw.enc y.2.1 (((o.dm.take 34).take y.1).map bw.short) y.2.2) (λy=>[(1,pT b1),(2,pT F),(4,pT G),(5,pT H),(6,iN y.1)]) (λy=>[bl H (c5 o ⟨v,A,D,C⟩ (.slice Q (texts o.scopes 6 40).length M) (.slice S (o.x.take 30).length N) (.slice U (o.y.take 30).length O) x y.2.1 (sZ) (sZ)) 30,y.2.2,bl G (fc a b c) 103,l,bl F (dZ ko na) 30]) (λy=>(o.dm.take 34).length-y.1) (0,sZ,[]) ⟨Nat.zero_le _,OS.nil⟩ kE.c.c.c.c.c (bV.du (by simp)) ?_
  rintro⟨i,J,K⟩ ⟨hi,d⟩
  simp only at hi d⊢
  have iO:=d.aL
  refine .seq<|.sr<|.mo rfl<|.fa rfl<|.lo rfl<|.q (.dH ha) ?_
  refine .q .lss<|.zn ?_
  refine .cond rfl (λh2=>?_) λh2=>?_
  have I:i<(o.dm.take 34).length:=by have:=bo h2;omega
  obtain⟨z,t⟩:=eL I
  have a0:((o.dm.take 34).take (i+1)).map bw.short=((o.dm.take 34).take i).map bw.short++[z.short]:=by rw[acY,t];simp
  refine .kn<|.seq<|.block<|.sr<|.fa rfl<|.lo rfl<|.az rfl<|.region<|.mo rfl<|.fa rfl<|.lo rfl<|.mo rfl ?_
  refine .cR i ha t (λd2=>?_)
  refine .q (.aE rfl) ?_
  refine .bc (oZ z _) (λu r=>?_)
  subst r
  refine .je (λc1=>?_)
  refine .append d (RS.lits (xs:=[z.short]) rfl (by simp[bw.enc]) (by have:=(bw.one z.short).h;simpa using this)) (by simp;omega) (λv9 W p=>?_)
  have i9:=p.aL
  rw[<-a0]at p
  refine .fa rfl<|.cO rfl rfl<|.nil<|bi<|aD<|.region<|.mo rfl ?_
  refine .ia (i+1) .add ?_
  refine .ag rfl<|.nil ?_
  ·exact aN (i+1,v9,W) ⟨I,p⟩ (by simp only;omega) kE.c.c.c.c.c (cu [1,1,1,1,1])
  have he:i=(o.dm.take 34).length:=by have:=aY h2;omega
  rw[he,acZ]at d
  obtain⟨B,E,a1⟩:∃B E,OS 73 7 bw.enc B ((o.dm.take 34).map bw.short) E/\B=J/\E=K:=⟨J,K,d,rfl,rfl⟩
  obtain⟨a1,rfl,rfl⟩:=a1
  have iM:=a1.aL
  refine .exit<|aP<|aV<|aR<|aD<|.seq<|.sr<|.az rfl<|.block ?_
  refine .loop (X:=Nat×Value×ay) (λy=>y.1<=(o.no.take 34).length/\OS 73 7 bw.enc y.2.1 (((o.no.take 34).take y.1).map bw.short) y.2.2) (λy=>[(1,pT b1),(2,pT F),(4,pT G),(5,pT H),(8,iN y.1)]) (λy=>[bl H (c5 o ⟨v,A,D,C⟩ (.slice Q (texts o.scopes 6 40).length M) (.slice S (o.x.take 30).length N) (.slice U (o.y.take 30).length O) x B y.2.1 (sZ)) 30,y.2.2,E,bl G (fc a b c) 103,l,bl F (dZ ko na) 30]) (λy=>(o.no.take 34).length-y.1) (0,sZ,[]) ⟨Nat.zero_le _,OS.nil⟩ kE.c.c.c.c.c (bV.du (by simp)) ?_
  clear d iO
  rintro⟨j,J,K⟩ ⟨hj,d⟩
  simp only at hj d⊢
  have iO:=d.aL
  refine .seq<|.sr<|.mo rfl<|.fa rfl<|.lo rfl<|.q (.dH e) ?_
  refine .q .lss<|.zn ?_
  refine .cond rfl (λh3=>?_) λh3=>?_
  have I:j<(o.no.take 34).length:=by have:=bo h3;omega
  obtain⟨z,t⟩:=eL I
  have a0:((o.no.take 34).take (j+1)).map bw.short=((o.no.take 34).take j).map bw.short++[z.short]:=by rw[acY,t];simp
  refine .kn<|.seq<|.block<|.sr<|.fa rfl<|.lo rfl<|.az rfl<|.region<|.mo rfl<|.fa rfl<|.lo rfl<|.mo rfl ?_
  refine .cR j e t (λd0=>?_)
  refine .q (.aE rfl) ?_
  refine .bc (oZ z _) (λu r=>?_)
  subst r
  refine .je (λb8=>?_)
  refine .append d (RS.lits (xs:=[z.short]) rfl (by simp[bw.enc]) (by have:=(bw.one z.short).h;simpa using this)) (by simp;omega) (λv9 W p=>?_)
  have i9:=p.aL
  rw[<-a0]at p
  refine .fa rfl<|.cO rfl rfl<|.nil<|bi<|aD<|.region<|.mo rfl ?_
  refine .ia (j+1) .add ?_
  refine .ag rfl<|.nil ?_
  ·exact aN (j+1,v9,W) ⟨I,p⟩ (by simp only;omega) kE.c.c.c.c.c (cu [1,1,1,1,1,1])
  have he:j=(o.no.take 34).length:=by have:=aY h3;omega
  rw[he,acZ]at d
  obtain⟨vN,TN,a2⟩:∃B E,OS 73 7 bw.enc B ((o.no.take 34).map bw.short) E/\B=J/\E=K:=⟨J,K,d,rfl,rfl⟩
  obtain⟨a2,rfl,rfl⟩:=a2
  have c2:=a2.aL
  refine .exit<|aP<|aV<|aR<|aD<|.seq<|.sr<|.az rfl<|.block ?_
  refine .loop (X:=Nat×Value×ay) (λy=>y.1<=(o.cs.take 34).length/\OS 76 8 cI.enc y.2.1 (((o.cs.take 34).take y.1).map cI.short) y.2.2) (λy=>[(1,pT b1),(2,pT F),(4,pT G),(5,pT H),(10,iN y.1)]) (λy=>[bl H (c5 o ⟨v,A,D,C⟩ (.slice Q (texts o.scopes 6 40).length M) (.slice S (o.x.take 30).length N) (.slice U (o.y.take 30).length O) x B vN y.2.1) 30,y.2.2,TN,E,bl G (fc a b c) 103,l,bl F (dZ ko na) 30]) (λy=>(o.cs.take 34).length-y.1) (0,sZ,[]) ⟨Nat.zero_le _,OS.nil⟩ kE.c.c.c.c.c (bV.du (by simp)) ?_
  clear d iO
  rintro⟨k,J,K⟩ ⟨hk,d⟩
  simp only at hk d⊢
  have iO:=d.aL
  refine .seq<|.sr<|.mo rfl<|.fa rfl<|.lo rfl<|.q (.dH Z) ?_
  refine .q .lss<|.zn ?_
  refine .cond rfl (λh4=>?_) λh4=>?_
  have I:k<(o.cs.take 34).length:=by have:=bo h4;omega
  obtain⟨⟨zp,zt⟩,t⟩:=eL I
  have a0:((o.cs.take 34).take (k+1)).map cI.short=((o.cs.take 34).take k).map cI.short++[cI.short ⟨zp,zt⟩]:=by rw[acY,t];simp
  have pz:PC R (eS c (k*8)) (cI.enc ⟨zp,zt⟩):=Z.pc t
  refine .kn<|.seq<|.block<|.sr<|.fa rfl<|.lo rfl<|.az rfl<|.bF [16,18] mixed ?_
  refine .tO 0 rfl .move<|.tO 1 rfl (.fieldAddr rfl)<|.tO 2 rfl (.bO rfl)<|.tO 3 rfl .move ?_
  refine .tO 4 rfl (.cR k Z t rfl rfl rfl) ?_
  refine .tO 5 rfl (.fieldAddr rfl)<|.tO 6 rfl (.bO rfl)<|.tO 7 rfl (.fieldAddr rfl)<|.tO 8 rfl (.bO rfl)<|.tO 9 rfl .move ?_
  refine .tO 10 rfl (.cR k Z t rfl rfl rfl) ?_
  refine .tO 11 rfl (.fieldAddr rfl) ?_
  refine .tO 12 rfl (.loadT rfl) ?_
  refine .sT 13 rfl ?_
  refine .bc (oZ zt _) (λu r=>?_)
  subst r
  refine .nil (Next.sub ?_)
  refine .tO 14 rfl .dR ?_
  refine .sT 15 rfl ?_
  refine .je (λb9=>?_)
  refine .nil (Next.sub ?_)
  refine .sT 16 rfl ?_
  refine .append d (RS.lits (xs:=[cI.short ⟨zp,zt⟩]) rfl (by simp[cI.enc,bw.enc]) (by have:=(cI.one (cI.short ⟨zp,zt⟩)).h;simpa using this)) (by simp;omega) (λv9 W p=>?_)
  have i9:=p.aL
  rw[<-a0]at p
  refine .nil (Next.mod rfl ?_)
  refine .tK 17 rfl (.hY rfl) ?_
  refine .sT 18 rfl ?_
  refine .cO rfl rfl ?_
  refine .nil (Next.mod rfl ?_)
  refine RA.nil (by kernel_rfl) ?_
  refine bi<|aD<|.region<|.mo rfl ?_
  refine .ia (k+1) .add ?_
  refine .ag rfl<|.nil ?_
  ·exact aN (k+1,v9,W) ⟨I,p⟩ (by simp only;omega) kE.c.c.c.c.c (cu [1,1,1,1,1,1,1])
  have he:k=(o.cs.take 34).length:=by have:=aY h4;omega
  rw[he,acZ]at d
  have c4:=pA o ⟨v,A,D,C⟩ (.slice Q (texts o.scopes 6 40).length M) (.slice S (o.x.take 30).length N) (.slice U (o.y.take 30).length O) x B vN J
  refine .exit<|aP<|aV<|aR<|aD<|.sr<|.q (.aE rfl)<|.dx rfl rfl<|.zn ?_
  refine .ret (aZ _ (.one (.hN rfl rfl)) (.one [1,1,1,2] _) ?_)
  ·subst hx
   refine⟨_,rfl,⟨⟨v,A,D,C⟩,_,_,_,B,vN,J⟩,rfl,⟨?_,?_,?_,?_,?_,?_,?_⟩⟩
   ·exact a3.mono λb o e=>by have f:(b,o)∈l:=e;simp[sg,take,cq,f]
   ·exact a4.mono λb o e=>by have f:(b,o)∈l:=e;simp[sg,take,cq,f]
   ·exact a5.mono λb o e=>by have f:(b,o)∈l:=e;simp[sg,take,cq,f]
   ·exact a6.mono λb o e=>by have f:(b,o)∈l:=e;simp[sg,take,cq,f]
   ·exact a1.sg.mono λb o e=>by have f:(b,o)∈E:=e;simp[sg,take,cq,f]
   ·exact a2.sg.mono λb o e=>by have f:(b,o)∈TN:=e;simp[sg,take,cq,f]
   ·exact d.sg.mono λb o e=>by have f:(b,o)∈K:=e;simp[sg,take,cq,f]
theorem E3(w:OW)(o:fN)(R:aA)(h:gI R w o):Spec prog 7 [.agg (dZ w o).toArray] R [] λu H'=>∃T,H'=[T]/\∃w',u=.agg (dZ w' o.fh).toArray/\gI (sg T) w' o.fh:=by
 have Z:cg (dZ w o):=⟨h.cK⟩
 refine Spec.body func7 rfl results7 ntmps7 rfl ?_
 refine .sr ?_
 refine .cJ rfl (λW=>?_)
 refine .dz (λX=>?_)
 refine .z<|.q (.aE rfl) ?_
 refine .cL (Fz w o _ (h.mono λb o t=>.inl t)) (λu r A=>?_)
 obtain⟨p,rfl,a⟩:=A
 have v:=a
 have ir:cg (dZ p o.fh):=⟨a.cK⟩
 obtain⟨⟨Q,S,V,U⟩,vs,vx,vy,vm,vn,vc⟩:=p
 have d:=a.c
 have j:=a.s
 have k:=a.x
 have l:=a.y
 have f:=a.m
 have i:=a.n
 have e:=a.g
 simp only at d j k l f i e
 have B:=d.u.aL
 have C:=d.s.aL
 simp only at B C
 obtain⟨J,D,rfl⟩:=j.val
 obtain⟨K,E,rfl⟩:=k.val
 obtain⟨L,F,rfl⟩:=l.val
 obtain⟨M,G,rfl⟩:=f.val
 obtain⟨N,H,rfl⟩:=i.val
 obtain⟨O,I,rfl⟩:=e.val
 refine .dz (λY=>?_)
 refine .dx rfl rfl<|.z ?_
 conv=>arg 8;simp only[cF,dZ]
 refine .fa rfl<|.lo rfl<|.fa rfl<|.lo rfl<|.fa rfl<|.q (.loadT rfl) ?_
 refine .fa rfl<|.lo rfl<|.fa rfl<|.lo rfl<|.fa rfl<|.lo rfl<|.fa rfl<|.lo rfl<|.fa rfl<|.lo rfl<|.fa rfl<|.lo rfl<|.fa rfl<|.lo rfl<|.fa rfl<|.lo rfl<|.fa rfl<|.lo rfl<|.fa rfl<|.lo rfl<|.fa rfl<|.lo rfl<|.fa rfl<|.lo rfl<|.fa rfl<|.lo rfl ?_
 refine .q (.dR (out:=dZ ⟨⟨Q,S,V,U⟩,.slice J o.fh.scopes.length D,.slice K o.fh.x.length E,.slice L o.fh.y.length F,.slice M o.fh.dm.length G,.slice N o.fh.no.length H,.slice O o.fh.cs.length I⟩ o.fh) rfl (by simp[eY,cF,dZ])) ?_
 refine .dx rfl rfl<|.zn ?_
 refine .ret (aZ _ (.one (.hN rfl rfl)) (.one [1] _) ?_)
 ·exact⟨r,by simp[take,cq],_,rfl,v⟩
end Go.Proofs.YtgppncmdpcefhaaGreatDoor

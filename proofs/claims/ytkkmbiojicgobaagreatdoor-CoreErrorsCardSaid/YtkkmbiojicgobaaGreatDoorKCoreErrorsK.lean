/- What the law 'CoreErrors' uses. No condition. -/
import Derived.Test.YtkkmbiojicgobaaGreatDoorKCoreErrorsB
import Derived.Test.YtkkmbiojicgobaaGreatDoorKCoreErrorsG
import Derived.Test.YtkkmbiojicgobaaGreatDoorKCoreErrorsH
import Derived.Test.YtkkmbiojicgobaaGreatDoorKCoreErrorsJ
set_option linter.unusedSimpArgs false
set_option linter.unusedVariables false
namespace Go.Proofs.YtkkmbiojicgobaaGreatDoor
set_option linter.defProp false
def adq:=@congrArg
def adr:=@trivial
def ads:=@Bool.eq_iff_iff
def adt:=@Bool.true_and
def adu:=@decide_eq_true
def adv:=@decide_eq_false
def adw:=@if_neg
open Tryz
set_option linter.unusedVariables false
set_option maxRecDepth 4000
theorem uI(v:Value)(xs:List UInt8)(n:Nat)(b R:av)(h:RS b 1 cO v xs)(f:n<=1000000):
  Spec prog 42 [v,iN n] R [] λu H'=>RS b 1 cO u (xs.take n)/\H'=[]:=by
 have d:=h.le
 have i:=h.aw
 refine Spec.body func42 rfl results42 ntmps42 rfl ?_
 refine .sr<|.ag rfl<|.zs<|.sr<|.mo rfl<|.q (.dl h) ?_
 refine .mo rfl<|.q .gtr<|.zn ?_
 refine .cond rfl (λa=>?_) λa=>?_
 have e:n<xs.length:=dQ a
 refine .sr<|.mo rfl<|.mo rfl ?_
 refine .jW 0 n h rfl ⟨_,rfl⟩ (by omega) (by omega) (λj c=>?_)
 have g:=c.aw
 refine .az rfl ?_
 refine .ret (aL (aO rfl ?_))
 ·exact⟨by simpa using c,rfl⟩
 refine .kn<|.sr<|.mo rfl<|.az rfl ?_
 refine .ret (aO rfl ?_)
 ·refine⟨?_,rfl⟩
  rw[List.take_of_length_le (by have:=bo a;omega)]
  exact h
theorem uD(v:Value)(xs:List UInt8)(R:av)(h:RS R 1 cO v xs)(c:xs.length<=1000000):
  Spec prog 41 [v] R [] λu H'=>∃T,H'=[T]/\OS 5 1 cO u xs T:=by
 have e:=h.aw
 refine Spec.dg (H':=[[]]) (by simp) ?_
 refine Spec.body func41 rfl results41 ntmps41 rfl ?_
 refine .sr<|.ag rfl<|.z<|.ag rfl<|.z<|.mo rfl<|.mo rfl ?_
 refine .append (OS.nil (enc:=cO) (sz:=1)) h.rx (by simp;omega) (λf b a=>?_)
 have d:=a.aw
 refine .az rfl ?_
 refine .ret (aR _ (.one (.tmp rfl)) (.one [0] _) ?_)
 ·exact⟨b,by simp[take],by simpa using a⟩
structure OC where
 kind:Int
 n:Int
 cl:bA
 user:ByteArray
 id:ByteArray
 cD:ByteArray
 uri:ByteArray
 scopes:List ByteArray
 word:ByteArray
 text:ByteArray
 a:List UInt8
 r:List UInt8
 rev:Int
structure OV where
 cr:CR
 vs:Value
 va:Value
 vr:Value
def fW(w:OV)(x:OC):List Value:=[.int .i64 x.kind,.int .i64 x.n,.string w.cr.id,.string w.cr.cD,w.cr.vu,w.cr.vs,.string x.user,.string x.id,.string x.cD,.string x.uri,w.vs,.string x.word,.string x.text,w.va,w.vr,.int .u64 x.rev]
def OR(R:av)(w:OV)(x:OC):Prop:=eV R w.cr x.cl/\RS R 1 bB w.vs x.scopes/\RS R 1 cO w.va x.a/\RS R 1 cO w.vr x.r
theorem OR.mono{R R':av}{w:OV}{x:OC}(h:OR R w x)(a:∀b o,R b o->R' b o):OR R' w x:=⟨h.1.mono a,h.2.1.mono a,h.2.2.1.mono a,h.2.2.2.mono a⟩
theorem OR.bG{R:av}{w:OV}{x:OC}(h:OR R w x):∀u∈fW w x,aw u=true:=by
 have a:=h.1.bG
 have c:=h.2.1.aw.h
 have d:=h.2.2.1.aw.h
 have e:=h.2.2.2.aw.h
 have f:aw w.cr.vu=true:=a _ (by simp[CR.cells])
 have g:aw w.cr.vs=true:=a _ (by simp[CR.cells])
 intro u b
 simp only[fW,List.mem_cons,List.not_mem_nil,or_false]at b
 rcases b with rfl|rfl|rfl|rfl|rfl|rfl|rfl|rfl|rfl|rfl|rfl|rfl|rfl|rfl|rfl|rfl<;>first|rfl|assumption
def OC.bT(x:OC):OC:=⟨x.kind,x.n,x.cl.short,short x.user 40,short x.id 40,short x.cD 70,short x.uri 210,texts x.scopes 6 40,short x.word 140,short x.text 60,x.a.take 30,x.r.take 30,x.rev⟩
theorem wX(w:OV)(x:OC)(R:av)(h:OR R w x):Spec prog 8 [.agg (fW w x).toArray] R [] λv H'=>∃T,H'=[T]/\∃w',v=.agg (fW w' x.bT).toArray/\OR (sg T) w' x.bT:=by
 have i1:bJ (fW w x):=⟨h.bG⟩
 obtain⟨⟨O,Q,vu,Z⟩,vt,X,Y⟩:=w
 obtain⟨k,n,N,H,I,J,K,S,L,M,B,C,a0⟩:=x
 obtain⟨e,i,f,g⟩:=h
 simp only at e i f g
 have i2:=i.aw
 have i3:=f.aw
 have i4:=g.aw
 have i5:=e.u.aw
 have i6:=e.s.aw
 refine Spec.body func8 rfl results8 ntmps8 rfl ?_
 refine .sr ?_
 refine .dv rfl (λb1=>?_)
 refine .cN (λb2=>?_)
 refine .z<|.fa rfl<|.q (.loadT rfl) ?_
 refine .da (An ⟨O,Q,vu,Z⟩ N _ (e.mono λb o c=>.inl c)) (λu D a=>?_)
 obtain⟨⟨r,t,A,y⟩,rfl,d⟩:=a
 have i7:=d.u.aw
 have i8:=d.s.aw
 have i9:bJ (CR.cells ⟨r,t,A,y⟩):=⟨d.bG⟩
 refine .fa rfl<|.ct rfl rfl<|.zs<|.cW [19,21,23,25,27,29] mixed ?_
 refine .tO 0 rfl (.fieldAddr rfl)<|.tO 1 rfl (.bN rfl)<|.tO 3 rfl (.fieldAddr rfl)<|.tO 4 rfl (.bN rfl)<|.tO 6 rfl (.fieldAddr rfl)<|.tO 7 rfl (.bN rfl)<|.tO 9 rfl (.fieldAddr rfl)<|.tO 10 rfl (.bN rfl)<|.tO 12 rfl (.fieldAddr rfl)<|.tO 13 rfl (.bN rfl)<|.tO 15 rfl (.fieldAddr rfl)<|.tO 16 rfl (.bN rfl) ?_
 refine .sT 2 rfl ?_
 refine .aM (mx H 40 _) (λu a=>?_)
 subst a
 refine .nil (Next.sub ?_)
 refine .tO 18 rfl (.fieldAddr rfl) ?_
 refine .sT 5 rfl ?_
 refine .aM (mx I 40 _) (λu a=>?_)
 subst a
 refine .nil (Next.sub ?_)
 refine .sT 8 rfl ?_
 refine .aM (mx J 70 _) (λu a=>?_)
 subst a
 refine .nil (Next.sub ?_)
 refine .sT 11 rfl ?_
 refine .aM (mx K 210 _) (λu a=>?_)
 subst a
 refine .nil (Next.sub ?_)
 refine .sT 14 rfl ?_
 refine .aM (mx L 140 _) (λu a=>?_)
 subst a
 refine .nil (Next.sub ?_)
 refine .sT 17 rfl ?_
 refine .aM (mx M 60 _) (λu a=>?_)
 subst a
 refine .nil (Next.sub ?_)
 refine .sT 19 rfl ?_
 refine .cJ rfl rfl ?_
 refine .nil (Next.mod rfl ?_)
 refine .tK 20 rfl (.gy rfl) ?_
 refine .sT 21 rfl ?_
 refine .cJ rfl rfl ?_
 refine .nil (Next.mod rfl ?_)
 refine .tK 22 rfl (.gy rfl) ?_
 refine .sT 23 rfl ?_
 refine .cJ rfl rfl ?_
 refine .nil (Next.mod rfl ?_)
 refine .tK 24 rfl (.gy rfl) ?_
 refine .sT 25 rfl ?_
 refine .cJ rfl rfl ?_
 refine .nil (Next.mod rfl ?_)
 refine .tK 26 rfl (.gy rfl) ?_
 refine .sT 27 rfl ?_
 refine .cJ rfl rfl ?_
 refine .nil (Next.mod rfl ?_)
 refine .tK 28 rfl (.gy rfl) ?_
 refine .sT 29 rfl ?_
 refine .cJ rfl rfl ?_
 refine .nil (Next.mod rfl ?_)
 refine RA.nil (by kernel_rfl) ?_
 refine aD<|.sr<|.fa rfl<|.lo rfl ?_
 refine .da (pC vt S 6 40 (by omega) _ i.rx) (λU E j=>?_)
 have j2:=j.aw
 refine .fa rfl<|.cJ rfl rfl<|.zs<|.cW [9,11] mixed ?_
 refine .tO 0 rfl (.fieldAddr rfl)<|.tO 1 rfl (.bN rfl)<|.tO 4 rfl (.fieldAddr rfl)<|.tO 5 rfl (.bN rfl) ?_
 refine .sT 2 rfl ?_
 refine .aM (uI X B 30 R _ f (by omega)) (λu a=>?_)
 have j3:=a.aw
 refine .nil (Next.sub ?_)
 refine .sT 3 rfl ?_
 refine .da (uD _ (B.take 30) _ a.rx (by simp;omega)) (λV F l=>?_)
 have j4:=l.aw
 refine .nil (Next.sub ?_)
 refine .tO 8 rfl (.fieldAddr rfl) ?_
 refine .sT 6 rfl ?_
 refine .aM (uI Y C 30 R _ g (by omega)) (λu2 p=>?_)
 have j5:=p.aw
 refine .nil (Next.sub ?_)
 refine .sT 7 rfl ?_
 refine .da (uD _ (C.take 30) _ p.rx (by simp;omega)) (λW G m=>?_)
 have j6:=m.aw
 refine .nil (Next.sub ?_)
 refine .sT 9 rfl ?_
 refine .cJ rfl rfl ?_
 refine .nil (Next.mod rfl ?_)
 refine .tK 10 rfl (.gy rfl) ?_
 refine .sT 11 rfl ?_
 refine .cJ rfl rfl ?_
 refine .nil (Next.mod rfl ?_)
 refine RA.nil (by kernel_rfl) ?_
 refine aD<|.sr<|.q (.bK rfl)<|.ct rfl rfl<|.zn ?_
 refine .ret (aR _ (.one (.ey rfl rfl)) (.one [0,0,0,0] _) ?_)
 ·exact⟨G++(F++(E++D)),by simp[take,aZ],⟨⟨r,t,A,y⟩,U,V,W⟩,rfl,d.mono λb o c=>kU (kU (kU c)),j.sg.mono λb o c=>kU (kU (mP c)),l.sg.mono λb o c=>kU (mP c),m.sg.mono λb o c=>mP c⟩
set_option linter.unusedSimpArgs false
def cE(z:Int):Bool:=(decide (97<=z)&&decide (z<=122))||((decide (65<=z)&&decide (z<=90))||((decide (48<=z)&&decide (z<=57))||(z==45||(z==46||(z==95||z==126)))))
def ji(s:ByteArray):Bool:=fb s cE&&(decide (43<=s.size)&&decide (s.size<=128))
def rf:ByteArray:=⟨#[65,66,67,68,69,70,71,72,73,74,75,76,77,78,79,80,81,82,83,84,85,86,87,88,89,90,97,98,99,100,101,102,103,104,105,106,107,108,109,110,111,112,113,114,115,116,117,118,119,120,121,122,48,49,50,51,52,53,54,55,56,57,45,46,95,126]⟩
theorem tB(c:UInt8):decide (Lib.indexByte rf.data.toList c<0)= !cE (c.toNat:Int):=by
 have e:∀k:Fin 256,decide (Lib.indexByte rf.data.toList (UInt8.ofNat k.val)<0)= !cE (((UInt8.ofNat k.val).toNat:Nat):Int):=by decide+kernel
 have h:=e ⟨c.toNat,c.toNat_lt⟩
 simpa using h
theorem yc(s:ByteArray)(c:Int)(R:av):Spec prog 260 [.string s,.int .u8 c] R [] λv H'=>v=.int .i64 (Lib.indexByte s.data.toList c.toNat.toUInt8)/\H'=[]:=by
 refine Spec.body func260 rfl results260 ntmps260 rfl ?_
 refine .sr<|.ag rfl<|.z<|.mo rfl<|.mo rfl ?_
 refine .aM (Spec.o4 (yh s c) _) (λv a=>?_)
 subst a
 refine .az rfl ?_
 refine .ret (aO rfl ?_)
 ·exact⟨rfl,rfl⟩
theorem yE(s:ByteArray)(x:s.size<=9223372036854775807)(R:av):Spec prog 205 [.string s] R [] λv H'=>v=.bool (ji s)/\H'=[]:=by
  refine Spec.body func205 rfl results205 ntmps205 rfl ?_
  refine .sr<|.ag rfl<|.zs<|.sr<|.mo rfl<|.q .fG<|.mo rfl<|.zn<|.block ?_
  refine .loop (X:=Nat) (λi=>i<=s.size/\∀j (f:j<s.size),j<i->cE (s[j]'f).toNat=true) (λi=>[(0,.string s),(5,iN s.size),(6,iN i)]) (λ_=>[]) (λi=>s.size-i) 0 ⟨Nat.zero_le _,λ_ _ h=>by omega⟩ kE.c.c.c rH ?_
  rintro i ⟨u,n⟩
  refine .sr<|.q .lss<|.zs ?_
  refine .cond rfl (λg=>?_) λg=>?_
  have b:i<s.size:=dQ g
  refine .kn<|.seq<|.block<|.sr<|.mo rfl<|.ag rfl<|.z<|.mo rfl<|.mo rfl<|.q (.iJ (p:=s) i b) ?_
  refine .aM (yc rf _ _) (λv r=>?_)
  subst r
  have o:((s[i]'b).toNat:Int).toNat.toUInt8=s[i]'b:=by simp
  rw[o]
  refine .q .lss<|.zn ?_
  refine .cond rfl (λk=>?_) λk=>?_
  have m:=(tB (s[i]'b)).symm.trans k
  have l:fb s cE=false:=dZ b (by simpa using m)
  refine .sr<|.az rfl ?_
  refine .ret (br (aL (dn (br (aL (aO rfl ?_))))))
  ·refine⟨adq Value.bool ?_,rfl⟩
   unfold ji
   first
     |(rw[l];rfl)
     |(rw[d,adt]
       have e:decide (43<=s.size)=true:=(by
         have:=bx a
         exact adu (by omega))
       rw[e,adt]
       by_cases h9:s.size<=128
       ·rw[adu h9];exact adu (by omega)
       ·rw[adv h9];exact adv (by omega))
     |(rw[d,adt]
       have e:decide (43<=s.size)=false:=(by
         have:=bo a
         exact adv (by omega))
       rw[e];rfl)
  have m:=(tB (s[i]'b)).symm.trans k
  refine .skip<|bz<|aD<|.region ?_
  refine .ia (i+1) .add ?_
  refine .mo rfl<|.nil ?_
  ·exact bf (i+1) ⟨b,λj f w=>by
      rcases Nat.lt_or_ge j i with h9|h9
      ·exact n j f h9
      ·obtain rfl:j=i:=by omega
       simpa using m⟩ (by omega) kE.c.c.c rH
  have d:fb s cE=true:=mD λj f=>n j f (by have:=bo g;omega)
  refine .exit<|bD<|bH<|bF<|aD<|.sr<|.mo rfl<|.q .fG<|.q .geq<|.mo rfl ?_
  refine .split (t:=18) rfl (λa=>?_) (λa=>?_)
  refine .gT a<|.mo rfl<|.gT a<|.q .fG<|.gT a<|.q .leq<|.q (.aY a) ?_
  refine .az rfl ?_
  refine .ret (aO rfl ?_)
  ·refine⟨adq Value.bool ?_,rfl⟩
   unfold ji
   first
     |(rw[l];rfl)
     |(rw[d,adt]
       have e:decide (43<=s.size)=true:=(by
         have:=bx a
         exact adu (by omega))
       rw[e,adt]
       by_cases h9:s.size<=128
       ·rw[adu h9];exact adu (by omega)
       ·rw[adv h9];exact adv (by omega))
     |(rw[d,adt]
       have e:decide (43<=s.size)=false:=(by
         have:=bo a
         exact adv (by omega))
       rw[e];rfl)
  refine .gF a<|.gF a<|.gF a<|.q (.aS a) ?_
  refine .az rfl ?_
  refine .ret (aO rfl ?_)
  ·refine⟨adq Value.bool ?_,rfl⟩
   unfold ji
   first
     |(rw[l];rfl)
     |(rw[d,adt]
       have e:decide (43<=s.size)=true:=(by
         have:=bx a
         exact adu (by omega))
       rw[e,adt]
       by_cases h9:s.size<=128
       ·rw[adu h9];exact adu (by omega)
       ·rw[adv h9];exact adv (by omega))
     |(rw[d,adt]
       have e:decide (43<=s.size)=false:=(by
         have:=bo a
         exact adv (by omega))
       rw[e];rfl)
theorem M4(s:ByteArray)(H:s.size<=9223372036854775807)(R:av):Spec prog 171 [.string s] R [] λv H'=>v=.bool (ji s)/\H'=[]:=by
  refine Spec.body func171 rfl results171 ntmps171 rfl ?_
  refine .sr<|.ag rfl<|.zs<|.sr<|.az rfl<|.block ?_
  refine .loop (X:=Nat) (λi=>i<=s.size/\∀j (x:j<s.size),j<i->cE (s[j]'x).toNat=true) (λi=>[(0,.string s),(3,iN i)]) (λ_=>[]) (λi=>s.size-i) 0 ⟨Nat.zero_le _,λ_ _ h=>by omega⟩ kE.c.c rH ?_
  rintro i ⟨F,g⟩
  refine .seq<|.sr<|.mo rfl<|.mo rfl<|.q .fG<|.q .lss<|.zn ?_
  refine .cond rfl (λB=>?_) λB=>?_
  have A:i<s.size:=dQ B
  refine .kn<|.seq<|.block<|.sr<|.mo rfl<|.mo rfl<|.q (.iJ (p:=s) i A) ?_
  generalize E:((s[i]'A).toNat:Int)=z
  refine .ag rfl<|.zs ?_
  refine bQ.cut (X:=Unit) (λ_=>True) (λ_=>[(0,.string s),(3,iN i),(52,.bool (!cE z))]) (λ_=>[]) ?_ ?_
  refine .region<|.mo rfl<|.q .geq<|.mo rfl ?_
  refine .split (t:=16) rfl (λu=>?_) (λu=>?_)
  refine .gT u<|.mo rfl<|.gT u<|.q .leq<|.q (.aY u) ?_
  refine .mo rfl ?_
  refine .split (t:=20) rfl (λr=>?_) (λr=>?_)
  refine .gF r<|.gF r<|.gF r<|.cX rfl ?_
  refine .cX rfl ?_
  refine .gF r<|.q (.aY r) ?_
  refine .mo rfl<|.gX<|.gX<|.gX<|.cX rfl ?_
  refine .cX rfl ?_
  refine .gX<|.q .ca<|.mo rfl<|.gX<|.gX<|.q .ca<|.mo rfl<|.gX<|.gX<|.q .ca<|.mo rfl<|.gX<|.gX<|.q .ca<|.mo rfl<|.gX<|.gX<|.q .ca<|.q .not<|.nil ?_
  ·refine aB () adr (bh.cons (bh.cons (bh.cons (bh.nil _) ?_) rfl) rfl) rH
   refine adq (λb=>some (Value.bool b)) (?_:_= !cE z)
   unfold cE
   clear g
   simp_all<;>(rw[ads];simp;omega)
  refine .gT r<|.mo rfl<|.gT r<|.q .geq<|.gT r<|.mo rfl ?_
  refine .split (t:=23) rfl (λn=>?_) (λn=>?_)
  refine .gT n<|.mo rfl<|.gT n<|.q .leq<|.gT r<|.q (.aY n) ?_
  refine .q (.aS r) ?_
  refine .mo rfl ?_
  refine .split (t:=28) rfl (λm=>?_) (λm=>?_)
  refine .gF m<|.gF m<|.gF m<|.cX rfl ?_
  refine .cX rfl ?_
  refine .gF m<|.q (.aY m) ?_
  refine .mo rfl<|.gX<|.gX<|.q .ca<|.mo rfl<|.gX<|.gX<|.q .ca<|.mo rfl<|.gX<|.gX<|.q .ca<|.mo rfl<|.gX<|.gX<|.q .ca<|.q .not<|.nil ?_
  ·refine aB () adr (bh.cons (bh.cons (bh.cons (bh.nil _) ?_) rfl) rfl) rH
   refine adq (λb=>some (Value.bool b)) (?_:_= !cE z)
   unfold cE
   clear g
   simp_all<;>(rw[ads];simp;omega)
  refine .gT m<|.mo rfl<|.gT m<|.q .geq<|.gT m<|.mo rfl ?_
  refine .split (t:=31) rfl (λk=>?_) (λk=>?_)
  refine .gT k<|.mo rfl<|.gT k<|.q .leq<|.gT m<|.q (.aY k) ?_
  refine .q (.aS m) ?_
  refine .mo rfl ?_
  refine .split (t:=36) rfl (λl=>?_) (λl=>?_)
  refine .gF l<|.gF l<|.q (.aY l) ?_
  refine .mo rfl<|.gX<|.gX<|.q .ca<|.mo rfl<|.gX<|.gX<|.q .ca<|.mo rfl<|.gX<|.gX<|.q .ca<|.q .not<|.nil ?_
  ·refine aB () adr (bh.cons (bh.cons (bh.cons (bh.nil _) ?_) rfl) rfl) rH
   refine adq (λb=>some (Value.bool b)) (?_:_= !cE z)
   unfold cE
   clear g
   simp_all<;>(rw[ads];simp;omega)
  refine .gT l<|.mo rfl<|.gT l<|.q .bS<|.q (.aS l) ?_
  refine .mo rfl ?_
  refine .split (t:=40) rfl (λa=>?_) (λa=>?_)
  refine .gF a<|.gF a<|.q (.aY a) ?_
  refine .mo rfl<|.gX<|.gX<|.q .ca<|.mo rfl<|.gX<|.gX<|.q .ca<|.q .not<|.nil ?_
  ·refine aB () adr (bh.cons (bh.cons (bh.cons (bh.nil _) ?_) rfl) rfl) rH
   refine adq (λb=>some (Value.bool b)) (?_:_= !cE z)
   unfold cE
   clear g
   simp_all<;>(rw[ads];simp;omega)
  refine .gT a<|.mo rfl<|.gT a<|.q .bS<|.q (.aS a) ?_
  refine .mo rfl ?_
  refine .split (t:=44) rfl (λd=>?_) (λd=>?_)
  refine .gF d<|.gF d<|.q (.aY d) ?_
  refine .mo rfl<|.gX<|.gX<|.q .ca<|.q .not<|.nil ?_
  ·refine aB () adr (bh.cons (bh.cons (bh.cons (bh.nil _) ?_) rfl) rfl) rH
   refine adq (λb=>some (Value.bool b)) (?_:_= !cE z)
   unfold cE
   clear g
   simp_all<;>(rw[ads];simp;omega)
  refine .gT d<|.mo rfl<|.gT d<|.q .bS<|.q (.aS d) ?_
  refine .mo rfl ?_
  refine .split (t:=48) rfl (λf=>?_) (λf=>?_)
  refine .gF f<|.gF f<|.q (.aY f) ?_
  refine .q .not<|.nil ?_
  ·refine aB () adr (bh.cons (bh.cons (bh.cons (bh.nil _) ?_) rfl) rfl) rH
   refine adq (λb=>some (Value.bool b)) (?_:_= !cE z)
   unfold cE
   clear g
   simp_all<;>(rw[ads];simp;omega)
  refine .gT f<|.mo rfl<|.gT f<|.q .bS<|.q (.aS f) ?_
  refine .q .not<|.nil ?_
  ·refine aB () adr (bh.cons (bh.cons (bh.cons (bh.nil _) ?_) rfl) rfl) rH
   refine adq (λb=>some (Value.bool b)) (?_:_= !cE z)
   unfold cE
   clear g
   simp_all<;>(rw[ads];simp;omega)
  refine .gF k<|.gF k<|.gT m<|.q (.aS k) ?_
  refine .q (.aS m) ?_
  refine .mo rfl<|.gt rfl ?_
  refine .mo rfl<|.gt rfl ?_
  refine .q .bS<|.q .bY<|.mo rfl ?_
  refine .split (t:=40) rfl (λa=>?_) (λa=>?_)
  refine .gF a<|.gF a<|.q (.aY a) ?_
  refine .mo rfl<|.gX<|.gX<|.q .ca<|.mo rfl<|.gX<|.gX<|.q .ca<|.q .not<|.nil ?_
  ·refine aB () adr (bh.cons (bh.cons (bh.cons (bh.nil _) ?_) rfl) rfl) rH
   refine adq (λb=>some (Value.bool b)) (?_:_= !cE z)
   unfold cE
   clear g
   simp_all<;>(rw[ads];simp;omega)
  refine .gT a<|.mo rfl<|.gT a<|.q .bS<|.q (.aS a) ?_
  refine .mo rfl ?_
  refine .split (t:=44) rfl (λd=>?_) (λd=>?_)
  refine .gF d<|.gF d<|.q (.aY d) ?_
  refine .mo rfl<|.gX<|.gX<|.q .ca<|.q .not<|.nil ?_
  ·refine aB () adr (bh.cons (bh.cons (bh.cons (bh.nil _) ?_) rfl) rfl) rH
   refine adq (λb=>some (Value.bool b)) (?_:_= !cE z)
   unfold cE
   clear g
   simp_all<;>(rw[ads];simp;omega)
  refine .gT d<|.mo rfl<|.gT d<|.q .bS<|.q (.aS d) ?_
  refine .mo rfl ?_
  refine .split (t:=48) rfl (λf=>?_) (λf=>?_)
  refine .gF f<|.gF f<|.q (.aY f) ?_
  refine .q .not<|.nil ?_
  ·refine aB () adr (bh.cons (bh.cons (bh.cons (bh.nil _) ?_) rfl) rfl) rH
   refine adq (λb=>some (Value.bool b)) (?_:_= !cE z)
   unfold cE
   clear g
   simp_all<;>(rw[ads];simp;omega)
  refine .gT f<|.mo rfl<|.gT f<|.q .bS<|.q (.aS f) ?_
  refine .q .not<|.nil ?_
  ·refine aB () adr (bh.cons (bh.cons (bh.cons (bh.nil _) ?_) rfl) rfl) rH
   refine adq (λb=>some (Value.bool b)) (?_:_= !cE z)
   unfold cE
   clear g
   simp_all<;>(rw[ads];simp;omega)
  refine .gF n<|.gF n<|.gT r<|.q (.aS n) ?_
  refine .q (.aS r) ?_
  refine .mo rfl<|.gt rfl ?_
  refine .mo rfl<|.gt rfl ?_
  refine .q .geq<|.gt rfl ?_
  refine .mo rfl ?_
  refine .split (t:=31) rfl (λk=>?_) (λk=>?_)
  refine .gT k<|.mo rfl<|.gT k<|.q .leq<|.gt rfl ?_
  refine .q (.aY k) ?_
  refine .q .bY<|.mo rfl ?_
  refine .split (t:=36) rfl (λl=>?_) (λl=>?_)
  refine .gF l<|.gF l<|.q (.aY l) ?_
  refine .mo rfl<|.gX<|.gX<|.q .ca<|.mo rfl<|.gX<|.gX<|.q .ca<|.mo rfl<|.gX<|.gX<|.q .ca<|.q .not<|.nil ?_
  ·refine aB () adr (bh.cons (bh.cons (bh.cons (bh.nil _) ?_) rfl) rfl) rH
   refine adq (λb=>some (Value.bool b)) (?_:_= !cE z)
   unfold cE
   clear g
   simp_all<;>(rw[ads];simp;omega)
  refine .gT l<|.mo rfl<|.gT l<|.q .bS<|.q (.aS l) ?_
  refine .mo rfl ?_
  refine .split (t:=40) rfl (λa=>?_) (λa=>?_)
  refine .gF a<|.gF a<|.q (.aY a) ?_
  refine .mo rfl<|.gX<|.gX<|.q .ca<|.mo rfl<|.gX<|.gX<|.q .ca<|.q .not<|.nil ?_
  ·refine aB () adr (bh.cons (bh.cons (bh.cons (bh.nil _) ?_) rfl) rfl) rH
   refine adq (λb=>some (Value.bool b)) (?_:_= !cE z)
   unfold cE
   clear g
   simp_all<;>(rw[ads];simp;omega)
  refine .gT a<|.mo rfl<|.gT a<|.q .bS<|.q (.aS a) ?_
  refine .mo rfl ?_
  refine .split (t:=44) rfl (λd=>?_) (λd=>?_)
  refine .gF d<|.gF d<|.q (.aY d) ?_
  refine .mo rfl<|.gX<|.gX<|.q .ca<|.q .not<|.nil ?_
  ·refine aB () adr (bh.cons (bh.cons (bh.cons (bh.nil _) ?_) rfl) rfl) rH
   refine adq (λb=>some (Value.bool b)) (?_:_= !cE z)
   unfold cE
   clear g
   simp_all<;>(rw[ads];simp;omega)
  refine .gT d<|.mo rfl<|.gT d<|.q .bS<|.q (.aS d) ?_
  refine .mo rfl ?_
  refine .split (t:=48) rfl (λf=>?_) (λf=>?_)
  refine .gF f<|.gF f<|.q (.aY f) ?_
  refine .q .not<|.nil ?_
  ·refine aB () adr (bh.cons (bh.cons (bh.cons (bh.nil _) ?_) rfl) rfl) rH
   refine adq (λb=>some (Value.bool b)) (?_:_= !cE z)
   unfold cE
   clear g
   simp_all<;>(rw[ads];simp;omega)
  refine .gT f<|.mo rfl<|.gT f<|.q .bS<|.q (.aS f) ?_
  refine .q .not<|.nil ?_
  ·refine aB () adr (bh.cons (bh.cons (bh.cons (bh.nil _) ?_) rfl) rfl) rH
   refine adq (λb=>some (Value.bool b)) (?_:_= !cE z)
   unfold cE
   clear g
   simp_all<;>(rw[ads];simp;omega)
  refine .gF k<|.gF k<|.gt rfl ?_
  refine .q (.aS k) ?_
  refine .q .bY<|.mo rfl<|.gt rfl ?_
  refine .mo rfl<|.gt rfl ?_
  refine .q .bS<|.q .bY<|.mo rfl ?_
  refine .split (t:=40) rfl (λa=>?_) (λa=>?_)
  refine .gF a<|.gF a<|.q (.aY a) ?_
  refine .mo rfl<|.gX<|.gX<|.q .ca<|.mo rfl<|.gX<|.gX<|.q .ca<|.q .not<|.nil ?_
  ·refine aB () adr (bh.cons (bh.cons (bh.cons (bh.nil _) ?_) rfl) rfl) rH
   refine adq (λb=>some (Value.bool b)) (?_:_= !cE z)
   unfold cE
   clear g
   simp_all<;>(rw[ads];simp;omega)
  refine .gT a<|.mo rfl<|.gT a<|.q .bS<|.q (.aS a) ?_
  refine .mo rfl ?_
  refine .split (t:=44) rfl (λd=>?_) (λd=>?_)
  refine .gF d<|.gF d<|.q (.aY d) ?_
  refine .mo rfl<|.gX<|.gX<|.q .ca<|.q .not<|.nil ?_
  ·refine aB () adr (bh.cons (bh.cons (bh.cons (bh.nil _) ?_) rfl) rfl) rH
   refine adq (λb=>some (Value.bool b)) (?_:_= !cE z)
   unfold cE
   clear g
   simp_all<;>(rw[ads];simp;omega)
  refine .gT d<|.mo rfl<|.gT d<|.q .bS<|.q (.aS d) ?_
  refine .mo rfl ?_
  refine .split (t:=48) rfl (λf=>?_) (λf=>?_)
  refine .gF f<|.gF f<|.q (.aY f) ?_
  refine .q .not<|.nil ?_
  ·refine aB () adr (bh.cons (bh.cons (bh.cons (bh.nil _) ?_) rfl) rfl) rH
   refine adq (λb=>some (Value.bool b)) (?_:_= !cE z)
   unfold cE
   clear g
   simp_all<;>(rw[ads];simp;omega)
  refine .gT f<|.mo rfl<|.gT f<|.q .bS<|.q (.aS f) ?_
  refine .q .not<|.nil ?_
  ·refine aB () adr (bh.cons (bh.cons (bh.cons (bh.nil _) ?_) rfl) rfl) rH
   refine adq (λb=>some (Value.bool b)) (?_:_= !cE z)
   unfold cE
   clear g
   simp_all<;>(rw[ads];simp;omega)
  refine .gF u<|.gF u<|.q (.aS u) ?_
  refine .mo rfl<|.gt rfl ?_
  refine .mo rfl<|.gt rfl ?_
  refine .q .geq<|.gt rfl ?_
  refine .mo rfl ?_
  refine .split (t:=23) rfl (λn=>?_) (λn=>?_)
  refine .gT n<|.mo rfl<|.gT n<|.q .leq<|.gt rfl ?_
  refine .q (.aY n) ?_
  refine .q .bY<|.mo rfl ?_
  refine .split (t:=28) rfl (λm=>?_) (λm=>?_)
  refine .gF m<|.gF m<|.gF m<|.cX rfl ?_
  refine .cX rfl ?_
  refine .gF m<|.q (.aY m) ?_
  refine .mo rfl<|.gX<|.gX<|.q .ca<|.mo rfl<|.gX<|.gX<|.q .ca<|.mo rfl<|.gX<|.gX<|.q .ca<|.mo rfl<|.gX<|.gX<|.q .ca<|.q .not<|.nil ?_
  ·refine aB () adr (bh.cons (bh.cons (bh.cons (bh.nil _) ?_) rfl) rfl) rH
   refine adq (λb=>some (Value.bool b)) (?_:_= !cE z)
   unfold cE
   clear g
   simp_all<;>(rw[ads];simp;omega)
  refine .gT m<|.mo rfl<|.gT m<|.q .geq<|.gT m<|.mo rfl ?_
  refine .split (t:=31) rfl (λk=>?_) (λk=>?_)
  refine .gT k<|.mo rfl<|.gT k<|.q .leq<|.gT m<|.q (.aY k) ?_
  refine .q (.aS m) ?_
  refine .mo rfl ?_
  refine .split (t:=36) rfl (λl=>?_) (λl=>?_)
  refine .gF l<|.gF l<|.q (.aY l) ?_
  refine .mo rfl<|.gX<|.gX<|.q .ca<|.mo rfl<|.gX<|.gX<|.q .ca<|.mo rfl<|.gX<|.gX<|.q .ca<|.q .not<|.nil ?_
  ·refine aB () adr (bh.cons (bh.cons (bh.cons (bh.nil _) ?_) rfl) rfl) rH
   refine adq (λb=>some (Value.bool b)) (?_:_= !cE z)
   unfold cE
   clear g
   simp_all<;>(rw[ads];simp;omega)
  refine .gT l<|.mo rfl<|.gT l<|.q .bS<|.q (.aS l) ?_
  refine .mo rfl ?_
  refine .split (t:=40) rfl (λa=>?_) (λa=>?_)
  refine .gF a<|.gF a<|.q (.aY a) ?_
  refine .mo rfl<|.gX<|.gX<|.q .ca<|.mo rfl<|.gX<|.gX<|.q .ca<|.q .not<|.nil ?_
  ·refine aB () adr (bh.cons (bh.cons (bh.cons (bh.nil _) ?_) rfl) rfl) rH
   refine adq (λb=>some (Value.bool b)) (?_:_= !cE z)
   unfold cE
   clear g
   simp_all<;>(rw[ads];simp;omega)
  refine .gT a<|.mo rfl<|.gT a<|.q .bS<|.q (.aS a) ?_
  refine .mo rfl ?_
  refine .split (t:=44) rfl (λd=>?_) (λd=>?_)
  refine .gF d<|.gF d<|.q (.aY d) ?_
  refine .mo rfl<|.gX<|.gX<|.q .ca<|.q .not<|.nil ?_
  ·refine aB () adr (bh.cons (bh.cons (bh.cons (bh.nil _) ?_) rfl) rfl) rH
   refine adq (λb=>some (Value.bool b)) (?_:_= !cE z)
   unfold cE
   clear g
   simp_all<;>(rw[ads];simp;omega)
  refine .gT d<|.mo rfl<|.gT d<|.q .bS<|.q (.aS d) ?_
  refine .mo rfl ?_
  refine .split (t:=48) rfl (λf=>?_) (λf=>?_)
  refine .gF f<|.gF f<|.q (.aY f) ?_
  refine .q .not<|.nil ?_
  ·refine aB () adr (bh.cons (bh.cons (bh.cons (bh.nil _) ?_) rfl) rfl) rH
   refine adq (λb=>some (Value.bool b)) (?_:_= !cE z)
   unfold cE
   clear g
   simp_all<;>(rw[ads];simp;omega)
  refine .gT f<|.mo rfl<|.gT f<|.q .bS<|.q (.aS f) ?_
  refine .q .not<|.nil ?_
  ·refine aB () adr (bh.cons (bh.cons (bh.cons (bh.nil _) ?_) rfl) rfl) rH
   refine adq (λb=>some (Value.bool b)) (?_:_= !cE z)
   unfold cE
   clear g
   simp_all<;>(rw[ads];simp;omega)
  refine .gF k<|.gF k<|.gT m<|.q (.aS k) ?_
  refine .q (.aS m) ?_
  refine .mo rfl<|.gt rfl ?_
  refine .mo rfl<|.gt rfl ?_
  refine .q .bS<|.q .bY<|.mo rfl ?_
  refine .split (t:=40) rfl (λa=>?_) (λa=>?_)
  refine .gF a<|.gF a<|.q (.aY a) ?_
  refine .mo rfl<|.gX<|.gX<|.q .ca<|.mo rfl<|.gX<|.gX<|.q .ca<|.q .not<|.nil ?_
  ·refine aB () adr (bh.cons (bh.cons (bh.cons (bh.nil _) ?_) rfl) rfl) rH
   refine adq (λb=>some (Value.bool b)) (?_:_= !cE z)
   unfold cE
   clear g
   simp_all<;>(rw[ads];simp;omega)
  refine .gT a<|.mo rfl<|.gT a<|.q .bS<|.q (.aS a) ?_
  refine .mo rfl ?_
  refine .split (t:=44) rfl (λd=>?_) (λd=>?_)
  refine .gF d<|.gF d<|.q (.aY d) ?_
  refine .mo rfl<|.gX<|.gX<|.q .ca<|.q .not<|.nil ?_
  ·refine aB () adr (bh.cons (bh.cons (bh.cons (bh.nil _) ?_) rfl) rfl) rH
   refine adq (λb=>some (Value.bool b)) (?_:_= !cE z)
   unfold cE
   clear g
   simp_all<;>(rw[ads];simp;omega)
  refine .gT d<|.mo rfl<|.gT d<|.q .bS<|.q (.aS d) ?_
  refine .mo rfl ?_
  refine .split (t:=48) rfl (λf=>?_) (λf=>?_)
  refine .gF f<|.gF f<|.q (.aY f) ?_
  refine .q .not<|.nil ?_
  ·refine aB () adr (bh.cons (bh.cons (bh.cons (bh.nil _) ?_) rfl) rfl) rH
   refine adq (λb=>some (Value.bool b)) (?_:_= !cE z)
   unfold cE
   clear g
   simp_all<;>(rw[ads];simp;omega)
  refine .gT f<|.mo rfl<|.gT f<|.q .bS<|.q (.aS f) ?_
  refine .q .not<|.nil ?_
  ·refine aB () adr (bh.cons (bh.cons (bh.cons (bh.nil _) ?_) rfl) rfl) rH
   refine adq (λb=>some (Value.bool b)) (?_:_= !cE z)
   unfold cE
   clear g
   simp_all<;>(rw[ads];simp;omega)
  refine .gF n<|.gF n<|.gt rfl ?_
  refine .q (.aS n) ?_
  refine .q .bY<|.mo rfl<|.gt rfl ?_
  refine .mo rfl<|.gt rfl ?_
  refine .q .geq<|.gt rfl ?_
  refine .mo rfl ?_
  refine .split (t:=31) rfl (λk=>?_) (λk=>?_)
  refine .gT k<|.mo rfl<|.gT k<|.q .leq<|.gt rfl ?_
  refine .q (.aY k) ?_
  refine .q .bY<|.mo rfl ?_
  refine .split (t:=36) rfl (λl=>?_) (λl=>?_)
  refine .gF l<|.gF l<|.q (.aY l) ?_
  refine .mo rfl<|.gX<|.gX<|.q .ca<|.mo rfl<|.gX<|.gX<|.q .ca<|.mo rfl<|.gX<|.gX<|.q .ca<|.q .not<|.nil ?_
  ·refine aB () adr (bh.cons (bh.cons (bh.cons (bh.nil _) ?_) rfl) rfl) rH
   refine adq (λb=>some (Value.bool b)) (?_:_= !cE z)
   unfold cE
   clear g
   simp_all<;>(rw[ads];simp;omega)
  refine .gT l<|.mo rfl<|.gT l<|.q .bS<|.q (.aS l) ?_
  refine .mo rfl ?_
  refine .split (t:=40) rfl (λa=>?_) (λa=>?_)
  refine .gF a<|.gF a<|.q (.aY a) ?_
  refine .mo rfl<|.gX<|.gX<|.q .ca<|.mo rfl<|.gX<|.gX<|.q .ca<|.q .not<|.nil ?_
  ·refine aB () adr (bh.cons (bh.cons (bh.cons (bh.nil _) ?_) rfl) rfl) rH
   refine adq (λb=>some (Value.bool b)) (?_:_= !cE z)
   unfold cE
   clear g
   simp_all<;>(rw[ads];simp;omega)
  refine .gT a<|.mo rfl<|.gT a<|.q .bS<|.q (.aS a) ?_
  refine .mo rfl ?_
  refine .split (t:=44) rfl (λd=>?_) (λd=>?_)
  refine .gF d<|.gF d<|.q (.aY d) ?_
  refine .mo rfl<|.gX<|.gX<|.q .ca<|.q .not<|.nil ?_
  ·refine aB () adr (bh.cons (bh.cons (bh.cons (bh.nil _) ?_) rfl) rfl) rH
   refine adq (λb=>some (Value.bool b)) (?_:_= !cE z)
   unfold cE
   clear g
   simp_all<;>(rw[ads];simp;omega)
  refine .gT d<|.mo rfl<|.gT d<|.q .bS<|.q (.aS d) ?_
  refine .mo rfl ?_
  refine .split (t:=48) rfl (λf=>?_) (λf=>?_)
  refine .gF f<|.gF f<|.q (.aY f) ?_
  refine .q .not<|.nil ?_
  ·refine aB () adr (bh.cons (bh.cons (bh.cons (bh.nil _) ?_) rfl) rfl) rH
   refine adq (λb=>some (Value.bool b)) (?_:_= !cE z)
   unfold cE
   clear g
   simp_all<;>(rw[ads];simp;omega)
  refine .gT f<|.mo rfl<|.gT f<|.q .bS<|.q (.aS f) ?_
  refine .q .not<|.nil ?_
  ·refine aB () adr (bh.cons (bh.cons (bh.cons (bh.nil _) ?_) rfl) rfl) rH
   refine adq (λb=>some (Value.bool b)) (?_:_= !cE z)
   unfold cE
   clear g
   simp_all<;>(rw[ads];simp;omega)
  refine .gF k<|.gF k<|.gt rfl ?_
  refine .q (.aS k) ?_
  refine .q .bY<|.mo rfl<|.gt rfl ?_
  refine .mo rfl<|.gt rfl ?_
  refine .q .bS<|.q .bY<|.mo rfl ?_
  refine .split (t:=40) rfl (λa=>?_) (λa=>?_)
  refine .gF a<|.gF a<|.q (.aY a) ?_
  refine .mo rfl<|.gX<|.gX<|.q .ca<|.mo rfl<|.gX<|.gX<|.q .ca<|.q .not<|.nil ?_
  ·refine aB () adr (bh.cons (bh.cons (bh.cons (bh.nil _) ?_) rfl) rfl) rH
   refine adq (λb=>some (Value.bool b)) (?_:_= !cE z)
   unfold cE
   clear g
   simp_all<;>(rw[ads];simp;omega)
  refine .gT a<|.mo rfl<|.gT a<|.q .bS<|.q (.aS a) ?_
  refine .mo rfl ?_
  refine .split (t:=44) rfl (λd=>?_) (λd=>?_)
  refine .gF d<|.gF d<|.q (.aY d) ?_
  refine .mo rfl<|.gX<|.gX<|.q .ca<|.q .not<|.nil ?_
  ·refine aB () adr (bh.cons (bh.cons (bh.cons (bh.nil _) ?_) rfl) rfl) rH
   refine adq (λb=>some (Value.bool b)) (?_:_= !cE z)
   unfold cE
   clear g
   simp_all<;>(rw[ads];simp;omega)
  refine .gT d<|.mo rfl<|.gT d<|.q .bS<|.q (.aS d) ?_
  refine .mo rfl ?_
  refine .split (t:=48) rfl (λf=>?_) (λf=>?_)
  refine .gF f<|.gF f<|.q (.aY f) ?_
  refine .q .not<|.nil ?_
  ·refine aB () adr (bh.cons (bh.cons (bh.cons (bh.nil _) ?_) rfl) rfl) rH
   refine adq (λb=>some (Value.bool b)) (?_:_= !cE z)
   unfold cE
   clear g
   simp_all<;>(rw[ads];simp;omega)
  refine .gT f<|.mo rfl<|.gT f<|.q .bS<|.q (.aS f) ?_
  refine .q .not<|.nil ?_
  ·refine aB () adr (bh.cons (bh.cons (bh.cons (bh.nil _) ?_) rfl) rfl) rH
   refine adq (λb=>some (Value.bool b)) (?_:_= !cE z)
   unfold cE
   clear g
   simp_all<;>(rw[ads];simp;omega)
  intro y I
  refine aD ?_
  refine .cond rfl (λC=>?_) λC=>?_
  have D:fb s cE=false:=dZ A (by rw[E];simpa using C)
  refine .sr<|.az rfl ?_
  refine .ret (br (aL (dn (br (aL (aO rfl ?_))))))
  ·refine⟨adq Value.bool ?_,rfl⟩
   unfold ji
   first
     |(rw[D];rfl)
     |(rw[w,adt]
       have e:decide (43<=s.size)=true:=(by
         have:=bx o
         exact adu (by omega))
       rw[e,adt]
       by_cases h9:s.size<=128
       ·rw[adu h9];exact adu (by omega)
       ·rw[adv h9];exact adv (by omega))
     |(rw[w,adt]
       have e:decide (43<=s.size)=false:=(by
         have:=bo o
         exact adv (by omega))
       rw[e];rfl)
  refine .skip<|bz<|aD<|.region<|.mo rfl ?_
  refine .ia (i+1) .add ?_
  refine .ag rfl<|.nil ?_
  ·exact bf (i+1) ⟨A,λj x G=>by
      rcases Nat.lt_or_ge j i with h9|h9
      ·exact g j x h9
      ·obtain rfl:j=i:=by omega
       rw[E]
       simpa using C⟩ (by omega) kE.c.c rH
  have w:fb s cE=true:=mD λj x=>g j x (by have:=bo B;omega)
  refine .exit<|bD<|bH<|bF<|aD<|.sr<|.mo rfl<|.q .fG<|.q .gtr<|.mo rfl ?_
  refine .split (t:=56) rfl (λo=>?_) (λo=>?_)
  refine .gT o<|.mo rfl<|.gT o<|.q .fG<|.gT o<|.q .lss<|.q (.aY o) ?_
  refine .az rfl ?_
  refine .ret (aO rfl ?_)
  ·refine⟨adq Value.bool ?_,rfl⟩
   unfold ji
   first
     |(rw[D];rfl)
     |(rw[w,adt]
       have e:decide (43<=s.size)=true:=(by
         have:=bx o
         exact adu (by omega))
       rw[e,adt]
       by_cases h9:s.size<=128
       ·rw[adu h9];exact adu (by omega)
       ·rw[adv h9];exact adv (by omega))
     |(rw[w,adt]
       have e:decide (43<=s.size)=false:=(by
         have:=bo o
         exact adv (by omega))
       rw[e];rfl)
  refine .gF o<|.gF o<|.gF o<|.q (.aS o) ?_
  refine .az rfl ?_
  refine .ret (aO rfl ?_)
  ·refine⟨adq Value.bool ?_,rfl⟩
   unfold ji
   first
     |(rw[D];rfl)
     |(rw[w,adt]
       have e:decide (43<=s.size)=true:=(by
         have:=bx o
         exact adu (by omega))
       rw[e,adt]
       by_cases h9:s.size<=128
       ·rw[adu h9];exact adu (by omega)
       ·rw[adv h9];exact adv (by omega))
     |(rw[w,adt]
       have e:decide (43<=s.size)=false:=(by
         have:=bo o
         exact adv (by omega))
       rw[e];rfl)
def qi(s:ByteArray):ByteArray:=⟨(dw (mw s.data.toList)).toArray⟩
theorem Nx(l:List UInt8):(mw l).length=32:=rfl
theorem uJ(s:ByteArray):s.data.toList.length=s.size:=Array.length_toList
theorem z7(s:ByteArray)(l:s.size<=9223372036854775807)(R:av)(k:PC R (pT 1) (wv ks)):
  Spec prog 206 [.string s] R [] λv H'=>v=.string (if ji s then qi s else⟨#[]⟩)/\H'=[]:=by
 refine Spec.body func206 rfl results206 ntmps206 rfl ?_
 refine .sr<|.ag rfl<|.zs<|.sr<|.mo rfl ?_
 refine .aM (yE s l _) (λv a=>?_)
 subst a
 refine .q .not<|.zn ?_
 refine .cond rfl (λc=>?_) λc=>?_
 refine .sr<|.az rfl ?_
 refine .ret (aL (aO rfl ?_))
 ·first
   |exact⟨by rw[if_pos a];rfl,rfl⟩
   |exact⟨by rw[adw (by simpa using c)],rfl⟩
 have a:ji s=true:=by simpa using c
 have r:s.size<=128:=by
  have e:=a
  unfold ji at e
  simp at e
  omega
 refine .kn<|.sr<|.mo rfl ?_
 refine .yg (s:=s) (by unfold maxLen;omega) (λm h f=>?_)
 have t:=f.aw
 refine .aM (Ny m s.data.toList _ (f.mono λb o i=>.inr (by have j:(b,o)∈h:=i;simp[j])) (by rw[uJ];omega) k.rx) (λv d=>?_)
 subst d
 refine .cN (λp=>?_)
 refine .ct rfl rfl ?_ rfl (Nat.le_of_ble_eq_true rfl)
 rw[kT (by rfl)]
 refine .z ?_
 refine .q (.sQ 0 32 rfl rfl rfl (by decide) (by decide) (by decide)) ?_
 refine .aM (tV _ (mw s.data.toList) _ (RS.lits (n:=32) (qq _) (λ_ _=>rfl) (λx _ u g=>by simp only[cO,List.mem_singleton]at g;subst g;rfl)) (by rw[Nx];omega)) (λv d=>?_)
 subst d
 refine .az rfl ?_
 refine .ret (aO rfl ?_)
 ·first
   |exact⟨by rw[if_pos a];rfl,rfl⟩
   |exact⟨by rw[adw (by simpa using c)],rfl⟩
def lu(s c:ByteArray):Bool:=ji s&&decide (qi s=c)
theorem K6(s c:ByteArray)(e:s.size<=9223372036854775807)(R:av)(f:PC R (pT 1) (wv ks)):
    Spec prog 154 [.string s,.string c] R [] λv H'=>v=.bool (lu s c)/\H'=[]:=by
  refine Spec.body func154 rfl results154 ntmps154 rfl ?_
  refine .sr<|.ag rfl<|.z<|.mo rfl ?_
  refine .aM (yE s e _) (λv d=>?_)
  subst d
  refine .mo rfl ?_
  refine .split (t:=7) rfl (λa=>?_) (λa=>?_)
  refine .gT a<|.mo rfl<|.gT a ?_
  refine .aM (z7 s e _ f.rx) (λv d=>?_)
  subst d
  refine .gT a<|.mo rfl<|.gT a<|.q .ek<|.q (.aY a) ?_
  refine .az rfl ?_
  refine .ret (aO rfl ?_)
  ·refine⟨adq Value.bool ?_,rfl⟩
   unfold lu
   first
     |(have b:ji s=true:=a
       simp[b])
     |(have b:ji s=false:=a
       simp[b])
  refine .gF a<|.gF a<|.gF a<|.gF a<|.q (.aS a) ?_
  refine .az rfl ?_
  refine .ret (aO rfl ?_)
  ·refine⟨adq Value.bool ?_,rfl⟩
   unfold lu
   first
     |(have b:ji s=true:=a
       simp[b])
     |(have b:ji s=false:=a
       simp[b])
theorem MB(s:ByteArray)(I:s.size<=100000)(R:av):Spec prog 172 [.string s] R [] λv H'=>v=.string (qi s)/\H'=[]:=by
 obtain⟨l,e⟩:∃l,l=mw s.data.toList:=⟨_,rfl⟩
 have f:l.length=32:=by rw[e];rfl
 have x:qi s=⟨(dw l).toArray⟩:=by rw[e];rfl
 refine Spec.dg (H':=[[]]) (by simp) ?_
 refine Spec.body func172 rfl results172 ntmps172 rfl ?_
 refine .sr<|.ag rfl<|.z<|.mo rfl ?_
 refine .yg (s:=s) (by unfold maxLen;omega) (λF t k=>?_)
 have K:=k.aw
 refine .aM (MR F s.data.toList _ (k.mono λb o u=>.inr (by have w:(b,o)∈t:=u;simp[w])) (by rw[uJ];omega)) (λv g=>?_)
 subst g
 rw[<-e]
 refine .cN (λh=>?_)
 refine .ct rfl rfl ?_ (by rw[mz,f]) (by rw[mz,f];exact Nat.le_refl _)
 rw[kT (by rw[mz,f];rfl)]
 refine .z<|.ag rfl<|.zs<|.sr<|.az rfl<|.block ?_
 refine .loop (X:=Nat×Value×ax) (λy=>y.1<=32/\OS 5 1 cO y.2.1 (l.take y.1) y.2.2) (λy=>[(3,pT h),(4,y.2.1),(5,iN y.1)]) (λy=>[bl h (uv l) 245,y.2.2]) (λy=>32-y.1) (0,sZ,[]) ⟨Nat.zero_le _,OS.nil⟩ kE.c.c.c (aI [0,1]) ?_
 rintro⟨i,D,G⟩ ⟨A,a⟩
 simp only at A a⊢
 have J:=a.aw
 refine .seq<|.sr<|.mo rfl<|.q .lss<|.zn ?_
 refine .cond rfl (λd=>?_) λd=>?_
 have n:i<32:=dQ d
 obtain⟨c,m⟩:∃c,l[i]? =some c:=⟨_,bC (by omega)⟩
 refine .kn<|.seq<|.block<|.region<|.mo rfl<|.mo rfl<|.q (.fF i n rfl rfl rfl) ?_
 refine .q (.bN rfl (lH (OF m))) ?_
 refine .ig (λH=>?_)
 refine .append a (RS.lits (xs:=[c]) rfl (by simp[cO]) (by simp[cO,aw])) (by simp;omega) (λE r j=>?_)
 rw[show l.take i++[c]=l.take (i+1) by rw[List.take_add_one,m];rfl]at j
 refine .ag rfl<|.nil<|bz<|aD<|.region<|.mo rfl ?_
 refine .ia (i+1) .add ?_
 refine .ag rfl<|.nil ?_
 ·exact bf (i+1,E,r) ⟨n,j⟩ (by simp only;omega) kE.c.c.c (aI [1,1])
 have B:i=32:=by have:=bo d;omega
 subst B
 rw[List.take_of_length_le (by omega)]at a
 refine .exit<|bD<|bH<|bF<|aD<|.sr<|.mo rfl ?_
 refine .aM (kR D l _ (a.rs λp C=>.inr (by simp[C])) (by omega)) (λv g=>?_)
 subst g
 refine .az rfl ?_
 refine .ret (aO rfl ?_)
 ·exact⟨by rw[x],rfl⟩
def bL.mark(t:bL):bL:=⟨t.text,t.aE,t.user,t.uri,t.scopes,t.lG,t.cq,t.family,true⟩
def bi(A:List (ByteArray×bL))(k aE uri ver:ByteArray)(now:Int):bL×Int×List (ByteArray×bL):=
 match aU k A with
 |none=>(bL.zero,18,A)
 |some t=>if t.aE≠aE then(bL.zero,18,A)else if t.used then(t,10,A)else if t.cq<=now\/t.uri≠uri\/lu ver t.lG=false then(bL.zero,18,A)else(t.mark,0,cT k t.mark A)
theorem KH(g:Nat)(C:List (cB×List ByteArray))(A:List (ByteArray×bL))(T:ax)(h:GI g C A T)(k aE j d:ByteArray)(now:Int)(F:d.size<=9223372036854775807)(R:av)(hg:PC R (pT 1) (wv ks)):
  Spec prog 83 [pT g,.string k,.string aE,.string j,.string d,.int .i64 now] R [T] λv H'=>∃T' Tn,H'=[T',Tn]/\∃w,v=.tuple [.agg (bO (w,(bi A k aE j d now).1)).toArray,.int .i64 (bi A k aE j d now).2.1].toArray/\dq (eg Tn) (w,(bi A k aE j d now).1)/\GI g C (bi A k aE j d now).2.2 T':=by
 have a3:=h.nd
 have G:=h
 obtain⟨m,_,rfl,y,MC,vm,M,q,n,D,r,rfl,⟨a0,a4,hC⟩,I,Z,Y,hQ⟩:=h
 obtain⟨s,rfl⟩:∃b,vm=.map (some b):=by obtain⟨b,es,a2,S,_⟩:=I;exact⟨b,S⟩
 have ic:One y:=⟨by obtain⟨b,es,a2,S,_⟩:=a0;subst S;rfl⟩
 obtain⟨B,a,a7,L,W,a8,b2,a1⟩:=vG I.nd Z Y k
 have i0:bJ (bO (B,a)):=⟨L.bG⟩
 have iw:One B:=L.aw
 have J:(aU k A).isSome=true->aU k A=some a:=λe=>by
  obtain⟨u,hu⟩:=Option.isSome_iff_exists.1 e
  rw[hu,(a1 u hu).1]
 refine Spec.dg (H':=[bl g [y,.map (some s),pT q] 132,n,D,r,m]) (by simp) ?_
 refine Spec.body func83 rfl results83 ntmps83 rfl ?_
 refine .sr ?_
 refine .cN (λb0=>?_)
 refine .ag rfl<|.zs<|.sr<|.mo rfl ?_
 refine .aM (mc g s _ _ _) (λv F=>?_)
 subst F
 refine .q .not<|.zn<|.bZ<|.kn<|.sr<|.mo rfl<|.nc rfl<|.fa rfl<|.lo rfl<|.mo rfl ?_
 refine .q (aP.cast (v':=.tuple [.agg (bO (B,a)).toArray,.bool (aU k A).isSome].toArray) (.kP I.rx rfl (show _=some (Value.string k)from rfl)) (by rw[<-a8, <-a7];rfl)) ?_
 refine .mo rfl<|.q .extract<|.q .extract ?_
 refine .cN (λb1=>?_)
 refine .ct rfl rfl<|.ag rfl<|.zs<|.block<|.sr<|.mo rfl<|.q .not<|.mo rfl ?_
 refine .split (t:=32) rfl (λc=>?_) (λc=>?_)
 refine .gF c<|.gF c<|.gF c<|.gF c<|.q (.aY c) ?_
 refine .az rfl<|.dF<|.sr ?_
 refine .q .dI ?_
 refine .ct rfl rfl<|.az rfl ?_
 refine .ret (br (aL (aR _ (.two (.ey rfl rfl) (.tmp rfl)) ((aI [2,2,2,2,2]).trans (aT.bu (H':=[((g,.cells [y,.map (some s),pT q].toArray 132 (0,0))::(n++(D++r)))++m,[]]) (by simp[take,aZ]))) ?_)))
 ·have i:aU k A=none:=by simpa using c
  have e:bi A k aE j d now=(bL.zero,18,A):=by unfold bi;rw[i]
  rw[e];exact⟨_,_,rfl,sZ,rfl,dq.zero _,G⟩
 refine .gT c<|.fa rfl<|.gT c<|.lo rfl<|.gT c<|.mo rfl<|.gT c<|.q .fj<|.q (.aS c) ?_
 refine .az rfl ?_
 refine .cond rfl (λE=>?_) λE=>?_
 refine .sr ?_
 refine .q .dI ?_
 refine .ct rfl rfl<|.az rfl ?_
 refine .ret (br (aL (aR _ (.two (.ey rfl rfl) (.tmp rfl)) ((aI [2,2,2,2,2]).trans (aT.bu (H':=[((g,.cells [y,.map (some s),pT q].toArray 132 (0,0))::(n++(D++r)))++m,[]]) (by simp[take,aZ]))) ?_)))
 ·have i:=J (by simpa using c)
  have e:bi A k aE j d now=(bL.zero,18,A):=by unfold bi;rw[i];simp only;rw[if_pos (by simpa using E)]
  rw[e];exact⟨_,_,rfl,sZ,rfl,dq.zero _,G⟩
 refine .sr<|.fa rfl<|.lo rfl<|.az rfl ?_
 refine .cond rfl (λH=>?_) λH=>?_
 refine .sr<|.q (.bK rfl) ?_
 refine .da (qt B a _ (L.mono λb o K=>.inr (by have V:(b,o)∈m:=K.1;simp[V])) W) (λv Q F=>?_)
 obtain⟨O,rfl,N⟩:=F
 have i1:bJ (bO (O,a)):=⟨N.bG⟩
 refine .ct rfl rfl<|.az rfl ?_
 refine .ret (br (aL (aR _ (.two (.ey rfl rfl) (.tmp rfl)) ((aI [3,3,3,3,3,0]).trans (aT.bu (H':=[((g,.cells [y,.map (some s),pT q].toArray 132 (0,0))::(n++(D++r)))++m,Q]) (by simp[take,aZ]))) ?_)))
 ·have i:=J (by simpa using c)
  have x:¬a.aE≠aE:=by simpa using E
  have e:bi A k aE j d now=(a,10,A):=by unfold bi;rw[i];simp only;rw[adw x,if_pos H]
  rw[e];exact⟨_,_,rfl,O,rfl,N,G⟩
 refine .sr<|.fa rfl<|.lo rfl<|.mo rfl<|.q .leq<|.mo rfl ?_
 refine .split (t:=49) rfl (λl=>?_) (λl=>?_)
 refine .gF l<|.gF l<|.gF l<|.gF l<|.q (.aY l) ?_
 refine .mo rfl<|.gX<|.gX<|.gX<|.gX<|.gX<|.q .ca<|.az rfl<|.dF<|.sr ?_
 refine .q .dI ?_
 refine .ct rfl rfl<|.az rfl ?_
 refine .ret (br (aL (aR _ (.two (.ey rfl rfl) (.tmp rfl)) ((aI [2,2,2,2,2]).trans (aT.bu (H':=[((g,.cells [y,.map (some s),pT q].toArray 132 (0,0))::(n++(D++r)))++m,[]]) (by simp[take,aZ]))) ?_)))
 ·have i:=J (by simpa using c)
  have x:¬a.aE≠aE:=by simpa using E
  have e:bi A k aE j d now=(bL.zero,18,A):=by unfold bi;rw[i];simp only;rw[adw x,adw (by rw[H];simp),if_pos (.inl (by simpa using l))]
  rw[e];exact⟨_,_,rfl,sZ,rfl,dq.zero _,G⟩
 refine .gT l<|.fa rfl<|.gT l<|.lo rfl<|.gT l<|.mo rfl<|.gT l<|.q .fj<|.q (.aS l) ?_
 refine .mo rfl ?_
 refine .split (t:=55) rfl (λf=>?_) (λf=>?_)
 refine .gF f<|.gF f<|.gF f<|.gF f<|.gF f<|.q (.aY f) ?_
 refine .az rfl<|.dF<|.sr ?_
 refine .q .dI ?_
 refine .ct rfl rfl<|.az rfl ?_
 refine .ret (br (aL (aR _ (.two (.ey rfl rfl) (.tmp rfl)) ((aI [2,2,2,2,2]).trans (aT.bu (H':=[((g,.cells [y,.map (some s),pT q].toArray 132 (0,0))::(n++(D++r)))++m,[]]) (by simp[take,aZ]))) ?_)))
 ·have i:=J (by simpa using c)
  have x:¬a.aE≠aE:=by simpa using E
  have e:bi A k aE j d now=(bL.zero,18,A):=by unfold bi;rw[i];simp only;rw[adw x,adw (by rw[H];simp),if_pos (.inr (.inl (by simpa using f)))]
  rw[e];exact⟨_,_,rfl,sZ,rfl,dq.zero _,G⟩
 refine .gT f<|.mo rfl<|.gT f<|.fa rfl<|.gT f<|.lo rfl<|.gT f ?_
 refine .aM (K6 d a.lG F _ hg.rx) (λv a9=>?_)
 subst a9
 refine .gT f<|.q .not<|.q (.aS f) ?_
 refine .az rfl ?_
 refine .cond rfl (λU=>?_) λU=>?_
 refine .sr ?_
 refine .q .dI ?_
 refine .ct rfl rfl<|.az rfl ?_
 refine .ret (br (aL (aR _ (.two (.ey rfl rfl) (.tmp rfl)) ((aI [2,2,2,2,2]).trans (aT.bu (H':=[((g,.cells [y,.map (some s),pT q].toArray 132 (0,0))::(n++(D++r)))++m,[]]) (by simp[take,aZ]))) ?_)))
 ·have i:=J (by simpa using c)
  have x:¬a.aE≠aE:=by simpa using E
  have e:bi A k aE j d now=(bL.zero,18,A):=by unfold bi;rw[i];simp only;rw[adw x,adw (by rw[H];simp),if_pos (.inr (.inr (by simpa using U)))]
  rw[e];exact⟨_,_,rfl,sZ,rfl,dq.zero _,G⟩
 refine .skip<|bz<|aD<|.sr<|.fa rfl<|.cJ rfl rfl<|.zs ?_
 refine .df 6 mixed (by kernel_rfl) ?_
 conv=>arg 6;dsimp only[List.take]
 refine .mo rfl<|.nc rfl<|.fa rfl<|.lo rfl<|.mo rfl<|.q (.bK rfl)<|.nil ?_
 refine .update (u:=((B,a.mark):GP)) I rfl (show _=some (Value.string k)from rfl) rfl (λX a5 _=>?_)
 refine .z<|.q (.bK rfl) ?_
 refine .da (qt B a.mark _ (dq.mono (p:=(B,a)) L λb o K=>.inr (by have V:(b,o)∈m:=K.1;simp[V])) W) (λv Q F=>?_)
 obtain⟨O,rfl,N⟩:=F
 have i1:bJ (bO (O,a.mark)):=⟨N.bG⟩
 refine .ct rfl rfl<|.az rfl ?_
 refine .ret (aR _ (.two (.ey rfl rfl) (.tmp rfl)) ((aI [3,3,3,3,3,0]).trans (aT.bu (H':=[((g,.cells [y,.map (some s),pT q].toArray 132 (0,0))::(n++(X++r)))++m,Q]) (by simp[take,aZ]))) ?_)
 ·have i:=J (by simpa using c)
  have x:¬a.aE≠aE:=by simpa using E
  have a6:¬(a.cq<=now\/a.uri≠j\/lu d a.lG=false):=by
   have q1:¬a.cq<=now:=by simpa using l
   have q2:a.uri=j:=by simpa using f
   have q3:lu d a.lG=true:=by simpa using U
   simp[q2,q3];omega
  have e:bi A k aE j d now=(a.mark,0,cT k a.mark A):=by unfold bi;rw[i];simp only;rw[adw x,adw (by rw[H];simp),adw a6]
  have hk:k=a.text:=(a1 a i).2.1.symm
  rw[e]
  refine⟨_,_,rfl,O,rfl,N,m,_,rfl,_,MC,_,_,q,n,X,r,rfl,⟨a0,a4,hC⟩,a5,λp hp=>?_,?_,?_⟩
  ·rcases o2 I.nd hp with hp|rfl
   ·exact Z p hp
   ·exact⟨hk,dq.mono (p:=(B,a)) L λb o K=>K,W⟩
  ·exact(mg (nb I.nd)).trans (by rw[mh];exact mL Y)
  ·refine hQ.perm ?_
   rw[mh]
   exact(vR (by rw[kO];exact a3) (by rw[nJ,i];rfl)).symm
end Go.Proofs.YtkkmbiojicgobaaGreatDoor

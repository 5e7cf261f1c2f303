/- What the law 'CorePlays' uses. No condition. -/
import Derived.Test.YtkkmbiojicgobaaGreatDoorKCorePlaysB
import Derived.Test.YtkkmbiojicgobaaGreatDoorKCorePlaysG
import Derived.Test.YtkkmbiojicgobaaGreatDoorKCorePlaysH
import Derived.Test.YtkkmbiojicgobaaGreatDoorKCorePlaysJ
set_option linter.unusedSimpArgs false
set_option linter.unusedVariables false
namespace Go.Proofs.YtkkmbiojicgobaaGreatDoor
set_option linter.defProp false
def adq:=@congrArg
def adr:=@trivial
def ads:=@Bool.eq_iff_iff
def adt:=@Bool.true_and
def adu:=@decide_eq_true
def adv:=@decide_eq_false
def adw:=@if_neg
open Tryz
set_option linter.unusedVariables false
set_option maxRecDepth 4000
theorem uA(v:Value)(xs:List UInt8)(n:Nat)(b R:au)(h:RS b 1 cK v xs)(f:n<=1000000):
  Spec prog 42 [v,iN n] R [] λu H'=>RS b 1 cK u (xs.take n)/\H'=[]:=by
 have d:=h.le
 have i:=h.av
 refine Spec.body func42 rfl results42 ntmps42 rfl ?_
 refine .sr<|.ag rfl<|.zs<|.sr<|.mo rfl<|.q (.di h) ?_
 refine .mo rfl<|.q .gtr<|.zn ?_
 refine .cond rfl (λa=>?_) λa=>?_
 have e:n<xs.length:=dT a
 refine .sr<|.mo rfl<|.mo rfl ?_
 refine .jS 0 n h rfl ⟨_,rfl⟩ (by omega) (by omega) (λj c=>?_)
 have g:=c.av
 refine .az rfl ?_
 refine .ret (aI (aO rfl ?_))
 ·exact⟨by simpa using c,rfl⟩
 refine .kn<|.sr<|.mo rfl<|.az rfl ?_
 refine .ret (aO rfl ?_)
 ·refine⟨?_,rfl⟩
  rw[List.take_of_length_le (by have:=bi a;omega)]
  exact h
theorem uq(v:Value)(xs:List UInt8)(R:au)(h:RS R 1 cK v xs)(c:xs.length<=1000000):
  Spec prog 41 [v] R [] λu H'=>∃T,H'=[T]/\OS 5 1 cK u xs T:=by
 have e:=h.av
 refine Spec.cX (H':=[[]]) (by simp) ?_
 refine Spec.body func41 rfl results41 ntmps41 rfl ?_
 refine .sr<|.ag rfl<|.z<|.ag rfl<|.z<|.mo rfl<|.mo rfl ?_
 refine .append (OS.nil (enc:=cK) (sz:=1)) h.rx (by simp;omega) (λf b a=>?_)
 have d:=a.av
 refine .az rfl ?_
 refine .ret (aN _ (.one (.tmp rfl)) (.one [0] _) ?_)
 ·exact⟨b,by simp[take],by simpa using a⟩
structure OC where
 kind:Int
 n:Int
 cl:bx
 user:ByteArray
 id:ByteArray
 cy:ByteArray
 uri:ByteArray
 scopes:List ByteArray
 word:ByteArray
 text:ByteArray
 a:List UInt8
 r:List UInt8
 rev:Int
structure OV where
 cr:CR
 vs:Value
 va:Value
 vr:Value
def iS(w:OV)(x:OC):List Value:=[.int .i64 x.kind,.int .i64 x.n,.string w.cr.id,.string w.cr.cy,w.cr.vu,w.cr.vs,.string x.user,.string x.id,.string x.cy,.string x.uri,w.vs,.string x.word,.string x.text,w.va,w.vr,.int .u64 x.rev]
def OR(R:au)(w:OV)(x:OC):Prop:=eR R w.cr x.cl/\RS R 1 bz w.vs x.scopes/\RS R 1 cK w.va x.a/\RS R 1 cK w.vr x.r
theorem OR.mono{R R':au}{w:OV}{x:OC}(h:OR R w x)(a:∀b o,R b o->R' b o):OR R' w x:=⟨h.1.mono a,h.2.1.mono a,h.2.2.1.mono a,h.2.2.2.mono a⟩
theorem OR.bD{R:au}{w:OV}{x:OC}(h:OR R w x):∀u∈iS w x,av u=true:=by
 have a:=h.1.bD
 have c:=h.2.1.av.h
 have d:=h.2.2.1.av.h
 have e:=h.2.2.2.av.h
 have f:av w.cr.vu=true:=a _ (by simp[CR.cells])
 have g:av w.cr.vs=true:=a _ (by simp[CR.cells])
 intro u b
 simp only[iS,List.mem_cons,List.not_mem_nil,or_false]at b
 rcases b with rfl|rfl|rfl|rfl|rfl|rfl|rfl|rfl|rfl|rfl|rfl|rfl|rfl|rfl|rfl|rfl<;>first|rfl|assumption
def OC.bQ(x:OC):OC:=⟨x.kind,x.n,x.cl.short,short x.user 40,short x.id 40,short x.cy 70,short x.uri 210,texts x.scopes 6 40,short x.word 140,short x.text 60,x.a.take 30,x.r.take 30,x.rev⟩
theorem wO(w:OV)(x:OC)(R:au)(h:OR R w x):Spec prog 8 [.agg (iS w x).toArray] R [] λv H'=>∃T,H'=[T]/\∃w',v=.agg (iS w' x.bQ).toArray/\OR (sg T) w' x.bQ:=by
 have i1:bG (iS w x):=⟨h.bD⟩
 obtain⟨⟨O,Q,vu,Z⟩,vt,X,Y⟩:=w
 obtain⟨k,n,N,H,I,J,K,S,L,M,B,C,a0⟩:=x
 obtain⟨e,i,f,g⟩:=h
 simp only at e i f g
 have i2:=i.av
 have i3:=f.av
 have i4:=g.av
 have i5:=e.u.av
 have i6:=e.s.av
 refine Spec.body func8 rfl results8 ntmps8 rfl ?_
 refine .sr ?_
 refine .dA rfl (λb1=>?_)
 refine .cG (λb2=>?_)
 refine .z<|.fa rfl<|.q (.loadT rfl) ?_
 refine .cW (z9 ⟨O,Q,vu,Z⟩ N _ (e.mono λb o c=>.inl c)) (λu D a=>?_)
 obtain⟨⟨r,t,A,y⟩,rfl,d⟩:=a
 have i7:=d.u.av
 have i8:=d.s.av
 have i9:bG (CR.cells ⟨r,t,A,y⟩):=⟨d.bD⟩
 refine .fa rfl<|.cc rfl rfl<|.zs<|.cP [19,21,23,25,27,29] mixed ?_
 refine .tO 0 rfl (.fieldAddr rfl)<|.tO 1 rfl (.bK rfl)<|.tO 3 rfl (.fieldAddr rfl)<|.tO 4 rfl (.bK rfl)<|.tO 6 rfl (.fieldAddr rfl)<|.tO 7 rfl (.bK rfl)<|.tO 9 rfl (.fieldAddr rfl)<|.tO 10 rfl (.bK rfl)<|.tO 12 rfl (.fieldAddr rfl)<|.tO 13 rfl (.bK rfl)<|.tO 15 rfl (.fieldAddr rfl)<|.tO 16 rfl (.bK rfl) ?_
 refine .sT 2 rfl ?_
 refine .aL (lO H 40 _) (λu a=>?_)
 subst a
 refine .nil (Next.sub ?_)
 refine .tO 18 rfl (.fieldAddr rfl) ?_
 refine .sT 5 rfl ?_
 refine .aL (lO I 40 _) (λu a=>?_)
 subst a
 refine .nil (Next.sub ?_)
 refine .sT 8 rfl ?_
 refine .aL (lO J 70 _) (λu a=>?_)
 subst a
 refine .nil (Next.sub ?_)
 refine .sT 11 rfl ?_
 refine .aL (lO K 210 _) (λu a=>?_)
 subst a
 refine .nil (Next.sub ?_)
 refine .sT 14 rfl ?_
 refine .aL (lO L 140 _) (λu a=>?_)
 subst a
 refine .nil (Next.sub ?_)
 refine .sT 17 rfl ?_
 refine .aL (lO M 60 _) (λu a=>?_)
 subst a
 refine .nil (Next.sub ?_)
 refine .sT 19 rfl ?_
 refine .cH rfl rfl ?_
 refine .nil (Next.mod rfl ?_)
 refine .tK 20 rfl (.gm rfl) ?_
 refine .sT 21 rfl ?_
 refine .cH rfl rfl ?_
 refine .nil (Next.mod rfl ?_)
 refine .tK 22 rfl (.gm rfl) ?_
 refine .sT 23 rfl ?_
 refine .cH rfl rfl ?_
 refine .nil (Next.mod rfl ?_)
 refine .tK 24 rfl (.gm rfl) ?_
 refine .sT 25 rfl ?_
 refine .cH rfl rfl ?_
 refine .nil (Next.mod rfl ?_)
 refine .tK 26 rfl (.gm rfl) ?_
 refine .sT 27 rfl ?_
 refine .cH rfl rfl ?_
 refine .nil (Next.mod rfl ?_)
 refine .tK 28 rfl (.gm rfl) ?_
 refine .sT 29 rfl ?_
 refine .cH rfl rfl ?_
 refine .nil (Next.mod rfl ?_)
 refine RA.nil (by kernel_rfl) ?_
 refine aD<|.sr<|.fa rfl<|.lo rfl ?_
 refine .cW (pt vt S 6 40 (by omega) _ i.rx) (λU E j=>?_)
 have j2:=j.av
 refine .fa rfl<|.cH rfl rfl<|.zs<|.cP [9,11] mixed ?_
 refine .tO 0 rfl (.fieldAddr rfl)<|.tO 1 rfl (.bK rfl)<|.tO 4 rfl (.fieldAddr rfl)<|.tO 5 rfl (.bK rfl) ?_
 refine .sT 2 rfl ?_
 refine .aL (uA X B 30 R _ f (by omega)) (λu a=>?_)
 have j3:=a.av
 refine .nil (Next.sub ?_)
 refine .sT 3 rfl ?_
 refine .cW (uq _ (B.take 30) _ a.rx (by simp;omega)) (λV F l=>?_)
 have j4:=l.av
 refine .nil (Next.sub ?_)
 refine .tO 8 rfl (.fieldAddr rfl) ?_
 refine .sT 6 rfl ?_
 refine .aL (uA Y C 30 R _ g (by omega)) (λu2 p=>?_)
 have j5:=p.av
 refine .nil (Next.sub ?_)
 refine .sT 7 rfl ?_
 refine .cW (uq _ (C.take 30) _ p.rx (by simp;omega)) (λW G m=>?_)
 have j6:=m.av
 refine .nil (Next.sub ?_)
 refine .sT 9 rfl ?_
 refine .cH rfl rfl ?_
 refine .nil (Next.mod rfl ?_)
 refine .tK 10 rfl (.gm rfl) ?_
 refine .sT 11 rfl ?_
 refine .cH rfl rfl ?_
 refine .nil (Next.mod rfl ?_)
 refine RA.nil (by kernel_rfl) ?_
 refine aD<|.sr<|.q (.bI rfl)<|.cc rfl rfl<|.zn ?_
 refine .ret (aN _ (.one (.dO rfl rfl)) (.one [0,0,0,0] _) ?_)
 ·exact⟨G++(F++(E++D)),by simp[take,aY],⟨⟨r,t,A,y⟩,U,V,W⟩,rfl,d.mono λb o c=>lr (lr (lr c)),j.sg.mono λb o c=>lr (lr (ng c)),l.sg.mono λb o c=>lr (ng c),m.sg.mono λb o c=>ng c⟩
set_option linter.unusedSimpArgs false
def cz(z:Int):Bool:=(decide (97<=z)&&decide (z<=122))||((decide (65<=z)&&decide (z<=90))||((decide (48<=z)&&decide (z<=57))||(z==45||(z==46||(z==95||z==126)))))
def jf(s:ByteArray):Bool:=eZ s cz&&(decide (43<=s.size)&&decide (s.size<=128))
def q7:ByteArray:=⟨#[65,66,67,68,69,70,71,72,73,74,75,76,77,78,79,80,81,82,83,84,85,86,87,88,89,90,97,98,99,100,101,102,103,104,105,106,107,108,109,110,111,112,113,114,115,116,117,118,119,120,121,122,48,49,50,51,52,53,54,55,56,57,45,46,95,126]⟩
theorem tp(c:UInt8):decide (Lib.indexByte q7.data.toList c<0)= !cz (c.toNat:Int):=by
 have e:∀k:Fin 256,decide (Lib.indexByte q7.data.toList (UInt8.ofNat k.val)<0)= !cz (((UInt8.ofNat k.val).toNat:Nat):Int):=by decide+kernel
 have h:=e ⟨c.toNat,c.toNat_lt⟩
 simpa using h
theorem xY(s:ByteArray)(c:Int)(R:au):Spec prog 260 [.string s,.int .u8 c] R [] λv H'=>v=.int .i64 (Lib.indexByte s.data.toList c.toNat.toUInt8)/\H'=[]:=by
 refine Spec.body func260 rfl results260 ntmps260 rfl ?_
 refine .sr<|.ag rfl<|.z<|.mo rfl<|.mo rfl ?_
 refine .aL (Spec.oZ (x9 s c) _) (λv a=>?_)
 subst a
 refine .az rfl ?_
 refine .ret (aO rfl ?_)
 ·exact⟨rfl,rfl⟩
theorem yv(s:ByteArray)(x:s.size<=9223372036854775807)(R:au):Spec prog 205 [.string s] R [] λv H'=>v=.bool (jf s)/\H'=[]:=by
  refine Spec.body func205 rfl results205 ntmps205 rfl ?_
  refine .sr<|.ag rfl<|.zs<|.sr<|.mo rfl<|.q .fF<|.mo rfl<|.zn<|.block ?_
  refine .loop (X:=Nat) (λi=>i<=s.size/\∀j (f:j<s.size),j<i->cz (s[j]'f).toNat=true) (λi=>[(0,.string s),(5,iN s.size),(6,iN i)]) (λ_=>[]) (λi=>s.size-i) 0 ⟨Nat.zero_le _,λ_ _ h=>by omega⟩ kE.c.c.c rH ?_
  rintro i ⟨u,n⟩
  refine .sr<|.q .lss<|.zs ?_
  refine .cond rfl (λg=>?_) λg=>?_
  have b:i<s.size:=dT g
  refine .kn<|.seq<|.block<|.sr<|.mo rfl<|.ag rfl<|.z<|.mo rfl<|.mo rfl<|.q (.iG (p:=s) i b) ?_
  refine .aL (xY q7 _ _) (λv r=>?_)
  subst r
  have o:((s[i]'b).toNat:Int).toNat.toUInt8=s[i]'b:=by simp
  rw[o]
  refine .q .lss<|.zn ?_
  refine .cond rfl (λk=>?_) λk=>?_
  have m:=(tp (s[i]'b)).symm.trans k
  have l:eZ s cz=false:=dW b (by simpa using m)
  refine .sr<|.az rfl ?_
  refine .ret (bp (aI (dj (bp (aI (aO rfl ?_))))))
  ·refine⟨adq Value.bool ?_,rfl⟩
   unfold jf
   first
     |(rw[l];rfl)
     |(rw[d,adt]
       have e:decide (43<=s.size)=true:=(by
         have:=bq a
         exact adu (by omega))
       rw[e,adt]
       by_cases h9:s.size<=128
       ·rw[adu h9];exact adu (by omega)
       ·rw[adv h9];exact adv (by omega))
     |(rw[d,adt]
       have e:decide (43<=s.size)=false:=(by
         have:=bi a
         exact adv (by omega))
       rw[e];rfl)
  have m:=(tp (s[i]'b)).symm.trans k
  refine .skip<|bw<|aD<|.region ?_
  refine .ia (i+1) .add ?_
  refine .mo rfl<|.nil ?_
  ·exact bd (i+1) ⟨b,λj f w=>by
      rcases Nat.lt_or_ge j i with h9|h9
      ·exact n j f h9
      ·obtain rfl:j=i:=by omega
       simpa using m⟩ (by omega) kE.c.c.c rH
  have d:eZ s cz=true:=mA λj f=>n j f (by have:=bi g;omega)
  refine .exit<|bE<|bH<|bF<|aD<|.sr<|.mo rfl<|.q .fF<|.q .geq<|.mo rfl ?_
  refine .split (t:=18) rfl (λa=>?_) (λa=>?_)
  refine .gT a<|.mo rfl<|.gT a<|.q .fF<|.gT a<|.q .leq<|.q (.aW a) ?_
  refine .az rfl ?_
  refine .ret (aO rfl ?_)
  ·refine⟨adq Value.bool ?_,rfl⟩
   unfold jf
   first
     |(rw[l];rfl)
     |(rw[d,adt]
       have e:decide (43<=s.size)=true:=(by
         have:=bq a
         exact adu (by omega))
       rw[e,adt]
       by_cases h9:s.size<=128
       ·rw[adu h9];exact adu (by omega)
       ·rw[adv h9];exact adv (by omega))
     |(rw[d,adt]
       have e:decide (43<=s.size)=false:=(by
         have:=bi a
         exact adv (by omega))
       rw[e];rfl)
  refine .gF a<|.gF a<|.gF a<|.q (.aQ a) ?_
  refine .az rfl ?_
  refine .ret (aO rfl ?_)
  ·refine⟨adq Value.bool ?_,rfl⟩
   unfold jf
   first
     |(rw[l];rfl)
     |(rw[d,adt]
       have e:decide (43<=s.size)=true:=(by
         have:=bq a
         exact adu (by omega))
       rw[e,adt]
       by_cases h9:s.size<=128
       ·rw[adu h9];exact adu (by omega)
       ·rw[adv h9];exact adv (by omega))
     |(rw[d,adt]
       have e:decide (43<=s.size)=false:=(by
         have:=bi a
         exact adv (by omega))
       rw[e];rfl)
theorem MN(s:ByteArray)(H:s.size<=9223372036854775807)(R:au):Spec prog 171 [.string s] R [] λv H'=>v=.bool (jf s)/\H'=[]:=by
  refine Spec.body func171 rfl results171 ntmps171 rfl ?_
  refine .sr<|.ag rfl<|.zs<|.sr<|.az rfl<|.block ?_
  refine .loop (X:=Nat) (λi=>i<=s.size/\∀j (x:j<s.size),j<i->cz (s[j]'x).toNat=true) (λi=>[(0,.string s),(3,iN i)]) (λ_=>[]) (λi=>s.size-i) 0 ⟨Nat.zero_le _,λ_ _ h=>by omega⟩ kE.c.c rH ?_
  rintro i ⟨F,g⟩
  refine .seq<|.sr<|.mo rfl<|.mo rfl<|.q .fF<|.q .lss<|.zn ?_
  refine .cond rfl (λB=>?_) λB=>?_
  have A:i<s.size:=dT B
  refine .kn<|.seq<|.block<|.sr<|.mo rfl<|.mo rfl<|.q (.iG (p:=s) i A) ?_
  generalize E:((s[i]'A).toNat:Int)=z
  refine .ag rfl<|.zs ?_
  refine bO.cut (X:=Unit) (λ_=>True) (λ_=>[(0,.string s),(3,iN i),(52,.bool (!cz z))]) (λ_=>[]) ?_ ?_
  refine .region<|.mo rfl<|.q .geq<|.mo rfl ?_
  refine .split (t:=16) rfl (λu=>?_) (λu=>?_)
  refine .gT u<|.mo rfl<|.gT u<|.q .leq<|.q (.aW u) ?_
  refine .mo rfl ?_
  refine .split (t:=20) rfl (λr=>?_) (λr=>?_)
  refine .gF r<|.gF r<|.gF r<|.cT rfl ?_
  refine .cT rfl ?_
  refine .gF r<|.q (.aW r) ?_
  refine .mo rfl<|.gX<|.gX<|.gX<|.cT rfl ?_
  refine .cT rfl ?_
  refine .gX<|.q .bY<|.mo rfl<|.gX<|.gX<|.q .bY<|.mo rfl<|.gX<|.gX<|.q .bY<|.mo rfl<|.gX<|.gX<|.q .bY<|.mo rfl<|.gX<|.gX<|.q .bY<|.q .not<|.nil ?_
  ·refine aA () adr (bf.cons (bf.cons (bf.cons (bf.nil _) ?_) rfl) rfl) rH
   refine adq (λb=>some (Value.bool b)) (?_:_= !cz z)
   unfold cz
   clear g
   simp_all<;>(rw[ads];simp;omega)
  refine .gT r<|.mo rfl<|.gT r<|.q .geq<|.gT r<|.mo rfl ?_
  refine .split (t:=23) rfl (λn=>?_) (λn=>?_)
  refine .gT n<|.mo rfl<|.gT n<|.q .leq<|.gT r<|.q (.aW n) ?_
  refine .q (.aQ r) ?_
  refine .mo rfl ?_
  refine .split (t:=28) rfl (λm=>?_) (λm=>?_)
  refine .gF m<|.gF m<|.gF m<|.cT rfl ?_
  refine .cT rfl ?_
  refine .gF m<|.q (.aW m) ?_
  refine .mo rfl<|.gX<|.gX<|.q .bY<|.mo rfl<|.gX<|.gX<|.q .bY<|.mo rfl<|.gX<|.gX<|.q .bY<|.mo rfl<|.gX<|.gX<|.q .bY<|.q .not<|.nil ?_
  ·refine aA () adr (bf.cons (bf.cons (bf.cons (bf.nil _) ?_) rfl) rfl) rH
   refine adq (λb=>some (Value.bool b)) (?_:_= !cz z)
   unfold cz
   clear g
   simp_all<;>(rw[ads];simp;omega)
  refine .gT m<|.mo rfl<|.gT m<|.q .geq<|.gT m<|.mo rfl ?_
  refine .split (t:=31) rfl (λk=>?_) (λk=>?_)
  refine .gT k<|.mo rfl<|.gT k<|.q .leq<|.gT m<|.q (.aW k) ?_
  refine .q (.aQ m) ?_
  refine .mo rfl ?_
  refine .split (t:=36) rfl (λl=>?_) (λl=>?_)
  refine .gF l<|.gF l<|.q (.aW l) ?_
  refine .mo rfl<|.gX<|.gX<|.q .bY<|.mo rfl<|.gX<|.gX<|.q .bY<|.mo rfl<|.gX<|.gX<|.q .bY<|.q .not<|.nil ?_
  ·refine aA () adr (bf.cons (bf.cons (bf.cons (bf.nil _) ?_) rfl) rfl) rH
   refine adq (λb=>some (Value.bool b)) (?_:_= !cz z)
   unfold cz
   clear g
   simp_all<;>(rw[ads];simp;omega)
  refine .gT l<|.mo rfl<|.gT l<|.q .bR<|.q (.aQ l) ?_
  refine .mo rfl ?_
  refine .split (t:=40) rfl (λa=>?_) (λa=>?_)
  refine .gF a<|.gF a<|.q (.aW a) ?_
  refine .mo rfl<|.gX<|.gX<|.q .bY<|.mo rfl<|.gX<|.gX<|.q .bY<|.q .not<|.nil ?_
  ·refine aA () adr (bf.cons (bf.cons (bf.cons (bf.nil _) ?_) rfl) rfl) rH
   refine adq (λb=>some (Value.bool b)) (?_:_= !cz z)
   unfold cz
   clear g
   simp_all<;>(rw[ads];simp;omega)
  refine .gT a<|.mo rfl<|.gT a<|.q .bR<|.q (.aQ a) ?_
  refine .mo rfl ?_
  refine .split (t:=44) rfl (λd=>?_) (λd=>?_)
  refine .gF d<|.gF d<|.q (.aW d) ?_
  refine .mo rfl<|.gX<|.gX<|.q .bY<|.q .not<|.nil ?_
  ·refine aA () adr (bf.cons (bf.cons (bf.cons (bf.nil _) ?_) rfl) rfl) rH
   refine adq (λb=>some (Value.bool b)) (?_:_= !cz z)
   unfold cz
   clear g
   simp_all<;>(rw[ads];simp;omega)
  refine .gT d<|.mo rfl<|.gT d<|.q .bR<|.q (.aQ d) ?_
  refine .mo rfl ?_
  refine .split (t:=48) rfl (λf=>?_) (λf=>?_)
  refine .gF f<|.gF f<|.q (.aW f) ?_
  refine .q .not<|.nil ?_
  ·refine aA () adr (bf.cons (bf.cons (bf.cons (bf.nil _) ?_) rfl) rfl) rH
   refine adq (λb=>some (Value.bool b)) (?_:_= !cz z)
   unfold cz
   clear g
   simp_all<;>(rw[ads];simp;omega)
  refine .gT f<|.mo rfl<|.gT f<|.q .bR<|.q (.aQ f) ?_
  refine .q .not<|.nil ?_
  ·refine aA () adr (bf.cons (bf.cons (bf.cons (bf.nil _) ?_) rfl) rfl) rH
   refine adq (λb=>some (Value.bool b)) (?_:_= !cz z)
   unfold cz
   clear g
   simp_all<;>(rw[ads];simp;omega)
  refine .gF k<|.gF k<|.gT m<|.q (.aQ k) ?_
  refine .q (.aQ m) ?_
  refine .mo rfl<|.gt rfl ?_
  refine .mo rfl<|.gt rfl ?_
  refine .q .bR<|.q .bW<|.mo rfl ?_
  refine .split (t:=40) rfl (λa=>?_) (λa=>?_)
  refine .gF a<|.gF a<|.q (.aW a) ?_
  refine .mo rfl<|.gX<|.gX<|.q .bY<|.mo rfl<|.gX<|.gX<|.q .bY<|.q .not<|.nil ?_
  ·refine aA () adr (bf.cons (bf.cons (bf.cons (bf.nil _) ?_) rfl) rfl) rH
   refine adq (λb=>some (Value.bool b)) (?_:_= !cz z)
   unfold cz
   clear g
   simp_all<;>(rw[ads];simp;omega)
  refine .gT a<|.mo rfl<|.gT a<|.q .bR<|.q (.aQ a) ?_
  refine .mo rfl ?_
  refine .split (t:=44) rfl (λd=>?_) (λd=>?_)
  refine .gF d<|.gF d<|.q (.aW d) ?_
  refine .mo rfl<|.gX<|.gX<|.q .bY<|.q .not<|.nil ?_
  ·refine aA () adr (bf.cons (bf.cons (bf.cons (bf.nil _) ?_) rfl) rfl) rH
   refine adq (λb=>some (Value.bool b)) (?_:_= !cz z)
   unfold cz
   clear g
   simp_all<;>(rw[ads];simp;omega)
  refine .gT d<|.mo rfl<|.gT d<|.q .bR<|.q (.aQ d) ?_
  refine .mo rfl ?_
  refine .split (t:=48) rfl (λf=>?_) (λf=>?_)
  refine .gF f<|.gF f<|.q (.aW f) ?_
  refine .q .not<|.nil ?_
  ·refine aA () adr (bf.cons (bf.cons (bf.cons (bf.nil _) ?_) rfl) rfl) rH
   refine adq (λb=>some (Value.bool b)) (?_:_= !cz z)
   unfold cz
   clear g
   simp_all<;>(rw[ads];simp;omega)
  refine .gT f<|.mo rfl<|.gT f<|.q .bR<|.q (.aQ f) ?_
  refine .q .not<|.nil ?_
  ·refine aA () adr (bf.cons (bf.cons (bf.cons (bf.nil _) ?_) rfl) rfl) rH
   refine adq (λb=>some (Value.bool b)) (?_:_= !cz z)
   unfold cz
   clear g
   simp_all<;>(rw[ads];simp;omega)
  refine .gF n<|.gF n<|.gT r<|.q (.aQ n) ?_
  refine .q (.aQ r) ?_
  refine .mo rfl<|.gt rfl ?_
  refine .mo rfl<|.gt rfl ?_
  refine .q .geq<|.gt rfl ?_
  refine .mo rfl ?_
  refine .split (t:=31) rfl (λk=>?_) (λk=>?_)
  refine .gT k<|.mo rfl<|.gT k<|.q .leq<|.gt rfl ?_
  refine .q (.aW k) ?_
  refine .q .bW<|.mo rfl ?_
  refine .split (t:=36) rfl (λl=>?_) (λl=>?_)
  refine .gF l<|.gF l<|.q (.aW l) ?_
  refine .mo rfl<|.gX<|.gX<|.q .bY<|.mo rfl<|.gX<|.gX<|.q .bY<|.mo rfl<|.gX<|.gX<|.q .bY<|.q .not<|.nil ?_
  ·refine aA () adr (bf.cons (bf.cons (bf.cons (bf.nil _) ?_) rfl) rfl) rH
   refine adq (λb=>some (Value.bool b)) (?_:_= !cz z)
   unfold cz
   clear g
   simp_all<;>(rw[ads];simp;omega)
  refine .gT l<|.mo rfl<|.gT l<|.q .bR<|.q (.aQ l) ?_
  refine .mo rfl ?_
  refine .split (t:=40) rfl (λa=>?_) (λa=>?_)
  refine .gF a<|.gF a<|.q (.aW a) ?_
  refine .mo rfl<|.gX<|.gX<|.q .bY<|.mo rfl<|.gX<|.gX<|.q .bY<|.q .not<|.nil ?_
  ·refine aA () adr (bf.cons (bf.cons (bf.cons (bf.nil _) ?_) rfl) rfl) rH
   refine adq (λb=>some (Value.bool b)) (?_:_= !cz z)
   unfold cz
   clear g
   simp_all<;>(rw[ads];simp;omega)
  refine .gT a<|.mo rfl<|.gT a<|.q .bR<|.q (.aQ a) ?_
  refine .mo rfl ?_
  refine .split (t:=44) rfl (λd=>?_) (λd=>?_)
  refine .gF d<|.gF d<|.q (.aW d) ?_
  refine .mo rfl<|.gX<|.gX<|.q .bY<|.q .not<|.nil ?_
  ·refine aA () adr (bf.cons (bf.cons (bf.cons (bf.nil _) ?_) rfl) rfl) rH
   refine adq (λb=>some (Value.bool b)) (?_:_= !cz z)
   unfold cz
   clear g
   simp_all<;>(rw[ads];simp;omega)
  refine .gT d<|.mo rfl<|.gT d<|.q .bR<|.q (.aQ d) ?_
  refine .mo rfl ?_
  refine .split (t:=48) rfl (λf=>?_) (λf=>?_)
  refine .gF f<|.gF f<|.q (.aW f) ?_
  refine .q .not<|.nil ?_
  ·refine aA () adr (bf.cons (bf.cons (bf.cons (bf.nil _) ?_) rfl) rfl) rH
   refine adq (λb=>some (Value.bool b)) (?_:_= !cz z)
   unfold cz
   clear g
   simp_all<;>(rw[ads];simp;omega)
  refine .gT f<|.mo rfl<|.gT f<|.q .bR<|.q (.aQ f) ?_
  refine .q .not<|.nil ?_
  ·refine aA () adr (bf.cons (bf.cons (bf.cons (bf.nil _) ?_) rfl) rfl) rH
   refine adq (λb=>some (Value.bool b)) (?_:_= !cz z)
   unfold cz
   clear g
   simp_all<;>(rw[ads];simp;omega)
  refine .gF k<|.gF k<|.gt rfl ?_
  refine .q (.aQ k) ?_
  refine .q .bW<|.mo rfl<|.gt rfl ?_
  refine .mo rfl<|.gt rfl ?_
  refine .q .bR<|.q .bW<|.mo rfl ?_
  refine .split (t:=40) rfl (λa=>?_) (λa=>?_)
  refine .gF a<|.gF a<|.q (.aW a) ?_
  refine .mo rfl<|.gX<|.gX<|.q .bY<|.mo rfl<|.gX<|.gX<|.q .bY<|.q .not<|.nil ?_
  ·refine aA () adr (bf.cons (bf.cons (bf.cons (bf.nil _) ?_) rfl) rfl) rH
   refine adq (λb=>some (Value.bool b)) (?_:_= !cz z)
   unfold cz
   clear g
   simp_all<;>(rw[ads];simp;omega)
  refine .gT a<|.mo rfl<|.gT a<|.q .bR<|.q (.aQ a) ?_
  refine .mo rfl ?_
  refine .split (t:=44) rfl (λd=>?_) (λd=>?_)
  refine .gF d<|.gF d<|.q (.aW d) ?_
  refine .mo rfl<|.gX<|.gX<|.q .bY<|.q .not<|.nil ?_
  ·refine aA () adr (bf.cons (bf.cons (bf.cons (bf.nil _) ?_) rfl) rfl) rH
   refine adq (λb=>some (Value.bool b)) (?_:_= !cz z)
   unfold cz
   clear g
   simp_all<;>(rw[ads];simp;omega)
  refine .gT d<|.mo rfl<|.gT d<|.q .bR<|.q (.aQ d) ?_
  refine .mo rfl ?_
  refine .split (t:=48) rfl (λf=>?_) (λf=>?_)
  refine .gF f<|.gF f<|.q (.aW f) ?_
  refine .q .not<|.nil ?_
  ·refine aA () adr (bf.cons (bf.cons (bf.cons (bf.nil _) ?_) rfl) rfl) rH
   refine adq (λb=>some (Value.bool b)) (?_:_= !cz z)
   unfold cz
   clear g
   simp_all<;>(rw[ads];simp;omega)
  refine .gT f<|.mo rfl<|.gT f<|.q .bR<|.q (.aQ f) ?_
  refine .q .not<|.nil ?_
  ·refine aA () adr (bf.cons (bf.cons (bf.cons (bf.nil _) ?_) rfl) rfl) rH
   refine adq (λb=>some (Value.bool b)) (?_:_= !cz z)
   unfold cz
   clear g
   simp_all<;>(rw[ads];simp;omega)
  refine .gF u<|.gF u<|.q (.aQ u) ?_
  refine .mo rfl<|.gt rfl ?_
  refine .mo rfl<|.gt rfl ?_
  refine .q .geq<|.gt rfl ?_
  refine .mo rfl ?_
  refine .split (t:=23) rfl (λn=>?_) (λn=>?_)
  refine .gT n<|.mo rfl<|.gT n<|.q .leq<|.gt rfl ?_
  refine .q (.aW n) ?_
  refine .q .bW<|.mo rfl ?_
  refine .split (t:=28) rfl (λm=>?_) (λm=>?_)
  refine .gF m<|.gF m<|.gF m<|.cT rfl ?_
  refine .cT rfl ?_
  refine .gF m<|.q (.aW m) ?_
  refine .mo rfl<|.gX<|.gX<|.q .bY<|.mo rfl<|.gX<|.gX<|.q .bY<|.mo rfl<|.gX<|.gX<|.q .bY<|.mo rfl<|.gX<|.gX<|.q .bY<|.q .not<|.nil ?_
  ·refine aA () adr (bf.cons (bf.cons (bf.cons (bf.nil _) ?_) rfl) rfl) rH
   refine adq (λb=>some (Value.bool b)) (?_:_= !cz z)
   unfold cz
   clear g
   simp_all<;>(rw[ads];simp;omega)
  refine .gT m<|.mo rfl<|.gT m<|.q .geq<|.gT m<|.mo rfl ?_
  refine .split (t:=31) rfl (λk=>?_) (λk=>?_)
  refine .gT k<|.mo rfl<|.gT k<|.q .leq<|.gT m<|.q (.aW k) ?_
  refine .q (.aQ m) ?_
  refine .mo rfl ?_
  refine .split (t:=36) rfl (λl=>?_) (λl=>?_)
  refine .gF l<|.gF l<|.q (.aW l) ?_
  refine .mo rfl<|.gX<|.gX<|.q .bY<|.mo rfl<|.gX<|.gX<|.q .bY<|.mo rfl<|.gX<|.gX<|.q .bY<|.q .not<|.nil ?_
  ·refine aA () adr (bf.cons (bf.cons (bf.cons (bf.nil _) ?_) rfl) rfl) rH
   refine adq (λb=>some (Value.bool b)) (?_:_= !cz z)
   unfold cz
   clear g
   simp_all<;>(rw[ads];simp;omega)
  refine .gT l<|.mo rfl<|.gT l<|.q .bR<|.q (.aQ l) ?_
  refine .mo rfl ?_
  refine .split (t:=40) rfl (λa=>?_) (λa=>?_)
  refine .gF a<|.gF a<|.q (.aW a) ?_
  refine .mo rfl<|.gX<|.gX<|.q .bY<|.mo rfl<|.gX<|.gX<|.q .bY<|.q .not<|.nil ?_
  ·refine aA () adr (bf.cons (bf.cons (bf.cons (bf.nil _) ?_) rfl) rfl) rH
   refine adq (λb=>some (Value.bool b)) (?_:_= !cz z)
   unfold cz
   clear g
   simp_all<;>(rw[ads];simp;omega)
  refine .gT a<|.mo rfl<|.gT a<|.q .bR<|.q (.aQ a) ?_
  refine .mo rfl ?_
  refine .split (t:=44) rfl (λd=>?_) (λd=>?_)
  refine .gF d<|.gF d<|.q (.aW d) ?_
  refine .mo rfl<|.gX<|.gX<|.q .bY<|.q .not<|.nil ?_
  ·refine aA () adr (bf.cons (bf.cons (bf.cons (bf.nil _) ?_) rfl) rfl) rH
   refine adq (λb=>some (Value.bool b)) (?_:_= !cz z)
   unfold cz
   clear g
   simp_all<;>(rw[ads];simp;omega)
  refine .gT d<|.mo rfl<|.gT d<|.q .bR<|.q (.aQ d) ?_
  refine .mo rfl ?_
  refine .split (t:=48) rfl (λf=>?_) (λf=>?_)
  refine .gF f<|.gF f<|.q (.aW f) ?_
  refine .q .not<|.nil ?_
  ·refine aA () adr (bf.cons (bf.cons (bf.cons (bf.nil _) ?_) rfl) rfl) rH
   refine adq (λb=>some (Value.bool b)) (?_:_= !cz z)
   unfold cz
   clear g
   simp_all<;>(rw[ads];simp;omega)
  refine .gT f<|.mo rfl<|.gT f<|.q .bR<|.q (.aQ f) ?_
  refine .q .not<|.nil ?_
  ·refine aA () adr (bf.cons (bf.cons (bf.cons (bf.nil _) ?_) rfl) rfl) rH
   refine adq (λb=>some (Value.bool b)) (?_:_= !cz z)
   unfold cz
   clear g
   simp_all<;>(rw[ads];simp;omega)
  refine .gF k<|.gF k<|.gT m<|.q (.aQ k) ?_
  refine .q (.aQ m) ?_
  refine .mo rfl<|.gt rfl ?_
  refine .mo rfl<|.gt rfl ?_
  refine .q .bR<|.q .bW<|.mo rfl ?_
  refine .split (t:=40) rfl (λa=>?_) (λa=>?_)
  refine .gF a<|.gF a<|.q (.aW a) ?_
  refine .mo rfl<|.gX<|.gX<|.q .bY<|.mo rfl<|.gX<|.gX<|.q .bY<|.q .not<|.nil ?_
  ·refine aA () adr (bf.cons (bf.cons (bf.cons (bf.nil _) ?_) rfl) rfl) rH
   refine adq (λb=>some (Value.bool b)) (?_:_= !cz z)
   unfold cz
   clear g
   simp_all<;>(rw[ads];simp;omega)
  refine .gT a<|.mo rfl<|.gT a<|.q .bR<|.q (.aQ a) ?_
  refine .mo rfl ?_
  refine .split (t:=44) rfl (λd=>?_) (λd=>?_)
  refine .gF d<|.gF d<|.q (.aW d) ?_
  refine .mo rfl<|.gX<|.gX<|.q .bY<|.q .not<|.nil ?_
  ·refine aA () adr (bf.cons (bf.cons (bf.cons (bf.nil _) ?_) rfl) rfl) rH
   refine adq (λb=>some (Value.bool b)) (?_:_= !cz z)
   unfold cz
   clear g
   simp_all<;>(rw[ads];simp;omega)
  refine .gT d<|.mo rfl<|.gT d<|.q .bR<|.q (.aQ d) ?_
  refine .mo rfl ?_
  refine .split (t:=48) rfl (λf=>?_) (λf=>?_)
  refine .gF f<|.gF f<|.q (.aW f) ?_
  refine .q .not<|.nil ?_
  ·refine aA () adr (bf.cons (bf.cons (bf.cons (bf.nil _) ?_) rfl) rfl) rH
   refine adq (λb=>some (Value.bool b)) (?_:_= !cz z)
   unfold cz
   clear g
   simp_all<;>(rw[ads];simp;omega)
  refine .gT f<|.mo rfl<|.gT f<|.q .bR<|.q (.aQ f) ?_
  refine .q .not<|.nil ?_
  ·refine aA () adr (bf.cons (bf.cons (bf.cons (bf.nil _) ?_) rfl) rfl) rH
   refine adq (λb=>some (Value.bool b)) (?_:_= !cz z)
   unfold cz
   clear g
   simp_all<;>(rw[ads];simp;omega)
  refine .gF n<|.gF n<|.gt rfl ?_
  refine .q (.aQ n) ?_
  refine .q .bW<|.mo rfl<|.gt rfl ?_
  refine .mo rfl<|.gt rfl ?_
  refine .q .geq<|.gt rfl ?_
  refine .mo rfl ?_
  refine .split (t:=31) rfl (λk=>?_) (λk=>?_)
  refine .gT k<|.mo rfl<|.gT k<|.q .leq<|.gt rfl ?_
  refine .q (.aW k) ?_
  refine .q .bW<|.mo rfl ?_
  refine .split (t:=36) rfl (λl=>?_) (λl=>?_)
  refine .gF l<|.gF l<|.q (.aW l) ?_
  refine .mo rfl<|.gX<|.gX<|.q .bY<|.mo rfl<|.gX<|.gX<|.q .bY<|.mo rfl<|.gX<|.gX<|.q .bY<|.q .not<|.nil ?_
  ·refine aA () adr (bf.cons (bf.cons (bf.cons (bf.nil _) ?_) rfl) rfl) rH
   refine adq (λb=>some (Value.bool b)) (?_:_= !cz z)
   unfold cz
   clear g
   simp_all<;>(rw[ads];simp;omega)
  refine .gT l<|.mo rfl<|.gT l<|.q .bR<|.q (.aQ l) ?_
  refine .mo rfl ?_
  refine .split (t:=40) rfl (λa=>?_) (λa=>?_)
  refine .gF a<|.gF a<|.q (.aW a) ?_
  refine .mo rfl<|.gX<|.gX<|.q .bY<|.mo rfl<|.gX<|.gX<|.q .bY<|.q .not<|.nil ?_
  ·refine aA () adr (bf.cons (bf.cons (bf.cons (bf.nil _) ?_) rfl) rfl) rH
   refine adq (λb=>some (Value.bool b)) (?_:_= !cz z)
   unfold cz
   clear g
   simp_all<;>(rw[ads];simp;omega)
  refine .gT a<|.mo rfl<|.gT a<|.q .bR<|.q (.aQ a) ?_
  refine .mo rfl ?_
  refine .split (t:=44) rfl (λd=>?_) (λd=>?_)
  refine .gF d<|.gF d<|.q (.aW d) ?_
  refine .mo rfl<|.gX<|.gX<|.q .bY<|.q .not<|.nil ?_
  ·refine aA () adr (bf.cons (bf.cons (bf.cons (bf.nil _) ?_) rfl) rfl) rH
   refine adq (λb=>some (Value.bool b)) (?_:_= !cz z)
   unfold cz
   clear g
   simp_all<;>(rw[ads];simp;omega)
  refine .gT d<|.mo rfl<|.gT d<|.q .bR<|.q (.aQ d) ?_
  refine .mo rfl ?_
  refine .split (t:=48) rfl (λf=>?_) (λf=>?_)
  refine .gF f<|.gF f<|.q (.aW f) ?_
  refine .q .not<|.nil ?_
  ·refine aA () adr (bf.cons (bf.cons (bf.cons (bf.nil _) ?_) rfl) rfl) rH
   refine adq (λb=>some (Value.bool b)) (?_:_= !cz z)
   unfold cz
   clear g
   simp_all<;>(rw[ads];simp;omega)
  refine .gT f<|.mo rfl<|.gT f<|.q .bR<|.q (.aQ f) ?_
  refine .q .not<|.nil ?_
  ·refine aA () adr (bf.cons (bf.cons (bf.cons (bf.nil _) ?_) rfl) rfl) rH
   refine adq (λb=>some (Value.bool b)) (?_:_= !cz z)
   unfold cz
   clear g
   simp_all<;>(rw[ads];simp;omega)
  refine .gF k<|.gF k<|.gt rfl ?_
  refine .q (.aQ k) ?_
  refine .q .bW<|.mo rfl<|.gt rfl ?_
  refine .mo rfl<|.gt rfl ?_
  refine .q .bR<|.q .bW<|.mo rfl ?_
  refine .split (t:=40) rfl (λa=>?_) (λa=>?_)
  refine .gF a<|.gF a<|.q (.aW a) ?_
  refine .mo rfl<|.gX<|.gX<|.q .bY<|.mo rfl<|.gX<|.gX<|.q .bY<|.q .not<|.nil ?_
  ·refine aA () adr (bf.cons (bf.cons (bf.cons (bf.nil _) ?_) rfl) rfl) rH
   refine adq (λb=>some (Value.bool b)) (?_:_= !cz z)
   unfold cz
   clear g
   simp_all<;>(rw[ads];simp;omega)
  refine .gT a<|.mo rfl<|.gT a<|.q .bR<|.q (.aQ a) ?_
  refine .mo rfl ?_
  refine .split (t:=44) rfl (λd=>?_) (λd=>?_)
  refine .gF d<|.gF d<|.q (.aW d) ?_
  refine .mo rfl<|.gX<|.gX<|.q .bY<|.q .not<|.nil ?_
  ·refine aA () adr (bf.cons (bf.cons (bf.cons (bf.nil _) ?_) rfl) rfl) rH
   refine adq (λb=>some (Value.bool b)) (?_:_= !cz z)
   unfold cz
   clear g
   simp_all<;>(rw[ads];simp;omega)
  refine .gT d<|.mo rfl<|.gT d<|.q .bR<|.q (.aQ d) ?_
  refine .mo rfl ?_
  refine .split (t:=48) rfl (λf=>?_) (λf=>?_)
  refine .gF f<|.gF f<|.q (.aW f) ?_
  refine .q .not<|.nil ?_
  ·refine aA () adr (bf.cons (bf.cons (bf.cons (bf.nil _) ?_) rfl) rfl) rH
   refine adq (λb=>some (Value.bool b)) (?_:_= !cz z)
   unfold cz
   clear g
   simp_all<;>(rw[ads];simp;omega)
  refine .gT f<|.mo rfl<|.gT f<|.q .bR<|.q (.aQ f) ?_
  refine .q .not<|.nil ?_
  ·refine aA () adr (bf.cons (bf.cons (bf.cons (bf.nil _) ?_) rfl) rfl) rH
   refine adq (λb=>some (Value.bool b)) (?_:_= !cz z)
   unfold cz
   clear g
   simp_all<;>(rw[ads];simp;omega)
  intro y I
  refine aD ?_
  refine .cond rfl (λC=>?_) λC=>?_
  have D:eZ s cz=false:=dW A (by rw[E];simpa using C)
  refine .sr<|.az rfl ?_
  refine .ret (bp (aI (dj (bp (aI (aO rfl ?_))))))
  ·refine⟨adq Value.bool ?_,rfl⟩
   unfold jf
   first
     |(rw[D];rfl)
     |(rw[w,adt]
       have e:decide (43<=s.size)=true:=(by
         have:=bq o
         exact adu (by omega))
       rw[e,adt]
       by_cases h9:s.size<=128
       ·rw[adu h9];exact adu (by omega)
       ·rw[adv h9];exact adv (by omega))
     |(rw[w,adt]
       have e:decide (43<=s.size)=false:=(by
         have:=bi o
         exact adv (by omega))
       rw[e];rfl)
  refine .skip<|bw<|aD<|.region<|.mo rfl ?_
  refine .ia (i+1) .add ?_
  refine .ag rfl<|.nil ?_
  ·exact bd (i+1) ⟨A,λj x G=>by
      rcases Nat.lt_or_ge j i with h9|h9
      ·exact g j x h9
      ·obtain rfl:j=i:=by omega
       rw[E]
       simpa using C⟩ (by omega) kE.c.c rH
  have w:eZ s cz=true:=mA λj x=>g j x (by have:=bi B;omega)
  refine .exit<|bE<|bH<|bF<|aD<|.sr<|.mo rfl<|.q .fF<|.q .gtr<|.mo rfl ?_
  refine .split (t:=56) rfl (λo=>?_) (λo=>?_)
  refine .gT o<|.mo rfl<|.gT o<|.q .fF<|.gT o<|.q .lss<|.q (.aW o) ?_
  refine .az rfl ?_
  refine .ret (aO rfl ?_)
  ·refine⟨adq Value.bool ?_,rfl⟩
   unfold jf
   first
     |(rw[D];rfl)
     |(rw[w,adt]
       have e:decide (43<=s.size)=true:=(by
         have:=bq o
         exact adu (by omega))
       rw[e,adt]
       by_cases h9:s.size<=128
       ·rw[adu h9];exact adu (by omega)
       ·rw[adv h9];exact adv (by omega))
     |(rw[w,adt]
       have e:decide (43<=s.size)=false:=(by
         have:=bi o
         exact adv (by omega))
       rw[e];rfl)
  refine .gF o<|.gF o<|.gF o<|.q (.aQ o) ?_
  refine .az rfl ?_
  refine .ret (aO rfl ?_)
  ·refine⟨adq Value.bool ?_,rfl⟩
   unfold jf
   first
     |(rw[D];rfl)
     |(rw[w,adt]
       have e:decide (43<=s.size)=true:=(by
         have:=bq o
         exact adu (by omega))
       rw[e,adt]
       by_cases h9:s.size<=128
       ·rw[adu h9];exact adu (by omega)
       ·rw[adv h9];exact adv (by omega))
     |(rw[w,adt]
       have e:decide (43<=s.size)=false:=(by
         have:=bi o
         exact adv (by omega))
       rw[e];rfl)
def qc(s:ByteArray):ByteArray:=⟨(dv (mr s.data.toList)).toArray⟩
theorem Nh(l:List UInt8):(mr l).length=32:=rfl
theorem uB(s:ByteArray):s.data.toList.length=s.size:=Array.length_toList
theorem zO(s:ByteArray)(l:s.size<=9223372036854775807)(R:au)(k:PC R (pT 1) (wv ks)):
  Spec prog 206 [.string s] R [] λv H'=>v=.string (if jf s then qc s else⟨#[]⟩)/\H'=[]:=by
 refine Spec.body func206 rfl results206 ntmps206 rfl ?_
 refine .sr<|.ag rfl<|.zs<|.sr<|.mo rfl ?_
 refine .aL (yv s l _) (λv a=>?_)
 subst a
 refine .q .not<|.zn ?_
 refine .cond rfl (λc=>?_) λc=>?_
 refine .sr<|.az rfl ?_
 refine .ret (aI (aO rfl ?_))
 ·first
   |exact⟨by rw[if_pos a];rfl,rfl⟩
   |exact⟨by rw[adw (by simpa using c)],rfl⟩
 have a:jf s=true:=by simpa using c
 have r:s.size<=128:=by
  have e:=a
  unfold jf at e
  simp at e
  omega
 refine .kn<|.sr<|.mo rfl ?_
 refine .x5 (s:=s) (by unfold maxLen;omega) (λm h f=>?_)
 have t:=f.av
 refine .aL (Ni m s.data.toList _ (f.mono λb o i=>.inr (by have j:(b,o)∈h:=i;simp[j])) (by rw[uB];omega) k.rx) (λv d=>?_)
 subst d
 refine .cG (λp=>?_)
 refine .cc rfl rfl ?_ rfl (Nat.le_of_ble_eq_true rfl)
 rw[kQ (by rfl)]
 refine .z ?_
 refine .q (.sJ 0 32 rfl rfl rfl (by decide) (by decide) (by decide)) ?_
 refine .aL (tM _ (mr s.data.toList) _ (RS.lits (n:=32) (qk _) (λ_ _=>rfl) (λx _ u g=>by simp only[cK,List.mem_singleton]at g;subst g;rfl)) (by rw[Nh];omega)) (λv d=>?_)
 subst d
 refine .az rfl ?_
 refine .ret (aO rfl ?_)
 ·first
   |exact⟨by rw[if_pos a];rfl,rfl⟩
   |exact⟨by rw[adw (by simpa using c)],rfl⟩
def lm(s c:ByteArray):Bool:=jf s&&decide (qc s=c)
theorem KP(s c:ByteArray)(e:s.size<=9223372036854775807)(R:au)(f:PC R (pT 1) (wv ks)):
    Spec prog 154 [.string s,.string c] R [] λv H'=>v=.bool (lm s c)/\H'=[]:=by
  refine Spec.body func154 rfl results154 ntmps154 rfl ?_
  refine .sr<|.ag rfl<|.z<|.mo rfl ?_
  refine .aL (yv s e _) (λv d=>?_)
  subst d
  refine .mo rfl ?_
  refine .split (t:=7) rfl (λa=>?_) (λa=>?_)
  refine .gT a<|.mo rfl<|.gT a ?_
  refine .aL (zO s e _ f.rx) (λv d=>?_)
  subst d
  refine .gT a<|.mo rfl<|.gT a<|.q .eg<|.q (.aW a) ?_
  refine .az rfl ?_
  refine .ret (aO rfl ?_)
  ·refine⟨adq Value.bool ?_,rfl⟩
   unfold lm
   first
     |(have b:jf s=true:=a
       simp[b])
     |(have b:jf s=false:=a
       simp[b])
  refine .gF a<|.gF a<|.gF a<|.gF a<|.q (.aQ a) ?_
  refine .az rfl ?_
  refine .ret (aO rfl ?_)
  ·refine⟨adq Value.bool ?_,rfl⟩
   unfold lm
   first
     |(have b:jf s=true:=a
       simp[b])
     |(have b:jf s=false:=a
       simp[b])
theorem Mn(s:ByteArray)(I:s.size<=100000)(R:au):Spec prog 172 [.string s] R [] λv H'=>v=.string (qc s)/\H'=[]:=by
 obtain⟨l,e⟩:∃l,l=mr s.data.toList:=⟨_,rfl⟩
 have f:l.length=32:=by rw[e];rfl
 have x:qc s=⟨(dv l).toArray⟩:=by rw[e];rfl
 refine Spec.cX (H':=[[]]) (by simp) ?_
 refine Spec.body func172 rfl results172 ntmps172 rfl ?_
 refine .sr<|.ag rfl<|.z<|.mo rfl ?_
 refine .x5 (s:=s) (by unfold maxLen;omega) (λF t k=>?_)
 have K:=k.av
 refine .aL (MA F s.data.toList _ (k.mono λb o u=>.inr (by have w:(b,o)∈t:=u;simp[w])) (by rw[uB];omega)) (λv g=>?_)
 subst g
 rw[<-e]
 refine .cG (λh=>?_)
 refine .cc rfl rfl ?_ (by rw[mw,f]) (by rw[mw,f];exact Nat.le_refl _)
 rw[kQ (by rw[mw,f];rfl)]
 refine .z<|.ag rfl<|.zs<|.sr<|.az rfl<|.block ?_
 refine .loop (X:=Nat×Value×ax) (λy=>y.1<=32/\OS 5 1 cK y.2.1 (l.take y.1) y.2.2) (λy=>[(3,pT h),(4,y.2.1),(5,iN y.1)]) (λy=>[bl h (uv l) 245,y.2.2]) (λy=>32-y.1) (0,sZ,[]) ⟨Nat.zero_le _,OS.nil⟩ kE.c.c.c (aH [0,1]) ?_
 rintro⟨i,D,G⟩ ⟨A,a⟩
 simp only at A a⊢
 have J:=a.av
 refine .seq<|.sr<|.mo rfl<|.q .lss<|.zn ?_
 refine .cond rfl (λd=>?_) λd=>?_
 have n:i<32:=dT d
 obtain⟨c,m⟩:∃c,l[i]? =some c:=⟨_,bB (by omega)⟩
 refine .kn<|.seq<|.block<|.region<|.mo rfl<|.mo rfl<|.q (.fE i n rfl rfl rfl) ?_
 refine .q (.bK rfl (lC (Oi m))) ?_
 refine .hZ (λH=>?_)
 refine .append a (RS.lits (xs:=[c]) rfl (by simp[cK]) (by simp[cK,av])) (by simp;omega) (λE r j=>?_)
 rw[show l.take i++[c]=l.take (i+1) by rw[List.take_add_one,m];rfl]at j
 refine .ag rfl<|.nil<|bw<|aD<|.region<|.mo rfl ?_
 refine .ia (i+1) .add ?_
 refine .ag rfl<|.nil ?_
 ·exact bd (i+1,E,r) ⟨n,j⟩ (by simp only;omega) kE.c.c.c (aH [1,1])
 have B:i=32:=by have:=bi d;omega
 subst B
 rw[List.take_of_length_le (by omega)]at a
 refine .exit<|bE<|bH<|bF<|aD<|.sr<|.mo rfl ?_
 refine .aL (kO D l _ (a.rs λp C=>.inr (by simp[C])) (by omega)) (λv g=>?_)
 subst g
 refine .az rfl ?_
 refine .ret (aO rfl ?_)
 ·exact⟨by rw[x],rfl⟩
def bJ.mark(t:bJ):bJ:=⟨t.text,t.aC,t.user,t.uri,t.scopes,t.lB,t.cb,t.family,true⟩
def bh(A:List (ByteArray×bJ))(k aC uri ver:ByteArray)(now:Int):bJ×Int×List (ByteArray×bJ):=
 match aS k A with
 |none=>(bJ.zero,18,A)
 |some t=>if t.aC≠aC then(bJ.zero,18,A)else if t.used then(t,10,A)else if t.cb<=now\/t.uri≠uri\/lm ver t.lB=false then(bJ.zero,18,A)else(t.mark,0,cO k t.mark A)
theorem Kp(g:Nat)(C:List (cw×List ByteArray))(A:List (ByteArray×bJ))(T:ax)(h:GI g C A T)(k aC j d:ByteArray)(now:Int)(F:d.size<=9223372036854775807)(R:au)(hg:PC R (pT 1) (wv ks)):
  Spec prog 83 [pT g,.string k,.string aC,.string j,.string d,.int .i64 now] R [T] λv H'=>∃T' Tn,H'=[T',Tn]/\∃w,v=.tuple [.agg (bM (w,(bh A k aC j d now).1)).toArray,.int .i64 (bh A k aC j d now).2.1].toArray/\dl (dU Tn) (w,(bh A k aC j d now).1)/\GI g C (bh A k aC j d now).2.2 T':=by
 have a3:=h.nd
 have G:=h
 obtain⟨m,_,rfl,y,MC,vm,M,q,n,D,r,rfl,⟨a0,a4,hC⟩,I,Z,Y,hQ⟩:=h
 obtain⟨s,rfl⟩:∃b,vm=.map (some b):=by obtain⟨b,es,a2,S,_⟩:=I;exact⟨b,S⟩
 have ic:One y:=⟨by obtain⟨b,es,a2,S,_⟩:=a0;subst S;rfl⟩
 obtain⟨B,a,a7,L,W,a8,b2,a1⟩:=vy I.nd Z Y k
 have i0:bG (bM (B,a)):=⟨L.bD⟩
 have iw:One B:=L.av
 have J:(aS k A).isSome=true->aS k A=some a:=λe=>by
  obtain⟨u,hu⟩:=Option.isSome_iff_exists.1 e
  rw[hu,(a1 u hu).1]
 refine Spec.cX (H':=[bl g [y,.map (some s),pT q] 132,n,D,r,m]) (by simp) ?_
 refine Spec.body func83 rfl results83 ntmps83 rfl ?_
 refine .sr ?_
 refine .cG (λb0=>?_)
 refine .ag rfl<|.zs<|.sr<|.mo rfl ?_
 refine .aL (ma g s _ _ _) (λv F=>?_)
 subst F
 refine .q .not<|.zn<|.bX<|.kn<|.sr<|.mo rfl<|.nc rfl<|.fa rfl<|.lo rfl<|.mo rfl ?_
 refine .q (aP.cast (v':=.tuple [.agg (bM (B,a)).toArray,.bool (aS k A).isSome].toArray) (.kN I.rx rfl (show _=some (Value.string k)from rfl)) (by rw[<-a8, <-a7];rfl)) ?_
 refine .mo rfl<|.q .extract<|.q .extract ?_
 refine .cG (λb1=>?_)
 refine .cc rfl rfl<|.ag rfl<|.zs<|.block<|.sr<|.mo rfl<|.q .not<|.mo rfl ?_
 refine .split (t:=32) rfl (λc=>?_) (λc=>?_)
 refine .gF c<|.gF c<|.gF c<|.gF c<|.q (.aW c) ?_
 refine .az rfl<|.dn<|.sr ?_
 refine .q .du ?_
 refine .cc rfl rfl<|.az rfl ?_
 refine .ret (bp (aI (aN _ (.two (.dO rfl rfl) (.tmp rfl)) ((aH [2,2,2,2,2]).trans (aU.bu (H':=[((g,.cells [y,.map (some s),pT q].toArray 132 (0,0))::(n++(D++r)))++m,[]]) (by simp[take,aY]))) ?_)))
 ·have i:aS k A=none:=by simpa using c
  have e:bh A k aC j d now=(bJ.zero,18,A):=by unfold bh;rw[i]
  rw[e];exact⟨_,_,rfl,sZ,rfl,dl.zero _,G⟩
 refine .gT c<|.fa rfl<|.gT c<|.lo rfl<|.gT c<|.mo rfl<|.gT c<|.q .eU<|.q (.aQ c) ?_
 refine .az rfl ?_
 refine .cond rfl (λE=>?_) λE=>?_
 refine .sr ?_
 refine .q .du ?_
 refine .cc rfl rfl<|.az rfl ?_
 refine .ret (bp (aI (aN _ (.two (.dO rfl rfl) (.tmp rfl)) ((aH [2,2,2,2,2]).trans (aU.bu (H':=[((g,.cells [y,.map (some s),pT q].toArray 132 (0,0))::(n++(D++r)))++m,[]]) (by simp[take,aY]))) ?_)))
 ·have i:=J (by simpa using c)
  have e:bh A k aC j d now=(bJ.zero,18,A):=by unfold bh;rw[i];simp only;rw[if_pos (by simpa using E)]
  rw[e];exact⟨_,_,rfl,sZ,rfl,dl.zero _,G⟩
 refine .sr<|.fa rfl<|.lo rfl<|.az rfl ?_
 refine .cond rfl (λH=>?_) λH=>?_
 refine .sr<|.q (.bI rfl) ?_
 refine .cW (ql B a _ (L.mono λb o K=>.inr (by have V:(b,o)∈m:=K.1;simp[V])) W) (λv Q F=>?_)
 obtain⟨O,rfl,N⟩:=F
 have i1:bG (bM (O,a)):=⟨N.bD⟩
 refine .cc rfl rfl<|.az rfl ?_
 refine .ret (bp (aI (aN _ (.two (.dO rfl rfl) (.tmp rfl)) ((aH [3,3,3,3,3,0]).trans (aU.bu (H':=[((g,.cells [y,.map (some s),pT q].toArray 132 (0,0))::(n++(D++r)))++m,Q]) (by simp[take,aY]))) ?_)))
 ·have i:=J (by simpa using c)
  have x:¬a.aC≠aC:=by simpa using E
  have e:bh A k aC j d now=(a,10,A):=by unfold bh;rw[i];simp only;rw[adw x,if_pos H]
  rw[e];exact⟨_,_,rfl,O,rfl,N,G⟩
 refine .sr<|.fa rfl<|.lo rfl<|.mo rfl<|.q .leq<|.mo rfl ?_
 refine .split (t:=49) rfl (λl=>?_) (λl=>?_)
 refine .gF l<|.gF l<|.gF l<|.gF l<|.q (.aW l) ?_
 refine .mo rfl<|.gX<|.gX<|.gX<|.gX<|.gX<|.q .bY<|.az rfl<|.dn<|.sr ?_
 refine .q .du ?_
 refine .cc rfl rfl<|.az rfl ?_
 refine .ret (bp (aI (aN _ (.two (.dO rfl rfl) (.tmp rfl)) ((aH [2,2,2,2,2]).trans (aU.bu (H':=[((g,.cells [y,.map (some s),pT q].toArray 132 (0,0))::(n++(D++r)))++m,[]]) (by simp[take,aY]))) ?_)))
 ·have i:=J (by simpa using c)
  have x:¬a.aC≠aC:=by simpa using E
  have e:bh A k aC j d now=(bJ.zero,18,A):=by unfold bh;rw[i];simp only;rw[adw x,adw (by rw[H];simp),if_pos (.inl (by simpa using l))]
  rw[e];exact⟨_,_,rfl,sZ,rfl,dl.zero _,G⟩
 refine .gT l<|.fa rfl<|.gT l<|.lo rfl<|.gT l<|.mo rfl<|.gT l<|.q .eU<|.q (.aQ l) ?_
 refine .mo rfl ?_
 refine .split (t:=55) rfl (λf=>?_) (λf=>?_)
 refine .gF f<|.gF f<|.gF f<|.gF f<|.gF f<|.q (.aW f) ?_
 refine .az rfl<|.dn<|.sr ?_
 refine .q .du ?_
 refine .cc rfl rfl<|.az rfl ?_
 refine .ret (bp (aI (aN _ (.two (.dO rfl rfl) (.tmp rfl)) ((aH [2,2,2,2,2]).trans (aU.bu (H':=[((g,.cells [y,.map (some s),pT q].toArray 132 (0,0))::(n++(D++r)))++m,[]]) (by simp[take,aY]))) ?_)))
 ·have i:=J (by simpa using c)
  have x:¬a.aC≠aC:=by simpa using E
  have e:bh A k aC j d now=(bJ.zero,18,A):=by unfold bh;rw[i];simp only;rw[adw x,adw (by rw[H];simp),if_pos (.inr (.inl (by simpa using f)))]
  rw[e];exact⟨_,_,rfl,sZ,rfl,dl.zero _,G⟩
 refine .gT f<|.mo rfl<|.gT f<|.fa rfl<|.gT f<|.lo rfl<|.gT f ?_
 refine .aL (KP d a.lB F _ hg.rx) (λv a9=>?_)
 subst a9
 refine .gT f<|.q .not<|.q (.aQ f) ?_
 refine .az rfl ?_
 refine .cond rfl (λU=>?_) λU=>?_
 refine .sr ?_
 refine .q .du ?_
 refine .cc rfl rfl<|.az rfl ?_
 refine .ret (bp (aI (aN _ (.two (.dO rfl rfl) (.tmp rfl)) ((aH [2,2,2,2,2]).trans (aU.bu (H':=[((g,.cells [y,.map (some s),pT q].toArray 132 (0,0))::(n++(D++r)))++m,[]]) (by simp[take,aY]))) ?_)))
 ·have i:=J (by simpa using c)
  have x:¬a.aC≠aC:=by simpa using E
  have e:bh A k aC j d now=(bJ.zero,18,A):=by unfold bh;rw[i];simp only;rw[adw x,adw (by rw[H];simp),if_pos (.inr (.inr (by simpa using U)))]
  rw[e];exact⟨_,_,rfl,sZ,rfl,dl.zero _,G⟩
 refine .skip<|bw<|aD<|.sr<|.fa rfl<|.cH rfl rfl<|.zs ?_
 refine .dc 6 mixed (by kernel_rfl) ?_
 conv=>arg 6;dsimp only[List.take]
 refine .mo rfl<|.nc rfl<|.fa rfl<|.lo rfl<|.mo rfl<|.q (.bI rfl)<|.nil ?_
 refine .update (u:=((B,a.mark):GP)) I rfl (show _=some (Value.string k)from rfl) rfl (λX a5 _=>?_)
 refine .z<|.q (.bI rfl) ?_
 refine .cW (ql B a.mark _ (dl.mono (p:=(B,a)) L λb o K=>.inr (by have V:(b,o)∈m:=K.1;simp[V])) W) (λv Q F=>?_)
 obtain⟨O,rfl,N⟩:=F
 have i1:bG (bM (O,a.mark)):=⟨N.bD⟩
 refine .cc rfl rfl<|.az rfl ?_
 refine .ret (aN _ (.two (.dO rfl rfl) (.tmp rfl)) ((aH [3,3,3,3,3,0]).trans (aU.bu (H':=[((g,.cells [y,.map (some s),pT q].toArray 132 (0,0))::(n++(X++r)))++m,Q]) (by simp[take,aY]))) ?_)
 ·have i:=J (by simpa using c)
  have x:¬a.aC≠aC:=by simpa using E
  have a6:¬(a.cb<=now\/a.uri≠j\/lm d a.lB=false):=by
   have q1:¬a.cb<=now:=by simpa using l
   have q2:a.uri=j:=by simpa using f
   have q3:lm d a.lB=true:=by simpa using U
   simp[q2,q3];omega
  have e:bh A k aC j d now=(a.mark,0,cO k a.mark A):=by unfold bh;rw[i];simp only;rw[adw x,adw (by rw[H];simp),adw a6]
  have hk:k=a.text:=(a1 a i).2.1.symm
  rw[e]
  refine⟨_,_,rfl,O,rfl,N,m,_,rfl,_,MC,_,_,q,n,X,r,rfl,⟨a0,a4,hC⟩,a5,λp hp=>?_,?_,?_⟩
  ·rcases oX I.nd hp with hp|rfl
   ·exact Z p hp
   ·exact⟨hk,dl.mono (p:=(B,a)) L λb o K=>K,W⟩
  ·exact(mf (m4 I.nd)).trans (by rw[mg];exact mH Y)
  ·refine hQ.perm ?_
   rw[mg]
   exact(vK (by rw[kM];exact a3) (by rw[nD,i];rfl)).symm
end Go.Proofs.YtkkmbiojicgobaaGreatDoor

/- What the law 'SolveA' uses. No condition. -/
import Derived.Carry
import Derived.ChangeShapes
import Derived.Test.YtdljmchhecoakaaGreatKSolveAI
import Derived.Test.YtdljmchhecoakaaGreatKSolveAO
import Derived.Test.YtdljmchhecoakaaGreatKSolveAP
import Derived.Test.YtdljmchhecoakaaGreatKSolveAQ
import Derived.Test.YtdljmchhecoakaaGreatKSolveAR
namespace Go.Proofs.YtdljmchhecoakaaGreat
section
set_option linter.unusedVariables false
set_option maxRecDepth 4000
open Go.ChangeShapes
theorem SE{H:Type}{enc:TypeId×Value->H}{P:Program}{w:World}{base:Nat}{b:Nat->Bool}{a:Bool}{t i j k l:TypeId}{f:Array Value}{g:List (DataW H)}{ps:List MemPlace}(h:DataW.TrodAll enc P w base b a [t,i,j,k,l] f.toList g ps):
  ∃v v' v'' v3 v4 d d' d'' d3 d4 p p' p'' p3 p4,f= #[v,v',v'',v3,v4]/\g=[d,d',d'',d3,d4]/\ps=p++(p'++(p''++(p3++p4)))/\DataW.Trod enc P w base b a t v d p/\DataW.Trod enc P w base b a i v' d' p'/\DataW.Trod enc P w base b a j v'' d'' p''/\DataW.Trod enc P w base b a k v3 d3 p3/\DataW.Trod enc P w base b a l v4 d4 p4:=by
 obtain⟨v,r,d,c,p,e,m,rfl,rfl,n,h⟩:=trodAll_cons h
 obtain⟨v',r,d',c,p',e,rfl,rfl,rfl,o,h⟩:=trodAll_cons h
 obtain⟨v'',r,d'',c,p'',e,rfl,rfl,rfl,q,h⟩:=trodAll_cons h
 obtain⟨v3,r,d3,c,p3,e,rfl,rfl,rfl,s,h⟩:=trodAll_cons h
 obtain⟨v4,r,d4,c,p4,e,rfl,rfl,rfl,u,h⟩:=trodAll_cons h
 obtain⟨rfl,rfl,rfl⟩:=trodAll_nil h
 exact⟨v,v',v'',v3,v4,d,d',d'',d3,d4,p,p',p'',p3,p4,by rw[<-Array.toArray_toList (xs:=f),m],rfl,by simp,n,o,q,s,u⟩
end
set_option linter.unusedVariables false
set_option linter.unusedSimpArgs false
set_option maxRecDepth 8000
structure uT(t:ByteArray)(L:List eQ)(C:List Sp):Prop where
 sz:t.size<=16384
 pl:Pl t
 lx:rB t=some L
 ok:∀x∈L,gm x
 len:L.length<=1000000
 cf:kP isWord (L.length+1) [] (L,false)=(C,([],false))
 jL:(⟨C,[]⟩:Cf).jL isWord=false
 num:((⟨C,[]⟩:Cf).numbers isWord di).1=0
 ig:C.length<=1000/\∀y∈C,y.bS.length<=1000
def lC(t:ByteArray):List eQ:=(rB t).getD []
def gD(t:ByteArray):List Sp:=(kP isWord ((lC t).length+1) [] (lC t,false)).1
theorem uT.of{t:ByteArray}(b:t.size<=16384)(c:(List.range t.size).all (λk=>decide (fb t k≠34)&&decide (fb t k≠47)&&decide (fb t k≠45))=true)(d:(rB t).isSome=true)(e:(lC t).all (λx=>decide (gm x))=true)(f:(lC t).length<=1000000)
  (g:(kP isWord ((lC t).length+1) [] (lC t,false)).2.1.isEmpty=true)(h:(kP isWord ((lC t).length+1) [] (lC t,false)).2.2=false)(i:(⟨gD t,[]⟩:Cf).jL isWord=false)(j:((⟨gD t,[]⟩:Cf).numbers isWord di).1=0)(a:(decide ((gD t).length<=1000)&&(gD t).all λy=>decide (y.bS.length<=1000))=true):uT t (lC t) (gD t):=by
 refine⟨b,λk m=>?_,?_,λx o=>cm (List.all_eq_true.1 e x o),f,?_,i,j,?_⟩
 ·have:=List.all_eq_true.1 c k (List.mem_range.2 m)
  simp only[Bool.and_eq_true,decide_eq_true_eq]at this
  exact⟨this.1.1,this.1.2,this.2⟩
 ·obtain⟨l,n⟩:=Option.isSome_iff_exists.1 d
  unfold lC
  rw[n];rfl
 ·refine Prod.ext rfl (Prod.ext ?_ h)
  exact List.isEmpty_iff.1 g
 ·simp only[Bool.and_eq_true,decide_eq_true_eq]at a
  exact⟨a.1,λy p=>cm (List.all_eq_true.1 a.2 y p)⟩
theorem NO{e:ep}{num:List Nat}(f:e.ll.map (·.2)=rows e.c.plain.bd num)(d:e.c.plain.bd.length<=1000/\∀y∈e.c.plain.bd,y.bS.length<=1000):e.ll.length<=1000000/\∀q∈e.ll,q.2.length<=1000000:=by
 have l:e.ll.length=e.c.plain.bd.length:=by rw[<-np e.c.plain.bd num, <-f,List.length_map]
 refine⟨by have:=d.1;omega,λq j=>?_⟩
 have k:q.2∈rows e.c.plain.bd num:=by rw[<-f];exact List.mem_map.2 ⟨q,j,rfl⟩
 obtain⟨i,a,g⟩:=List.mem_iff_getElem.1 k
 rw[np]at a
 have b:=pB (n:=num) (bu a)
 rw[bu (by rw[np];exact a),g]at b
 have h:=Option.some.inj b
 rw[h,List.length_take]
 have:=d.2 _ (List.getElem_mem a)
 omega
open Tryz (prog)
theorem zO{n r:Value}{B:Int}{k:bc}{b:Int}{R:aD}{D:List bQ×Nat×Int}(W:One n)(X:One r)(H:Spec prog 34 [n,r,.int .u64 B,.agg [.string k.os,.string k.oi].toArray,.string k.rel,.int .i64 b] R [] (nz R D))(us:ByteArray)(M:us.size<=9223372036854775807)(F:b<=9223372036854775807)
  (L:D.2.2=0->∀ps:List aF,ps.map aF.plain=D.1->mi ps us/\0<ps.length){K:Nat}{s:QS}(d:D.2.2=0->dV D.1 us K s)(J:jc s.2):
  Spec prog 26 [n,r,.int .u64 B,.agg [.string k.os,.string k.oi].toArray,.string k.rel,.string us,.int .i64 b] R [] λu H'=>u=.tuple [.bool (kD us D b K s.1).1,.int .i64 (kD us D b K s.1).2].toArray/\H'=[]:=by
 have a:kD us D b K s.1=if eu us=false then(false,9)else if D.2.2≠0 then(false,D.2.2)
  else if(ec b K s.1).2.2≠0 then(false,(ec b K s.1).2.2)else((ec b K s.1).1.getD 0 false,0):=rfl
 generalize kD us D b K s.1=out at *
 refine Spec.body Tryz.func26 rfl Tryz.results26 Tryz.ntmps26 rfl ?_
 refine .sr ?_
 refine .bW rfl (λS=>?_)
 refine .ag rfl<|.ag rfl<|.zs<|.sr<|.mo rfl ?_
 refine .ba ((tj us M R).weaken cU) (λu e=>?_)
 subst e
 refine .q .not<|.zn ?_
 refine .cond rfl (λg=>?_) λg=>?_
 have j:eu us=false:=by simpa using g
 rw[if_pos j]at a
 subst a
 refine .sr<|.ag rfl<|.az rfl ?_
 refine .ret (aI (bk _ (.two (.tmp rfl) (.tmp rfl)) (.none _) ?_))
 ·exact⟨rfl,rfl⟩
 have j:¬eu us=false:=by simpa using g
 rw[if_neg j]at a
 refine .kn<|.sr<|.mo rfl<|.mo rfl<|.mo rfl<|.q (.aL rfl)<|.mo rfl<|.mo rfl ?_
 refine .cK ((mO H).weaken cU) (λu O e=>?_)
 obtain⟨N,ps,rfl,x,E,w⟩:=e
 have Z:=x.ap
 refine .mo rfl<|.q .extract<|.q .extract ?_
 refine .bN (λT=>?_)
 refine .bH rfl rfl<|.ag rfl<|.zs<|.sr<|.mo rfl<|.q .dS<|.zn ?_
 refine .cond rfl (λh=>?_) λh=>?_
 have l:D.2.2≠0:=by simpa using h
 rw[if_pos l]at a
 subst a
 refine .sr<|.mo rfl<|.ag rfl<|.az rfl ?_
 refine .ret (aI (bk _ (.two (.tmp rfl) (.tmp rfl)) (.none _) ?_))
 ·exact⟨rfl,rfl⟩
 have m:D.2.2=0:=by simpa using h
 rw[if_neg (by rw[m];simp)]at a
 obtain⟨z,U⟩:=L m ps w
 have d:=d m
 rw[<-w]at d
 have y:=λC=>B8 z.ok d (b:=b) C
 rw[List.length_map]at y
 refine .kn<|.sr<|.q (.aL rfl)<|.mo rfl<|.mo rfl ?_
 refine .cK (qI N _ us ps _ (x.mono λb o c=>c.elim .inl λc=>.inr (by simp[c])) (λp I=>(E p I).mono λb o c=>c.elim .inl λc=>.inr (by simp[c])) z b F K s d J) (λu Q e=>?_)
 obtain⟨vo,rfl,t⟩:=e
 have Y:=t.ap
 refine .mo rfl<|.q .extract<|.q .extract<|.q .extract<|.ag rfl<|.ag rfl<|.ag rfl<|.zs<|.sr<|.mo rfl<|.q .dS<|.zn ?_
 refine .cond rfl (λi=>?_) λi=>?_
 have l:(ec b K s.1).2.2≠0:=by simpa using i
 rw[if_pos l]at a
 subst a
 refine .sr<|.mo rfl<|.ag rfl<|.az rfl ?_
 refine .ret (aI (bk _ (.two (.tmp rfl) (.tmp rfl)) (.none _) ?_))
 ·exact⟨rfl,rfl⟩
 have A:(ec b K s.1).2.2=0:=by simpa using i
 rw[if_neg (by rw[A];simp)]at a
 obtain⟨_,V⟩:=y A
 obtain⟨f,v⟩:∃f,(ec b K s.1).1[0]? =some f:=⟨_,bu (by omega)⟩
 have G:(ec b K s.1).1.getD 0 false=f:=by rw[List.getD_eq_getElem?_getD,v];rfl
 rw[G]at a
 subst a
 refine .kn<|.sr<|.mo rfl ?_
 refine .bo 0 t v (λa0=>?_)
 refine .lo rfl<|.ag rfl<|.az rfl ?_
 refine .ret (bk _ (.two (.tmp rfl) (.tmp rfl)) (.none _) ?_)
 ·exact⟨rfl,rfl⟩
def t21:ByteArray:=⟨#[110,97,109,101,115,112,97,99,101,32,100,32,123,32,114,101,108,97,116,105,111,110,32,97,58,32,117,115,101,114,59,32,125]⟩
theorem Sq:uT t21 (lC t21) (gD t21):=.of (by decide+kernel) (by decide+kernel) (by decide+kernel) (by decide+kernel) (by decide+kernel) (by decide+kernel) (by decide+kernel) (by decide+kernel) (by decide+kernel) (by decide+kernel)
def iO:bc:=⟨⟨#[100]⟩,⟨#[120]⟩,⟨#[97]⟩⟩
def mL:ByteArray:=⟨#[98,111,98]⟩
def sX:ByteArray:=⟨#[101,118,101]⟩
def uJ:aC:=⟨⟨#[100]⟩,⟨#[120]⟩,⟨#[97]⟩,⟨#[98,111,98]⟩,⟨#[]⟩,⟨#[]⟩,⟨#[]⟩⟩
def qR:cZ:=⟨[⟨uJ,1,0⟩],1,0⟩
def kb(k:bc):List Sub:=if scan qR 1 then(qR.rows.filter λy=>y.there 1&&decide (y.t.cQ=k)).map (·.t.sub)else []
theorem SX:iF ⟨[],0,0⟩ [] [] [⟨true,uJ⟩]=qR:=by kernel_rfl
theorem qk(num:List Nat):opened ⟨gD t21,[]⟩ num kb iO 1=([⟨iO,true,[⟨1,⟨#[]⟩,⟨#[]⟩,0,0⟩],num.getD 0 0,[mL],[[]]⟩],0):=by kernel_rfl
theorem Pr(num:List Nat):(opened ⟨gD t21,[]⟩ num kb iO 0).1.length=1:=by simp[opened]
theorem yO(num:List Nat):fk ⟨gD t21,[]⟩ num kb iO 1:=⟨by rw[qk];exact Nat.le_refl _,λj a=>by
 obtain rfl:j=0:=by omega
 rw[Pr];decide⟩
theorem yD(num:List Nat):fq ⟨gD t21,[]⟩ num kb iO 9 true 1=((opened ⟨gD t21,[]⟩ num kb iO 1).1,0,0):=by
 unfold fq
 rw[qk]
 rfl
def ru(us:ByteArray):Bool:=decide (us=mL)
theorem yt{num:List Nat}{us:ByteArray}(k:eu us=true){K:Nat}{s:QS}(ok:kg (opened ⟨gD t21,[]⟩ num kb iO 1).1 us)(i:dV (opened ⟨gD t21,[]⟩ num kb iO 1).1 us K s)(l:jc s.2):kD us (fq ⟨gD t21,[]⟩ num kb iO 9 true 1) 9 K s.1=(ru us,0):=by
 obtain⟨c,m,a,b,_⟩:=i.end_ ok l
 rw[qk]at c a b
 simp only at c a b
 have o:K<=1:=a
 have d:=b 0 (by simp)
 have e:(eX [(⟨iO,true,[⟨1,⟨#[]⟩,⟨#[]⟩,0,0⟩],num.getD 0 0,[mL],[[]]⟩:bQ)] us).ex 0 (λj=>s.1.getD j false)=ru us:=by
  show dm (⟨iO,true,[⟨1,⟨#[]⟩,⟨#[]⟩,0,0⟩],num.getD 0 0,[mL],[[]]⟩:bQ) us (λj=>s.1.getD j false) 1=_
  rw[AR (n:=⟨1,⟨#[]⟩,⟨#[]⟩,0,0⟩) rfl (.inl rfl),if_pos rfl]
  unfold ru
  simp
 have g:(eX [(⟨iO,true,[⟨1,⟨#[]⟩,⟨#[]⟩,0,0⟩],num.getD 0 0,[mL],[[]]⟩:bQ)] us).f 0=true:=rfl
 rw[e,g,Bool.true_and]at d
 have h:ec 9 K s.1=(s.1,K,0):=by
  unfold ec
  rw[if_neg (by decide),if_neg (by omega)]
 unfold kD
 rw[yD,h,k,if_neg (by simp)]
 simp only
 rw[if_neg (by simp),if_neg (by simp),d]
theorem rN{us:ByteArray}{num:List Nat}(a:kB isWord di ⟨gD t21,[]⟩ num):kg (opened ⟨gD t21,[]⟩ num kb iO 1).1 us:=a.ps (yO num) us
theorem B7{us:ByteArray}{num:List Nat}(h:kB isWord di ⟨gD t21,[]⟩ num)(ps:List aF)(e:ps.map aF.plain=(opened ⟨gD t21,[]⟩ num kb iO 1).1):mi ps us/\0<ps.length:=by
 have c:=rN (us:=us) h
 rw[<-e]at c
 have a:=e
 rw[qk]at a
 simp only at a
 refine⟨?_,by have:=congrArg List.length a;simp at this;omega⟩
 obtain⟨p,rfl⟩:∃p,ps=[p]:=List.length_eq_one_iff.1 (by have:=congrArg List.length a;simpa using this)
 simp only[List.map_cons,List.map_nil,List.cons.injEq,and_true]at a
 obtain⟨m,l,t,n,u,r,s,k,o⟩:=p
 unfold aF.plain at a
 simp only[bQ.mk.injEq]at a
 obtain⟨_,_,rfl,_,_,g⟩:=a
 refine⟨c,λp b=>?_,λp b=>?_,λp b q j=>?_,by simp,?_⟩
 ·rw[List.mem_singleton]at b
  subst b
  intro i f
  have f:i<1:=f
  obtain rfl:i=0:=by omega
  simp only
  decide+kernel
 ·rw[List.mem_singleton]at b
  subst b
  simp
 ·rw[List.mem_singleton]at b
  subst b
  have d:q.2∈k.map (·.2):=List.mem_map.2 ⟨q,j,rfl⟩
  rw[g,List.mem_singleton]at d
  rw[d]
  simp
 ·rw[e,qk]
  exact Nat.zero_le _
theorem lj(R:aD):Spec prog 38 [] R [] λu H'=>u=.bool true/\H'=[]:=by
 have f:=Sq
 have Q:=f.num
 have b9:=f.ig
 obtain⟨num,c1,j⟩:=AV Q
 have a2:=yO num
 have c2:=qk num
 obtain⟨K1,s1,V,a4⟩:=dV.ends (rN (us:=mL) j)
 obtain⟨K2,s2,W,a5⟩:=dV.ends (rN (us:=sX) j)
 have B:=yt (by decide+kernel) (rN j) V a4
 have F:=yt (by decide+kernel) (rN j) W a5
 have c4:=λl e=>B7 (us:=mL) j l e
 have c5:=λl e=>B7 (us:=sX) j l e
 have s:fq ⟨gD t21,[]⟩ num kb iO 9 true 1=((opened ⟨gD t21,[]⟩ num kb iO 1).1,0,0):=yD num
 have c0:=λi (h:i<=1)=>tU (c:=⟨gD t21,[]⟩) (num:=num) (sub:=kb) (k:=iO) h
 have c3:=λR=>PE (R:=R) t21 f.sz f.pl (lC t21) f.lx f.ok f.len (gD t21) f.cf f.jL
 have b3:ru mL=true:=by decide
 have b4:ru sX=false:=by decide
 rw[b3]at B
 rw[b4]at F
 generalize gD t21=C at *
 obtain⟨D,S⟩:∃D,D=fq ⟨C,[]⟩ num kb iO 9 true 1:=⟨_,rfl⟩
 rw[<-S]at B F s
 refine Spec.body Tryz.func38 rfl Tryz.results38 Tryz.ntmps38 rfl ?_
 refine .sr<|.ag rfl<|.z ?_
 refine .cK (c3 _) (λu Tc a=>?_)
 obtain⟨c,rfl,x,b6⟩:=a
 have d7:bZ c.enc:=⟨x.cJ⟩
 have d5:One c.vs:=RS.ap x.ss
 have d6:One c.vc:=RS.ap x.sc
 refine .mo rfl<|.q .extract<|.q .extract ?_
 refine .bN (λb1=>?_)
 refine .bH rfl rfl<|.ag rfl<|.z ?_
 refine .cK (z0 _) (λu I a=>?_)
 obtain⟨hb,rfl,T⟩:=a
 obtain⟨c8,d2,d3,a9,_⟩:=id T
 have e0:PS I (pT hb) [.bool true,c8,.int .i64 ((0:Nat):Int)]:=PS.of (E:=155) (fr:=(0,0)) (by rw[a9];simp)
 refine .cK (B5 _) (λu y a=>?_)
 obtain⟨g,rfl,X⟩:=a
 obtain⟨c6,c7,c9,d0,d1,a8⟩:=X.view (R:=sg y) λp v=>v
 have d9:PS y (pT g) [.bool true,.int .u64 0,.int .u64 0,iN c6.length,c7,c9]:=⟨a8.pc⟩
 refine .ag rfl<|.ag rfl<|.zs<|.sr<|.mo rfl<|.q (.yP rfl rfl) ?_
 refine .mo rfl<|.gt rfl ?_
 refine .mo rfl<|.gt rfl ?_
 refine .q (.yP rfl rfl) ?_
 refine .q .cT<|.mo rfl<|.gt rfl ?_
 refine .mo rfl<|.gt rfl ?_
 refine .q (.aL rfl)<|.gt rfl ?_
 refine .u5 (zW hb [] 0 I T (by simp) 0 c _ (x.mono λb o hb=>.inr (by have b2:(b,o)∈Tc:=hb;simp[b2]))) (λu J a=>?_)
 rw[b6]at a
 rw[zY,Q]at a
 obtain⟨rfl,a6,_⟩:=a
 obtain⟨e,b8,m,U⟩:=a6 rfl
 rw[List.nil_append]at U
 refine .gt rfl ?_
 refine .q .dS<|.q .cT<|.zn ?_
 refine .cond rfl (λN=>?_) λN=>?_
 ·simp at N
 refine .kn<|.sr ?_
 refine .q .cN ?_
 refine .bN (λb5=>?_)
 refine .bH rfl rfl<|.z<|.mo rfl<|.q (.aL rfl) ?_
 refine .q .cN ?_
 refine .q .cN ?_
 refine .q .cN ?_
 refine .dM (λd4=>?_)
 refine .u5 (CM g ⟨[],0,0⟩ y X gh.ff (sZ) (sZ) _ [] [] [⟨true,uJ⟩] _ RS.gL RS.gL (RS.lits (enc:=cC.enc) (xs:=[⟨true,uJ⟩]) rfl (by simp[cC.enc,aC.enc]) (by simp[cC.enc,aC.enc,ap])) (λt H=>(by cases H)) (λt H=>(by cases H)) (λd hd=>by rw[List.mem_singleton]at hd;subst hd;exact⟨by decide,by decide,by decide,by decide,by decide,by decide,by decide⟩)) (λu K a=>?_)
 obtain⟨rfl,Y⟩:=a
 rw[SX]at Y
 obtain⟨vl,Z⟩:=U.view (R:=λb o=>(b,o)∈J\/(b,o)∈K) λp v=>.inl v
 obtain⟨d8,vf,vr,Mf,Mr,a7⟩:=Y.view (R:=λb o=>(b,o)∈J\/(b,o)∈K) λp v=>.inr v
 have b0:kC [e] 1=some e:=by
  unfold kC
  have:hl [e] 1 1=some 0:=by
   simp only[hl,List.getElem?_cons_zero,b8]
   simp
  rw[show([e]:List ep).length=1 from rfl,this]
  rfl
 have b7:=Z.all e (by simp)
 have a3:e.ll.map (·.2)=rows e.c.plain.bd num:=by rw[b7.eq,m,c1]
 have G:=yF Z a7 (L:=qR.rows) ⟨.refl _,List.pairwise_singleton _ _⟩ (by decide) 1 e b0 num (by rw[m];exact j) a3 ⟨by omega,by simp⟩ (λe' M=>by
  rw[List.mem_singleton]at M
  subst M
  exact NO a3 (by rw[m];exact b9)) iO 9 (by omega) kb rfl (λi hi=>by
   rw[m]at hi⊢
   have h2:=wK a2 hi
   have O:=c0 i h2
   rw[c2]at O
   simp only[List.length_singleton]at O
   omega) 1 (by rw[m];exact a2)
 rw[m,show scan qR 1=true by decide, <-S]at G
 have a0:=zO ⟨rfl⟩ ⟨rfl⟩ G mL (by decide) (by omega) (λ_ l A=>c4 l (by rw[A,s])) (λ_=>by rw[s];exact V) a4
 have a1:=zO ⟨rfl⟩ ⟨rfl⟩ G sX (by decide) (by omega) (λ_ l A=>c5 l (by rw[A,s])) (λ_=>by rw[s];exact W) a5
 rw[B]at a0
 rw[F]at a1
 refine .z<|.mo rfl<|.mo rfl<|.q (.aL rfl) ?_
 refine .ba (a0.weaken λb o hb=>.inr (by rcases hb with hb|hb<;>simp[hb])) (λu a=>?_)
 subst a
 refine .mo rfl<|.q .extract<|.q .extract<|.ag rfl<|.ag rfl<|.z<|.mo rfl<|.mo rfl<|.q (.aL rfl) ?_
 refine .ba (a1.weaken λb o hb=>.inr (by rcases hb with hb|hb<;>simp[hb])) (λu a=>?_)
 subst a
 refine .mo rfl<|.q .extract<|.q .extract<|.ag rfl<|.ag rfl<|.z<|.mo rfl<|.q .bK<|.mo rfl ?_
 refine .split (t:=52) rfl (λn=>?_) (λn=>?_)
 refine .gT n<|.mo rfl<|.gT n<|.q .bK<|.q (.aO n) ?_
 refine .mo rfl ?_
 refine .split (t:=56) rfl (λw=>?_) (λw=>?_)
 refine .gT w<|.mo rfl<|.q (.aO w) ?_
 refine .mo rfl ?_
 refine .split (t:=59) rfl (λr=>?_) (λr=>?_)
 refine .gT r<|.mo rfl<|.gT r<|.q .not<|.q (.aO r) ?_
 refine .az rfl ?_
 refine .ret (bk _ (.one (.tmp rfl)) (aW.none _) ?_)
 ·exact⟨rfl,rfl⟩
 ·simp at r
 ·simp at w
 ·simp at n
def sx(n a b:Int):Int:=if n<a then a else if b<n then b else n
theorem QY(n a b:Int)(R:aD):Spec prog 46 [.int .i64 n,.int .i64 a,.int .i64 b] R [] λu H'=>u=.int .i64 (sx n a b)/\H'=[]:=by
 have c:sx n a b=if n<a then a else if b<n then b else n:=rfl
 generalize sx n a b=w at *
 refine Spec.body Tryz.func46 rfl Tryz.results46 Tryz.ntmps46 rfl ?_
 refine .sr<|.ag rfl<|.zs<|.sr<|.mo rfl<|.mo rfl<|.q .lss<|.zn ?_
 refine .cond rfl (λd=>?_) λd=>?_
 rw[if_pos (cm d)]at c
 subst c
 refine .sr<|.mo rfl<|.az rfl ?_
 refine .ret (aI (aM rfl ?_))
 ·exact⟨rfl,rfl⟩
 rw[if_neg (bA d)]at c
 refine .kn<|.seq<|.sr<|.mo rfl<|.mo rfl<|.q .gtr<|.zn ?_
 refine .cond rfl (λe=>?_) λe=>?_
 rw[if_pos (cm e)]at c
 subst c
 refine .sr<|.mo rfl<|.az rfl ?_
 refine .ret (aI (aM rfl ?_))
 ·exact⟨rfl,rfl⟩
 rw[if_neg (bA e)]at c
 subst c
 refine .kn<|.sr<|.mo rfl<|.az rfl ?_
 refine .ret (aM rfl ?_)
 ·exact⟨rfl,rfl⟩
theorem jd{R:aD}{H:aV}{A B:aB}(h:∀p:ol,p∈A\/p∈B->p∈H.flatten){b:Nat}{o:Obj}(hb:(R b o\/(b,o)∈A)\/(b,o)∈B):Rx R H b o:=by
 rcases hb with(hb|hb)|hb
 ·exact .inl hb
 ·exact .inr (h _ (.inl hb))
 ·exact .inr (h _ (.inr hb))
section
variable{R:aD}{cp:Cf}{c:bM}{hb g x:Nat}{S:cZ}{num:List Nat}{L:List bB}
theorem WS.scan(h:WS R cp c hb g x S num L):Go.Proofs.YtdljmchhecoakaaGreat.scan S S.head=true:=by
 unfold Go.Proofs.YtdljmchhecoakaaGreat.scan
 simp[h.uy.h1]
theorem WS.full(h:WS R cp c hb g x S num L){k:bc}{N:Nat}(a:fk cp num (dg S L S.head) k N)(b:Int):Go.Proofs.YtdljmchhecoakaaGreat.fq cp num (dg S L S.head) k b (Go.Proofs.YtdljmchhecoakaaGreat.scan S S.head) N=if b<1 then([],0,2)else if(((opened cp num (dg S L S.head) k N).1.length+(opened cp num (dg S L S.head) k N).2:Nat):Int)<=b then((opened cp num (dg S L S.head) k N).1,(opened cp num (dg S L S.head) k N).2,0)else([],0,16):=by
 unfold Go.Proofs.YtdljmchhecoakaaGreat.fq
 rw[h.scan]
 rfl
theorem WS.max(h:WS R cp c hb g x S num L){k:bc}{N:Nat}(a:fk cp num (dg S L S.head) k N):Go.Proofs.YtdljmchhecoakaaGreat.fq cp num (dg S L S.head) k 1048576 (Go.Proofs.YtdljmchhecoakaaGreat.scan S S.head) N=((opened cp num (dg S L S.head) k N).1,(opened cp num (dg S L S.head) k N).2,0):=by
 have:=h.my S.head k N a.2
 rw[h.full a,if_neg (by omega),if_pos (by omega)]
theorem WS.vU(h:WS R cp c hb g x S num L):0<=S.head:=Int.le_trans h.uy.h0 h.uy.h1
end
theorem Bf(j:Value)(e:Nat)(ps:List aF)(R:aD)(d:RS R 8 aF.enc j ps)(v:∀p∈ps,p.is R)(a0:ps.length<=2000000):
  Spec prog 43 [.agg [j,iN e].toArray] R [] λu H'=>∃T,H'=[T]/\∃vo,u=.agg [vo,iN e].toArray/\OS 93 8 aF.enc vo ps T:=by
 have a2:=d.ap
 have Z:=d.le
 refine Spec.body Tryz.func43 rfl Tryz.results43 Tryz.ntmps43 rfl ?_
 refine .sr ?_
 refine .bW rfl (λr=>?_)
 refine .bN (λs=>?_)
 refine .z<|.fa rfl<|.lo rfl ?_
 refine .q .cN ?_
 refine .bN (λt=>?_)
 refine .bH rfl rfl<|.zs<|.sr<|.az rfl<|.block ?_
 refine .cx [(1,_),(2,_),(3,_)] (X:=Nat×Value×aB) (λy=>y.1<=ps.length/\OS 93 8 aF.enc y.2.1 (ps.take y.1) y.2.2) (λy E=>(4,iN y.1)::E) (G:=[bl s [sZ,.int .i64 0] 86,bl r [j,iN e] 81]) (λy G=>y.2.2::bl t [y.2.1,iN e] 86::G) (λy=>ps.length-y.1) (0,sZ,[]) ⟨Nat.zero_le _,OS.nil⟩ kE.c.c.c.c (aH [9,0,0,0]) ?_
 rintro⟨i,vo,O⟩ ⟨w,b⟩
 simp only at w b⊢
 have io:=b.ap
 refine .seq<|.sr<|.mo rfl<|.fa rfl<|.lo rfl<|.q (.bJ d) ?_
 refine .q .lss<|.zn ?_
 refine .cond rfl (λf=>?_) λf=>?_
 have k:i<ps.length:=cr f
 obtain⟨p,g⟩:=bR k
 have a:=v p (aZ g)
 have a1:bZ p.enc:=⟨a.cJ⟩
 have x:=a.cJ
 have A:ps.take i++[p]=ps.take (i+1):=(dT g).symm
 have n1:=a.n.ap
 have n2:=a.u.ap
 have n3:=a.l.rs.ap
 obtain⟨k0,Y,M,H,N,J,L,D,nm⟩:=p
 have F:RS R 5 Nd.enc M H:=a.n
 have I:RS R 1 hZ N J:=a.u
 have C:RS R 1 dZ L D:=a.l.rs
 obtain⟨pn,V,rfl⟩:=F.val
 obtain⟨pu,W,rfl⟩:=I.val
 obtain⟨pl,U,rfl⟩:=C.val
 refine .kn<|.seq<|.block<|.sr<|.fa rfl<|.lo rfl<|.mo rfl ?_
 refine .bC i d g (λa3=>?_)
 refine .q (.aL rfl) ?_
 refine .bN (λS=>?_)
 refine .bH rfl rfl<|.z<|.fa rfl<|.lo rfl<|.az rfl<|.region<|.mo rfl<|.fa rfl<|.q (.loadT rfl) ?_
 refine .fa rfl<|.lo rfl<|.fa rfl<|.lo rfl<|.fa rfl<|.lo rfl<|.fa rfl<|.lo rfl<|.fa rfl<|.lo rfl<|.fa rfl<|.lo rfl ?_
 refine .q .cN ?_
 refine .dM (λQ=>?_)
 refine .append b (RS.lits (xs:=[_]) rfl (by simp[aF.enc]) (λy m u B=>by rw[List.mem_singleton]at m;subst m;exact x u B)) (by simp only[List.length_singleton,List.length_take];omega) (λK o h=>?_)
 have i5:=h.ap
 rw[A]at h
 refine .fa rfl<|.dw rfl rfl<|.nil<|bf<|ax<|.region<|.mo rfl ?_
 refine .ia (i+1) .add ?_
 refine .ag rfl<|.nil ?_
 ·exact aP (i+1,K,o) ⟨k,h⟩ (by simp only;omega) kE.c.c.c.c (aH [2,2,2,2])
 rw[dx (gj f)]at b
 refine .exit<|bq<|bz<|bs<|ax<|.sr<|.q (.aL rfl)<|.bH rfl rfl<|.zn ?_
 refine .ret (bk _ (.one (.eI rfl rfl)) (aH [0]) ?_)
 ·exact⟨_,rfl,_,rfl,b⟩
theorem zM(l:Value)(e:Nat)(ps:List aF)(R:aD)(g:RS R 8 aF.enc l ps)(w:ps.length<=2000000):
  Spec prog 44 [.agg [l,iN e].toArray] R [] λu H'=>u=.int .i64 (fE (ps.map aF.plain):Nat)/\H'=[]:=by
 have B:=g.ap
 have v:=g.le
 have r:∀(i:Nat) (p:aF),ps[i]? =some p->fE ((ps.take (i+1)).map aF.plain)=fE ((ps.take i).map aF.plain)+if p.found then 1 else 0:=λi p f=>by
  rw[dT f]
  unfold fE dO
  rw[List.map_append,List.map_append,List.countP_append]
  congr 1
  cases h:p.found<;>simp[aF.plain,h]
 have s:∀i,fE ((ps.take i).map aF.plain)<=i:=λi=>by
  unfold fE dO
  refine Nat.le_trans List.countP_le_length ?_
  simp only[List.length_map,List.length_take]
  omega
 refine Spec.body Tryz.func44 rfl Tryz.results44 Tryz.ntmps44 rfl ?_
 refine .sr ?_
 refine .bW rfl (λo=>?_)
 refine .ag rfl<|.z<|.ag rfl<|.zs<|.sr<|.az rfl<|.block ?_
 refine .cx [(1,_)] (X:=Nat) (λi=>i<=ps.length) (λi E=>(4,iN i)::(3,.int .i64 (fE ((ps.take i).map aF.plain):Nat))::E) (λ_ G=>G) (λi=>ps.length-i) 0 (Nat.zero_le _) kE.c.c.c rH ?_
 rintro i t
 refine .seq<|.sr<|.mo rfl<|.fa rfl<|.lo rfl<|.q (.bJ g) ?_
 refine .q .lss<|.zn ?_
 refine .cond rfl (λj=>?_) λj=>?_
 have n:i<ps.length:=cr j
 obtain⟨p,f⟩:=bR n
 have d:=r i p f
 have y:=s i
 obtain⟨C,m,L,F,M,J,K,D,H⟩:=p
 simp only at d
 refine .kn<|.seq<|.block<|.sr<|.fa rfl<|.lo rfl<|.mo rfl ?_
 refine .bC i g f (λI=>?_)
 refine .fa rfl<|.lo rfl<|.zn ?_
 refine bx.cL [(1,_),(4,_)] kE.c.c (X:=Unit) (λ_=>True) (λ_ E=>(3,.int .i64 (fE ((ps.take (i+1)).map aF.plain):Nat))::E) (λ_=>[bl o [l,iN e] 81]) ?_ ?_
 refine .cond rfl (λa=>?_) λa=>?_
 refine .region<|.mo rfl ?_
 refine .q (.i64 (((fE ((ps.take i).map aF.plain))+1:Nat):Int) .add ⟨by omega,by omega,by omega⟩) ?_
 refine .ag rfl<|.nil ?_
 ·first
   |exact ay () trivial (kE.c.c.jG rfl (by rw[d,if_pos a])) rH
   |exact ay () trivial (kE.c.c.jG rfl (by rw[d,if_neg (λb=>by have k:m=false:=a;rw[k]at b;cases b)];rfl)) rH
 refine .skip ?_
 ·first
   |exact ay () trivial (kE.c.c.jG rfl (by rw[d,if_pos a])) rH
   |exact ay () trivial (kE.c.c.jG rfl (by rw[d,if_neg (λb=>by have k:m=false:=a;rw[k]at b;cases b)];rfl)) rH
 intro x A
 refine bf<|ax<|.region<|.mo rfl ?_
 refine .ia (i+1) .add ?_
 refine .ag rfl<|.nil ?_
 ·exact aP (i+1) n (by omega) kE.c.c.c rH
 rw[dx (gj j)]
 refine .exit<|bq<|bz<|bs<|ax<|.sr<|.mo rfl<|.az rfl ?_
 refine .ret (bk _ (.one (.tmp rfl)) (aW.none _) ?_)
 ·exact⟨rfl,rfl⟩
theorem zL{b:Nat}:∀(l:List Sp),(∀y∈l,y.bS.length<=b)->(l.flatMap λs=>s.bS.map λr=>(s.name,r)).length<=l.length*b
 |[],_=>by simp
 |s::l,h=>by
  have c:=zL l λy a=>h y (List.mem_cons_of_mem _ a)
  have d:=h s List.mem_cons_self
  rw[List.flatMap_cons,List.length_append,List.length_map,List.length_cons,Nat.add_mul]
  omega
structure CW(op:List bQ)(oe:Nat)(us:ByteArray)(K:Nat)(s:QS):Prop where
 n:jc s.2
 run:dV op us K s
 lo:fE op<=K
 hi:K<=fE op+oe
 nf:fE op<=op.length
 ln:s.1.length=op.length
 ok:∀ps:List aF,ps.map aF.plain=op->mi ps us/\(∀p∈ps,p.found=true->0<p.nodes.length)/\(∀p∈ps,p.number<=1000000)/\dV (ps.map aF.plain) us K s/\oC (eX (ps.map aF.plain) us) (gk ps)=s.1/\
  ∀(i:Nat) (p:aF),ps[i]? =some p->s.1.getD i false=(p.found&&dm p.plain us (λj=>s.1.getD j false) p.nodes.length)
section
variable{R:aD}{cp:Cf}{c:bM}{hb g x:Nat}{S:cZ}{num:List Nat}{L:List bB}
theorem WS.uz(h:WS R cp c hb g x S num L){b:Int}{k:bc}{N:Nat}(o:fk cp num (dg S L b) k N)(us:ByteArray):∃K s,CW (opened cp num (dg S L b) k N).1 (opened cp num (dg S L b) k N).2 us K s:=by
 have A:=h.m.ps o us
 have z:=o.gr
 obtain⟨K,s,t,C⟩:=dV.ends A
 obtain⟨G,H,Q,I,J⟩:=t.end_ A C
 have U:=o.sS
 refine⟨K,s,C,t,H,by omega,?_,G,λw e=>?_⟩
 ·unfold fE dO
  refine Nat.le_trans List.countP_le_length ?_
  simp
 ·have u:∀p∈w,p.plain∈(opened cp num (dg S L b) k N).1:=λp a=>by rw[<-e];exact List.mem_map.2 ⟨p,a,rfl⟩
  have O:∀p∈w,p.number<=cp.all.length:=λp a=>by
   obtain⟨i,j,E⟩:=List.mem_iff_getElem.1 (u p a)
   have d:=h.m.lp o us i j
   have l:(eX (opened cp num (dg S L b) k N).1 us).num i=p.number:=by
    show(((opened cp num (dg S L b) k N).1[i]?).map (·.number)).getD 0=_
    rw[bu j,E];rfl
   omega
  have T:cp.all.length<=30:=by
   have:=zL cp.bd h.qA.2
   have d:=h.qA.1
   have l:cp.all.length=(cp.bd.flatMap λs=>s.bS.map λr=>(s.name,r)).length:=rfl
   omega
  refine⟨h.B6 o e us,λp a M=>?_,λp a=>by have:=O p a;omega,by rw[e];exact t,?_,λi p a=>?_⟩
  ·have d:p.found=(one cp num p.k).found:=(z.one p.plain (u p a)).1
   have l:p.nodes=(one cp num p.k).nodes:=(z.one p.plain (u p a)).2.1
   rw[l]
   rw[M]at d
   unfold one at d⊢
   split
   ·rename_i n;rw[n]at d;cases d
   ·rename_i i n
    obtain⟨y,D,_⟩:=nY n
    simp only[List.getD_eq_getElem?_getD,List.getElem?_map,D,Option.map_some,Option.getD_some]
    have q:=(nZ h.m.right y (aZ D)).1
    unfold nk at q
    simp only[Bool.and_eq_true,bne_iff_ne,ne_eq]at q
    refine Nat.pos_of_ne_zero λF=>q.1.2 ?_
    rw[List.eq_nil_of_length_eq_zero F]
    unfold fS
    cases ht:tree isWord [] ([]:List Nd).length with
    |none=>rfl
    |some r=>have:=(jf _ _ ht).1;simp at this
  ·rw[e]
   refine(J _ λi j=>?_).symm
   rw[<-e,List.length_map]at j
   obtain⟨p,a⟩:=bR j
   unfold fV
   rw[<-e,List.getElem?_map,a]
   exact(AF w 0).2 p (aZ a)
  ·have j:i<(opened cp num (dg S L b) k N).1.length:=by rw[<-e,List.length_map];exact(List.getElem?_eq_some_iff.1 a).1
   have B:(opened cp num (dg S L b) k N).1[i]? =some p.plain:=by rw[<-e,List.getElem?_map,a];rfl
   have d:=I i j
   have l:(eX (opened cp num (dg S L b) k N).1 us).f i=p.found:=by
    show(((opened cp num (dg S L b) k N).1[i]?).map (·.found)).getD false=_
    rw[B];rfl
   have n:∀v,(eX (opened cp num (dg S L b) k N).1 us).ex i v=dm p.plain us v p.nodes.length:=λv=>by
    unfold eX
    simp only[B]
    rfl
   rw[l,n]at d
   exact d
end
theorem RQ(w:jD)(R:aD)(h:w.is R)(k:bc)(us:ByteArray):
  Spec prog 6 [.agg w.enc.toArray,.agg [.string k.os,.string k.oi].toArray,.string k.rel,.string us] R [] λv H'=>v=.bool true/\H'=[]:=by
 have a8:=tG w R h
 have i1:One w.c.vs:=RS.ap h.c.ss
 have i2:One w.c.vc:=RS.ap h.c.sc
 have i3:=h.rs.ap
 have iw:bZ w.enc:=⟨λu e=>by
  simp only[jD.enc,List.mem_cons,List.not_mem_nil,or_false]at e
  rcases e with rfl|rfl|rfl
  ·exact i1.h
  ·exact i2.h
  ·exact i3.h⟩
 refine Spec.body Tryz.func6 rfl Tryz.results6 Tryz.ntmps6 rfl ?_
 refine .sr ?_
 refine .bW rfl (λb4=>?_)
 refine .bW rfl (λb5=>?_)
 refine .ag rfl<|.z<|.q (.aL rfl) ?_
 refine .cK (a8.weaken cU) (λu Y e=>?_)
 obtain⟨c,p1,p2,p3,ok,rfl,d1,d2,d3,Z,c0,c6,hW⟩:=e
 have c8:One c.vs:=RS.ap Z.ss
 have c9:One c.vc:=RS.ap Z.sc
 have d0:bZ c.enc:=⟨Z.cJ⟩
 refine .mo rfl<|.q .extract<|.q .extract<|.q .extract<|.q .extract<|.q .extract ?_
 refine .bN (λa4=>?_)
 refine .ag rfl<|.ag rfl<|.bH rfl rfl<|.ag rfl<|.ag rfl<|.zs<|.sr<|.mo rfl<|.q .not<|.zn ?_
 refine .cond rfl (λh1=>?_) λh1=>?_
 refine .sr ?_
 refine .ba (lj _) (λu e=>?_)
 subst e
 refine .az rfl ?_
 refine .ret (aI (bk _ (.one (.tmp rfl)) (aW.none _) ?_))
 ·exact⟨rfl,rfl⟩
 have b0:ok=true:=by simpa using h1
 subst b0
 obtain⟨a,g,x,S,b3,L,rfl,rfl,rfl,C⟩:=hW rfl
 obtain⟨N,T⟩:=C.fin S.head k
 have a7:=C.my S.head k N T.2
 have a2:=C.max T
 have W:=C.fq S.head C.vU k 1048576 (by omega) T
 rw[a2]at W
 obtain⟨vL,a0⟩:=C.d
 have b6:=a0.pc
 have d5:One vL:=a0.rs.ap
 obtain⟨K,s,D⟩:=C.uz T us
 generalize opened (fM w.c.plain) b3 (dg S L S.head) k N=OP at *
 obtain⟨op,H⟩:=OP
 simp only at a7 a2 W D
 have c5:=D.nf
 have c3:=D.lo
 have c1:=D.hi
 have b2:ec 1048576 K s.1=(s.1,K,0):=by
  unfold ec
  rw[if_neg (by omega),if_neg (by omega)]
 refine .kn<|.seq ?_
 refine bx.cL [(3,_)] kE.c (X:=Value×List aF×aB×Nat) (λy=>RS (λb o=>(R b o\/(b,o)∈Y)\/(b,o)∈y.2.2.1) 8 aF.enc y.1 y.2.1/\(∀p∈y.2.1,aF.is (λb o=>(R b o\/(b,o)∈Y)\/(b,o)∈y.2.2.1) p)/\y.2.1.map aF.plain=op) (λy E=>(14,.pointer (some ⟨y.2.2.2,0,none⟩))::(15,.int .i64 0)::E) (λy=>[[(y.2.2.2,.cells [y.1,iN H].toArray 81 (0,0))],y.2.2.1,bl a4 c.enc 25,Y,bl b5 [.string k.os,.string k.oi] 44,bl b4 w.enc 28]) ?_ ?_
 refine .dp [13] mixed ?_
 refine .tO 0 rfl .move<|.tO 1 rfl .move<|.tO 2 rfl .move ?_
 refine .tO 3 rfl (.lq rfl) ?_
 refine .tO 4 rfl (.eF rfl) ?_
 refine .hJ 5 rfl (.cE (rc:=⟨(b6.add 1).mono λb o a=>a.elim .inl λa=>.inr (by simp[a])⟩) rfl) (by kernel_rfl) ?_
 refine .tO 6 rfl (.aL rfl)<|.tO 7 rfl .move ?_
 refine RA.je 8 12 rfl rfl (by kernel_rfl) rfl ?_ ?_
 refine .cK ((mO W).weaken λb o a=>a.elim .inl λa=>.inr (by simp[a])) (λu I e=>?_)
 obtain⟨A,j,rfl,f,r,l⟩:=e
 have a3:=f.ap
 refine .nil (Next.sub ?_)
 refine .tO 9 rfl .move<|.tO 10 rfl .extract<|.tK 11 rfl .extract ?_
 refine .sT 12 rfl ?_
 refine .bN (λJ=>?_)
 refine .nil (Next.sub ?_)
 refine .sT 13 rfl ?_
 refine .bH rfl rfl ?_
 refine .nil (Next.mod rfl ?_)
 refine .tK 14 rfl .assign ?_
 refine RA.nil (by kernel_rfl) ?_
 ·first
   |exact ay (A,j,I,J) ⟨f,r,l⟩ kE.c.c.c rH
   |exact ay (A,j,I,J) ⟨f,r,l⟩ kE.c.c.c (aH [1,0,0,0,0,0])
 refine .bN (λJ=>?_)
 refine .nil (Next.sub ?_)
 refine .sT 8 rfl ?_
 refine .cK ((mO W).weaken λb o a=>a.elim .inl λa=>.inr (by simp[a])) (λu I e=>?_)
 obtain⟨A,j,rfl,f,r,l⟩:=e
 have a3:=f.ap
 refine .nil (Next.sub ?_)
 refine .tO 9 rfl .move<|.tO 10 rfl .extract<|.tK 11 rfl .extract ?_
 refine .sT 13 rfl ?_
 refine .bH rfl rfl ?_
 refine .nil (Next.mod rfl ?_)
 refine .tK 14 rfl .assign ?_
 refine RA.nil (by kernel_rfl) ?_
 ·first
   |exact ay (A,j,I,J) ⟨f,r,l⟩ kE.c.c.c rH
   |exact ay (A,j,I,J) ⟨f,r,l⟩ kE.c.c.c (aH [1,0,0,0,0,0])
 intro y hy
 obtain⟨A,j,I,J⟩:=y
 obtain⟨f,r,l⟩:=hy
 simp only at f r l⊢
 have a3:=f.ap
 have c7:j.length=op.length:=by rw[<-l,List.length_map]
 obtain⟨O,a6,a9,b1,a5,c4⟩:=D.ok j l
 have c2:=D.ln
 refine ax<|.sr<|.q (.aL rfl)<|.mo rfl ?_
 refine .cK (qI A H us j _ (f.mono λb o a=>jd (by simp only[List.flatten_cons,List.mem_append];grind) a) (λp F=>(r p F).mono λb o a=>jd (by simp only[List.flatten_cons,List.mem_append];grind) a) O 1048576 (by omega) K s b1 D.n) (λu b7 e=>?_)
 rw[b2]at e
 simp only at e
 obtain⟨vo,rfl,U⟩:=e
 have d6:=U.ap
 refine .mo rfl<|.q .extract<|.q .extract<|.q .extract<|.ag rfl<|.ag rfl<|.ag rfl<|.z<|.q (.aL rfl) ?_
 refine .cK (Bf A H j _ (f.mono λb o a=>jd (by simp only[List.flatten_cons,List.mem_append];grind) a) (λp F=>(r p F).mono λb o a=>jd (by simp only[List.flatten_cons,List.mem_append];grind) a) O.n) (λu b8 e=>?_)
 obtain⟨vq,rfl,hQ⟩:=e
 have d7:=hQ.ap
 refine .mo rfl ?_
 refine .cK (BM vq H us j _ (hQ.rs λp F=>.inr (by simp[F])) (λp F=>(r p F).mono λb o a=>jd (by simp only[List.flatten_cons,List.mem_append];grind) a) O a6 a9) (λu b9 V=>?_)
 rw[a5]at V
 have d4:=V.ap
 refine .ag rfl<|.zs<|.sr<|.mo rfl<|.q .dS<|.mo rfl ?_
 refine .split (t:=57) rfl (λM=>?_) (λM=>?_)
 ·simp at M
 refine .gT M<|.mo rfl<|.gT M<|.q .dS<|.q (.aN M) ?_
 refine .mo rfl ?_
 refine .split (t:=61) rfl (λB=>?_) (λB=>?_)
 ·simp at B
 refine .gT B<|.mo rfl<|.gT B<|.q (.dN U) ?_
 refine .gT B<|.mo rfl<|.gT B<|.q (.dN V) ?_
 refine .gT B<|.q .dS<|.q (.aN B) ?_
 refine .zn ?_
 refine .cond rfl (λh2=>?_) λh2=>?_
 ·simp at h2
 refine .kn<|.seq<|.sr<|.az rfl<|.block ?_
 refine .cx [(14,_),(16,_),(17,_),(19,_)] (X:=Nat) (λi=>i<=s.1.length) (λi E=>(20,iN i)::E) (λ_ G=>G) (λi=>s.1.length-i) 0 (Nat.zero_le _) kE.c.c.c.c.c rH ?_
 rintro i hi
 refine .seq<|.sr<|.mo rfl<|.mo rfl<|.q (.dN U) ?_
 refine .q .lss<|.zn ?_
 refine .cond rfl (λh3=>?_) λh3=>?_
 have a1:i<s.1.length:=cr h3
 obtain⟨z,hz⟩:=bR a1
 refine .kn<|.seq<|.block<|.seq ?_
 refine .fX mixed (by kernel_rfl) ?_
 refine .mo rfl<|.mo rfl ?_
 refine .bo i U hz (λd8=>?_)
 refine .lo rfl<|.mo rfl<|.mo rfl ?_
 refine .bo i V hz (λd9=>?_)
 refine .lo rfl<|.q .tM<|.zn ?_
 refine .cond rfl (λh4=>?_) λh4=>?_
 ·simp at h4
 refine .skip<|bf<|ax<|.region<|.mo rfl ?_
 refine .ia (i+1) .add ?_
 refine .ag rfl<|.nil ?_
 ·exact aP (i+1) a1 (by omega) kE.c.c.c.c.c rH
 refine .exit<|bq<|bz<|bs<|ax<|.seq<|.dp [] mixed ?_
 refine .tO 0 rfl .move<|.tO 1 rfl (.aL rfl) ?_
 refine .sT 2 rfl ?_
 refine .ba (zM A H j _ (f.mono λb o a=>jd (by simp only[List.flatten_cons,List.mem_append];grind) a) O.n) (λu e=>?_)
 rw[l]at e
 subst e
 refine .nil (Next.sub ?_)
 refine .tO 3 rfl .geq<|.tO 4 rfl .move ?_
 refine RA.split (t:=87) rfl (λm=>?_) (λm=>?_)
 refine .ga 5 rfl rfl m .move (by kernel_rfl) ?_
 refine .ga 6 rfl rfl m (.aL rfl) (by kernel_rfl) ?_
 refine .ga 8 rfl rfl m (.fieldAddr rfl) (by kernel_rfl) ?_
 refine .ga 9 rfl rfl m (.cE rfl) (by kernel_rfl) ?_
 refine .sT 7 rfl ?_
 refine .gT m ?_
 refine .ba (zM A H j _ (f.mono λb o a=>jd (by simp only[List.flatten_cons,List.mem_append];grind) a) O.n) (λu e=>?_)
 rw[l]at e
 subst e
 refine .nil (Next.sub ?_)
 refine .ga 10 rfl rfl m (.i64 (((fE op)+H:Nat):Int) .add ⟨by omega,by omega,by omega⟩) (by kernel_rfl) ?_
 refine .ga 11 rfl rfl m .leq (by kernel_rfl) ?_
 refine .tO 12 rfl (.aO m) ?_
 refine .tO 13 rfl .move ?_
 refine RA.split (t:=96) rfl (λQ=>?_) (λQ=>?_)
 refine .sT 14 rfl ?_
 refine .gT Q ?_
 refine .ba (lj _) (λu e=>?_)
 subst e
 refine .nil (Next.sub ?_)
 refine .tO 15 rfl (.aO Q) ?_
 refine .tO 16 rfl .assign ?_
 refine RA.nil (by kernel_rfl) ?_
 refine ax ?_
 refine .ret (bk _ (.one (.tmp rfl)) (aW.none _) ?_)
 ·exact⟨rfl,rfl⟩
 ·have:=bA Q;omega
 ·have:=bA m;omega
theorem RN(w:jD)(R:aD)(h:w.is R)(k:bc)(us:ByteArray):
  Spec prog 7 [.agg w.enc.toArray,.agg [.string k.os,.string k.oi].toArray,.string k.rel,.string us] R [] λv H'=>v=.bool true/\H'=[]:=by
 have b9:=tG w R h
 have i1:One w.c.vs:=RS.ap h.c.ss
 have i2:One w.c.vc:=RS.ap h.c.sc
 have i3:=h.rs.ap
 have iw:bZ w.enc:=⟨λu f=>by
  simp only[jD.enc,List.mem_cons,List.not_mem_nil,or_false]at f
  rcases f with rfl|rfl|rfl
  ·exact i1.h
  ·exact i2.h
  ·exact i3.h⟩
 refine Spec.body Tryz.func7 rfl Tryz.results7 Tryz.ntmps7 rfl ?_
 refine .sr ?_
 refine .bW rfl (λb4=>?_)
 refine .bW rfl (λb5=>?_)
 refine .ag rfl<|.z<|.q (.aL rfl) ?_
 refine .cK (b9.weaken cU) (λu Tw f=>?_)
 obtain⟨c,p1,p2,p3,ok,rfl,e2,e3,e4,hc,c7,d5,hW⟩:=f
 have d7:One c.vs:=RS.ap hc.ss
 have d8:One c.vc:=RS.ap hc.sc
 have d9:bZ c.enc:=⟨hc.cJ⟩
 refine .mo rfl<|.q .extract<|.q .extract<|.q .extract<|.q .extract<|.q .extract ?_
 refine .bN (λb3=>?_)
 refine .ag rfl<|.ag rfl<|.bH rfl rfl<|.ag rfl<|.ag rfl<|.zs<|.sr<|.mo rfl<|.q .not<|.zn ?_
 refine .cond rfl (λh1=>?_) λh1=>?_
 refine .sr ?_
 refine .ba (lj _) (λu f=>?_)
 subst f
 refine .az rfl ?_
 refine .ret (aI (bk _ (.one (.tmp rfl)) (aW.none _) ?_))
 ·exact⟨rfl,rfl⟩
 have c2:ok=true:=by simpa using h1
 subst c2
 obtain⟨e,g,x,S,b0,L,rfl,rfl,rfl,M⟩:=hW rfl
 obtain⟨N,hN⟩:=M.fin S.head k
 have b8:=M.my S.head k N hN.2
 have a8:=M.max hN
 have c3:=tV (fM w.c.plain) b0 (dg S L S.head) k N
 have a1:=M.fq S.head M.vU k 1048576 (by omega) hN
 rw[a8]at a1
 obtain⟨vL,a6⟩:=M.d
 have c6:=a6.pc
 have e6:One vL:=a6.rs.ap
 obtain⟨K,s,O⟩:=M.uz hN us
 generalize opened (fM w.c.plain) b0 (dg S L S.head) k N=OP at *
 obtain⟨op,oe⟩:=OP
 simp only at b8 a8 a1 O c3
 have d4:=O.nf
 have d1:=O.lo
 have c9:=O.hi
 have c5:ec 1048576 K s.1=(s.1,K,0):=by
  unfold ec
  rw[if_neg (by omega),if_neg (by omega)]
 refine .kn<|.seq ?_
 refine bx.cL [(3,_)] kE.c (X:=Value×List aF×aB×Nat) (λy=>RS (λb o=>(R b o\/(b,o)∈Tw)\/(b,o)∈y.2.2.1) 8 aF.enc y.1 y.2.1/\(∀p∈y.2.1,aF.is (λb o=>(R b o\/(b,o)∈Tw)\/(b,o)∈y.2.2.1) p)/\y.2.1.map aF.plain=op) (λy E=>(14,.pointer (some ⟨y.2.2.2,0,none⟩))::(15,.int .i64 0)::E) (λy=>[[(y.2.2.2,.cells [y.1,iN oe].toArray 81 (0,0))],y.2.2.1,bl b3 c.enc 25,Tw,bl b5 [.string k.os,.string k.oi] 44,bl b4 w.enc 28]) ?_ ?_
 refine .dp [13] mixed ?_
 refine .tO 0 rfl .move<|.tO 1 rfl .move<|.tO 2 rfl .move ?_
 refine .tO 3 rfl (.lq rfl) ?_
 refine .tO 4 rfl (.eF rfl) ?_
 refine .hJ 5 rfl (.cE (rc:=⟨(c6.add 1).mono λb o e=>e.elim .inl λe=>.inr (by simp[e])⟩) rfl) (by kernel_rfl) ?_
 refine .tO 6 rfl (.aL rfl)<|.tO 7 rfl .move ?_
 refine RA.je 8 12 rfl rfl (by kernel_rfl) rfl ?_ ?_
 refine .cK ((mO a1).weaken λb o e=>e.elim .inl λe=>.inr (by simp[e])) (λu I f=>?_)
 obtain⟨H,m,rfl,r,A,F⟩:=f
 have a9:=r.ap
 refine .nil (Next.sub ?_)
 refine .tO 9 rfl .move<|.tO 10 rfl .extract<|.tK 11 rfl .extract ?_
 refine .sT 12 rfl ?_
 refine .bN (λQ=>?_)
 refine .nil (Next.sub ?_)
 refine .sT 13 rfl ?_
 refine .bH rfl rfl ?_
 refine .nil (Next.mod rfl ?_)
 refine .tK 14 rfl .assign ?_
 refine RA.nil (by kernel_rfl) ?_
 ·first
   |exact ay (H,m,I,Q) ⟨r,A,F⟩ kE.c.c.c rH
   |exact ay (H,m,I,Q) ⟨r,A,F⟩ kE.c.c.c (aH [1,0,0,0,0,0])
 refine .bN (λQ=>?_)
 refine .nil (Next.sub ?_)
 refine .sT 8 rfl ?_
 refine .cK ((mO a1).weaken λb o e=>e.elim .inl λe=>.inr (by simp[e])) (λu I f=>?_)
 obtain⟨H,m,rfl,r,A,F⟩:=f
 have a9:=r.ap
 refine .nil (Next.sub ?_)
 refine .tO 9 rfl .move<|.tO 10 rfl .extract<|.tK 11 rfl .extract ?_
 refine .sT 13 rfl ?_
 refine .bH rfl rfl ?_
 refine .nil (Next.mod rfl ?_)
 refine .tK 14 rfl .assign ?_
 refine RA.nil (by kernel_rfl) ?_
 ·first
   |exact ay (H,m,I,Q) ⟨r,A,F⟩ kE.c.c.c rH
   |exact ay (H,m,I,Q) ⟨r,A,F⟩ kE.c.c.c (aH [1,0,0,0,0,0])
 intro y hy
 obtain⟨H,m,I,Q⟩:=y
 obtain⟨r,A,F⟩:=hy
 simp only at r A F⊢
 have a9:=r.ap
 have d6:m.length=op.length:=by rw[<-F,List.length_map]
 obtain⟨V,b7,d3,c4,c8,c0⟩:=O.ok m F
 have d0:=O.ln
 refine ax<|.sr<|.q (.aL rfl)<|.mo rfl ?_
 refine .cK (qI H oe us m _ (r.mono λb o e=>jd (by simp only[List.flatten_cons,List.mem_append];grind) e) (λp l=>(A p l).mono λb o e=>jd (by simp only[List.flatten_cons,List.mem_append];grind) e) V 1048576 (by omega) K s c4 O.n) (λu b1 f=>?_)
 rw[c5]at f
 simp only at f
 obtain⟨vo,rfl,Y⟩:=f
 have e7:=Y.ap
 refine .mo rfl<|.q .extract<|.q .extract<|.q .extract<|.ag rfl<|.ag rfl<|.ag rfl<|.zs<|.sr<|.mo rfl<|.q .dS<|.mo rfl ?_
 refine .split (t:=53) rfl (λW=>?_) (λW=>?_)
 ·simp at W
 refine .gT W<|.mo rfl<|.gT W<|.q .dS<|.q (.aN W) ?_
 refine .mo rfl ?_
 refine .split (t:=57) rfl (λT=>?_) (λT=>?_)
 ·simp at T
 refine .gT T<|.mo rfl<|.gT T<|.q (.dN Y) ?_
 refine .gT T<|.q .bK<|.q (.aN T) ?_
 refine .mo rfl ?_
 refine .split (t:=62) rfl (λC=>?_) (λC=>?_)
 ·have:=cm C;omega
 refine .gT C<|.mo rfl<|.gT C<|.q (.dN Y) ?_
 refine .gT C<|.fa rfl<|.gT C<|.lo rfl<|.gT C<|.q (.bJ r) ?_
 refine .gT C<|.q .dS<|.q (.aN C) ?_
 refine .zn ?_
 refine .cond rfl (λh2=>?_) λh2=>?_
 ·simp at h2;omega
 refine .kn<|.sr<|.q (.aL rfl) ?_
 refine .cK (Bf H oe m _ (r.mono λb o e=>jd (by simp only[List.flatten_cons,List.mem_append];grind) e) (λp l=>(A p l).mono λb o e=>jd (by simp only[List.flatten_cons,List.mem_append];grind) e) V.n) (λu b2 f=>?_)
 obtain⟨vq,rfl,hQ⟩:=f
 have e8:=hQ.ap
 refine .q (.zt Tryz.underlying86 rfl rfl y7 rfl) ?_
 refine .ag rfl<|.zs<|.sr ?_
 have a0:RS (λb o=>(b,o)∈b2) 8 aF.enc vq m:=hQ.rs λp l=>l
 have b6:RS (λb o=>(b,o)∈b1) 1 dH vo s.1:=Y.rs λp l=>l
 refine .az rfl<|.block ?_
 refine .cx [(3,_),(16,_),(19,_)] (X:=Nat) (λi=>i<=m.length) (λi E=>(20,iN i)::E) (λ_ G=>G) (λi=>m.length-i) 0 (Nat.zero_le _) kE.c.c.c.c rH ?_
 rintro i hi
 refine .seq<|.sr<|.mo rfl<|.mo rfl<|.q (.dN hQ) ?_
 refine .q .lss<|.zn ?_
 refine .cond rfl (λh3=>?_) λh3=>?_
 have a3:i<m.length:=cr h3
 obtain⟨p,l⟩:=bR a3
 obtain⟨z,hz⟩:∃z,s.1[i]? =some z:=⟨_,bu (by omega)⟩
 have B:=c0 i p l
 rw[List.getD_eq_getElem?_getD,hz,Option.getD_some]at B
 have U:=aZ l
 have a5:=A p U
 have e0:bZ p.enc:=⟨a5.cJ⟩
 have Z:=a0.pc l
 have a7:=b7 p U
 have c1:=V.nl p U
 have a4:=Bx us p vo s.1 (V.ll p U) (λq hq j hj=>by have:=V.jl p U q hq j hj;omega) (V.tr p U) (p.nodes.length-1)
 obtain⟨kp,fo,vn,a2,vu,f0,vl,ll,nm⟩:=p
 have n0:RS (λb o=>(R b o\/(b,o)∈Tw)\/(b,o)∈I) 5 Nd.enc vn a2:=a5.n
 have e5:=n0.ap
 simp only at B a7 c1 a4
 refine .kn<|.seq<|.block<|.seq<|.dp [] mixed ?_
 refine .tO 0 rfl .move<|.tO 1 rfl .move ?_
 refine RA.bo 2 rfl i Y hz rfl rfl rfl (by kernel_rfl) (λe9=>?_)
 refine .tO 3 rfl (.cE rfl)<|.tO 4 rfl .move<|.tO 5 rfl .move ?_
 refine .tO 6 rfl (.bC i a0 l rfl rfl rfl) ?_
 refine .hJ 7 rfl (.fieldAddr (rc:=⟨Z.mono λb o e=>.inr (by simp[e])⟩) rfl) (by kernel_rfl) ?_
 refine .hJ 8 rfl (.cE (rc:=⟨(Z.add 3).mono λb o e=>.inr (by simp[e])⟩) rfl) (by kernel_rfl) ?_
 refine .tO 9 rfl .move ?_
 refine RA.split (t:=88) rfl (λa=>?_) (λa=>?_)
 have d2:=a7 a
 have e1:a2.length-1+1=a2.length:=by omega
 rw[e1]at a4
 refine .ga 10 rfl rfl a .move (by kernel_rfl) ?_
 refine .ga 11 rfl rfl a .move (by kernel_rfl) ?_
 refine .ga 12 rfl rfl a (.bC i a0 l rfl rfl rfl) (by kernel_rfl) ?_
 refine .ga 13 rfl rfl a (.aL (rc:=⟨Z.mono λb o e=>.inr (by simp[e])⟩) rfl) (by kernel_rfl) ?_
 refine .ga 14 rfl rfl a .move (by kernel_rfl) ?_
 refine .ga 15 rfl rfl a .move (by kernel_rfl) ?_
 refine .ga 16 rfl rfl a (.bC i a0 l rfl rfl rfl) (by kernel_rfl) ?_
 refine .ga 17 rfl rfl a (.fieldAddr (rc:=⟨Z.mono λb o e=>.inr (by simp[e])⟩) rfl) (by kernel_rfl) ?_
 refine .ga 18 rfl rfl a (.cE (rc:=⟨(Z.add 4).mono λb o e=>.inr (by simp[e])⟩) rfl) (by kernel_rfl) ?_
 refine .ga 19 rfl rfl a (.bJ n0) (by kernel_rfl) ?_
 refine .ga 20 rfl rfl a (.i64 ((a2.length-1:Nat):Int) .sub ⟨by omega,by omega,by omega⟩) (by kernel_rfl) ?_
 refine .ga 21 rfl rfl a .move (by kernel_rfl) ?_
 refine .ga 22 rfl rfl a .move (by kernel_rfl) ?_
 refine .sT 23 rfl ?_
 refine .gT a ?_
 refine .ba (a4 (by omega) _ (a5.mono λb o e=>jd (by simp only[List.flatten_cons,List.mem_append];grind) e) (b6.mono λb o e=>.inr (by simp[e]))) (λu f=>?_)
 subst f
 refine .nil (Next.sub ?_)
 refine .tO 24 rfl (.aO a) ?_
 refine .tO 25 rfl .tM ?_
 refine RA.nil (by kernel_rfl) ?_
 refine ax ?_
 refine .cond rfl (λD=>?_) λD=>?_
 ·simp only[Bool.not_eq_true',beq_eq_false_iff_ne,ne_eq]at D
  (first
   |(have J:fo=true:=a;subst J;rw[Bool.true_and]at B;exact absurd B D)
   |(have J:fo=false:=a;subst J;rw[Bool.false_and]at B;exact absurd B D))
 refine .skip<|bf<|ax<|.region<|.mo rfl ?_
 refine .ia (i+1) .add ?_
 refine .ag rfl<|.nil ?_
 ·exact aP (i+1) a3 (by omega) kE.c.c.c.c rH
 refine .iG 10 rfl rfl a rfl (by kernel_rfl) ?_
 refine .iG 11 rfl rfl a rfl (by kernel_rfl) ?_
 refine .iG 12 rfl rfl a rfl (by kernel_rfl) ?_
 refine .iG 13 rfl rfl a rfl (by kernel_rfl) ?_
 refine .iG 14 rfl rfl a rfl (by kernel_rfl) ?_
 refine .iG 15 rfl rfl a rfl (by kernel_rfl) ?_
 refine .iG 16 rfl rfl a rfl (by kernel_rfl) ?_
 refine .iG 17 rfl rfl a rfl (by kernel_rfl) ?_
 refine .iG 18 rfl rfl a rfl (by kernel_rfl) ?_
 refine .iG 19 rfl rfl a rfl (by kernel_rfl) ?_
 refine .iG 20 rfl rfl a rfl (by kernel_rfl) ?_
 refine .iG 21 rfl rfl a rfl (by kernel_rfl) ?_
 refine .iG 22 rfl rfl a rfl (by kernel_rfl) ?_
 refine .sT 23 rfl ?_
 refine .gF a ?_
 refine .nil (Next.sub ?_)
 refine .tO 24 rfl (.aN a) ?_
 refine .tO 25 rfl .tM ?_
 refine RA.nil (by kernel_rfl) ?_
 refine ax ?_
 refine .cond rfl (λD=>?_) λD=>?_
 ·simp only[Bool.not_eq_true',beq_eq_false_iff_ne,ne_eq]at D
  (first
   |(have J:fo=true:=a;subst J;rw[Bool.true_and]at B;exact absurd B D)
   |(have J:fo=false:=a;subst J;rw[Bool.false_and]at B;exact absurd B D))
 refine .skip<|bf<|ax<|.region<|.mo rfl ?_
 refine .ia (i+1) .add ?_
 refine .ag rfl<|.nil ?_
 ·exact aP (i+1) a3 (by omega) kE.c.c.c.c rH
 refine .exit<|bq<|bz<|bs<|ax<|.sr ?_
 refine .ba (lj _) (λu f=>?_)
 subst f
 refine .az rfl ?_
 refine .ret (bk _ (.one (.tmp rfl)) (aW.none _) ?_)
 ·exact⟨rfl,rfl⟩
theorem RJ(w:jD)(R:aD)(h:w.is R)(k:bc)(us:ByteArray)(b:Int):
  Spec prog 8 [.agg w.enc.toArray,.agg [.string k.os,.string k.oi].toArray,.string k.rel,.string us,.int .i64 b] R [] λv H'=>v=.bool true/\H'=[]:=by
 have b7:=tG w R h
 have i1:One w.c.vs:=RS.ap h.c.ss
 have i2:One w.c.vc:=RS.ap h.c.sc
 have i3:=h.rs.ap
 have iw:bZ w.enc:=⟨λu a=>by
  simp only[jD.enc,List.mem_cons,List.not_mem_nil,or_false]at a
  rcases a with rfl|rfl|rfl
  ·exact i1.h
  ·exact i2.h
  ·exact i3.h⟩
 refine Spec.body Tryz.func8 rfl Tryz.results8 Tryz.ntmps8 rfl ?_
 refine .sr ?_
 refine .bW rfl (λb5=>?_)
 refine .bW rfl (λb6=>?_)
 refine .ag rfl<|.z<|.q (.aL rfl) ?_
 refine .cK (b7.weaken cU) (λu Tw a=>?_)
 obtain⟨c,p1,p2,p3,ok,rfl,e1,e2,e3,hc,c5,d7,hW⟩:=a
 have d8:One c.vs:=RS.ap hc.ss
 have d9:One c.vc:=RS.ap hc.sc
 have e0:bZ c.enc:=⟨hc.cJ⟩
 refine .mo rfl<|.q .extract<|.q .extract<|.q .extract<|.q .extract<|.q .extract ?_
 refine .bN (λb2=>?_)
 refine .ag rfl<|.ag rfl<|.bH rfl rfl<|.ag rfl<|.ag rfl<|.zs<|.sr<|.mo rfl<|.q .not<|.zn ?_
 refine .cond rfl (λh1=>?_) λh1=>?_
 refine .sr ?_
 refine .ba (lj _) (λu a=>?_)
 subst a
 refine .az rfl ?_
 refine .ret (aI (bk _ (.one (.tmp rfl)) (aW.none _) ?_))
 ·exact⟨rfl,rfl⟩
 have b8:ok=true:=by simpa using h1
 subst b8
 obtain⟨e,g,x,S,b1,L,rfl,rfl,rfl,M⟩:=hW rfl
 obtain⟨N,hN⟩:=M.fin S.head k
 have b4:=M.my S.head k N hN.2
 have a6:=M.max hN
 have a7:=tV (fM w.c.plain) b1 (dg S L S.head) k N
 have a3:=M.fq S.head M.vU k 1048576 (by omega) hN
 rw[a6]at a3
 obtain⟨vL,a4⟩:=M.d
 have c1:=a4.pc
 have e4:One vL:=a4.rs.ap
 obtain⟨K,s,F⟩:=M.uz hN us
 generalize opened (fM w.c.plain) b1 (dg S L S.head) k N=OP at *
 obtain⟨W,B⟩:=OP
 simp only at b4 a6 a3 F a7
 have d6:=F.nf
 have d1:=F.lo
 have c9:=F.hi
 have c0:ec 1048576 K s.1=(s.1,K,0):=by
  unfold ec
  rw[if_neg (by omega),if_neg (by omega)]
 refine .kn<|.seq ?_
 refine bx.cL [(3,_),(4,_)] kE.c.c (X:=Value×List aF×aB×Nat) (λy=>RS (λb o=>(R b o\/(b,o)∈Tw)\/(b,o)∈y.2.2.1) 8 aF.enc y.1 y.2.1/\(∀p∈y.2.1,aF.is (λb o=>(R b o\/(b,o)∈Tw)\/(b,o)∈y.2.2.1) p)/\y.2.1.map aF.plain=W) (λy E=>(16,.pointer (some ⟨y.2.2.2,0,none⟩))::(17,.int .i64 0)::E) (λy=>[[(y.2.2.2,.cells [y.1,iN B].toArray 81 (0,0))],y.2.2.1,bl b2 c.enc 25,Tw,bl b6 [.string k.os,.string k.oi] 44,bl b5 w.enc 28]) ?_ ?_
 refine .dp [13] mixed ?_
 refine .tO 0 rfl .move<|.tO 1 rfl .move<|.tO 2 rfl .move ?_
 refine .tO 3 rfl (.lq rfl) ?_
 refine .tO 4 rfl (.eF rfl) ?_
 refine .hJ 5 rfl (.cE (rc:=⟨(c1.add 1).mono λb o e=>e.elim .inl λe=>.inr (by simp[e])⟩) rfl) (by kernel_rfl) ?_
 refine .tO 6 rfl (.aL rfl)<|.tO 7 rfl .move ?_
 refine RA.je 8 12 rfl rfl (by kernel_rfl) rfl ?_ ?_
 refine .cK ((mO a3).weaken λb o e=>e.elim .inl λe=>.inr (by simp[e])) (λu O a=>?_)
 obtain⟨H,l,rfl,f,r,A⟩:=a
 have b0:=f.ap
 refine .nil (Next.sub ?_)
 refine .tO 9 rfl .move<|.tO 10 rfl .extract<|.tK 11 rfl .extract ?_
 refine .sT 12 rfl ?_
 refine .bN (λQ=>?_)
 refine .nil (Next.sub ?_)
 refine .sT 13 rfl ?_
 refine .bH rfl rfl ?_
 refine .nil (Next.mod rfl ?_)
 refine .tK 14 rfl .assign ?_
 refine RA.nil (by kernel_rfl) ?_
 ·first
   |exact ay (H,l,O,Q) ⟨f,r,A⟩ kE.c.c.c.c rH
   |exact ay (H,l,O,Q) ⟨f,r,A⟩ kE.c.c.c.c (aH [1,0,0,0,0,0])
 refine .bN (λQ=>?_)
 refine .nil (Next.sub ?_)
 refine .sT 8 rfl ?_
 refine .cK ((mO a3).weaken λb o e=>e.elim .inl λe=>.inr (by simp[e])) (λu O a=>?_)
 obtain⟨H,l,rfl,f,r,A⟩:=a
 have b0:=f.ap
 refine .nil (Next.sub ?_)
 refine .tO 9 rfl .move<|.tO 10 rfl .extract<|.tK 11 rfl .extract ?_
 refine .sT 13 rfl ?_
 refine .bH rfl rfl ?_
 refine .nil (Next.mod rfl ?_)
 refine .tK 14 rfl .assign ?_
 refine RA.nil (by kernel_rfl) ?_
 ·first
   |exact ay (H,l,O,Q) ⟨f,r,A⟩ kE.c.c.c.c rH
   |exact ay (H,l,O,Q) ⟨f,r,A⟩ kE.c.c.c.c (aH [1,0,0,0,0,0])
 intro y hy
 obtain⟨H,l,O,Q⟩:=y
 obtain⟨f,r,A⟩:=hy
 simp only at f r A⊢
 have b0:=f.ap
 have b9:l.length=W.length:=by rw[<-A,List.length_map]
 obtain⟨a9,c7,d5,a8,c6,d2⟩:=F.ok l A
 have d0:=F.ln
 refine ax<|.sr<|.q (.aL rfl)<|.mo rfl ?_
 refine .cK (qI H B us l _ (f.mono λb o e=>jd (by simp only[List.flatten_cons,List.mem_append];grind) e) (λp hp=>(r p hp).mono λb o e=>jd (by simp only[List.flatten_cons,List.mem_append];grind) e) a9 1048576 (by omega) K s a8 F.n) (λu c2 a=>?_)
 rw[c0]at a
 simp only at a
 obtain⟨vo,rfl,hO⟩:=a
 have e5:=hO.ap
 refine .mo rfl<|.q .extract<|.q .extract<|.q .extract<|.ag rfl<|.ag rfl<|.ag rfl<|.zs<|.sr<|.mo rfl<|.q .dS<|.mo rfl ?_
 refine .split (t:=57) rfl (λZ=>?_) (λZ=>?_)
 ·simp at Z
 refine .gT Z<|.mo rfl<|.gT Z<|.q .dS<|.q (.aN Z) ?_
 refine .zn ?_
 refine .cond rfl (λh2=>?_) λh2=>?_
 ·simp at h2
 refine .kn<|.sr<|.mo rfl<|.mo rfl ?_
 refine .ia (2*K) .mul ?_
 refine .ia (2*K+2) .add ?_
 obtain⟨I,a5⟩:∃I,I=sx b 0 ((2*K+2:Nat):Int):=⟨_,rfl⟩
 have c4:0<=I/\I<=2*K+2:=by
  rw[a5]
  unfold sx
  split
  ·omega
  ·split<;>omega
 refine .ba (QY b 0 _ _) (λu a=>?_)
 rw[<-a5]at a
 subst a
 refine .ag rfl<|.z<|.q (.aL rfl)<|.mo rfl<|.mo rfl ?_
 refine .cK (qI H B us l _ (f.mono λb o e=>jd (by simp only[List.flatten_cons,List.mem_append];grind) e) (λp hp=>(r p hp).mono λb o e=>jd (by simp only[List.flatten_cons,List.mem_append];grind) e) a9 I (by omega) K s a8 F.n) (λu c3 a=>?_)
 obtain⟨SV,m⟩:∃SV,SV=ec I K s.1:=⟨_,rfl⟩
 rw[<-m]at a
 unfold ec at m
 obtain⟨vu,rfl,D⟩:=a
 have e6:=D.ap
 refine .mo rfl<|.q .extract<|.q .extract<|.q .extract<|.ag rfl<|.ag rfl<|.ag rfl<|.zs<|.sr<|.mo rfl<|.q .lss<|.zn ?_
 refine .cond rfl (λh3=>?_) λh3=>?_
 have a0:=cm h3
 rw[if_pos a0]at m
 subst m
 simp only at D⊢
 refine .sr<|.mo rfl<|.q .bK<|.mo rfl ?_
 refine .split (t:=78) rfl (λY=>?_) (λY=>?_)
 refine .gT Y<|.mo rfl<|.gT Y<|.q .bK<|.q (.aO Y) ?_
 refine .mo rfl ?_
 refine .split (t:=82) rfl (λT=>?_) (λT=>?_)
 refine .gT T<|.mo rfl<|.gT T<|.q (.dN D) ?_
 refine .gT T<|.q .bK<|.q (.aO T) ?_
 refine .mo rfl ?_
 refine .split (t:=87) rfl (λa1=>?_) (λa1=>?_)
 refine .gT a1 ?_
 refine .ba (lj _) (λu a=>?_)
 subst a
 refine .q (.aO a1) ?_
 refine .az rfl ?_
 refine .ret (aI (bk _ (.one (.tmp rfl)) (aW.none _) ?_))
 ·exact⟨rfl,rfl⟩
 ·simp at a1
 ·simp at T
 ·simp at Y
 have b3:=bA h3
 rw[if_neg b3]at m
 refine .kn<|.seq<|.sr<|.mo rfl<|.mo rfl<|.q .gtr<|.zn ?_
 refine .cond rfl (λh4=>?_) λh4=>?_
 have a0:=cm h4
 rw[if_pos (by omega)]at m
 subst m
 simp only at D⊢
 have d4:W.length+B<=W.length*(B+1):=by
  rw[Nat.mul_add,Nat.mul_one]
  have:=Nat.le_mul_of_pos_left B a7
  omega
 have d3:W.length*(B+1)<=1048576*1048577:=Nat.mul_le_mul (by omega) (by omega)
 refine .sr<|.mo rfl<|.q .bK<|.mo rfl ?_
 refine .split (t:=95) rfl (λJ=>?_) (λJ=>?_)
 refine .gT J<|.mo rfl<|.gT J<|.mo rfl<|.gT J ?_
 refine .q (.i64 (I+1) .add ⟨by omega,by omega,by omega⟩) ?_
 refine .gT J<|.q .bK<|.q (.aO J) ?_
 refine .mo rfl ?_
 refine .split (t:=101) rfl (λU=>?_) (λU=>?_)
 refine .gT U<|.mo rfl<|.gT U<|.q (.dN D) ?_
 refine .gT U<|.q .bK<|.q (.aO U) ?_
 refine .mo rfl ?_
 refine .split (t:=106) rfl (λj=>?_) (λj=>?_)
 refine .gT j<|.fa rfl<|.gT j<|.lo rfl<|.gT j<|.q (.bJ f) ?_
 refine .gT j<|.fa rfl<|.gT j<|.lo rfl<|.gT j ?_
 refine .ia (B+1) .add ?_
 refine .gT j ?_
 refine .q (.i64 ((W.length*(B+1):Nat):Int) .mul ⟨by rw[b9,Int.natCast_mul],by omega,by omega⟩) ?_
 refine .gT j<|.mo rfl<|.gT j<|.q .gtr<|.q (.aO j) ?_
 refine .mo rfl ?_
 refine .split (t:=117) rfl (λa2=>?_) (λa2=>?_)
 refine .gT a2 ?_
 refine .ba (lj _) (λu a=>?_)
 subst a
 refine .q (.aO a2) ?_
 refine .az rfl ?_
 refine .ret (aI (bk _ (.one (.tmp rfl)) (aW.none _) ?_))
 ·exact⟨rfl,rfl⟩
 ·have:=bA a2;omega
 ·simp at j
 ·have:=bA U;omega
 ·simp at J
 have c8:=bA h4
 rw[if_neg (by omega)]at m
 subst m
 simp only at D⊢
 refine .kn<|.seq<|.sr<|.mo rfl<|.q .dS<|.mo rfl ?_
 refine .split (t:=122) rfl (λV=>?_) (λV=>?_)
 ·simp at V
 refine .gT V<|.mo rfl<|.gT V<|.mo rfl<|.gT V<|.q .dS<|.q (.aN V) ?_
 refine .mo rfl ?_
 refine .split (t:=127) rfl (λC=>?_) (λC=>?_)
 ·simp at C
 refine .gT C<|.mo rfl<|.gT C<|.q (.dN D) ?_
 refine .gT C<|.mo rfl<|.gT C<|.q (.dN hO) ?_
 refine .gT C<|.q .dS<|.q (.aN C) ?_
 refine .zn ?_
 refine .cond rfl (λh5=>?_) λh5=>?_
 ·simp at h5
 refine .kn<|.seq<|.sr<|.az rfl<|.block ?_
 refine .cx [(18,_),(21,_)] (X:=Nat) (λi=>i<=s.1.length) (λi E=>(24,iN i)::E) (λ_ G=>G) (λi=>s.1.length-i) 0 (Nat.zero_le _) kE.c.c.c rH ?_
 rintro i hi
 refine .seq<|.sr<|.mo rfl<|.mo rfl<|.q (.dN hO) ?_
 refine .q .lss<|.zn ?_
 refine .cond rfl (λh6=>?_) λh6=>?_
 have a0:i<s.1.length:=cr h6
 obtain⟨z,hz⟩:=bR a0
 refine .kn<|.seq<|.block<|.seq ?_
 refine .fX mixed (by kernel_rfl) ?_
 refine .mo rfl<|.mo rfl ?_
 refine .bo i D hz (λe7=>?_)
 refine .lo rfl<|.mo rfl<|.mo rfl ?_
 refine .bo i hO hz (λe8=>?_)
 refine .lo rfl<|.q .tM<|.zn ?_
 refine .cond rfl (λh7=>?_) λh7=>?_
 ·simp at h7
 refine .skip<|bf<|ax<|.region<|.mo rfl ?_
 refine .ia (i+1) .add ?_
 refine .ag rfl<|.nil ?_
 ·exact aP (i+1) a0 (by omega) kE.c.c.c rH
 refine .exit<|bq<|bz<|bs<|ax<|.sr ?_
 refine .ba (lj _) (λu a=>?_)
 subst a
 refine .az rfl ?_
 refine .ret (bk _ (.one (.tmp rfl)) (aW.none _) ?_)
 ·exact⟨rfl,rfl⟩
theorem D0{c:Cf}{num:List Nat}{sub:bc->List Sub}{k:bc}{b:Int}{can:Bool}{N:Nat}(h:(fq c num sub k b can N).2.2=0):(((opened c num sub k N).1.length+(opened c num sub k N).2:Nat):Int)<=b:=by
 unfold fq at h
 split at h
 ·cases h
 ·split at h
  ·cases h
  ·split at h
   ·assumption
   ·cases h
theorem RK(w:jD)(R:aD)(h:w.is R)(k:bc)(J:ByteArray)(d:Int)(hr:0<=d)(b:Int)(a7:b<=9223372036854775807):
  Spec prog 5 [.agg w.enc.toArray,.agg [.string k.os,.string k.oi].toArray,.string k.rel,.string J,.int .u64 d,.int .i64 b] R [] λv H'=>v=.bool true/\H'=[]:=by
 have b2:=tG w R h
 have i1:One w.c.vs:=RS.ap h.c.ss
 have i2:One w.c.vc:=RS.ap h.c.sc
 have i3:=h.rs.ap
 have iw:bZ w.enc:=⟨λu a=>by
  simp only[jD.enc,List.mem_cons,List.not_mem_nil,or_false]at a
  rcases a with rfl|rfl|rfl
  ·exact i1.h
  ·exact i2.h
  ·exact i3.h⟩
 refine Spec.body Tryz.func5 rfl Tryz.results5 Tryz.ntmps5 rfl ?_
 refine .sr ?_
 refine .bW rfl (λb6=>?_)
 refine .bW rfl (λb7=>?_)
 refine .ag rfl<|.z<|.q (.aL rfl) ?_
 refine .cK (b2.weaken cU) (λu Tw a=>?_)
 obtain⟨c,p1,p2,p3,ok,rfl,d4,d5,d6,T,c5,c8,hW⟩:=a
 have d1:One c.vs:=RS.ap T.ss
 have d2:One c.vc:=RS.ap T.sc
 have d3:bZ c.enc:=⟨T.cJ⟩
 refine .mo rfl<|.q .extract<|.q .extract<|.q .extract<|.q .extract<|.q .extract ?_
 refine .bN (λc3=>?_)
 refine .ag rfl<|.ag rfl<|.bH rfl rfl<|.ag rfl<|.ag rfl<|.zs<|.sr<|.mo rfl<|.q .not<|.zn ?_
 refine .cond rfl (λl=>?_) λl=>?_
 refine .sr ?_
 refine .ba (lj _) (λu a=>?_)
 subst a
 refine .az rfl ?_
 refine .ret (aI (bk _ (.one (.tmp rfl)) (aW.none _) ?_))
 ·exact⟨rfl,rfl⟩
 have b5:ok=true:=by simpa using l
 subst b5
 obtain⟨f,g,x,S,num,L,rfl,rfl,rfl,H⟩:=hW rfl
 obtain⟨e,a3⟩:∃e,e=short J 40:=⟨_,rfl⟩
 have a2:e.size<=9223372036854775807:=by
  have:=B1 (s:=J) (n:=40)
  rw[<-a3]at this
  omega
 obtain⟨N,G⟩:=H.fin d k
 obtain⟨K,s,m⟩:=H.uz G e
 have W:dV (opened (fM w.c.plain) num (dg S L d) k N).1 e K s:=m.run
 have Y:=RF (R':=R) H d hr k e a2 b a7 G W m.n
 have a0:=λR' a5=>(H.mono (R':=R') a5).P7 d k b G
 have I:=yE (c:=fM w.c.plain) (num:=num) (sub:=dg S L d) (k:=k) (b:=b) (can:=scan S d) (N:=N)
 have U:=D0 (c:=fM w.c.plain) (num:=num) (sub:=dg S L d) (k:=k) (b:=b) (can:=scan S d) (N:=N)
 have b8:=tV (fM w.c.plain) num (dg S L d) k N
 obtain⟨D,hD⟩:∃D,D=fq (fM w.c.plain) num (dg S L d) k b (scan S d) N:=⟨_,rfl⟩
 rw[<-hD]at Y a0 I U
 clear W G
 generalize opened (fM w.c.plain) num (dg S L d) k N=OP at *
 obtain⟨op,oe⟩:=OP
 simp only at I U b8 m
 have r:kD e D b K s.1=if eu e=false then(false,9)else if D.2.2≠0 then(false,D.2.2)else(s.1.getD 0 false,0):=by
  unfold kD
  by_cases l:eu e=false
  ·rw[if_pos l,if_pos l]
  ·rw[if_neg l,if_neg l]
   by_cases j:D.2.2≠0
   ·rw[if_pos j,if_pos j]
   ·rw[if_neg j,if_neg j]
    have A:D.2.2=0:=by omega
    have O:=(I A).2.2
    have h5:=U A
    have h6:=m.hi
    have h7:=m.nf
    have h8:ec b K s.1=(s.1,K,0):=by
     unfold ec
     rw[if_neg (by omega),if_neg (by omega)]
    rw[h8,if_neg (by simp)]
 generalize kD e D b K s.1=CV at *
 refine .kn<|.sr<|.mo rfl ?_
 refine .ba (B2 J 40 _) (λu a=>?_)
 rw[<-a3]at a
 subst a
 refine .ag rfl<|.z<|.mo rfl<|.mo rfl<|.mo rfl<|.q (.aL rfl)<|.mo rfl<|.mo rfl<|.mo rfl ?_
 refine .ba (Y.weaken λb o f=>f.elim .inl λf=>.inr (by simp[f])) (λu a=>?_)
 subst a
 refine .mo rfl<|.q .extract<|.q .extract<|.ag rfl<|.ag rfl<|.zs<|.sr<|.mo rfl ?_
 refine .ba (wW e a2 _) (λu a=>?_)
 subst a
 refine .q .not<|.zn ?_
 refine .cond rfl (λj=>?_) λj=>?_
 have V:eu e=false:=by simpa using j
 rw[if_pos V]at r
 subst r
 simp only
 refine .sr<|.mo rfl<|.q .not<|.mo rfl ?_
 refine .split (t:=51) rfl (λB=>?_) (λB=>?_)
 refine .gT B<|.mo rfl<|.gT B<|.q .bK<|.q (.aO B) ?_
 refine .mo rfl ?_
 refine .split (t:=55) rfl (λF=>?_) (λF=>?_)
 refine .gT F ?_
 refine .ba (lj _) (λu a=>?_)
 subst a
 refine .q (.aO F) ?_
 refine .az rfl ?_
 refine .ret (aI (bk _ (.one (.tmp rfl)) (aW.none _) ?_))
 ·exact⟨rfl,rfl⟩
 ·simp at F
 ·simp at B
 have V:¬eu e=false:=by simpa using j
 rw[if_neg V]at r
 refine .kn<|.sr<|.q (.aL rfl)<|.mo rfl<|.mo rfl<|.q (.aL rfl)<|.mo rfl<|.mo rfl ?_
 refine .cK (mO (a0 _ λb o f=>f.elim .inl λf=>.inr (by simp[f]))) (λu c2 a=>?_)
 obtain⟨vq,qs,rfl,a1,a6,Z⟩:=a
 have d8:=a1.ap
 refine .mo rfl<|.q .extract<|.q .extract ?_
 refine .bN (λc4=>?_)
 refine .bH rfl rfl<|.ag rfl<|.zs<|.sr<|.mo rfl<|.q .dS<|.zn ?_
 refine .cond rfl (λA=>?_) λA=>?_
 have b4:D.2.2≠0:=by simpa using A
 rw[if_pos b4]at r
 subst r
 simp only
 refine .sr<|.mo rfl<|.q .not<|.mo rfl ?_
 refine .split (t:=72) rfl (λy=>?_) (λy=>?_)
 refine .gT y<|.mo rfl<|.gT y<|.mo rfl<|.gT y<|.q .bK<|.q (.aO y) ?_
 refine .mo rfl ?_
 refine .split (t:=77) rfl (λC=>?_) (λC=>?_)
 refine .gT C ?_
 refine .ba (lj _) (λu a=>?_)
 subst a
 refine .q (.aO C) ?_
 refine .az rfl ?_
 refine .ret (aI (bk _ (.one (.tmp rfl)) (aW.none _) ?_))
 ·exact⟨rfl,rfl⟩
 ·simp at C
 ·simp at y
 have a4:D.2.2=0:=by simpa using A
 rw[if_neg (by rw[a4];simp)]at r
 subst r
 simp only
 obtain⟨c0,c9,d0⟩:=I a4
 rw[c0]at Z
 obtain⟨b9,b1,b3,W,a9,c7⟩:=m.ok qs Z
 have c6:=m.ln
 obtain⟨M,X⟩:∃M,s.1[0]? =some M:=⟨_,bu (by omega)⟩
 have a8:s.1.getD 0 false=M:=by rw[List.getD_eq_getElem?_getD,X];rfl
 rw[a8]
 refine .kn<|.seq<|.sr<|.mo rfl<|.q .bK<|.zn ?_
 refine .cond rfl (λO=>?_) λO=>?_
 ·simp at O
 refine .kn<|.sr<|.mo rfl<|.q .bK<|.mo rfl ?_
 refine .split (t:=99) rfl (λi=>?_) (λi=>?_)
 refine .gT i<|.mo rfl<|.gT i<|.q (.aL rfl)<|.gT i<|.mo rfl<|.gT i ?_
 refine .cK (BM vq D.2.1 e qs _ (a1.mono λb o f=>jd (by simp only[List.flatten_cons,List.mem_append];grind) f) (λp hp=>(a6 p hp).mono λb o f=>jd (by simp only[List.flatten_cons,List.mem_append];grind) f) b9 b1 b3) (λu c1 Q=>?_)
 rw[a9]at Q
 have d7:=Q.ap
 refine .gT i ?_
 refine .bo 0 Q X (λd9=>?_)
 refine .gT i<|.lo rfl<|.gT i<|.q .D9<|.q (.aO i) ?_
 refine .mo rfl ?_
 refine .split (t:=108) rfl (λE=>?_) (λE=>?_)
 refine .gT E ?_
 refine .ba (lj _) (λu a=>?_)
 subst a
 refine .q (.aO E) ?_
 refine .az rfl ?_
 refine .ret (bk _ (.one (.tmp rfl)) (aW.none _) ?_)
 ·exact⟨rfl,rfl⟩
 ·simp at E
 ·simp at i
section
open Go.ChangeShapes
theorem SF{H:Type}{enc:TypeId×Value->H}{P:Program}{w:World}{base:Nat}{b:Nat->Bool}{a:Bool}{g i t2 j k l:TypeId}{e:Array Value}{f:List (DataW H)}{ps:List MemPlace}(h:DataW.TrodAll enc P w base b a [g,i,t2,j,k,l] e.toList f ps):
  ∃v0 v1 v2 v3 v4 v5 d0 d1 d2 d3 d4 d5 p0 p1 p2 p3 p4 p5,e= #[v0,v1,v2,v3,v4,v5]/\f=[d0,d1,d2,d3,d4,d5]/\ps=p0++(p1++(p2++(p3++(p4++p5))))/\DataW.Trod enc P w base b a g v0 d0 p0/\DataW.Trod enc P w base b a i v1 d1 p1/\DataW.Trod enc P w base b a t2 v2 d2 p2/\DataW.Trod enc P w base b a j v3 d3 p3/\DataW.Trod enc P w base b a k v4 d4 p4/\DataW.Trod enc P w base b a l v5 d5 p5:=by
 obtain⟨v0,r,d0,c,p0,d,m,rfl,rfl,n,h⟩:=trodAll_cons h
 obtain⟨v1,r,d1,c,p1,d,rfl,rfl,rfl,o,h⟩:=trodAll_cons h
 obtain⟨v2,r,d2,c,p2,d,rfl,rfl,rfl,p,h⟩:=trodAll_cons h
 obtain⟨v3,r,d3,c,p3,d,rfl,rfl,rfl,q,h⟩:=trodAll_cons h
 obtain⟨v4,r,d4,c,p4,d,rfl,rfl,rfl,s,h⟩:=trodAll_cons h
 obtain⟨v5,r,d5,c,p5,d,rfl,rfl,rfl,t,h⟩:=trodAll_cons h
 obtain⟨rfl,rfl,rfl⟩:=trodAll_nil h
 exact⟨v0,v1,v2,v3,v4,v5,d0,d1,d2,d3,d4,d5,p0,p1,p2,p3,p4,p5,by rw[<-Array.toArray_toList (xs:=e),m],rfl,by simp,n,o,p,q,s,t⟩
end
end Go.Proofs.YtdljmchhecoakaaGreat

/- What the law 'SolveRounds' uses. No condition. -/
import Derived.Carry
import Derived.ChangeShapes
import Derived.Test.YtdljmchhecoakaaGreatKSolveRoundsH
import Derived.Test.YtdljmchhecoakaaGreatKSolveRoundsK
import Derived.Test.YtdljmchhecoakaaGreatKSolveRoundsN
import Derived.Test.YtdljmchhecoakaaGreatKSolveRoundsO
import Derived.Test.YtdljmchhecoakaaGreatKSolveRoundsP
namespace Go.Proofs.YtdljmchhecoakaaGreat
set_option linter.defProp false
def afB:=@if_neg
def afC:=@if_pos
def afD:=@List.length_map
def afE:=@List.mem_singleton
def afF:=@Bool.and_eq_true
def afG:=@List.all_eq_true
def afH:=@Nat.le_trans
def afI:=@decide_eq_true_eq
def afJ:=@List.mem_map
def afK:=@Nat.zero_le
def afL:=@List.getElem?_map
def afM:=@List.mem_range
def afN:=@List.mem_iff_getElem
def afO:=@Bool.true_and
def afP:=@List.map_nil
def afQ:=@ByteArray.size_append
def afR:=@List.getD_eq_getElem?_getD
def afS:=@List.getElem?_cons_zero
def afT:=@List.length_filter_le
def afU:=@List.length_append
def afV:=@List.size_toArray
def afW:=@Option.getD_some
def afX:=@List.getElem?_eq_some_iff
def afY:=@Option.map_eq_some_iff
set_option linter.unusedVariables false
set_option linter.unusedSimpArgs false
set_option maxRecDepth 8000
structure qp(t:ByteArray)(L:List dY)(C:List Sp):Prop where
 sz:t.size<=16384
 pl:Pl t
 lx:oh t=some L
 ok:∀x∈L,dT x
 len:L.length<=1000000
 cf:jy isWord (L.length+1) [] (L,false)=(C,([],false))
 gH:(⟨C,[]⟩:Cf).gH isWord=false
 num:((⟨C,[]⟩:Cf).numbers isWord cR).1=0
 kk:C.length<=1000/\∀y∈C,y.bR.length<=1000
def ka(t:ByteArray):List dY:=(oh t).getD []
def fJ(t:ByteArray):List Sp:=(jy isWord ((ka t).length+1) [] (ka t,false)).1
theorem qp.of{t:ByteArray}(b:t.size<=16384)(c:(List.range t.size).all (λk=>decide (dZ t k≠34)&&decide (dZ t k≠47)&&decide (dZ t k≠45))=true)(d:(oh t).isSome=true)(e:(ka t).all (λx=>decide (dT x))=true)(f:(ka t).length<=1000000)
  (g:(jy isWord ((ka t).length+1) [] (ka t,false)).2.1.isEmpty=true)(h:(jy isWord ((ka t).length+1) [] (ka t,false)).2.2=false)(i:(⟨fJ t,[]⟩:Cf).gH isWord=false)(j:((⟨fJ t,[]⟩:Cf).numbers isWord cR).1=0)(a:(decide ((fJ t).length<=1000)&&(fJ t).all λy=>decide (y.bR.length<=1000))=true):qp t (ka t) (fJ t):=by
 refine⟨b,λk m=>?_,?_,λx o=>bV (afG.1 e x o),f,?_,i,j,?_⟩
 ·have:=afG.1 c k (afM.2 m)
  simp only[afF,afI]at this
  exact⟨this.1.1,this.1.2,this.2⟩
 ·obtain⟨l,n⟩:=Option.isSome_iff_exists.1 d
  unfold ka
  rw[n];rfl
 ·refine Prod.ext rfl (Prod.ext ?_ h)
  exact List.isEmpty_iff.1 g
 ·simp only[afF,afI]at a
  exact⟨a.1,λy p=>bV (afG.1 a.2 y p)⟩
theorem wX{e:dx}{num:List Nat}(f:e.ll.map (·.2)=rows e.c.plain.aZ num)(d:e.c.plain.aZ.length<=1000/\∀y∈e.c.plain.aZ,y.bR.length<=1000):e.ll.length<=1000000/\∀q∈e.ll,q.2.length<=1000000:=by
 have l:e.ll.length=e.c.plain.aZ.length:=by rw[<-nD e.c.plain.aZ num, <-f,afD]
 refine⟨by have:=d.1;omega,λq j=>?_⟩
 have k:q.2∈rows e.c.plain.aZ num:=by rw[<-f];exact afJ.2 ⟨q,j,rfl⟩
 obtain⟨i,a,g⟩:=afN.1 k
 rw[nD]at a
 have b:=pV (n:=num) (aQ a)
 rw[aQ (by rw[nD];exact a),g]at b
 have h:=Option.some.inj b
 rw[h,List.length_take]
 have:=d.2 _ (List.getElem_mem a)
 omega
open Tryz
theorem s8{n r:Value}{rev:Int}{k:aR}{b:Int}{R:aw}{D:List bB×Nat×Int}(i1:One n)(i2:One r)(G:Spec prog 34 [n,r,.int .u64 rev,.agg [.string k.os,.string k.oi].toArray,.string k.rel,.int .i64 b] R [] (oT R D))(us:ByteArray)(L:us.size<=9223372036854775807)(E:b<=9223372036854775807)
  (J:D.2.2=0->∀ps:List aO,ps.map aO.plain=D.1->ly ps us/\0<ps.length){K:Nat}{s:QS}(d:D.2.2=0->dq D.1 us K s)(I:gy s.2):
  Spec prog 26 [n,r,.int .u64 rev,.agg [.string k.os,.string k.oi].toArray,.string k.rel,.string us,.int .i64 b] R [] λu H'=>u=.tuple [.bool (kN us D b K s.1).1,.int .i64 (kN us D b K s.1).2].toArray/\H'=[]:=by
 have a:kN us D b K s.1=if kV us=false then(false,9)else if D.2.2≠0 then(false,D.2.2)
  else if(eY b K s.1).2.2≠0 then(false,(eY b K s.1).2.2)else((eY b K s.1).1.getD 0 false,0):=rfl
 generalize kN us D b K s.1=out at *
 refine Spec.body func26 rfl results26 ntmps26 rfl<|.sr ?_
 refine .cm rfl (λQ=>?_)
 refine .ag rfl<|.ag rfl<|.zs<|.sr<|.mo rfl<|.bj ((te us L R).weaken dJ) (λu e=>?_)
 subst e
 refine .q .not<|.zn<|.cond rfl (λg=>?_) λg=>?_
 have j:kV us=false:=by simpa using g
 rw[afC j]at a
 subst a
 refine .sr<|.ag rfl<|.az rfl<|.ret (ba (bm _ (.two (.tmp rfl) (.tmp rfl)) (.none _) ?_))
 ·exact⟨rfl,rfl⟩
 have j:¬kV us=false:=by simpa using g
 rw[afB j]at a
 refine .kn<|.sr<|.mo rfl<|.mo rfl<|.mo rfl<|.q (.aU rfl)<|.mo rfl<|.mo rfl<|.dN ((BB G).weaken dJ) (λu N e=>?_)
 obtain⟨M,ps,rfl,x,C,w⟩:=e
 have W:=x.aC
 refine .mo rfl<|.q .extract<|.q .extract ?_
 refine .bT (λS=>?_)
 refine .bP rfl rfl<|.ag rfl<|.zs<|.sr<|.mo rfl<|.q .eJ<|.zn<|.cond rfl (λh=>?_) λh=>?_
 have l:D.2.2≠0:=by simpa using h
 rw[afC l]at a
 subst a
 refine .sr<|.mo rfl<|.ag rfl<|.az rfl<|.ret (ba (bm _ (.two (.tmp rfl) (.tmp rfl)) (.none _) ?_))
 ·exact⟨rfl,rfl⟩
 have m:D.2.2=0:=by simpa using h
 rw[afB (by rw[m];simp)]at a
 obtain⟨z,T⟩:=J m ps w
 have d:=d m
 rw[<-w]at d
 have y:=λB=>Ni z.ok d (b:=b) B
 rw[afD]at y
 refine .kn<|.sr<|.q (.aU rfl)<|.mo rfl<|.mo rfl<|.dN (N3 M _ us ps _ (x.mono λb o c=>c.elim .inl λc=>.inr (by simp[c])) (λp H=>(C p H).mono λb o c=>c.elim .inl λc=>.inr (by simp[c])) z b E K s d I) (λu O e=>?_)
 obtain⟨Y,rfl,t⟩:=e
 have V:=t.aC
 refine .mo rfl<|.q .extract<|.q .extract<|.q .extract<|.ag rfl<|.ag rfl<|.ag rfl<|.zs<|.sr<|.mo rfl<|.q .eJ<|.zn<|.cond rfl (λi=>?_) λi=>?_
 have l:(eY b K s.1).2.2≠0:=by simpa using i
 rw[afC l]at a
 subst a
 refine .sr<|.mo rfl<|.ag rfl<|.az rfl<|.ret (ba (bm _ (.two (.tmp rfl) (.tmp rfl)) (.none _) ?_))
 ·exact⟨rfl,rfl⟩
 have A:(eY b K s.1).2.2=0:=by simpa using i
 rw[afB (by rw[A];simp)]at a
 obtain⟨_,U⟩:=y A
 obtain⟨f,v⟩:∃f,(eY b K s.1).1[0]? =some f:=⟨_,aQ (by omega)⟩
 have F:(eY b K s.1).1.getD 0 false=f:=by rw[afR,v];rfl
 rw[F]at a
 subst a
 refine .kn<|.sr<|.mo rfl ?_
 refine .aI 0 t v (λX=>?_)
 refine .lo rfl<|.ag rfl<|.az rfl<|.ret (bm _ (.two (.tmp rfl) (.tmp rfl)) (.none _) ?_)
 ·exact⟨rfl,rfl⟩
def t21:ByteArray:=⟨#[110,97,109,101,115,112,97,99,101,32,100,32,123,32,114,101,108,97,116,105,111,110,32,97,58,32,117,115,101,114,59,32,125]⟩
theorem NP:qp t21 (ka t21) (fJ t21):=.of (by decide+kernel) (by decide+kernel) (by decide+kernel) (by decide+kernel) (by decide+kernel) (by decide+kernel) (by decide+kernel) (by decide+kernel) (by decide+kernel) (by decide+kernel)
def gq:aR:=⟨⟨#[100]⟩,⟨#[120]⟩,⟨#[97]⟩⟩
def lz:ByteArray:=⟨#[98,111,98]⟩
def qN:ByteArray:=⟨#[101,118,101]⟩
def se:ax:=⟨⟨#[100]⟩,⟨#[120]⟩,⟨#[97]⟩,⟨#[98,111,98]⟩,⟨#[]⟩,⟨#[]⟩,⟨#[]⟩⟩
def oZ:cQ:=⟨[⟨se,1,0⟩],1,0⟩
def iR(k:aR):List Sub:=if scan oZ 1 then(oZ.rows.filter λy=>y.there 1&&decide (y.t.cB=k)).map (·.t.sub)else []
theorem N7:lj ⟨[],0,0⟩ [] [] [⟨true,se⟩]=oZ:=by kernel_rfl
theorem ou(num:List Nat):opened ⟨fJ t21,[]⟩ num iR gq 1=([⟨gq,true,[⟨1,⟨#[]⟩,⟨#[]⟩,0,0⟩],num.getD 0 0,[lz],[[]]⟩],0):=by kernel_rfl
theorem KX(num:List Nat):(opened ⟨fJ t21,[]⟩ num iR gq 0).1.length=1:=by simp[opened]
theorem wh(num:List Nat):eK ⟨fJ t21,[]⟩ num iR gq 1:=⟨by rw[ou];exact Nat.le_refl _,λj a=>by
 obtain rfl:j=0:=by omega
 rw[KX];decide⟩
theorem vX(num:List Nat):gG ⟨fJ t21,[]⟩ num iR gq 9 true 1=((opened ⟨fJ t21,[]⟩ num iR gq 1).1,0,0):=by
 unfold gG
 rw[ou]
 rfl
def pj(us:ByteArray):Bool:=decide (us=lz)
theorem vR{num:List Nat}{us:ByteArray}(k:kV us=true){K:Nat}{s:QS}(ok:iV (opened ⟨fJ t21,[]⟩ num iR gq 1).1 us)(i:dq (opened ⟨fJ t21,[]⟩ num iR gq 1).1 us K s)(l:gy s.2):kN us (gG ⟨fJ t21,[]⟩ num iR gq 9 true 1) 9 K s.1=(pj us,0):=by
 obtain⟨c,m,a,b,_⟩:=i.end_ ok l
 rw[ou]at c a b
 simp only at c a b
 have o:K<=1:=a
 have d:=b 0 (by simp)
 have e:(fe [(⟨gq,true,[⟨1,⟨#[]⟩,⟨#[]⟩,0,0⟩],num.getD 0 0,[lz],[[]]⟩:bB)] us).ex 0 (λj=>s.1.getD j false)=pj us:=by
  show cS (⟨gq,true,[⟨1,⟨#[]⟩,⟨#[]⟩,0,0⟩],num.getD 0 0,[lz],[[]]⟩:bB) us (λj=>s.1.getD j false) 1=_
  rw[pE (n:=⟨1,⟨#[]⟩,⟨#[]⟩,0,0⟩) rfl (.inl rfl),afC rfl]
  unfold pj
  simp
 have g:(fe [(⟨gq,true,[⟨1,⟨#[]⟩,⟨#[]⟩,0,0⟩],num.getD 0 0,[lz],[[]]⟩:bB)] us).f 0=true:=rfl
 rw[e,g,afO]at d
 have h:eY 9 K s.1=(s.1,K,0):=by
  unfold eY
  rw[afB (by decide),afB (by omega)]
 unfold kN
 rw[vX,h,k,afB (by simp)]
 simp only
 rw[afB (by simp),afB (by simp),d]
theorem pM{us:ByteArray}{num:List Nat}(a:gR isWord cR ⟨fJ t21,[]⟩ num):iV (opened ⟨fJ t21,[]⟩ num iR gq 1).1 us:=a.ps (wh num) us
theorem zQ{us:ByteArray}{num:List Nat}(h:gR isWord cR ⟨fJ t21,[]⟩ num)(ps:List aO)(e:ps.map aO.plain=(opened ⟨fJ t21,[]⟩ num iR gq 1).1):ly ps us/\0<ps.length:=by
 have c:=pM (us:=us) h
 rw[<-e]at c
 have a:=e
 rw[ou]at a
 simp only at a
 refine⟨?_,by have:=congrArg List.length a;simp at this;omega⟩
 obtain⟨p,rfl⟩:∃p,ps=[p]:=List.length_eq_one_iff.1 (by have:=congrArg List.length a;simpa using this)
 simp only[List.map_cons,afP,List.cons.injEq,and_true]at a
 obtain⟨m,l,t,n,u,r,s,k,o⟩:=p
 unfold aO.plain at a
 simp only[bB.mk.injEq]at a
 obtain⟨_,_,rfl,_,_,g⟩:=a
 refine⟨c,λp b=>?_,λp b=>?_,λp b q j=>?_,by simp,?_⟩
 ·rw[afE]at b
  subst b
  intro i f
  have f:i<1:=f
  obtain rfl:i=0:=by omega
  simp only
  decide+kernel
 ·rw[afE]at b
  subst b
  simp
 ·rw[afE]at b
  subst b
  have d:q.2∈k.map (·.2):=afJ.2 ⟨q,j,rfl⟩
  rw[g,afE]at d
  rw[d]
  simp
 ·rw[e,ou]
  exact afK _
theorem Kj(R:aw):Spec prog 38 [] R [] λu H'=>u=.bool true/\H'=[]:=by
 have f:=NP
 have Q:=f.num
 have b9:=f.kk
 obtain⟨num,c1,j⟩:=tC Q
 have a2:=wh num
 have c2:=ou num
 obtain⟨K1,s1,V,a4⟩:=dq.ends (pM (us:=lz) j)
 obtain⟨K2,s2,W,a5⟩:=dq.ends (pM (us:=qN) j)
 have B:=vR (by decide+kernel) (pM j) V a4
 have F:=vR (by decide+kernel) (pM j) W a5
 have c4:=λl e=>zQ (us:=lz) j l e
 have c5:=λl e=>zQ (us:=qN) j l e
 have s:gG ⟨fJ t21,[]⟩ num iR gq 9 true 1=((opened ⟨fJ t21,[]⟩ num iR gq 1).1,0,0):=vX num
 have c0:=λi (h:i<=1)=>tJ (c:=⟨fJ t21,[]⟩) (num:=num) (sub:=iR) (k:=gq) h
 have c3:=λR=>yP (R:=R) t21 f.sz f.pl (ka t21) f.lx f.ok f.len (fJ t21) f.cf f.gH
 have b3:pj lz=true:=by decide
 have b4:pj qN=false:=by decide
 rw[b3]at B
 rw[b4]at F
 generalize fJ t21=C at *
 obtain⟨D,S⟩:∃D,D=gG ⟨C,[]⟩ num iR gq 9 true 1:=⟨_,rfl⟩
 rw[<-S]at B F s
 refine Spec.body func38 rfl results38 ntmps38 rfl ?_
 refine .sr<|.ag rfl<|.z ?_
 refine .dN (c3 _) (λu Tc a=>?_)
 obtain⟨c,rfl,x,b6⟩:=a
 have d7:cv c.enc:=⟨x.dv⟩
 have d5:One c.vs:=RS.aC x.ss
 have d6:One c.vc:=RS.aC x.sc
 refine .mo rfl<|.q .extract<|.q .extract ?_
 refine .bT (λb1=>?_)
 refine .bP rfl rfl<|.ag rfl<|.z ?_
 refine .dN (xy _) (λu I a=>?_)
 obtain⟨hb,rfl,T⟩:=a
 obtain⟨c8,d2,d3,a9,_⟩:=id T
 have e0:PS I (pT hb) [.bool true,c8,.int .i64 ((0:Nat):Int)]:=PS.of (E:=155) (fr:=(0,0)) (by rw[a9];simp)
 refine .dN (zO _) (λu y a=>?_)
 obtain⟨g,rfl,X⟩:=a
 obtain⟨c6,c7,c9,d0,d1,a8⟩:=X.view (R:=sg y) λp v=>v
 have d9:PS y (pT g) [.bool true,.int .u64 0,.int .u64 0,iN c6.length,c7,c9]:=⟨a8.pc⟩
 refine .ag rfl<|.ag rfl<|.zs<|.sr<|.mo rfl<|.q (.qL rfl rfl) ?_
 refine .mo rfl<|.gt rfl ?_
 refine .mo rfl<|.gt rfl ?_
 refine .q (.qL rfl rfl) ?_
 refine .q .dG<|.mo rfl<|.gt rfl ?_
 refine .mo rfl<|.gt rfl ?_
 refine .q (.aU rfl)<|.gt rfl ?_
 refine .qz (xt hb [] 0 I T (by simp) 0 c _ (x.mono λb o hb=>.inr (by have b2:(b,o)∈Tc:=hb;simp[b2]))) (λu J a=>?_)
 rw[b6]at a
 rw[xv,Q]at a
 obtain⟨rfl,a6,_⟩:=a
 obtain⟨e,b8,m,U⟩:=a6 rfl
 rw[List.nil_append]at U
 refine .gt rfl ?_
 refine .q .eJ<|.q .dG<|.zn ?_
 refine .cond rfl (λN=>?_) λN=>?_
 ·simp at N
 refine .kn<|.sr ?_
 refine .q .cD ?_
 refine .bT (λb5=>?_)
 refine .bP rfl rfl<|.z<|.mo rfl<|.q (.aU rfl) ?_
 refine .q .cD ?_
 refine .q .cD ?_
 refine .q .cD ?_
 refine .dV (λd4=>?_)
 refine .qz (As g ⟨[],0,0⟩ y X iW.gb (sZ) (sZ) _ [] [] [⟨true,se⟩] _ RS.gI RS.gI (RS.lits (enc:=cI.enc) (xs:=[⟨true,se⟩]) rfl (by simp[cI.enc,ax.enc]) (by simp[cI.enc,ax.enc,aC])) (λt H=>(by cases H)) (λt H=>(by cases H)) (λd hd=>by rw[afE]at hd;subst hd;exact⟨by decide,by decide,by decide,by decide,by decide,by decide,by decide⟩)) (λu K a=>?_)
 obtain⟨rfl,Y⟩:=a
 rw[N7]at Y
 obtain⟨vl,Z⟩:=U.view (R:=λb o=>(b,o)∈J\/(b,o)∈K) λp v=>.inl v
 obtain⟨d8,vf,vr,Mf,Mr,a7⟩:=Y.view (R:=λb o=>(b,o)∈J\/(b,o)∈K) λp v=>.inr v
 have b0:fY [e] 1=some e:=by
  unfold fY
  have:hl [e] 1 1=some 0:=by
   simp only[hl,afS,b8]
   simp
  rw[show([e]:List dx).length=1 from rfl,this]
  rfl
 have b7:=Z.all e (by simp)
 have a3:e.ll.map (·.2)=rows e.c.plain.aZ num:=by rw[b7.eq,m,c1]
 have G:=sM Z a7 (L:=oZ.rows) ⟨.refl _,List.pairwise_singleton _ _⟩ (by decide) 1 e b0 num (by rw[m];exact j) a3 ⟨by omega,by simp⟩ (λe' M=>by
  rw[afE]at M
  subst M
  exact wX a3 (by rw[m];exact b9)) gq 9 (by omega) iR rfl (λi hi=>by
   rw[m]at hi⊢
   have h2:=tI a2 hi
   have O:=c0 i h2
   rw[c2]at O
   simp only[List.length_singleton]at O
   omega) 1 (by rw[m];exact a2)
 rw[m,show scan oZ 1=true by decide, <-S]at G
 have a0:=s8 ⟨rfl⟩ ⟨rfl⟩ G lz (by decide) (by omega) (λ_ l A=>c4 l (by rw[A,s])) (λ_=>by rw[s];exact V) a4
 have a1:=s8 ⟨rfl⟩ ⟨rfl⟩ G qN (by decide) (by omega) (λ_ l A=>c5 l (by rw[A,s])) (λ_=>by rw[s];exact W) a5
 rw[B]at a0
 rw[F]at a1
 refine .z<|.mo rfl<|.mo rfl<|.q (.aU rfl) ?_
 refine .bj (a0.weaken λb o hb=>.inr (by rcases hb with hb|hb<;>simp[hb])) (λu a=>?_)
 subst a
 refine .mo rfl<|.q .extract<|.q .extract<|.ag rfl<|.ag rfl<|.z<|.mo rfl<|.mo rfl<|.q (.aU rfl) ?_
 refine .bj (a1.weaken λb o hb=>.inr (by rcases hb with hb|hb<;>simp[hb])) (λu a=>?_)
 subst a
 refine .mo rfl<|.q .extract<|.q .extract<|.ag rfl<|.ag rfl<|.z<|.mo rfl<|.q .cr<|.mo rfl ?_
 refine .split (t:=52) rfl (λn=>?_) (λn=>?_)
 refine .gT n<|.mo rfl<|.gT n<|.q .cr<|.q (.bx n) ?_
 refine .mo rfl ?_
 refine .split (t:=56) rfl (λw=>?_) (λw=>?_)
 refine .gT w<|.mo rfl<|.q (.bx w) ?_
 refine .mo rfl ?_
 refine .split (t:=59) rfl (λr=>?_) (λr=>?_)
 refine .gT r<|.mo rfl<|.gT r<|.q .not<|.q (.bx r) ?_
 refine .az rfl ?_
 refine .ret (bm _ (.one (.tmp rfl)) (bo.none _) ?_)
 ·exact⟨rfl,rfl⟩
 ·simp at r
 ·simp at w
 ·simp at n
def jC(n a b:Int):Int:=if n<a then a else if b<n then b else n
theorem zw(n a b:Int)(R:aw):Spec prog 46 [.int .i64 n,.int .i64 a,.int .i64 b] R [] λu H'=>u=.int .i64 (jC n a b)/\H'=[]:=by
 have c:jC n a b=if n<a then a else if b<n then b else n:=rfl
 generalize jC n a b=w at *
 refine Spec.body func46 rfl results46 ntmps46 rfl ?_
 refine .sr<|.ag rfl<|.zs<|.sr<|.mo rfl<|.mo rfl<|.q .lss<|.zn ?_
 refine .cond rfl (λd=>?_) λd=>?_
 rw[afC (bV d)]at c
 subst c
 refine .sr<|.mo rfl<|.az rfl ?_
 refine .ret (ba (aY rfl ?_))
 ·exact⟨rfl,rfl⟩
 rw[afB (bK d)]at c
 refine .kn<|.seq<|.sr<|.mo rfl<|.mo rfl<|.q .gtr<|.zn ?_
 refine .cond rfl (λe=>?_) λe=>?_
 rw[afC (bV e)]at c
 subst c
 refine .sr<|.mo rfl<|.az rfl ?_
 refine .ret (ba (aY rfl ?_))
 ·exact⟨rfl,rfl⟩
 rw[afB (bK e)]at c
 subst c
 refine .kn<|.sr<|.mo rfl<|.az rfl ?_
 refine .ret (aY rfl ?_)
 ·exact⟨rfl,rfl⟩
section
variable{R:aw}{cp:Cf}{c:bN}{hb g x:Nat}{S:cQ}{num:List Nat}{L:List bD}
theorem WS.scan(h:WS R cp c hb g x S num L):Go.Proofs.YtdljmchhecoakaaGreat.scan S S.head=true:=by
 unfold Go.Proofs.YtdljmchhecoakaaGreat.scan
 simp[h.zP.h1]
theorem WS.full(h:WS R cp c hb g x S num L){k:aR}{N:Nat}(a:eK cp num (dp S L S.head) k N)(b:Int):Go.Proofs.YtdljmchhecoakaaGreat.gG cp num (dp S L S.head) k b (Go.Proofs.YtdljmchhecoakaaGreat.scan S S.head) N=if b<1 then([],0,2)else if(((opened cp num (dp S L S.head) k N).1.length+(opened cp num (dp S L S.head) k N).2:Nat):Int)<=b then((opened cp num (dp S L S.head) k N).1,(opened cp num (dp S L S.head) k N).2,0)else([],0,16):=by
 unfold Go.Proofs.YtdljmchhecoakaaGreat.gG
 rw[h.scan]
 rfl
theorem WS.max(h:WS R cp c hb g x S num L){k:aR}{N:Nat}(a:eK cp num (dp S L S.head) k N):Go.Proofs.YtdljmchhecoakaaGreat.gG cp num (dp S L S.head) k 1048576 (Go.Proofs.YtdljmchhecoakaaGreat.scan S S.head) N=((opened cp num (dp S L S.head) k N).1,(opened cp num (dp S L S.head) k N).2,0):=by
 have:=h.mA S.head k N a.2
 rw[h.full a,afB (by omega),afC (by omega)]
end
structure NF(nf:Cf->List Nat):Prop where
 ok:∀c:Cf,(c.numbers isWord cR).1=0->(c.numbers isWord cR).2=rows c.aZ (nf c)/\gR isWord cR c (nf c)
theorem NF.ex:∃nf,NF nf:=by
 have h:∀c:Cf,∃a:List Nat,(c.numbers isWord cR).1=0->(c.numbers isWord cR).2=rows c.aZ a/\gR isWord cR c a:=λc=>by
  by_cases b:(c.numbers isWord cR).1=0
  ·obtain⟨a,d,e⟩:=tC b
   exact⟨a,λ_=>⟨d,e⟩⟩
  ·exact⟨[],λh=>absurd h b⟩
 exact⟨λc=>(h c).choose,⟨λc=>(h c).choose_spec⟩⟩
def Az(c:Cf):Prop:=c.aZ.length<=5/\∀y∈c.aZ,y.bR.length<=6
structure WP(es:List dx)(S:cQ)(L:List bD):Prop where
 rl:RL S L
 zP:iW S
 len:S.rows.length<=1000
 e0:∃e,es[0]? =some e/\e.rev=0
 p4:∀e∈es,Az e.c.plain
 en:∀e∈es,(e.c.plain.numbers isWord cR).1=0/\e.ll.map (·.2)=(e.c.plain.numbers isWord cR).2
 n:es.length<=16
theorem WP.ll{a:List dx}{S:cQ}{L:List bD}(h:WP a S L):L.length<=1000:=by rw[h.rl.pm.length_eq];exact h.len
theorem xx{a:List dx}{r:Int}(b:∃e,a[0]? =some e/\e.rev=0)(f:0<=r):∀n,∃i,hl a r (n+1)=some i
 |0=>by
  obtain⟨e,d,g⟩:=b
  refine⟨0,?_⟩
  simp only[hl,d]
  rw[afC (by omega)]
 |n+1=>by
  obtain⟨i,c⟩:=xx b f n
  rw[hl]
  split
  ·split
   ·exact⟨_,rfl⟩
   ·exact⟨i,c⟩
  ·exact⟨i,c⟩
theorem WP.at_{a:List dx}{S:cQ}{L:List bD}(h:WP a S L){r:Int}(j:0<=r):∃en,fY a r=some en/\en∈a:=by
 obtain⟨e,b,k⟩:=h.e0
 have g:a.length≠0:=λe=>by rw[List.length_eq_zero_iff.1 e]at b;cases b
 obtain⟨m,f⟩:=Nat.exists_eq_succ_of_ne_zero g
 obtain⟨i,d⟩:=xx h.e0 j m
 obtain⟨_,en,c⟩:=pi d
 refine⟨en,?_,aX c⟩
 unfold fY
 rw[f,d]
 exact c
theorem AQ(cp:Cf){S:cQ}{L:List bD}(b:L.length<=1000)(rev:Int)(k:aR)(n:Nd):(dH cp (dp S L rev) k n).length<=1000:=by
 have a:∀k,(fC cp (dp S L rev) k).length<=1000:=λk=>by
  refine afH (afT _ _) ?_
  unfold fitting
  refine afH (afT _ _) ?_
  unfold dp
  split
  ·rw[afD]
   exact afH (afT _ _) b
  ·simp
 unfold dH
 split
 ·rw[afD];exact a _
 ·split
  ·rw[afD];exact a _
  ·split<;>simp
theorem Nj{cp:Cf}{num:List Nat}(c:gR isWord cR cp num){S:cQ}{L:List bD}(y:L.length<=1000){rev:Int}{k:aR}{N:Nat}(b:eK cp num (dp S L rev) k N)(F:(opened cp num (dp S L rev) k N).1.length+(opened cp num (dp S L rev) k N).2<=1048576){ps:List aO}(e:ps.map aO.plain=(opened cp num (dp S L rev) k N).1)(us:ByteArray):ly ps us:=by
 have f:=b.gr
 have z:∀p∈ps,p.plain∈(opened cp num (dp S L rev) k N).1:=λp a=>by rw[<-e];exact afJ.2 ⟨p,a,rfl⟩
 have h:∀p∈ps,p.nodes=(one cp num p.k).nodes:=λp a=>(f.one p.plain (z p a)).2.1
 have v:=b.we
 have E:(opened cp num (dp S L rev) k N).1.length=ps.length:=by rw[<-e,afD]
 refine⟨by rw[e];exact c.ps b us,λp a=>by rw[h p a];exact KY c.right,λp a=>by rw[h p a];exact afH (yx c.right) (by decide),λp a q C=>?_,by omega,by rw[e,v];omega⟩
 obtain⟨i,w,m⟩:=afN.1 a
 have B:(opened cp num (dp S L rev) k N).1[i]? =some p.plain:=by rw[<-e,afL,aQ w,m];rfl
 obtain⟨⟨o,s⟩,D⟩:=f.op i p.plain (by omega) B
 have r:p.ll.length=p.nodes.length:=by have:(p.ll.map (·.2)).length=p.nodes.length:=o;rwa [afD]at this
 obtain⟨j,g,l⟩:=afN.1 C
 have x:j<p.nodes.length:=by rw[<-r];exact g
 obtain⟨n,A⟩:∃n,p.nodes[j]? =some n:=⟨_,aQ x⟩
 have d:=s j n A
 have t:(p.plain.leads.getD j [])=q.2:=by
  show((p.ll.map (·.2)).getD j [])=q.2
  rw[afR,afL,aQ g,l];rfl
 rw[t]at d
 have u:=congrArg List.length d
 rw[afD,afD]at u
 have:=AQ cp y (S:=S) rev p.plain.k n
 omega
def nr(ps:List aO):List ByteArray:=ps.flatMap (·.fb)
theorem KB{ps:List aO}(h:∀p∈ps,p.fb.length<=512):(nr ps).length<=ps.length*512:=by
 induction ps with
 |nil=>simp[nr]
 |cons p ps ih=>
  have a:=ih λq b=>h q (List.mem_cons_of_mem _ b)
  have c:=h p List.mem_cons_self
  unfold nr at a⊢
  rw[List.flatMap_cons,afU,List.length_cons,Nat.add_mul]
  omega
structure qq(ps:List aO)(K:ByteArray->Nat)(s:ByteArray->QS):Prop where
 Ot:∀us,ly ps us
 run:∀us,dq (ps.map aO.plain) us (K us) (s us)
 none:∀us,gy (s us).2
 ln:∀us,(s us).1.length=ps.length
 us:∀p∈ps,p.fb.length<=512
 Oh:∀us,qF (fe (ps.map aO.plain) us) (Ku ps)=(s us).1
 fd:∀p∈ps,p.found=true->0<p.nodes.length
 nb:∀p∈ps,p.number<=1000000
 n:ps.length<=1048576
def Al(s:ByteArray->QS)(us:ByteArray):Bool:=(s us).1.getD 0 false
theorem qq.named{ps:List aO}{K:ByteArray->Nat}{s:ByteArray->QS}(h:qq ps K s):(nr ps).length<=1000000000/\ps.length<=1900000:=by
 have a:=KB h.us
 have b:=h.n
 exact⟨by omega,by omega⟩
theorem KA(ps:List aO):nr ps=(ps.map aO.plain).flatMap (·.fb):=by
 unfold nr
 rw[List.flatMap_map];rfl
theorem KQ{p:bB}{us:ByteArray}{v:Nat->Bool}(g:us∉p.fb)(h:∀j,v j=false)(m:Nat):cS p us v m=false:=by
 induction m using Nat.strongRecOn with
 |_ m ih=>
  match m,ih with
  |0,_=>rw[cS]
  |e+1,ih=>
   rw[cS]
   split
   ·rfl
   ·rename_i n k
    split
    ·split
     ·rename_i i
      have c:=ih (n.a.toNat+1) (by omega)
      have d:=ih (n.b.toNat+1) (by omega)
      rw[c,d]
      split
      ·rfl
      ·split<;>rfl
     ·rfl
    ·rw[Bool.or_eq_false_iff,Bool.and_eq_false_iff]
     refine⟨.inr (List.any_eq_false.2 λs f=>?_),List.any_eq_false.2 λj _=>by rw[h j];simp⟩
     rw[afI]
     exact λe=>g (e▸f)
theorem dq.named{ps:List bB}{us:ByteArray}(a:∀p∈ps,us∉p.fb):∀{k:Nat} {s:QS},dq ps us k s->∀j,s.1.getD j false=false
 |0,_,.start=>λj=>by
  rw[afR,List.getElem?_replicate]
  split<;>rfl
 |k+1,_,.step (s:=s) (i:=i) h hn=>by
  have b:=dq.named a h
  have c:(fe ps us).ex i (λj=>s.1.getD j false)=false:=by
   unfold fe
   simp only
   cases hp:ps[i]? with
   |none=>rfl
   |some p=>exact KQ (a p (aX hp)) b _
  unfold pP
  rw[c]
  simp only[Bool.not_false,Bool.or_true,if_true]
  exact b
theorem qq.out{ps:List aO}{K:ByteArray->Nat}{s:ByteArray->QS}(h:qq ps K s){us:ByteArray}(a:Al s us=true):us∈nr ps:=by
 refine Classical.byContradiction λd=>?_
 have b:=(h.run us).named (λp e c=>d (by rw[KA];exact List.mem_flatMap.2 ⟨p,e,c⟩)) 0
 unfold Al at a
 rw[b]at a
 cases a
deriving instance DecidableEq for Nd
deriving instance DecidableEq for Rl
deriving instance DecidableEq for Sp
def mJ:ByteArray:=⟨#[97,98,99,100,101,102,103,104,105,106,107,108]⟩
def re(r:Nat):List UInt8:=[[97,98,99,100,101,102,103,104,105,106,107,108].getD r 0]
def gu(r:Nat):ByteArray:=⟨(re r).toArray⟩
def rM:ByteArray:=⟨#[32,114,101,108,97,116,105,111,110,32]⟩
def rN:ByteArray:=⟨#[58,32,117,115,101,114,32,61,32,116,104,105,115,32,124,32]⟩
def ky(n:Nat):Nat->List UInt8
 |0=>[110,97,109,101,115,112,97,99,101,32,100,32,123]
 |i+1=>ky n i++[32,114,101,108,97,116,105,111,110,32]++re i++[58,32,117,115,101,114,32,61,32,116,104,105,115,32,124,32]++re ((i+1) % n)++[59]
def lV(n i:Nat):ByteArray:=⟨(ky n i).toArray⟩
def mL(n:Nat):ByteArray:=⟨(ky n n++[125]).toArray⟩
theorem pz:∀r,r<12->mJ.extract r (r+1)=gu r:=by
 intro r a
 apply ByteArray.ext
 rw[ByteArray.data_extract]
 revert r
 decide
theorem Mb(n i:Nat):lV n (i+1)=lV n i++rM++gu i++rN++gu ((i+1) % n)++⟨#[59]⟩:=by
 apply ByteArray.ext
 simp[lV,ky,ByteArray.data_append,gu,rM,rN]
theorem Ma(n:Nat):mL n=lV n n++⟨#[125]⟩:=by
 apply ByteArray.ext
 simp[lV,mL,ByteArray.data_append]
theorem uf(n:Nat):∀i,(ky n i).length=13+29*i
 |0=>rfl
 |i+1=>by
  have a:=uf n i
  simp only[ky,afU,a,re,List.length_cons,List.length_nil]
  omega
theorem Mc(n i:Nat):(lV n i).size=13+29*i:=by
 show(ky n i).toArray.size=_
 rw[afV,uf]
def dS:ByteArray:=⟨#[100]⟩
def xS:ByteArray:=⟨#[120]⟩
def eF:Sub:=⟨⟨#[98,111,98]⟩,⟨#[]⟩,⟨#[]⟩,⟨#[]⟩⟩
def kR(r:Nat):aR:=⟨dS,xS,gu r⟩
def nz(n:Nat):List dY:=[⟨1,qa,0⟩,⟨1,⟨#[100]⟩,10⟩,⟨3,jY,12⟩]++((List.range n).flatMap λi=>[⟨1,qb,14+29*i⟩,⟨1,gu i,23+29*i⟩,⟨3,oK,24+29*i⟩,⟨1,oN,26+29*i⟩,⟨3,nL,31+29*i⟩,⟨1,mO,33+29*i⟩,⟨3,gK,38+29*i⟩,⟨1,gu ((i+1) % n),40+29*i⟩,⟨3,r7,41+29*i⟩])++[⟨3,r0,13+29*n⟩]
def pU(n r:Nat):List Nd:=[⟨1,⟨#[]⟩,⟨#[]⟩,0,0⟩,⟨2,gu ((r+1) % n),⟨#[]⟩,0,0⟩,⟨4,⟨#[]⟩,⟨#[]⟩,0,1⟩]
def lT(n:Nat):List Sp:=[⟨⟨#[100]⟩,(List.range n).map λi=>⟨gu i,[⟨⟨#[]⟩,⟨#[]⟩⟩],pU n i⟩⟩]
def dw(n:Nat):Cf:=⟨lT n,[]⟩
def jS(n:Nat):Bool:=decide (oh (mL n)=some (nz n))
def LA(n:Nat):Bool:=decide (jy isWord ((nz n).length+1) [] (nz n,false)=(lT n,([],false)))
def y6(n:Nat):Bool:=(((ky n n++[125]).all λc=>decide (c≠34)&&decide (c≠47)&&decide (c≠45))&&(nz n).all λx=>decide (dT x))&&decide ((nz n).length<=1000)
def y7(n:Nat):Bool:= !(dw n).gH isWord&&decide (((dw n).numbers isWord cR).1=0)&&(decide ((lT n).length<=1000)&&(lT n).all λy=>decide (y.bR.length<=1000))
def LC(n:Nat):Bool:=(List.range n).all λr=>decide (bY (dw n).all ⟨dS,gu r⟩=some r)&&decide (((dw n).all.map (·.2.nodes)).getD r []=pU n r)&&allowed (dw n) (kR r) eF
theorem LK:jS 2=true:=by decide+kernel
theorem LM:jS 3=true:=by decide+kernel
theorem LN:jS 4=true:=by decide+kernel
theorem LO:jS 5=true:=by decide+kernel
theorem LP:jS 6=true:=by decide+kernel
theorem LQ:jS 7=true:=by decide+kernel
theorem LR:jS 8=true:=by decide+kernel
theorem LS:jS 9=true:=by decide+kernel
theorem LH:jS 10=true:=by decide+kernel
theorem LI:jS 11=true:=by decide+kernel
theorem LJ:jS 12=true:=by decide+kernel
theorem LG{n:Nat}(a:2<=n)(b:n<=12):jS n=true:=by
 have h:n=2\/n=3\/n=4\/n=5\/n=6\/n=7\/n=8\/n=9\/n=10\/n=11\/n=12:=by omega
 rcases h with rfl|rfl|rfl|rfl|rfl|rfl|rfl|rfl|rfl|rfl|rfl
 ·exact LK
 ·exact LM
 ·exact LN
 ·exact LO
 ·exact LP
 ·exact LQ
 ·exact LR
 ·exact LS
 ·exact LH
 ·exact LI
 ·exact LJ
theorem LU:(List.range 11).all (λk=>LA (k+2))=true:=by decide+kernel
theorem LV:(List.range 11).all (λk=>y6 (k+2))=true:=by decide+kernel
theorem LW:(List.range 11).all (λk=>y7 (k+2))=true:=by decide+kernel
theorem LX:(List.range 11).all (λk=>LC (k+2))=true:=by decide+kernel
theorem rg_of{p:Nat->Bool}(h:(List.range 11).all (λk=>p (k+2))=true){n:Nat}(a:2<=n)(b:n<=12):p n=true:=by
 have:=afG.1 h (n-2) (afM.2 (by omega))
 simpa[show n-2+2=n by omega]using this
theorem LY{n:Nat}(a:2<=n)(b:n<=12):qp (mL n) (nz n) (lT n):=by
 have f:=bV (LG a b)
 have i:=bV (rg_of LU a b)
 have c:=rg_of LV a b
 have d:=rg_of LW a b
 unfold y6 at c
 rw[afF,afF]at c
 obtain⟨⟨j,l⟩,m⟩:=c
 unfold y7 at d
 rw[afF,afF,afF]at d
 obtain⟨⟨o,p⟩,g,h⟩:=d
 have u:(mL n).size=14+29*n:=by
  show(ky n n++[125]).toArray.size=_
  rw[afV,afU,uf,List.length_singleton]
  omega
 refine⟨by omega,λk r=>?_,f,λx s=>bV (afG.1 l x s),afH (bV m) (by decide),i,show(dw n).gH isWord=false by simpa using o,bV p,bV g,λy t=>bV (afG.1 h y t)⟩
 have e:k<(ky n n++[125]).length:=by rw[<-afV];exact r
 have q:dZ (mL n) k=(ky n n++[125])[k]:=by
  unfold dZ mL
  simp only[Array.getD_eq_getD_getElem?,List.getElem?_toArray,aQ e,afW]
 have:=afG.1 j _ (List.getElem_mem e)
 rw[<-q]at this
 simp only[afF,afI]at this
 exact⟨this.1.1,this.1.2,this.2⟩
theorem ze{n:Nat}(a:2<=n)(b:n<=12){r:Nat}(c:r<n):bY (dw n).all ⟨dS,gu r⟩=some r/\((dw n).all.map (·.2.nodes)).getD r []=pU n r/\allowed (dw n) (kR r) eF=true:=by
 have h:=afG.1 (rg_of LX a b) r (afM.2 c)
 rw[afF,afF,afI,afI]at h
 exact⟨h.1.1,h.1.2,h.2⟩
section
variable{n:Nat}{num:List Nat}{sub:aR->List Sub}
theorem ue(c:2<=n)(d:n<=12){r:Nat}(e:r<n):one (dw n) num (kR r)=⟨kR r,true,pU n r,num.getD r 0,[],[]⟩:=by
 obtain⟨a,b,_⟩:=ze c d e
 unfold one
 rw[show(⟨(kR r).os,(kR r).rel⟩:Ty)=⟨dS,gu r⟩from rfl,a]
 simp only
 rw[b]
def nA(n:Nat):List aR:=(List.range n).map kR
theorem pS{k:aR}:k∈nA n↔∃r,r<n/\k=kR r:=by
 unfold nA
 simp only[afJ,afM]
 exact⟨λ⟨r,a,b⟩=>⟨r,a,b.symm⟩,λ⟨r,a,b⟩=>⟨r,a,b.symm⟩⟩
theorem LF(b:∀k,∀s∈sub k,s=eF)(c:Cf)(k:aR):fC c sub k=[]:=by
 unfold fC fitting
 rw[List.filter_eq_nil_iff]
 intro s a
 have:=b k s (List.mem_filter.1 a).1
 rw[this]
 decide
theorem zc(c:2<=n)(d:n<=12)(g:∀k,∀s∈sub k,s=eF):mQ (dw n) num sub (· ∈nA n):=λk e m b y a=>by
 obtain⟨r,f,rfl⟩:=pS.1 e
 rw[ue c d f]at b
 simp only[pU,List.mem_cons,List.not_mem_nil,or_false]at b
 unfold dH at a
 rcases b with rfl|rfl|rfl
 ·rw[afC rfl,LF g]at a;cases a
 ·rw[afB (show ¬(2:Int)=1 by decide),afB (show ¬(2:Int)=3 by decide),afC rfl,afE]at a
  exact pS.2 ⟨(r+1) % n,Nat.mod_lt _ (by omega),a⟩
 ·rw[afB (by decide),afB (by decide),afB (by decide)]at a;cases a
theorem zd(d:2<=n)(c:n<=12)(g:∀k,∀s∈sub k,s=eF){r:Nat}(f:r<n):(∃N,eK (dw n) num sub (kR r) N)/\∀i,(opened (dw n) num sub (kR r) i).1.length<=12/\(opened (dw n) num sub (kR r) i).2<=i*12:=by
 have a:=zc (num:=num) d c g
 have b:kR r∈nA n:=pS.2 ⟨r,f,rfl⟩
 have e:(nA n).length=n:=by unfold nA;simp
 refine⟨eK.ex λi=>rC a b i,λi=>⟨afH (rC a b i) (by omega),afH (yC a b i) ?_⟩⟩
 rw[e]
 exact Nat.mul_le_mul_left _ c
theorem LZ(x:2<=n)(y:n<=12)(Z:∀k,∀s∈sub k,s=eF){f:Nat}(J:f<n){N:Nat}(H:eK (dw n) num sub (kR f) N)(U:gR isWord cR (dw n) num){K:Nat}{s:QS}(F:dq (opened (dw n) num sub (kR f) N).1 eF.us K s)(Y:gy s.2):
  ((∀r,r<n->sub (kR r)=[])->s.1.getD 0 false=false)/\∀a,a<n->eF∈sub (kR a)->s.1.getD 0 false=true:=by
 have T:=zc (num:=num) x y Z
 have z:=rB T (pS.2 ⟨f,J,rfl⟩:kR f∈nA n) N
 have C:=H.gr
 have G:=tH (c:=dw n) (num:=num) (sub:=sub) (k:=kR f) N
 obtain⟨_,_,_,D,_⟩:=F.end_ (U.ps H eF.us) Y
 generalize opened (dw n) num sub (kR f) N=OP at *
 obtain⟨a2,oe⟩:=OP
 simp only at z C G D F
 constructor
 ·intro V
  refine F.named (λp b t=>?_) 0
  obtain⟨r,m,g⟩:=pS.1 (z.u p b).1
  obtain⟨i,h,e⟩:=afN.1 b
  have v:=(C.op i p h (by rw[aQ h,e])).2
  rw[v,g]at t
  split at t
  ·unfold iS fitting at t
   rw[V r m]at t
   cases t
  ·cases t
 ·intro a Q S
  have a1:∀d r,r<n->(r+d) % n=a->∀(i:Nat) (p:bB),a2[i]? =some p->p.k=kR r->s.1.getD i false=true:=by
   intro d
   induction d with
   |zero=>
    intro r m A i p b g
    obtain rfl:r=a:=by rw[Nat.add_zero,Nat.mod_eq_of_lt m]at A;exact A
    have h:=(afX.1 b).1
    have w:=z.u p (aX b)
    rw[g,ue x y m]at w
    obtain⟨_,B,l,_⟩:=w
    have v:=(C.op i p h b).2
    have E:=D i h
    have a0:eF.us∈p.fb:=by
     rw[v,B,afC rfl,g]
     unfold iS fitting
     exact afJ.2 ⟨eF,List.mem_filter.2 ⟨List.mem_filter.2 ⟨S,(ze x y m).2.2⟩,by decide⟩,rfl⟩
    rw[E]
    unfold fe
    simp only[b,Option.map_some,afW]
    rw[B,afO,l]
    show cS p eF.us _ 3=true
    rw[pE (n:=⟨4,⟨#[]⟩,⟨#[]⟩,0,1⟩) (by rw[l];rfl) (.inr (.inr (.inr ⟨.inl rfl,by decide,by decide,by decide,by decide⟩))),afB (by decide),afC rfl]
    rw[show((0:Int).toNat+1)=1 from rfl,pE (n:=⟨1,⟨#[]⟩,⟨#[]⟩,0,0⟩) (by rw[l];rfl) (.inl rfl),afC rfl,decide_eq_true a0]
    rfl
   |succ d ih=>
    intro r m A i p b g
    have h:=(afX.1 b).1
    have w:=z.u p (aX b)
    rw[g,ue x y m]at w
    obtain⟨_,B,l,_⟩:=w
    obtain⟨⟨_,v⟩,_⟩:=C.op i p h b
    have E:=D i h
    have o:=v 1 ⟨2,gu ((r+1) % n),⟨#[]⟩,0,0⟩ (by rw[l];rfl)
    rw[g]at o
    have M:dH (dw n) sub (kR r) ⟨2,gu ((r+1) % n),⟨#[]⟩,0,0⟩=[kR ((r+1) % n)]:=by
     unfold dH
     rw[afB (show ¬(2:Int)=1 by decide),afB (show ¬(2:Int)=3 by decide),afC rfl]
     rfl
    rw[M]at o
    obtain⟨j,I⟩:∃j,p.leads.getD 1 []=[j]:=List.length_eq_one_iff.1 (by have:=congrArg List.length o;simpa using this)
    rw[I]at o
    simp only[List.map_cons,afP,List.cons.injEq,and_true,afL,afY]at o
    obtain⟨q,W,X⟩:=o
    have O:=ih ((r+1) % n) (Nat.mod_lt _ (by omega)) (by rw[<-A,Nat.mod_add_mod];congr 1;omega) j q W X
    rw[E]
    unfold fe
    simp only[b,Option.map_some,afW]
    rw[B,afO,l]
    show cS p eF.us _ 3=true
    rw[pE (n:=⟨4,⟨#[]⟩,⟨#[]⟩,0,1⟩) (by rw[l];rfl) (.inr (.inr (.inr ⟨.inl rfl,by decide,by decide,by decide,by decide⟩))),afB (by decide),afC rfl]
    rw[show((1:Int).toNat+1)=2 from rfl]
    have L:cS p eF.us (λj=>s.1.getD j false) 2=true:=by
     rw[pE (n:=⟨2,gu ((r+1) % n),⟨#[]⟩,0,0⟩) (by rw[l];rfl) (.inr (.inl rfl)),afB (show ¬(2:Int)=1 by decide),afB (show ¬(2:Int)=4 by decide),afB (show ¬(2:Int)=5 by decide),afB (show ¬(2:Int)=6 by decide),I]
     simp only[List.any_cons,List.any_nil,Bool.or_false]
     exact O
    rw[L,Bool.or_true]
  rw[afL,afY]at G
  obtain⟨p,b,g⟩:=G
  exact a1 ((a+n-f) % n) f J (by rw[Nat.add_mod_mod,show f+(a+n-f)=a+n by omega,Nat.add_mod_right,Nat.mod_eq_of_lt Q]) 0 p b g
end
theorem LD{n:Nat}(e:2<=n)(f:n<=12){num:List Nat}(l:gR isWord cR (dw n) num){sub:aR->List Sub}(p:∀k,∀s∈sub k,s=eF){r:Nat}(m:r<n){N:Nat}(b:eK (dw n) num sub (kR r) N){K:Nat}{s:QS}(g:dq (opened (dw n) num sub (kR r) N).1 eF.us K s)(o:gy s.2):
  gG (dw n) num sub (kR r) 1000 true N=((opened (dw n) num sub (kR r) N).1,(opened (dw n) num sub (kR r) N).2,0)/\
  ((∀r,r<n->sub (kR r)=[])->kN eF.us (gG (dw n) num sub (kR r) 1000 true N) 1000 K s.1=(false,0))/\
  ∀a,a<n->eF∈sub (kR a)->kN eF.us (gG (dw n) num sub (kR r) 1000 true N) 1000 K s.1=(true,0):=by
 have d:=zd (num:=num) e f p m
 have B:N<=12:=by
  rcases N with _|N
  ·omega
  ·have:=b.2 N (by omega)
   have:=(d.2 N).1
   omega
 have y:=(d.2 N).1
 have z:=(d.2 N).2
 have j:gG (dw n) num sub (kR r) 1000 true N=((opened (dw n) num sub (kR r) N).1,(opened (dw n) num sub (kR r) N).2,0):=by
  unfold gG
  rw[afB (by decide),afB (by decide),afC (by omega)]
 obtain⟨_,_,q,_⟩:=g.end_ (l.ps b eF.us) o
 rw[b.we]at q
 have A:iL (opened (dw n) num sub (kR r) N).1<=(opened (dw n) num sub (kR r) N).1.length:=by
  have:=yt ((opened (dw n) num sub (kR r) N).1.map (·.found))
  rw[afD]at this
  exact this
 have t:eY 1000 K s.1=(s.1,K,0):=by
  unfold eY
  rw[afB (by decide),afB (by omega)]
 have x:kV eF.us=true:=by decide+kernel
 have c:=LZ e f p m b l g o
 have i:∀v,s.1.getD 0 false=v->kN eF.us (gG (dw n) num sub (kR r) 1000 true N) 1000 K s.1=(v,0):=by
  intro v c
  unfold kN
  rw[j,t,x,afB (by simp)]
  simp only
  rw[afB (by simp),afB (by simp),c]
 exact⟨j,λh=>i _ (c.1 h),λa u w=>i _ (c.2 a u w)⟩
theorem zb{n:Nat}(q:2<=n)(t:n<=12){R:aw}{z g:Nat}{vl:Value}{e:dx}(x:HV R z vl [e] 0){S:cQ}{a3:List RB}{vf vr:Value}{I:List (aR×(Value×ap))}{J:List (Sub×(Value×ap))}(T:SV R g S a3 vf vr I J)(Q:RL S S.rows)(D:S.rows.length<=1000)
  (rev:Int)(V:fY [e] rev=some e)(d:e.c.plain=dw n){num:List Nat}(a1:((dw n).numbers isWord cR).2=rows (lT n) num)(l:gR isWord cR (dw n) num)(Z:(lT n).length<=1000/\∀y∈lT n,y.bR.length<=1000)(a2:scan S rev=true)(H:∀k,∀s∈dp S S.rows rev k,s=eF){r:Nat}(F:r<n)(v:Bool)
  (hv:(v=false/\∀r,r<n->dp S S.rows rev (kR r)=[])\/(v=true/\∃a,a<n/\eF∈dp S S.rows rev (kR a))):
  Spec prog 26 [pT z,pT g,.int .u64 rev,.agg [.string dS,.string xS].toArray,.string (gu r),.string eF.us,.int .i64 1000] R [] λu H'=>u=.tuple [.bool v,.int .i64 0].toArray/\H'=[]:=by
 have f:=zd (num:=num) q t H F
 obtain⟨N,b⟩:=f.1
 obtain⟨K,s,w,G⟩:=dq.ends (l.ps b eF.us)
 obtain⟨A,W,X⟩:=LD q t l H F b w G
 have a4:N<=12:=by
  rcases N with _|N
  ·omega
  ·have:=b.2 N (by omega)
   have:=(f.2 N).1
   omega
 have Y:=x.all e (by simp)
 have E:e.ll.map (·.2)=rows e.c.plain.aZ num:=by rw[Y.eq,d];exact a1
 have B:=sM x T (L:=S.rows) Q D rev e V num (by rw[d];exact l) E ⟨by omega,by simp⟩ (λe' o=>by
  rw[afE]at o
  subst o
  exact wX E (by rw[d];exact Z)) (kR r) 1000 (by omega) (dp S S.rows rev) rfl (λi C=>by
  rw[d]at C⊢
  have h5:=tI b C
  have M:=(f.2 i).1
  have O:=(f.2 i).2
  omega) N (by rw[d];exact b)
 rw[d,a2]at B
 have a0:(opened (dw n) num (dp S S.rows rev) (kR r) N).1.length+(opened (dw n) num (dp S S.rows rev) (kR r) N).2<=1048576:=by
  have M:=(f.2 N).1
  have O:=(f.2 N).2
  omega
 have a5:0<(opened (dw n) num (dp S S.rows rev) (kR r) N).1.length:=by
  have:=tH (c:=dw n) (num:=num) (sub:=dp S S.rows rev) (k:=kR r) N
  rw[afL,afY]at this
  obtain⟨p,hp,_⟩:=this
  exact Nat.lt_of_le_of_lt (afK _) (afX.1 hp).1
 have j:=s8 ⟨rfl⟩ ⟨rfl⟩ B eF.us (by decide) (by omega) (λ_ ps h=>by
  rw[A]at h
  have h:ps.map aO.plain=(opened (dw n) num (dp S S.rows rev) (kR r) N).1:=h
  refine⟨Nj l D b a0 h _,?_⟩
  have:=congrArg List.length h
  rw[afD]at this
  omega) (λ_=>by rw[A];exact w) G
 rcases hv with⟨rfl,m⟩|⟨rfl,a,U,m⟩
 ·rw[W m]at j
  exact j
 ·rw[X a U m]at j
  exact j
def mK(r:Nat):ax:=⟨dS,xS,gu r,⟨#[98,111,98]⟩,⟨#[]⟩,⟨#[]⟩,⟨#[]⟩⟩
def lU(a:Nat):cQ:=⟨[⟨mK a,1,0⟩],1,0⟩
theorem NY{p:Nat->Prop}(h:p 0/\p 1/\p 2/\p 3/\p 4/\p 5/\p 6/\p 7/\p 8/\p 9/\p 10/\p 11){a:Nat}(o:a<12):p a:=by
 obtain⟨b,c,f,g,i,j,k,l,m,n,d,e⟩:=h
 have h:a=0\/a=1\/a=2\/a=3\/a=4\/a=5\/a=6\/a=7\/a=8\/a=9\/a=10\/a=11:=by omega
 rcases h with rfl|rfl|rfl|rfl|rfl|rfl|rfl|rfl|rfl|rfl|rfl|rfl<;>assumption
theorem L0{a:Nat}(b:a<12):lj ⟨[],0,0⟩ [] [] [⟨true,mK a⟩]=lU a:=NY (p:=λa=>lj ⟨[],0,0⟩ [] [] [⟨true,mK a⟩]=lU a) ⟨rfl,rfl,rfl,rfl,rfl,rfl,rfl,rfl,rfl,rfl,rfl,rfl⟩ b
def rO(r:Nat):ax:=⟨dS,xS,mJ.extract r (r+1),⟨#[98,111,98]⟩,⟨#[]⟩,⟨#[]⟩,⟨#[]⟩⟩
theorem zf{r:Nat}(h:r<12):rO r=mK r:=by
 unfold rO mK
 rw[pz r h]
theorem pA(r:Nat):(gu r).size=1:=rfl
theorem L5(a:Nat):(mK a).fits:=⟨by show dS.size<=_;decide,by show xS.size<=_;decide,by show(gu a).size<=_;rw[pA];decide,by show ByteArray.size ⟨#[98,111,98]⟩<=_;decide,by show ByteArray.size ⟨#[]⟩<=_;decide,by show ByteArray.size ⟨#[]⟩<=_;decide,by show ByteArray.size ⟨#[]⟩<=_;decide⟩
theorem z5(k:aR):dp ⟨[],0,0⟩ [] 0 k=[]:=by
 unfold dp
 rw[List.filter_nil,afP]
 split<;>rfl
theorem z6(a:Nat)(k:aR):dp (lU a) (lU a).rows 1 k=if k=kR a then [eF]else []:=by
 unfold dp
 rw[afC (show scan (lU a) 1=true from rfl)]
 unfold lU
 rw[List.filter_cons]
 have h:(⟨mK a,1,0⟩:bD).there 1=true:=rfl
 have b:(⟨mK a,1,0⟩:bD).t.cB=kR a:=rfl
 rw[h,b,afO]
 by_cases e:k=kR a
 ·subst e
  simp only[decide_true,if_true,List.filter_nil,List.map_cons,afP]
  rfl
 ·rw[afB e,afB (by simpa using λh=>e h.symm)]
  rfl
theorem MD(n:Int):∃N:Nat,jC n 2 12=(N:Nat)/\2<=N/\N<=12:=by
 have h:2<=jC n 2 12/\jC n 2 12<=12:=by
  unfold jC
  split
  ·omega
  ·split<;>omega
 exact⟨(jC n 2 12).toNat,by omega,by omega,by omega⟩
theorem MF(n:Int){N:Nat}(h:2<=N):∃A:Nat,jC n 0 ((N-1:Nat):Int)=(A:Nat)/\A<N:=by
 have h:0<=jC n 0 ((N-1:Nat):Int)/\jC n 0 ((N-1:Nat):Int)<N:=by
  unfold jC
  split
  ·omega
  ·split<;>omega
 exact⟨(jC n 0 ((N-1:Nat):Int)).toNat,by omega,by omega⟩
theorem Ml(n0 a0:Int)(R:aw):Spec prog 9 [.int .i64 n0,.int .i64 a0] R [] λu H'=>u=.bool true/\H'=[]:=by
 obtain⟨N,c3,J,Q⟩:=MD n0
 obtain⟨A,c2,hA⟩:=MF a0 J
 have v:=LY J Q
 have hC:=v.num
 have a4:=v.kk
 obtain⟨e0,a5,hm⟩:=tC hC
 have c0:=λR=>yP (R:=R) (mL N) v.sz v.pl (nz N) v.lx v.ok v.len (lT N) v.cf v.gH
 have H:mJ.size=12:=rfl
 have F:rM.size=10:=rfl
 have V:rN.size=16:=rfl
 have a6:=λi=>Mc N i
 refine Spec.body func9 rfl results9 ntmps9 rfl ?_
 refine .sr<|.ag rfl<|.z<|.mo rfl ?_
 refine .bj (zw _ _ _ _) (λu f=>?_)
 subst f
 rw[c3]
 refine .ag rfl<|.z<|.mo rfl<|.mo rfl ?_
 refine .ia (N-1) .sub ?_
 refine .bj (zw _ _ _ _) (λu f=>?_)
 subst f
 rw[c2]
 refine .ag rfl<|.z<|.ag rfl<|.z<|.ag rfl<|.zs<|.sr<|.az rfl<|.block ?_
 refine .cX [(0,_),(1,_),(5,_)] (X:=Nat) (λi=>i<=N) (λi E=>(7,iN i)::(6,.string (lV N i))::E) (λ_ G=>G) (λi=>N-i) 0 (afK _) kE.c.c.c.c.c rH ?_
 rintro i hi
 refine .seq<|.sr<|.mo rfl<|.mo rfl<|.q .lss<|.zn ?_
 refine .cond rfl (λL=>?_) λL=>?_
 have w:i<N:=cV L
 have d6:(i+1) % N<N:=Nat.mod_lt _ (by omega)
 have y:=a6 i
 refine .kn<|.seq<|.block ?_
 refine .iA mixed (by kernel_rfl) ?_
 refine .mo rfl ?_
 refine .q (.nY (p:=lV N i) (q:=rM) (by rw[y,F];omega) rfl rfl) ?_
 refine .mo rfl<|.mo rfl<|.mo rfl ?_
 refine .ia (i+1) .add ?_
 refine .q (.lg (s:=mJ) i (i+1) ⟨_,rfl⟩ ⟨_,rfl⟩ (by omega) (by rw[H];omega)) ?_
 rw[pz i (by omega)]
 refine .q (.nY (by simp only[afQ,y,F,pA];omega) rfl rfl) ?_
 refine .q (.nY (q:=rN) (by simp only[afQ,y,F,V,pA];omega) rfl rfl) ?_
 refine .mo rfl<|.mo rfl ?_
 refine .ia (i+1) .add ?_
 refine .mo rfl ?_
 refine .q (.y4 (a:=i+1) N rfl rfl (by omega)) ?_
 refine .mo rfl ?_
 refine .ia (i+1) .add ?_
 refine .mo rfl ?_
 refine .q (.y4 (a:=i+1) N rfl rfl (by omega)) ?_
 refine .ia ((i+1) % N+1) .add ?_
 refine .q (.lg (s:=mJ) ((i+1) % N) ((i+1) % N+1) ⟨_,rfl⟩ ⟨_,rfl⟩ (by omega) (by rw[H];omega)) ?_
 rw[pz ((i+1) % N) (by omega)]
 refine .q (.nY (by simp only[afQ,y,F,V,pA];omega) rfl rfl) ?_
 refine .q (.nY (q:=⟨#[59]⟩) (by simp only[afQ,y,F,V,pA];show _+1<=_;omega) rfl rfl) ?_
 rw[<-Mb]
 refine .ag rfl<|.nil<|bg<|aB<|.region<|.mo rfl ?_
 refine .ia (i+1) .add ?_
 refine .ag rfl<|.nil ?_
 ·exact bu (i+1) w (by omega) kE.c.c.c.c.c rH
 have b7:i=N:=by have:=bK L;omega
 subst b7
 have y:=a6 i
 refine .exit<|br<|bz<|bw<|aB<|.sr<|.mo rfl ?_
 refine .q (.nY (p:=lV i i) (q:=⟨#[125]⟩) (by rw[y];show _+1<=_;omega) rfl rfl) ?_
 rw[<-Ma]
 refine .dN (c0 _) (λu Tc f=>?_)
 obtain⟨c,rfl,K,b6⟩:=f
 have d9:cv c.enc:=⟨K.dv⟩
 have d7:One c.vs:=RS.aC K.ss
 have d8:One c.vc:=RS.aC K.sc
 refine .mo rfl<|.q .extract<|.q .extract ?_
 refine .bT (λb8=>?_)
 refine .bP rfl rfl<|.ag rfl<|.z ?_
 refine .dN (xy _) (λu Y f=>?_)
 obtain⟨hb,rfl,hH⟩:=f
 obtain⟨c6,d2,d3,b1,_⟩:=id hH
 have e4:PS Y (pT hb) [.bool true,c6,.int .i64 ((0:Nat):Int)]:=PS.of (E:=155) (fr:=(0,0)) (by rw[b1];simp)
 refine .dN (zO _) (λu B f=>?_)
 obtain⟨g,rfl,S⟩:=f
 obtain⟨c4,c5,c7,c9,d1,b0⟩:=S.view (R:=sg B) λp m=>m
 have e3:PS B (pT g) [.bool true,.int .u64 0,.int .u64 0,iN c4.length,c5,c7]:=⟨b0.pc⟩
 refine .ag rfl<|.ag rfl<|.zs<|.sr<|.mo rfl<|.q .eJ<|.mo rfl ?_
 refine .split (t:=62) rfl (λl=>?_) (λl=>?_)
 refine .gF l<|.gF l<|.q (.bx l) ?_
 refine .mo rfl<|.gX<|.gX<|.q .dO<|.mo rfl<|.gX<|.gX<|.gX<|.gX<|.q .dO<|.zn<|.jo ?_
 ·first|(simp at M;done)|(simp at l;done)|(simp at g11_6;done)|(simp at g11_10;done)
 refine .gT l<|.mo rfl<|.gT l<|.q (.qL rfl rfl) ?_
 refine .q (.bs l) ?_
 refine .mo rfl<|.gt rfl ?_
 refine .mo rfl<|.gt rfl ?_
 refine .q (.qL rfl rfl) ?_
 refine .q .dG<|.mo rfl<|.gt rfl ?_
 refine .mo rfl<|.gt rfl ?_
 refine .q (.aU rfl)<|.gt rfl ?_
 refine .qz (xt hb [] 0 Y hH (by simp) 0 c _ (K.mono λb o hb=>.inr (by have b5:(b,o)∈Tc:=hb;simp[b5]))) (λu I f=>?_)
 rw[b6]at f
 rw[xv,hC]at f
 obtain⟨rfl,a7,_⟩:=f
 obtain⟨e,a3,a2,O⟩:=a7 rfl
 rw[List.nil_append]at O
 obtain⟨vl,hV⟩:=O.view (R:=λb o=>(b,o)∈I\/(b,o)∈B) λp m=>.inl m
 obtain⟨e2,e5,e7,c8,d0,a9⟩:=S.view (R:=λb o=>(b,o)∈I\/(b,o)∈B) λp m=>.inr m
 have b3:fY [e] 0=some e:=by
  unfold fY
  have:hl [e] 0 1=some 0:=by
   simp only[hl,afS,a3]
   simp
  rw[show([e]:List dx).length=1 from rfl,this]
  rfl
 have T:=λ(r:Nat) (n:r<i)=>zb J Q hV a9 ⟨.refl _,List.Pairwise.nil⟩ (by decide) 0 b3 a2 a5 hm a4 rfl (λk s x=>by rw[z5]at x;cases x) n false (.inl ⟨rfl,λr _=>z5 _⟩)
 have T:=λ(r:Nat) (n:r<i)=>by
  have h:=T r n
  rw[<-pz r (by omega)]at h
  exact h
 refine .gt rfl ?_
 refine .q .eJ<|.q .dG<|.zn ?_
 refine .cond rfl (λM=>?_) λM=>?_
 ·first|(simp at M;done)|(simp at l;done)|(simp at g11_6;done)|(simp at g11_10;done)
 refine .kn<|.sr ?_
 refine .q .cD ?_
 refine .bT (λd5=>?_)
 refine .bP rfl rfl<|.zs<|.sr<|.az rfl<|.block ?_
 refine .cX [(0,_),(1,_),(5,_),(10,_),(11,_),(12,_)] (X:=Nat) (λj=>j<=i) (λj E=>(13,.int .i64 (j:Nat))::E) (λ_ G=>G) (λj=>i-j) 0 (afK _) kE.c.c.c.c.c.c.c rH ?_
 rintro r n
 refine .seq<|.sr<|.mo rfl<|.mo rfl<|.q .lss<|.zn ?_
 refine .cond rfl (λh3=>?_) λh3=>?_
 have w:r<i:=cV h3
 refine .kn<|.seq<|.block<|.seq<|.cG [8] mixed ?_
 refine .tO 0 rfl .move<|.tO 1 rfl .move<|.tO 2 rfl (.aU rfl)<|.tO 3 rfl .move<|.tO 4 rfl .move<|.tO 5 rfl .move ?_
 refine .eQ 6 rfl (.i64 ((r+1:Nat):Int) .add ⟨by omega,by omega,by omega⟩) (by kernel_rfl) ?_
 refine .tO 7 rfl (.lg (s:=mJ) r (r+1) ⟨_,rfl⟩ ⟨_,rfl⟩ (by omega) (by rw[H];omega)) ?_
 refine .sT 8 rfl ?_
 refine .bj ((T r w).weaken λb o hb=>.inr (by rcases hb with hb|hb<;>simp[hb])) (λu f=>?_)
 subst f
 refine .nil (Next.mod rfl ?_)
 refine .tK 9 rfl .move<|.tK 10 rfl .extract<|.tK 11 rfl .extract<|.tK 12 rfl .assign<|.tK 13 rfl .assign ?_
 refine RA.nil (by kernel_rfl) ?_
 refine aB<|.sr<|.mo rfl<|.mo rfl ?_
 refine .split (t:=95) rfl (λC=>?_) (λC=>?_)
 ·simp at C
 refine .gT C<|.mo rfl<|.gT C<|.q .eJ<|.q (.bs C) ?_
 refine .zn ?_
 refine .cond rfl (λh4=>?_) λh4=>?_
 ·simp at h4
 refine .skip<|bg<|aB<|.region<|.mo rfl ?_
 refine .ia (r+1) .add ?_
 refine .ag rfl<|.nil ?_
 ·exact bu (r+1) w (by omega) kE.c.c.c.c.c.c.c rH
 refine .exit<|br<|bz<|bw<|aB<|.seq<|.cG [11] mixed ?_
 refine .tO 0 rfl .move<|.tO 1 rfl (.aU rfl)<|.tO 2 rfl .move<|.tO 3 rfl .move<|.tO 4 rfl .move ?_
 refine .eQ 5 rfl (.i64 ((A+1:Nat):Int) .add ⟨by omega,by omega,by omega⟩) (by kernel_rfl) ?_
 refine .tO 6 rfl (.lg (s:=mJ) A (A+1) ⟨_,rfl⟩ ⟨_,rfl⟩ (by omega) (by rw[H];omega)) ?_
 refine .tO 7 rfl .cD ?_
 refine .tO 8 rfl .cD ?_
 refine .tO 9 rfl .cD ?_
 refine .sT 10 rfl ?_
 refine .dV (λd4=>?_)
 refine .nil (Next.sub ?_)
 refine .sT 11 rfl ?_
 refine .qz (As g ⟨[],0,0⟩ B S iW.gb (sZ) (sZ) _ [] [] [⟨true,rO A⟩] _ RS.gI RS.gI (RS.lits (enc:=cI.enc) (xs:=[⟨true,rO A⟩]) rfl (by simp[cI.enc,ax.enc]) (by simp[cI.enc,ax.enc,aC])) (λt W=>(by cases W)) (λt W=>(by cases W)) (λd hd=>by rw[afE]at hd;subst hd;rw[zf (by omega)];exact L5 A)) (λu Z f=>?_)
 obtain⟨rfl,a1⟩:=f
 rw[zf (by omega),L0 (by omega)]at a1
 obtain⟨e6,b2⟩:=O.view (R:=λb o=>(b,o)∈I\/(b,o)∈Z) λp m=>.inl m
 obtain⟨e1,vf,vr,Mf,Mr,a8⟩:=a1.view (R:=λb o=>(b,o)∈I\/(b,o)∈Z) λp m=>.inr m
 have b4:fY [e] 1=some e:=by
  unfold fY
  have:hl [e] 1 1=some 0:=by
   simp only[hl,afS,a3]
   simp
  rw[show([e]:List dx).length=1 from rfl,this]
  rfl
 have b9:(lU A).rows.length<=1000:=by show 1<=1000;decide
 have c1:∀k,∀s∈dp (lU A) (lU A).rows 1 k,s=eF:=by
  intro k s x
  rw[z6]at x
  split at x
  ·exact afE.1 x
  ·cases x
 have U:=λ(r:Nat) (n:r<i)=>zb J Q b2 a8 ⟨.refl _,List.pairwise_singleton _ _⟩ b9 1 b4 a2 a5 hm a4 rfl c1 n true (.inr ⟨rfl,A,hA,by rw[z6,afC rfl];exact afE.2 rfl⟩)
 have U:=λ(r:Nat) (n:r<i)=>by
  have h:=U r n
  rw[<-pz r (by omega)]at h
  exact h
 refine .nil (Next.mod rfl ?_)
 refine RA.nil (by kernel_rfl) ?_
 refine aB<|.seq<|.sr<|.az rfl<|.block ?_
 refine .cX [(0,_),(5,_),(10,_),(11,_),(12,_)] (X:=Nat) (λj=>j<=i) (λj E=>(16,.int .i64 (j:Nat))::E) (λ_ G=>G) (λj=>i-j) 0 (afK _) kE.c.c.c.c.c.c rH ?_
 rintro r n
 refine .seq<|.sr<|.mo rfl<|.mo rfl<|.q .lss<|.zn ?_
 refine .cond rfl (λh5=>?_) λh5=>?_
 have w:r<i:=cV h5
 refine .kn<|.seq<|.block<|.seq<|.cG [8] mixed ?_
 refine .tO 0 rfl .move<|.tO 1 rfl .move<|.tO 2 rfl (.aU rfl)<|.tO 3 rfl .move<|.tO 4 rfl .move<|.tO 5 rfl .move ?_
 refine .eQ 6 rfl (.i64 ((r+1:Nat):Int) .add ⟨by omega,by omega,by omega⟩) (by kernel_rfl) ?_
 refine .tO 7 rfl (.lg (s:=mJ) r (r+1) ⟨_,rfl⟩ ⟨_,rfl⟩ (by omega) (by rw[H];omega)) ?_
 refine .sT 8 rfl ?_
 refine .bj ((U r w).weaken λb o hb=>.inr (by rcases hb with hb|hb<;>simp[hb])) (λu f=>?_)
 subst f
 refine .nil (Next.mod rfl ?_)
 refine .tK 9 rfl .move<|.tK 10 rfl .extract<|.tK 11 rfl .extract<|.tK 12 rfl .assign<|.tK 13 rfl .assign ?_
 refine RA.nil (by kernel_rfl) ?_
 refine aB<|.sr<|.mo rfl<|.q .not<|.mo rfl ?_
 refine .split (t:=130) rfl (λD=>?_) (λD=>?_)
 ·simp at D
 refine .gT D<|.mo rfl<|.gT D<|.q .eJ<|.q (.bs D) ?_
 refine .zn ?_
 refine .cond rfl (λh6=>?_) λh6=>?_
 ·simp at h6
 refine .skip<|bg<|aB<|.region<|.mo rfl ?_
 refine .ia (r+1) .add ?_
 refine .ag rfl<|.nil ?_
 ·exact bu (r+1) w (by omega) kE.c.c.c.c.c.c rH
 refine .exit<|br<|bz<|bw<|aB<|.sr ?_
 refine .bj (Kj _) (λu f=>?_)
 obtain⟨rfl,rfl⟩:=f
 refine .az rfl ?_
 refine .ret (bm _ (.one (.tmp rfl)) (bo.none _) ?_)
 ·exact⟨rfl,rfl⟩
end Go.Proofs.YtdljmchhecoakaaGreat

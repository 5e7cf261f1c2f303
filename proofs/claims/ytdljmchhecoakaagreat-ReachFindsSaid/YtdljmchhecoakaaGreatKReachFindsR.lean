/- What the law 'ReachFinds' uses. No condition. -/
import Derived.Carry
import Derived.ChangeShapes
import Derived.Test.YtdljmchhecoakaaGreatKReachFindsO
import Derived.Test.YtdljmchhecoakaaGreatKReachFindsP
import Derived.Test.YtdljmchhecoakaaGreatKReachFindsQ
namespace Go.Proofs.YtdljmchhecoakaaGreat
section
set_option linter.unusedVariables false
set_option maxRecDepth 4000
open Go.ChangeShapes
theorem Oc{H:Type}{enc:TypeId×Value->H}{P:Program}{w:World}{base:Nat}{b:Nat->Bool}{a:Bool}{t i j k l:TypeId}{f:Array Value}{g:List (DataW H)}{ps:List MemPlace}(h:DataW.TrodAll enc P w base b a [t,i,j,k,l] f.toList g ps):
  ∃v v' v'' v3 v4 d d' d'' d3 d4 p p' p'' p3 p4,f= #[v,v',v'',v3,v4]/\g=[d,d',d'',d3,d4]/\ps=p++(p'++(p''++(p3++p4)))/\DataW.Trod enc P w base b a t v d p/\DataW.Trod enc P w base b a i v' d' p'/\DataW.Trod enc P w base b a j v'' d'' p''/\DataW.Trod enc P w base b a k v3 d3 p3/\DataW.Trod enc P w base b a l v4 d4 p4:=by
 obtain⟨v,r,d,c,p,e,m,rfl,rfl,n,h⟩:=trodAll_cons h
 obtain⟨v',r,d',c,p',e,rfl,rfl,rfl,o,h⟩:=trodAll_cons h
 obtain⟨v'',r,d'',c,p'',e,rfl,rfl,rfl,q,h⟩:=trodAll_cons h
 obtain⟨v3,r,d3,c,p3,e,rfl,rfl,rfl,s,h⟩:=trodAll_cons h
 obtain⟨v4,r,d4,c,p4,e,rfl,rfl,rfl,u,h⟩:=trodAll_cons h
 obtain⟨rfl,rfl,rfl⟩:=trodAll_nil h
 exact⟨v,v',v'',v3,v4,d,d',d'',d3,d4,p,p',p'',p3,p4,by rw[<-Array.toArray_toList (xs:=f),m],rfl,by simp,n,o,q,s,u⟩
end
open Tryz (prog)
set_option linter.unusedVariables false
set_option linter.unusedSimpArgs false
set_option maxRecDepth 8000
structure sh(t:ByteArray)(L:List eu)(C:List Sp):Prop where
 sz:t.size<=16384
 pl:Pl t
 lx:oV t=some L
 ok:∀x∈L,fu x
 len:L.length<=1000000
 cf:jL isWord (L.length+1) [] (L,false)=(C,([],false))
 im:(⟨C,[]⟩:Cf).im isWord=false
 num:((⟨C,[]⟩:Cf).numbers isWord cX).1=0
 fW:C.length<=1000/\∀y∈C,y.bI.length<=1000
def jU(t:ByteArray):List eu:=(oV t).getD []
def hY(t:ByteArray):List Sp:=(jL isWord ((jU t).length+1) [] (jU t,false)).1
theorem sh.of{t:ByteArray}(b:t.size<=16384)(c:(List.range t.size).all (λk=>decide (eD t k≠34)&&decide (eD t k≠47)&&decide (eD t k≠45))=true)(d:(oV t).isSome=true)(e:(jU t).all (λx=>decide (fu x))=true)(f:(jU t).length<=1000000)
  (g:(jL isWord ((jU t).length+1) [] (jU t,false)).2.1.isEmpty=true)(h:(jL isWord ((jU t).length+1) [] (jU t,false)).2.2=false)(i:(⟨hY t,[]⟩:Cf).im isWord=false)(j:((⟨hY t,[]⟩:Cf).numbers isWord cX).1=0)(a:(decide ((hY t).length<=1000)&&(hY t).all λy=>decide (y.bI.length<=1000))=true):sh t (jU t) (hY t):=by
 refine⟨b,λk m=>?_,?_,λx o=>cv (List.all_eq_true.1 e x o),f,?_,i,j,?_⟩
 ·have:=List.all_eq_true.1 c k (List.mem_range.2 m)
  simp only[Bool.and_eq_true,decide_eq_true_eq]at this
  exact⟨this.1.1,this.1.2,this.2⟩
 ·obtain⟨l,n⟩:=Option.isSome_iff_exists.1 d
  unfold jU
  rw[n];rfl
 ·refine Prod.ext rfl (Prod.ext ?_ h)
  exact List.isEmpty_iff.1 g
 ·simp only[Bool.and_eq_true,decide_eq_true_eq]at a
  exact⟨a.1,λy p=>cv (List.all_eq_true.1 a.2 y p)⟩
def t20:ByteArray:=⟨#[110,97,109,101,115,112,97,99,101,32,100,32,123,32,114,101,108,97,116,105,111,110,32,97,58,32,117,115,101,114,59,32,114,101,108,97,116,105,111,110,32,98,32,61,32,97,59,32,125]⟩
theorem N2:sh t20 (jU t20) (hY t20):=.of (by decide+kernel) (by decide+kernel) (by decide+kernel) (by decide+kernel) (by decide+kernel) (by decide+kernel) (by decide+kernel) (by decide+kernel) (by decide+kernel) (by decide+kernel)
def li:aU:=⟨⟨#[100]⟩,⟨#[120]⟩,⟨#[98]⟩⟩
theorem tI(num:List Nat):(opened ⟨hY t20,[]⟩ num (λ_=>[]) li 2).1.length=2:=by kernel_rfl
theorem wj(num:List Nat):(opened ⟨hY t20,[]⟩ num (λ_=>[]) li 2).2=1:=by kernel_rfl
theorem Lm(num:List Nat):(opened ⟨hY t20,[]⟩ num (λ_=>[]) li 1).1.length=2:=by kernel_rfl
theorem A8(num:List Nat):gl ⟨hY t20,[]⟩ num (λ_=>[]) li 2:=⟨by rw[tI];exact Nat.le_refl _,λj a=>by
 rcases j with _|_|j
 ·show 0<(opened ⟨hY t20,[]⟩ num (λ_=>[]) li 0).1.length;simp[opened]
 ·rw[Lm];decide
 ·omega⟩
theorem J0{e:dT}{num:List Nat}(f:e.ll.map (·.2)=rows e.c.plain.aR num)(d:e.c.plain.aR.length<=1000/\∀y∈e.c.plain.aR,y.bI.length<=1000):e.ll.length<=1000000/\∀q∈e.ll,q.2.length<=1000000:=by
 have l:e.ll.length=e.c.plain.aR.length:=by rw[<-lC e.c.plain.aR num, <-f,List.length_map]
 refine⟨by have:=d.1;omega,λq j=>?_⟩
 have k:q.2∈rows e.c.plain.aR num:=by rw[<-f];exact List.mem_map.2 ⟨q,j,rfl⟩
 obtain⟨i,a,g⟩:=List.mem_iff_getElem.1 k
 rw[lC]at a
 have b:=mZ (n:=num) (bB a)
 rw[bB (by rw[lC];exact a),g]at b
 have h:=Option.some.inj b
 rw[h,List.length_take]
 have:=d.2 _ (List.getElem_mem a)
 omega
theorem A0(num:List Nat):ke ⟨hY t20,[]⟩ num (λ_=>[]) li 9 true 2=((opened ⟨hY t20,[]⟩ num (λ_=>[]) li 2).1,1,0):=by
 unfold ke
 rw[tI,wj]
 rfl
theorem xS(R:aB):Spec prog 33 [] R [] λu H'=>u=.bool true/\H'=[]:=by
 have d:=N2
 have A:=d.num
 have a1:=d.fW
 obtain⟨num,a3,hm⟩:=yn A
 have H:=A8 num
 have X:=A0 num
 have a4:=tI num
 have b3:=wj num
 have a2:=λi (h:i<=2)=>tQ (c:=⟨hY t20,[]⟩) (num:=num) (sub:=λ_=>[]) (k:=li) h
 have a5:=λR=>Lz (R:=R) t20 d.sz d.pl (jU t20) d.lx d.ok d.len (hY t20) d.cf d.im
 generalize hY t20=C at *
 refine Spec.body Tryz.func33 rfl Tryz.results33 Tryz.ntmps33 rfl ?_
 refine .sr<|.ag rfl<|.z ?_
 refine .da (a5 _) (λu M a=>?_)
 obtain⟨c,rfl,m,W⟩:=a
 have b7:bW c.enc:=⟨m.cH⟩
 have b5:One c.vs:=RS.ap m.ss
 have b6:One c.vc:=RS.ap m.sc
 refine .mo rfl<|.q .extract<|.q .extract ?_
 refine .bN (λb1=>?_)
 refine .bG rfl rfl<|.ag rfl<|.z ?_
 refine .da (xu _) (λu r a=>?_)
 obtain⟨hb,rfl,B⟩:=a
 obtain⟨a8,a9,b0,T,_⟩:=id B
 have c0:PS r (pT hb) [.bool true,a8,.int .i64 ((0:Nat):Int)]:=PS.of (E:=155) (fr:=(0,0)) (by rw[T];simp)
 refine .ag rfl<|.zs<|.sr<|.mo rfl<|.q (.Bb rfl rfl) ?_
 refine .mo rfl<|.gt rfl ?_
 refine .mo rfl<|.gt rfl ?_
 refine .q (.aI rfl)<|.gt rfl ?_
 refine .vE (xo hb [] 0 r B (by simp) 0 c _ (m.mono λb o hb=>.inr (by have V:(b,o)∈M:=hb;simp[V]))) (λu s a=>?_)
 rw[W]at a
 rw[xr,A]at a
 obtain⟨rfl,O,_⟩:=a
 obtain⟨e,a0,l,D⟩:=O rfl
 rw[List.nil_append]at D
 refine .gt rfl ?_
 refine .q .dQ<|.q .cK<|.zn ?_
 refine .cond rfl (λx=>?_) λx=>?_
 ·simp at x
 refine .kn<|.sr<|.mo rfl ?_
 refine .da (zt _) (λu v a=>?_)
 obtain⟨g,rfl,Q⟩:=a
 refine .q .cO ?_
 obtain⟨vl,F⟩:=D.view (R:=λb o=>(b,o)∈s\/(b,o)∈v) λp n=>.inl n
 obtain⟨b9,vf,vr,Mf,Mr,S⟩:=Q.view (R:=λb o=>(b,o)∈s\/(b,o)∈v) λp n=>.inr n
 have U:jk [e] 0=some e:=by
  unfold jk
  have:hl [e] 0 1=some 0:=by
   simp only[hl,List.getElem?_cons_zero,a0]
   simp
  rw[show([e]:List dT).length=1 from rfl,this]
  rfl
 have Y:=F.all e (by simp)
 have J:e.ll.map (·.2)=rows e.c.plain.aR num:=by rw[Y.eq,l,a3]
 have a7:(λ_=>[])=λk:aU=>if scan (⟨[],0,0⟩:cU) 0 then(([]:List bk).filter λy=>y.there 0&&decide (y.t.cE=k)).map (·.t.sub)else []:=by
  funext k;simp
 have G:=vY F S (L:=[]) ⟨.refl _,List.Pairwise.nil⟩ (by simp) 0 e U num (by rw[l];exact hm) J ⟨by omega,by simp⟩ (λe' w=>by
  rw[List.mem_singleton]at w
  subst w
  exact J0 J (by rw[l];exact a1)) li 9 (by omega) _ a7 (λi I=>by
   rw[l]at I⊢
   have N:=tP H I
   have h3:=a2 i N
   omega) 2 (by rw[l];exact H)
 rw[l,show scan (⟨[],0,0⟩:cU) 0=true by decide,X]at G
 refine .da ((sG G).weaken λb o hb=>.inr (by rcases hb with hb|hb<;>simp[hb])) (λu T6 a=>?_)
 obtain⟨vp,ps,rfl,K,b2,Z⟩:=a
 have b8:=K.ap
 have a6:ps.length=2:=by rw[<-List.length_map aJ.plain,Z];exact a4
 refine .mo rfl<|.q .extract<|.q .extract ?_
 refine .bN (λb4=>?_)
 refine .bG rfl rfl<|.ag rfl<|.z<|.mo rfl<|.q .bO<|.mo rfl ?_
 refine .split (t:=28) rfl (λf=>?_) (λf=>?_)
 refine .gT f<|.fa rfl<|.gT f<|.lo rfl<|.gT f<|.q (.bD K) ?_
 rw[a6]
 refine .gT f<|.q .bO<|.q (.aO f) ?_
 refine .mo rfl ?_
 refine .split (t:=34) rfl (λj=>?_) (λj=>?_)
 refine .gT j<|.fa rfl<|.gT j<|.lo rfl<|.gT j<|.q .bO<|.q (.aO j) ?_
 refine .az rfl ?_
 refine .ret (bj _ (.one (.tmp rfl)) (bf.none _) ?_)
 ·exact⟨rfl,rfl⟩
 ·simp at j
 ·simp at f
theorem pF{R:aB}{a H1:aN}{T:aA}(h:∀p:mw,p∈a.flatten\/p∈T->p∈H1.flatten){b:Nat}{o:Obj}(hb:Rx R a b o\/(b,o)∈T):Rx R H1 b o:=by
 rcases hb with(hb|hb)|hb
 ·exact .inl hb
 ·exact .inr (h _ (.inl hb))
 ·exact .inr (h _ (.inr hb))
theorem Nd.xp(n:Nd):dY [.i .i64,.s,.s,.i .i64,.i .i64] n.enc:=⟨rfl,trivial,trivial,rfl,rfl,trivial⟩
theorem Nd.same(n:Nd):dU n.enc n.enc=true:=by
 simp[Nd.enc,dU,kC]
theorem MC(p:aJ)(R:aB)(a:p.is R):Spec prog 37 [.agg p.enc.toArray] R [] λu H'=>u=.agg p.enc.toArray/\H'=[]:=by
 have y:bW p.enc:=⟨a.cH⟩
 have b:=a.n.ap
 have c:=a.u.ap
 have d:=a.l.rs.ap
 obtain⟨A,x,m,h,o,j,k,f,B⟩:=p
 simp only at b c d
 have g:RS R 5 Nd.enc m h:=a.n
 have i:RS R 1 gG o j:=a.u
 have e:RS R 1 fe k f:=a.l.rs
 obtain⟨D,v,rfl⟩:=g.val
 obtain⟨E,w,rfl⟩:=i.val
 obtain⟨C,t,rfl⟩:=e.val
 refine Spec.body Tryz.func37 rfl Tryz.results37 Tryz.ntmps37 rfl ?_
 refine .sr ?_
 refine .bX rfl (λr=>?_)
 refine .bN (λs=>?_)
 refine .z<|.fa rfl<|.q (.loadT rfl) ?_
 refine .fa rfl<|.lo rfl<|.fa rfl<|.lo rfl<|.fa rfl<|.lo rfl<|.fa rfl<|.lo rfl<|.fa rfl<|.lo rfl<|.fa rfl<|.lo rfl ?_
 refine .q .cO ?_
 refine .bG rfl rfl<|.zn ?_
 refine .ret (bj _ (.one (.ei rfl rfl)) (bf.none _) ?_)
 ·exact⟨rfl,rfl⟩
theorem MF(p q:aJ)(R:aB)(A:p.is R)(B:q.is R)(S:p.plain=q.plain):Spec prog 36 [.agg p.enc.toArray,.agg q.enc.toArray] R [] λu H'=>u=.bool true/\H'=[]:=by
 have b9:bW p.enc:=⟨A.cH⟩
 have c0:bW q.enc:=⟨B.cH⟩
 obtain⟨k0,fo,vn,F,vu,J,vl,o,nm⟩:=p
 obtain⟨k1,b4,b0,c9,b1,e2,a9,U,d0⟩:=q
 unfold aJ.plain at S
 simp only[cG.mk.injEq]at S
 obtain⟨rfl,rfl,rfl,rfl,rfl,a3⟩:=S
 have D:RS R 5 Nd.enc vn F:=A.n
 have V:RS R 5 Nd.enc b0 F:=B.n
 have I:RS R 1 gG vu J:=A.u
 have W:RS R 1 gG b1 J:=B.u
 have k:RS R 1 fe vl o:=A.l.rs
 have M:RS R 1 fe a9 U:=B.l.rs
 have Y:=A.l.all
 have Z:=B.l.all
 simp only at Y Z
 have a7:U.length=o.length:=by have:=congrArg List.length a3;rw[List.length_map,List.length_map]at this;exact this.symm
 have a8:∀(i:Nat) (v:Value) (r:List Nat),o[i]? =some (v,r)->∃K,U[i]? =some (K,r):=λi v r h=>by
  have y:=congrArg (λl=>l[i]?) a3
  simp only[List.getElem?_map,h,Option.map_some]at y
  obtain⟨⟨K,Q⟩,L,h3⟩:=Option.map_eq_some_iff.1 y.symm
  simp only at h3
  subst h3
  exact⟨K,L⟩
 have b7:=D.ap
 have b8:=V.ap
 have c3:=I.ap
 have c4:=W.ap
 have b5:=k.ap
 have b6:=M.ap
 have c6:=D.le
 have c8:=I.le
 have c5:=k.le
 obtain⟨O,N,rl⟩:=k0
 refine Spec.body Tryz.func36 rfl Tryz.results36 Tryz.ntmps36 rfl ?_
 refine .sr ?_
 refine .bX rfl (λb2=>?_)
 refine .bX rfl (λb3=>?_)
 refine .ag rfl<|.zs<|.sr<|.fa rfl<|.q (.loadT rfl) ?_
 refine .fa rfl<|.q (.loadT rfl) ?_
 refine .q (.cast (.yg (xs:=[.string O,.string N]) (ys:=[.string O,.string N]) rfl rfl (Ty.kinds ⟨O,N⟩) (Ty.kinds ⟨O,N⟩)) (show _=Value.bool false by rw[Ref.eqv];simp)) ?_
 refine .mo rfl ?_
 refine .split (t:=14) rfl (λg=>?_) (λg=>?_)
 ·cases g
 refine .gT g<|.fa rfl<|.gT g<|.lo rfl<|.gT g<|.fa rfl<|.gT g<|.lo rfl<|.gT g<|.q .ff<|.q (.aK g) ?_
 refine .mo rfl ?_
 refine .split (t:=21) rfl (λe=>?_) (λe=>?_)
 ·simp at e
 refine .gT e<|.fa rfl<|.gT e<|.lo rfl<|.gT e<|.fa rfl<|.gT e<|.lo rfl<|.gT e<|.q .K3<|.q (.aK e) ?_
 refine .mo rfl ?_
 refine .split (t:=28) rfl (λf=>?_) (λf=>?_)
 ·simp at f
 refine .gT f<|.fa rfl<|.gT f<|.lo rfl<|.gT f<|.fa rfl<|.gT f<|.lo rfl<|.gT f<|.q .dQ<|.q (.aK f) ?_
 refine .mo rfl ?_
 refine .split (t:=35) rfl (λa=>?_) (λa=>?_)
 ·simp at a
 refine .gT a<|.fa rfl<|.gT a<|.lo rfl<|.gT a<|.q (.bD D) ?_
 refine .gT a<|.fa rfl<|.gT a<|.lo rfl<|.gT a<|.q (.bD V) ?_
 refine .gT a<|.q .dQ<|.q (.aK a) ?_
 refine .mo rfl ?_
 refine .split (t:=44) rfl (λb=>?_) (λb=>?_)
 ·simp at b
 refine .gT b<|.fa rfl<|.gT b<|.lo rfl<|.gT b<|.q (.bD I) ?_
 refine .gT b<|.fa rfl<|.gT b<|.lo rfl<|.gT b<|.q (.bD W) ?_
 refine .gT b<|.q .dQ<|.q (.aK b) ?_
 refine .mo rfl ?_
 refine .split (t:=53) rfl (λd=>?_) (λd=>?_)
 ·simp at d
 refine .gT d<|.fa rfl<|.gT d<|.lo rfl<|.gT d<|.q (.bD k) ?_
 refine .gT d<|.fa rfl<|.gT d<|.lo rfl<|.gT d<|.q (.bD M) ?_
 rw[a7]
 refine .gT d<|.q .dQ<|.q (.aK d) ?_
 refine .zn ?_
 refine .cond rfl (λy=>?_) λy=>?_
 ·simp at y
 refine .kn<|.seq<|.sr<|.az rfl<|.block ?_
 refine .cq [(2,_),(3,_)] (X:=Nat) (λi=>i<=F.length) (λi E=>(5,iN i)::E) (λ_ G=>G) (λi=>F.length-i) 0 (Nat.zero_le _) kE.c.c.c rH ?_
 rintro i hi
 refine .seq<|.sr<|.mo rfl<|.fa rfl<|.lo rfl<|.q (.bD D) ?_
 refine .q .lss<|.zn ?_
 refine .cond rfl (λL=>?_) λL=>?_
 have a4:i<F.length:=cg L
 obtain⟨n,hn⟩:=bU a4
 refine .kn<|.seq<|.block<|.seq ?_
 refine .fq mixed (by kernel_rfl) ?_
 refine .fa rfl<|.lo rfl<|.mo rfl ?_
 refine .bA i D hn (λd8=>?_)
 refine .q (.aI rfl)<|.fa rfl<|.lo rfl<|.mo rfl ?_
 refine .bA i V hn (λd9=>?_)
 refine .q (.aI rfl) ?_
 refine .q (.cast (.yg (xs:=n.enc) (ys:=n.enc) rfl rfl n.xp n.xp) (show _=Value.bool false by rw[Nd.same];rfl)) ?_
 refine .zn<|.cF<|.skip<|ba<|aw<|.region<|.mo rfl ?_
 refine .ia (i+1) .add ?_
 refine .ag rfl<|.nil ?_
 ·exact bi (i+1) a4 (by omega) kE.c.c.c rH
 refine .exit<|bq<|bz<|br<|aw<|.seq<|.sr<|.az rfl<|.block ?_
 refine .cq [(2,_),(3,_)] (X:=Nat) (λi=>i<=J.length) (λi E=>(6,iN i)::E) (λ_ G=>G) (λi=>J.length-i) 0 (Nat.zero_le _) kE.c.c.c rH ?_
 rintro j hj
 refine .seq<|.sr<|.mo rfl<|.fa rfl<|.lo rfl<|.q (.bD I) ?_
 refine .q .lss<|.zn ?_
 refine .cond rfl (λh4=>?_) λh4=>?_
 have a2:j<J.length:=cg h4
 obtain⟨s,hs⟩:=bU a2
 refine .kn<|.seq<|.block<|.seq ?_
 refine .fq mixed (by kernel_rfl) ?_
 refine .fa rfl<|.lo rfl<|.mo rfl ?_
 refine .bA j I hs (λe0=>?_)
 refine .lo rfl<|.fa rfl<|.lo rfl<|.mo rfl ?_
 refine .bA j W hs (λe1=>?_)
 refine .lo rfl<|.q .ff<|.zn ?_
 refine .cond rfl (λh5=>?_) λh5=>?_
 ·simp at h5
 refine .skip<|ba<|aw<|.region<|.mo rfl ?_
 refine .ia (j+1) .add ?_
 refine .ag rfl<|.nil ?_
 ·exact bi (j+1) a2 (by omega) kE.c.c.c rH
 refine .exit<|bq<|bz<|br<|aw<|.seq<|.sr<|.az rfl<|.block ?_
 refine .cq [(2,_),(3,_)] (X:=Nat) (λi=>i<=o.length) (λi E=>(7,iN i)::E) (λ_ G=>G) (λi=>o.length-i) 0 (Nat.zero_le _) kE.c.c.c rH ?_
 rintro m hm
 refine .seq<|.sr<|.mo rfl<|.fa rfl<|.lo rfl<|.q (.bD k) ?_
 refine .q .lss<|.zn ?_
 refine .cond rfl (λh6=>?_) λh6=>?_
 have a5:m<o.length:=cg h6
 obtain⟨⟨v0,w⟩,C⟩:=bU a5
 obtain⟨K,T⟩:=a8 m v0 w C
 have H:RS R 1 dc v0 w:=Y _ (aX C)
 have Q:RS R 1 dc K w:=Z _ (aX T)
 have c1:=H.ap
 have c2:=Q.ap
 have c7:=H.le
 refine .kn<|.seq<|.block<|.seq<|.seq ?_
 refine .fq mixed (by kernel_rfl) ?_
 refine .fa rfl<|.lo rfl<|.mo rfl ?_
 refine .bA m k C (λd1=>?_)
 refine .lo rfl<|.q (.bD H) ?_
 refine .fa rfl<|.lo rfl<|.mo rfl ?_
 refine .bA m M T (λd2=>?_)
 refine .lo rfl<|.q (.bD Q) ?_
 refine .q .dQ<|.zn ?_
 refine .cond rfl (λh7=>?_) λh7=>?_
 ·simp at h7
 refine .kn<|.sr<|.az rfl<|.block ?_
 refine .cq [(2,_),(3,_),(7,_)] (X:=Nat) (λi=>i<=w.length) (λi E=>(8,iN i)::E) (λ_ G=>G) (λi=>w.length-i) 0 (Nat.zero_le _) kE.c.c.c.c rH ?_
 rintro z hz
 refine .seq<|.sr<|.mo rfl<|.fa rfl<|.lo rfl<|.mo rfl ?_
 refine .bA m k C (λd3=>?_)
 refine .lo rfl<|.q (.bD H) ?_
 refine .q .lss<|.zn ?_
 refine .cond rfl (λh8=>?_) λh8=>?_
 have a6:z<w.length:=cg h8
 obtain⟨x,hx⟩:=bU a6
 refine .kn<|.seq<|.block<|.seq ?_
 refine .fq mixed (by kernel_rfl) ?_
 refine .fa rfl<|.lo rfl<|.mo rfl ?_
 refine .bA m k C (λd4=>?_)
 refine .lo rfl<|.mo rfl ?_
 refine .bA z H hx (λd5=>?_)
 refine .lo rfl<|.fa rfl<|.lo rfl<|.mo rfl ?_
 refine .bA m M T (λd6=>?_)
 refine .lo rfl<|.mo rfl ?_
 refine .bA z Q hx (λd7=>?_)
 refine .lo rfl<|.q .dQ<|.zn ?_
 refine .cond rfl (λh9=>?_) λh9=>?_
 ·simp at h9
 refine .skip<|ba<|aw<|.region<|.mo rfl ?_
 refine .ia (z+1) .add ?_
 refine .ag rfl<|.nil ?_
 ·exact bi (z+1) a6 (by omega) kE.c.c.c.c rH
 refine .exit<|bq<|bz<|br<|ba<|aw<|.region<|.mo rfl ?_
 refine .ia (m+1) .add ?_
 refine .ag rfl<|.nil ?_
 ·exact bi (m+1) a5 (by omega) kE.c.c.c rH
 refine .exit<|bq<|bz<|br<|aw<|.sr<|.az rfl ?_
 refine .ret (bj _ (.one (.tmp rfl)) (bf.none _) ?_)
 ·exact⟨rfl,rfl⟩
theorem LY(w:kA)(R:aB)(h:w.is R)(k:aU)(rev:Int)(hr:0<=rev)(b:Int)(a3:b<=9223372036854775807):
  Spec prog 4 [.agg w.enc.toArray,.agg [.string k.os,.string k.oi].toArray,.string k.rel,.int .u64 rev,.int .i64 b] R [] λv H'=>v=.bool true/\H'=[]:=by
 have a6:=KP w R h
 have i1:One w.c.vs:=RS.ap h.c.ss
 have i2:One w.c.vc:=RS.ap h.c.sc
 have i3:=h.rs.ap
 have iw:bW w.enc:=⟨λu d=>by
  simp only[kA.enc,List.mem_cons,List.not_mem_nil,or_false]at d
  rcases d with rfl|rfl|rfl
  ·exact i1.h
  ·exact i2.h
  ·exact i3.h⟩
 refine Spec.body Tryz.func4 rfl Tryz.results4 Tryz.ntmps4 rfl ?_
 refine .sr ?_
 refine .bX rfl (λb5=>?_)
 refine .bX rfl (λb6=>?_)
 refine .ag rfl<|.z<|.q (.aI rfl) ?_
 refine .da (a6.weaken cQ) (λu Tw d=>?_)
 obtain⟨c,p1,p2,p3,Z,rfl,c8,c9,d0,A,a4,U,hW⟩:=d
 have c3:One c.vs:=RS.ap A.ss
 have c4:One c.vc:=RS.ap A.sc
 have c5:bW c.enc:=⟨A.cH⟩
 refine .mo rfl<|.q .extract<|.q .extract<|.q .extract<|.q .extract<|.q .extract ?_
 refine .bN (λb9=>?_)
 refine .ag rfl<|.ag rfl<|.bG rfl rfl<|.ag rfl<|.ag rfl<|.zs<|.sr<|.mo rfl<|.q .not<|.zn ?_
 refine .cond rfl (λj=>?_) λj=>?_
 have a8:Z=false:=by simpa using j
 have a7:((gC w.c.plain).numbers isWord cX).1≠0:=by rw[a8]at U;exact bC U.symm
 refine .sr<|.q (.aI rfl) ?_
 refine .da (uj c _ (A.mono λb o a=>a.elim .inl λa=>.inr (by simp[a]))) (λu Tn d=>?_)
 obtain⟨wn,d4,rfl,a0,_⟩:=d
 rw[a4]
 have c6:One wn:=a0.rs.ap
 refine .mo rfl<|.q .extract<|.q .extract<|.ag rfl<|.ag rfl<|.z<|.mo rfl<|.q .dQ<|.mo rfl ?_
 refine .split (t:=40) rfl (λy=>?_) (λy=>?_)
 refine .gT y ?_
 refine .bd (xS _) (λu d=>?_)
 subst d
 refine .q (.aO y) ?_
 refine .az rfl ?_
 refine .ret (aF (bj _ (.one (.tmp rfl)) (bf.none _) ?_))
 ·exact⟨rfl,rfl⟩
 ·simp[a7]at y
 have a9:Z=true:=by simpa using j
 subst a9
 obtain⟨a,g,x,S,b2,L,rfl,rfl,rfl,F⟩:=hW rfl
 obtain⟨N,M⟩:=F.fin rev k
 obtain⟨D,hD⟩:∃D,D=ke (gC w.c.plain) b2 (iD S L rev) k b (scan S rev) N:=⟨_,rfl⟩
 have Y:=λR' C=>(F.mono (R':=R') C).ke rev hr k b a3 M
 have W:=λR' C=>(F.mono (R':=R') C).LW rev k b M
 rw[<-hD]at W Y
 refine .kn<|.sr<|.mo rfl<|.mo rfl<|.mo rfl<|.q (.aI rfl)<|.mo rfl<|.mo rfl ?_
 refine .da (sG (Y _ λb o a=>a.elim .inl λa=>.inr (by simp[a]))) (λu b7 d=>?_)
 obtain⟨vp,s,rfl,r,a1,O⟩:=d
 have d2:=r.ap
 refine .mo rfl<|.q .extract<|.q .extract ?_
 refine .bN (λc0=>?_)
 refine .bG rfl rfl<|.ag rfl<|.z<|.q (.aI rfl)<|.mo rfl<|.mo rfl<|.q (.aI rfl)<|.mo rfl<|.mo rfl ?_
 refine .da (sG (W _ λb o a=>a.elim .inl λa=>.inr (by simp[a]))) (λu b8 d=>?_)
 obtain⟨vq,I,rfl,B,a2,Q⟩:=d
 have d3:=B.ap
 have c2:=r.le
 have b1:∀(i:Nat) (p q:aJ),s[i]? =some p->I[i]? =some q->p.plain=q.plain:=λi p q m n=>by
  have j:=congrArg (λl=>l[i]?) (O.trans Q.symm)
  simp only[List.getElem?_map,m,n,Option.map_some,Option.some.injEq]at j
  exact j
 have a5:I.length=s.length:=by have:=congrArg List.length (O.trans Q.symm);rw[List.length_map,List.length_map]at this;exact this.symm
 refine .mo rfl<|.q .extract<|.q .extract ?_
 refine .bN (λc1=>?_)
 refine .bG rfl rfl<|.ag rfl<|.zs<|.sr<|.mo rfl<|.mo rfl<|.q .dQ<|.mo rfl ?_
 refine .split (t:=66) rfl (λe=>?_) (λe=>?_)
 ·simp at e
 refine .gT e<|.fa rfl<|.gT e<|.lo rfl<|.gT e<|.q (.bD r) ?_
 refine .gT e<|.fa rfl<|.gT e<|.lo rfl<|.gT e<|.q (.bD B) ?_
 rw[a5]
 refine .gT e<|.q .dQ<|.q (.aK e) ?_
 refine .mo rfl ?_
 refine .split (t:=75) rfl (λf=>?_) (λf=>?_)
 ·simp at f
 refine .gT f<|.fa rfl<|.gT f<|.lo rfl<|.gT f<|.fa rfl<|.gT f<|.lo rfl<|.gT f<|.q .dQ<|.q (.aK f) ?_
 refine .zn ?_
 refine .cond rfl (λJ=>?_) λJ=>?_
 ·simp at J
 refine .kn<|.seq<|.sr<|.az rfl<|.block ?_
 refine .cq [(18,_),(20,_)] (X:=Nat) (λi=>i<=s.length) (λi E=>(22,iN i)::E) (λ_ G=>G) (λi=>s.length-i) 0 (Nat.zero_le _) kE.c.c.c rH ?_
 rintro i hi
 refine .seq<|.sr<|.mo rfl<|.fa rfl<|.lo rfl<|.q (.bD r) ?_
 refine .q .lss<|.zn ?_
 refine .cond rfl (λK=>?_) λK=>?_
 have T:i<s.length:=cg K
 obtain⟨p,m⟩:=bU T
 obtain⟨q,n⟩:∃p,I[i]? =some p:=⟨_,bB (by omega)⟩
 have H:=a1 p (aX m)
 have V:=a2 q (aX n)
 have b0:=b1 i p q m n
 have c7:bW p.enc:=⟨H.cH⟩
 have d1:bW q.enc:=⟨V.cH⟩
 have b3:=r.pc m
 have b4:=B.pc n
 refine .kn<|.seq<|.block<|.seq<|.dt [] mixed ?_
 refine .tO 0 rfl (.fieldAddr rfl)<|.tO 1 rfl (.cI rfl)<|.tO 2 rfl .move ?_
 refine .tO 3 rfl (.bA i r m rfl rfl rfl) ?_
 refine .gM 4 rfl (.aI (rc:=⟨b3.mono λb o a=>pF (by simp only[List.flatten_cons,List.mem_append];grind) a⟩) rfl) (by kernel_rfl) ?_
 refine .tO 6 rfl (.fieldAddr rfl)<|.tO 7 rfl (.cI rfl)<|.tO 8 rfl .move ?_
 refine .tO 9 rfl (.bA i B n rfl rfl rfl) ?_
 refine .gM 10 rfl (.aI (rc:=⟨b4.mono λb o a=>pF (by simp only[List.flatten_cons,List.mem_append];grind) a⟩) rfl) (by kernel_rfl) ?_
 refine .sT 5 rfl ?_
 refine .bd (MC p _ (H.mono λb o a=>pF (by simp only[List.flatten_cons,List.mem_append];grind) a)) (λu d=>?_)
 subst d
 refine .nil (Next.sub ?_)
 refine .sT 11 rfl ?_
 refine .bd (MF p q _ (H.mono λb o a=>pF (by simp only[List.flatten_cons,List.mem_append];grind) a) (V.mono λb o a=>pF (by simp only[List.flatten_cons,List.mem_append];grind) a) b0) (λu d=>?_)
 subst d
 refine .nil (Next.sub ?_)
 refine .tO 12 rfl .not ?_
 refine RA.nil (by kernel_rfl) ?_
 refine aw<|.cF<|.skip<|ba<|aw<|.region<|.mo rfl ?_
 refine .ia (i+1) .add ?_
 refine .ag rfl<|.nil ?_
 ·exact bi (i+1) T (by omega) kE.c.c.c rH
 refine .exit<|bq<|bz<|br<|aw<|.sr ?_
 refine .bd (xS _) (λu d=>?_)
 subst d
 refine .az rfl ?_
 refine .ret (bj _ (.one (.tmp rfl)) (bf.none _) ?_)
 ·exact⟨rfl,rfl⟩
end Go.Proofs.YtdljmchhecoakaaGreat

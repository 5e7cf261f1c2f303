/- What the law 'SolveA' uses. No condition. -/
import Derived.Test.YtdljmchhecoakaaGreatKSolveAA
import Derived.Test.YtdljmchhecoakaaGreatKSolveAB
import Derived.Test.YtdljmchhecoakaaGreatKSolveAD
import Derived.Test.YtdljmchhecoakaaGreatKSolveAE
import Derived.Test.YtdljmchhecoakaaGreatKSolveAH
import Derived.Test.YtdljmchhecoakaaGreatKSolveAI
import Derived.Test.YtdljmchhecoakaaGreatKSolveAJ
import Derived.Test.YtdljmchhecoakaaGreatKSolveAL
import Derived.Test.YtdljmchhecoakaaGreatKSolveAN
namespace Go.Proofs.YtdljmchhecoakaaGreat
open Tryz (prog)
set_option linter.unusedVariables false
set_option linter.unusedSimpArgs false
set_option maxRecDepth 4000
def nw(t:aC):ByteArray:=if t.us=⟨#[]⟩then⟨#[49]⟩else⟨#[48]⟩
def gG(t:aC):List ByteArray:=[t.os,t.oi,t.rel,nw t,t.us,t.ss,t.si,t.sr]
theorem Ra(a b:aC):fF (nw a) (nw b)=kK (kU a.us) (kU b.us):=by
 unfold nw kU
 split<;>split<;>decide
theorem SC(a b:aC):kW a b=gN (List.zipWith fF (gG a) (gG b)):=by
 unfold kW gG
 simp only[List.zipWith_cons_cons,List.zipWith_nil_left]
 rw[Ra]
theorem A5:∀{X Y:List ByteArray} {i:Nat} {x y:ByteArray},X.take i=Y.take i->X[i]? =some x->Y[i]? =some y->x≠y->gN (List.zipWith fF X Y)=fF x y
 |x0::X,y0::Y,0,x,y,_,hx,hy,hn=>by
  simp only[List.getElem?_cons_zero,Option.some.injEq]at hx hy
  subst hx hy
  rw[List.zipWith_cons_cons,nT,if_neg λe=>hn (qx.1 e)]
 |x0::X,y0::Y,i+1,x,y,ht,hx,hy,hn=>by
  simp only[List.take_succ_cons,List.cons.injEq]at ht
  simp only[List.getElem?_cons_succ]at hx hy
  rw[List.zipWith_cons_cons,nT,if_pos (qx.2 ht.1)]
  exact A5 ht.2 hx hy hn
 |[],_,i,x,y,_,hx,_,_=>by simp at hx
 |_::_,[],i,x,y,_,_,hy,_=>by simp at hy
theorem Sw{a b:aC}{i:Nat}{x y:ByteArray}(d:(gG a).take i=(gG b).take i)(e:(gG a)[i]? =some x)(f:(gG b)[i]? =some y)(c:x≠y):gH a b=iD x y:=by
 unfold gH
 rw[SC,A5 d e f c,Bool.eq_iff_iff,decide_eq_true_eq,pC]
theorem Ss{a b:aC}(h:gG a=gG b):a=b:=by
 obtain⟨k,l,m,n,o,p,q⟩:=a
 obtain⟨r,s,t,u,v,w,x⟩:=b
 simp only[gG,List.cons.injEq]at h
 obtain⟨c,d,e,y,f,g,i,j,_⟩:=h
 simp only[aC.mk.injEq]
 exact⟨c,d,e,f,g,i,j⟩
theorem zu(t:aC)(R:aD):Spec prog 256 [.agg t.enc.toArray] R [] λu H'=>∃T,H'=[T]/\OS 9 1 hZ u (gG t) T:=by
 refine Spec.gO (H':=[]) (by simp) ?_
 refine Spec.body Tryz.func256 rfl Tryz.results256 Tryz.ntmps256 rfl ?_
 refine .sr ?_
 refine .bW rfl (λb=>?_)
 refine .ag rfl<|.z<|.ag rfl<|.zs<|.sr<|.fa rfl<|.fa rfl<|.lo rfl<|.q .gv<|.zn ?_
 refine bx.cut (X:=ByteArray) (λk=>k=nw t) (λk=>[(1,pT b),(3,.string k)]) (λk=>[bl b t.enc 119]) ?_ ?_
 refine .cond rfl (λa=>?_) λa=>?_
 refine .region<|.ag rfl<|.nil ?_
 ·first
   |exact ay ⟨#[48]⟩ (by unfold nw;rw[if_neg (by simpa using a)]) kE.c.c rH
   |exact ay ⟨#[49]⟩ (by unfold nw;rw[if_pos (by simpa using a)]) kE.c.c rH
 refine .skip ?_
 ·first
   |exact ay ⟨#[48]⟩ (by unfold nw;rw[if_neg (by simpa using a)]) kE.c.c rH
   |exact ay ⟨#[49]⟩ (by unfold nw;rw[if_pos (by simpa using a)]) kE.c.c rH
 intro x d
 subst d
 refine ax<|.sr<|.fa rfl<|.fa rfl<|.lo rfl<|.fa rfl<|.fa rfl<|.lo rfl<|.fa rfl<|.lo rfl<|.mo rfl<|.fa rfl<|.fa rfl<|.lo rfl<|.fa rfl<|.fa rfl<|.fa rfl<|.lo rfl<|.fa rfl<|.fa rfl<|.fa rfl<|.lo rfl<|.fa rfl<|.fa rfl<|.lo rfl ?_
 refine .yk [_,_,_,_,_,_,_,_] (λe=>?_)
 refine .az rfl ?_
 refine .ret (bk _ (.one (.tmp rfl)) (.one [0] _) ?_)
 ·refine⟨_,by simp[take];rfl,?_⟩
  exact OS.lits (E:=9) (xs:=gG t) (enc:=hZ) rfl (by simp[gG,hZ]) (by simp[gG,hZ,ap])
theorem Qu(a b:aC)(R:aD):Spec prog 222 [.agg a.enc.toArray,.agg b.enc.toArray] R [] λv H'=>v=.bool (gH a b)/\H'=[]:=by
 refine Spec.body Tryz.func222 rfl Tryz.results222 Tryz.ntmps222 rfl ?_
 refine .sr ?_
 refine .bW rfl (λs=>?_)
 refine .bW rfl (λt=>?_)
 refine .ag rfl<|.zs<|.dp [] mixed ?_
 refine .tO 0 rfl (.aL rfl)<|.tO 2 rfl (.aL rfl) ?_
 refine .sT 1 rfl ?_
 refine .cK (zu a _) (λu n d=>?_)
 have A:=d.ap
 refine .nil (Next.sub ?_)
 refine .sT 3 rfl ?_
 refine .cK (zu b _) (λw o k=>?_)
 have B:=k.ap
 refine .nil (Next.sub ?_)
 refine .tO 4 rfl .assign<|.tO 5 rfl .assign ?_
 refine RA.nil (by kernel_rfl) ?_
 refine ax<|.seq<|.sr<|.az rfl<|.block ?_
 refine .loop (X:=Nat) (λi=>i<=8/\(gG a).take i=(gG b).take i) (λi=>[(5,u),(6,w),(7,iN i)]) (λ_=>[n,o]) (λi=>8-i) 0 ⟨by omega,by simp⟩ kE.c.c.c (aH [1,0]) ?_
 rintro i ⟨x,m⟩
 refine .seq<|.sr<|.mo rfl<|.mo rfl<|.q (.dN d) ?_
 refine .q .lss<|.zn ?_
 refine .cond rfl (λh=>?_) λh=>?_
 have l:i<8:=by have:=cm h;simp only[gG,List.length_cons,List.length_nil]at this;omega
 obtain⟨z,g⟩:∃z,(gG a)[i]? =some z:=⟨_,bu (by simpa[gG]using l)⟩
 obtain⟨y,f⟩:∃y,(gG b)[i]? =some y:=⟨_,bu (by simpa[gG]using l)⟩
 refine .kn<|.seq<|.block<|.seq ?_
 refine .fX mixed (by kernel_rfl) ?_
 refine .mo rfl<|.mo rfl ?_
 refine .bo i d g (λC=>?_)
 refine .lo rfl<|.mo rfl<|.mo rfl ?_
 refine .bo i k f (λD=>?_)
 refine .lo rfl<|.q .gv<|.zn ?_
 refine .cond rfl (λj=>?_) λj=>?_
 refine .seq ?_
 refine .fX mixed (by kernel_rfl) ?_
 refine .mo rfl<|.mo rfl ?_
 refine .bo i d g (λE=>?_)
 refine .lo rfl<|.mo rfl<|.mo rfl ?_
 refine .bo i k f (λF=>?_)
 refine .lo rfl<|.q .OI<|.az rfl ?_
 refine .ret (bp (aI (cF (bp (aI (aM rfl ?_))))))
 ·have r:z≠y:=by simpa using j
  exact⟨by rw[Sw m g f r],rfl⟩
 refine .skip<|bf<|ax<|.region<|.mo rfl ?_
 refine .ia (i+1) .add ?_
 refine .ag rfl<|.nil ?_
 ·exact aP (i+1) ⟨l,by
   have e:z=y:=by simpa using j
   rw[List.take_add_one,List.take_add_one,m,g,f,e]⟩ (by omega) kE.c.c.c rH
 refine .exit<|bq<|bz<|bs<|ax<|.sr<|.az rfl ?_
 refine .ret (aM rfl ?_)
 ·have p:i=8:=by have:=bA h;simp only[gG,List.length_cons,List.length_nil]at this;omega
  subst p
  have:a=b:=Ss (by simpa[gG]using m)
  exact⟨by rw[this,uI],rfl⟩
structure DV(R:aD)(b:Nat)(S:cZ)(vL:Value)(L:List bB):Prop where
 pc:PC R (pT b) [vL,.int .u64 S.head,.int .u64 S.dX]
 rs:RS R 9 bB.enc vL L
theorem DV.mono{R R':aD}{b:Nat}{S:cZ}{c:Value}{L:List bB}(h:DV R b S c L)(a:∀b o,R b o->R' b o):DV R' b S c L:=⟨h.pc.mono a,h.rs.mono a⟩
theorem QJ(x:bB)(r:Int)(R:aD):Spec prog 107 [.agg x.enc.toArray,.int .u64 r] R [] λv H'=>v=.bool (x.there r)/\H'=[]:=by
 obtain⟨⟨c,d,e,f,g,h,i⟩,k,l⟩:=x
 refine Spec.body Tryz.func107 rfl Tryz.results107 Tryz.ntmps107 rfl ?_
 refine .sr ?_
 refine .bW rfl (λj=>?_)
 refine .ag rfl<|.z<|.fa rfl<|.lo rfl<|.mo rfl<|.q .leq<|.mo rfl ?_
 refine .split (t:=9) rfl (λa=>?_) (λa=>?_)
 refine .gT a<|.fa rfl<|.gT a<|.lo rfl<|.gT a<|.q .bK<|.gT a<|.mo rfl ?_
 refine .split (t:=13) rfl (λb=>?_) (λb=>?_)
 refine .gF b<|.gF b<|.gF b<|.gF b<|.gT a<|.q (.aO b) ?_
 refine .q (.aO a) ?_
 refine .az rfl ?_
 refine .ret (aM rfl ?_)
 ·refine⟨congrArg _ ?_,rfl⟩
  unfold bB.there
  simp_all
  try omega
 refine .gT b<|.mo rfl<|.gT b<|.fa rfl<|.gT b<|.lo rfl<|.gT b<|.q .lss<|.gT a<|.q (.aN b) ?_
 refine .q (.aO a) ?_
 refine .az rfl ?_
 refine .ret (aM rfl ?_)
 ·refine⟨congrArg _ ?_,rfl⟩
  unfold bB.there
  simp_all
  try omega
 refine .gF a<|.gF a<|.gF a<|.gF a<|.dd rfl ?_
 refine .dd rfl ?_
 refine .dd rfl ?_
 refine .dd rfl ?_
 refine .gF a<|.q (.aN a) ?_
 refine .az rfl ?_
 refine .ret (aM rfl ?_)
 ·refine⟨congrArg _ ?_,rfl⟩
  unfold bB.there
  simp_all
  try omega
section
variable{R:aD}{b:Nat}{S:cZ}{vL:Value}{L:List bB}
theorem DV.can(h:DV R b S vL L)(r:Int):Spec prog 86 [pT b,.int .u64 r] R [] λv H'=>v=.bool (scan S r)/\H'=[]:=by
 have d:=h.pc
 have c:=h.rs.ap
 refine Spec.body Tryz.func86 rfl Tryz.results86 Tryz.ntmps86 rfl ?_
 refine .sr<|.ag rfl<|.z<|.mo rfl<|.nc rfl<|.fa rfl<|.lo rfl<|.mo rfl<|.q .leq<|.mo rfl ?_
 refine .split (t:=11) rfl (λa=>?_) (λa=>?_)
 refine .gT a<|.mo rfl<|.gT a<|.mo rfl<|.gT a<|.nc rfl<|.gT a<|.fa rfl<|.gT a<|.lo rfl<|.gT a<|.q .leq<|.q (.aO a) ?_
 refine .az rfl ?_
 refine .ret (aM rfl ?_)
 ·refine⟨congrArg _ ?_,rfl⟩
  unfold scan
  simp_all
  try omega
 refine .gF a<|.gF a<|.gF a<|.gF a<|.gF a<|.gF a<|.q (.aN a) ?_
 refine .az rfl ?_
 refine .ret (aM rfl ?_)
 ·refine⟨congrArg _ ?_,rfl⟩
  unfold scan
  simp_all
  try omega
theorem DV.Sb(h:DV R b S vL L)(Z:L.length<=5000)(k:bc)(r:Int):Spec prog 147 [pT b,.agg [.string k.os,.string k.oi].toArray,.string k.rel,.int .u64 r] R [] λu H'=>∃T,H'=[T]/\OS 117 4 Sub.enc u (if scan S r then(L.filter λx=>x.there r&&decide (x.t.cQ=k)).map (·.t.sub)else []) T:=by
 obtain⟨m,n,C⟩:=k
 have pc:=h.pc
 have a1:=h.rs.ap
 obtain⟨pv,a2,rfl⟩:=h.rs.val
 have K:=h.rs
 have W:∀x:bB,decide (x.t.cQ=(⟨m,n,C⟩:bc))=(decide (x.t.os=m/\x.t.oi=n)&&decide (x.t.rel=C)):=λx=>by
  rw[Bool.eq_iff_iff]
  simp[aC.cQ,and_assoc]
 refine Spec.gO (H':=[[]]) (by simp) ?_
 refine Spec.body Tryz.func147 rfl Tryz.results147 Tryz.ntmps147 rfl ?_
 refine .sr ?_
 refine .bW rfl (λH=>?_)
 refine .ag rfl<|.z<|.ag rfl<|.zs<|.sr<|.az rfl<|.block ?_
 refine .loop (X:=Nat×Value×aB) (λy=>(y.1<=L.length/\(scan S r=false->y.1=0))/\OS 117 4 Sub.enc y.2.1 (((L.take y.1).filter λx=>x.there r&&decide (x.t.cQ=(⟨m,n,C⟩:bc))).map (·.t.sub)) y.2.2) (λy=>[(0,pT b),(2,.string C),(3,.int .u64 r),(5,pT H),(9,y.2.1),(10,iN y.1)]) (λy=>[bl H [.string m,.string n] 44,y.2.2]) (λy=>L.length-y.1) (0,sZ,[]) ⟨⟨Nat.zero_le _,λ_=>rfl⟩,OS.nil⟩ kE.c.c.c.c.c.c rH ?_
 rintro⟨i,G,A⟩ ⟨⟨U,J⟩,g⟩
 simp only at U J g⊢
 have io:=g.ap
 have a0:(((L.take i).filter λx=>x.there r&&decide (x.t.cQ=(⟨m,n,C⟩:bc))).map (·.t.sub)).length<=5000:=by
  rw[List.length_map]
  exact Nat.le_trans (List.length_filter_le _ _) (by rw[List.length_take];omega)
 refine .seq<|.sr<|.mo rfl<|.mo rfl<|.nc rfl<|.fa rfl<|.lo rfl<|.q (.bJ K) ?_
 refine .q .lss<|.mo rfl ?_
 refine .split (t:=19) rfl (λj=>?_) (λj=>?_)
 have l:i<L.length:=by have:=cm j;omega
 obtain⟨x,N⟩:=bR l
 have w:L.take (i+1)=L.take i++[x]:=by rw[List.take_add_one,N];rfl
 have p:=W x
 refine .gT j<|.mo rfl<|.gT j<|.mo rfl<|.gT j ?_
 refine .ba ((h.mono λb o Q=>.inl Q).can r) (λv M=>?_)
 subst M
 refine .q (.aO j) ?_
 refine .zn ?_
 refine .cond rfl (λa=>?_) λa=>?_
 refine .kn<|.seq<|.block<|.sr<|.mo rfl<|.nc rfl<|.fa rfl<|.lo rfl<|.mo rfl ?_
 refine .bC i K N (λa3=>?_)
 refine .fa rfl<|.q (.loadT rfl) ?_
 refine .bN (λO=>?_)
 refine .bH rfl rfl<|.z<|.sub (H':=[bl O x.t.enc 119,bl H [.string m,.string n] 44,A]) rH ?_
 refine .mo rfl<|.nc rfl<|.fa rfl<|.lo rfl<|.mo rfl ?_
 refine .bC i K N (λa4=>?_)
 refine .q (.aL rfl)<|.mo rfl ?_
 refine .ba (QJ x r _) (λv M=>?_)
 subst M
 refine .mo rfl ?_
 refine .split (t:=43) rfl (λf=>?_) (λf=>?_)
 refine .gT f<|.fa rfl<|.gT f<|.q (.loadT rfl) ?_
 refine .gT f<|.q (.aL rfl)<|.gT f<|.q (.mQ rfl rfl (show eG [.s,.s] (List.take 2 (List.drop 0 x.t.enc))from⟨trivial,trivial,trivial⟩) (show eG [.s,.s] [.string m,.string n]from⟨trivial,trivial,trivial⟩)) ?_
 rw[show eE (List.take 2 (List.drop 0 x.t.enc)) [.string m,.string n]=decide (x.t.os=m/\x.t.oi=n)from by rw[Bool.eq_iff_iff];simp[aC.enc,eE,mM]]
 refine .q (.aO f) ?_
 refine .mo rfl ?_
 refine .split (t:=49) rfl (λe=>?_) (λe=>?_)
 refine .gT e<|.fa rfl<|.gT e<|.lo rfl<|.gT e<|.mo rfl<|.gT e<|.q .dW<|.q (.aO e) ?_
 refine .zn ?_
 refine .cond rfl (λB=>?_) λB=>?_
 refine .region<|.mo rfl<|.fa rfl<|.q (.loadT rfl) ?_
 refine .dM (λY=>?_)
 refine .append g (RS.lits (xs:=[x.t.sub]) rfl (by simp[Sub.enc]) (by simp[Sub.enc,ap])) (by simp only[List.length_singleton];omega) (λF D E=>?_)
 refine .ag rfl<|.nil<|bf<|ax<|.region<|.mo rfl ?_
 refine .ia (i+1) .add ?_
 refine .ag rfl<|.nil ?_
 ·first
   |exact aP (i+1,F,D) ⟨⟨l,λd=>by rw[d]at a;cases a⟩,by simp only;rw[w,List.filter_append,List.map_append,List.filter_cons,if_pos (by rw[p,f,e,B];rfl)];exact E⟩ (by simp only;omega) kE.c.c.c.c.c.c (aH [2,2])
   |exact aP (i+1,G,A) ⟨⟨l,λd=>by rw[d]at a;cases a⟩,by simp only;rw[w,List.filter_append,List.map_append,List.filter_cons,if_neg (by rw[p];simp_all)];simpa using g⟩ (by simp only;omega) kE.c.c.c.c.c.c (aH [1,1])
 refine .skip<|bf<|ax<|.region<|.mo rfl ?_
 refine .ia (i+1) .add ?_
 refine .ag rfl<|.nil ?_
 ·first
   |exact aP (i+1,F,D) ⟨⟨l,λd=>by rw[d]at a;cases a⟩,by simp only;rw[w,List.filter_append,List.map_append,List.filter_cons,if_pos (by rw[p,f,e,B];rfl)];exact E⟩ (by simp only;omega) kE.c.c.c.c.c.c (aH [2,2])
   |exact aP (i+1,G,A) ⟨⟨l,λd=>by rw[d]at a;cases a⟩,by simp only;rw[w,List.filter_append,List.map_append,List.filter_cons,if_neg (by rw[p];simp_all)];simpa using g⟩ (by simp only;omega) kE.c.c.c.c.c.c (aH [1,1])
 refine .gF e<|.gF e<|.gF e<|.gF e<|.q (.aN e) ?_
 refine .zn<|.cS<|.skip<|bf<|ax<|.region<|.mo rfl ?_
 refine .ia (i+1) .add ?_
 refine .ag rfl<|.nil ?_
 ·first
   |exact aP (i+1,F,D) ⟨⟨l,λd=>by rw[d]at a;cases a⟩,by simp only;rw[w,List.filter_append,List.map_append,List.filter_cons,if_pos (by rw[p,f,e,B];rfl)];exact E⟩ (by simp only;omega) kE.c.c.c.c.c.c (aH [2,2])
   |exact aP (i+1,G,A) ⟨⟨l,λd=>by rw[d]at a;cases a⟩,by simp only;rw[w,List.filter_append,List.map_append,List.filter_cons,if_neg (by rw[p];simp_all)];simpa using g⟩ (by simp only;omega) kE.c.c.c.c.c.c (aH [1,1])
 refine .gF f<|.gF f<|.gF f<|.gF f<|.q (.aN f) ?_
 refine .mo rfl<|.gX<|.gX<|.gX<|.gX<|.q .cT<|.zn<|.cS<|.skip<|bf<|ax<|.region<|.mo rfl ?_
 refine .ia (i+1) .add ?_
 refine .ag rfl<|.nil ?_
 ·first
   |exact aP (i+1,F,D) ⟨⟨l,λd=>by rw[d]at a;cases a⟩,by simp only;rw[w,List.filter_append,List.map_append,List.filter_cons,if_pos (by rw[p,f,e,B];rfl)];exact E⟩ (by simp only;omega) kE.c.c.c.c.c.c (aH [2,2])
   |exact aP (i+1,G,A) ⟨⟨l,λd=>by rw[d]at a;cases a⟩,by simp only;rw[w,List.filter_append,List.map_append,List.filter_cons,if_neg (by rw[p];simp_all)];simpa using g⟩ (by simp only;omega) kE.c.c.c.c.c.c (aH [1,1])
 refine .exit<|bq<|bz<|bs<|ax<|.sr<|.mo rfl<|.az rfl ?_
 refine .ret (bk _ (.one (.tmp rfl)) ((aH [1])) ?_)
 ·have I:=J a
  subst I
  exact⟨A,by simp[take,bL],by rw[a];exact g⟩
 have V:i=L.length:=by have:=bA j;omega
 subst V
 rw[List.take_length]at g
 refine .gF j<|.gF j<|.gF j<|.q (.aN j) ?_
 refine .zn<|.cS<|.exit<|bq<|bz<|bs<|ax<|.sr<|.mo rfl<|.az rfl ?_
 refine .ret (bk _ (.one (.tmp rfl)) ((aH [1])) ?_)
 ·refine⟨A,by simp[take,bL],?_⟩
  split
  ·exact g
  ·rename_i d
   have I:=J (by simpa using d)
   rw[List.eq_nil_of_length_eq_zero I]at g
   exact g
end
theorem wX(s i:ByteArray)(d:s.size<=9223372036854775807)(c:i.size<=9223372036854775807)(R:aD):Spec prog 139 [.agg [.string s,.string i].toArray] R [] λv H'=>v=.bool (di s i)/\H'=[]:=by
 refine Spec.body Tryz.func139 rfl Tryz.results139 Tryz.ntmps139 rfl ?_
 refine .sr ?_
 refine .bW rfl (λe=>?_)
 refine .ag rfl<|.z<|.fa rfl<|.lo rfl ?_
 refine .ba (kx s d _) (λv b=>?_)
 subst b
 refine .mo rfl ?_
 refine .split (t:=6) rfl (λa=>?_) (λa=>?_)
 refine .gT a<|.fa rfl<|.gT a<|.lo rfl<|.gT a ?_
 refine .ba (wW i c _) (λv b=>?_)
 subst b
 refine .q (.aO a) ?_
 refine .az rfl ?_
 refine .ret (aM rfl ?_)
 ·exact⟨by unfold di;simp_all,rfl⟩
 refine .gF a<|.gF a<|.gF a<|.q (.aN a) ?_
 refine .az rfl ?_
 refine .ret (aM rfl ?_)
 ·exact⟨by unfold di;simp_all,rfl⟩
theorem Qm(s:Sub)(g:s.us.size<=9223372036854775807)(h:s.ss.size<=9223372036854775807)(i:s.si.size<=9223372036854775807)(j:s.sr.size<=9223372036854775807)(R:aD):Spec prog 221 [.agg s.enc.toArray] R [] λv H'=>v=.bool (iY s)/\H'=[]:=by
 obtain⟨us,ss,si,sr⟩:=s
 simp only at g h i j
 refine Spec.body Tryz.func221 rfl Tryz.results221 Tryz.ntmps221 rfl ?_
 refine .sr ?_
 refine .bW rfl (λl=>?_)
 refine .ag rfl<|.zs<|.sr<|.fa rfl<|.lo rfl<|.q .dW<|.zn ?_
 refine .cond rfl (λk=>?_) λk=>?_
 refine .sr<|.fa rfl<|.q (.loadT rfl) ?_
 refine .ba (wX ss si h i _) (λv f=>?_)
 subst f
 refine .mo rfl ?_
 refine .split (t:=9) rfl (λd=>?_) (λd=>?_)
 refine .gT d<|.fa rfl<|.gT d<|.lo rfl<|.gT d ?_
 refine .ba (kx sr j _) (λv f=>?_)
 subst f
 refine .q (.aO d) ?_
 refine .az rfl ?_
 refine .ret (aI (aM rfl ?_))
 ·refine⟨congrArg _ ?_,rfl⟩
  unfold iY
  by_cases a:us=⟨#[]⟩
  ·simp only[a,if_true]
   simp_all
  ·simp only[a,if_false]
   simp_all
 refine .gF d<|.gF d<|.gF d<|.q (.aN d) ?_
 refine .az rfl ?_
 refine .ret (aI (aM rfl ?_))
 ·refine⟨congrArg _ ?_,rfl⟩
  unfold iY
  by_cases a:us=⟨#[]⟩
  ·simp only[a,if_true]
   simp_all
  ·simp only[a,if_false]
   simp_all
 refine .kn<|.sr<|.fa rfl<|.lo rfl ?_
 refine .ba (wW us g _) (λv f=>?_)
 subst f
 refine .mo rfl ?_
 refine .split (t:=17) rfl (λb=>?_) (λb=>?_)
 refine .gT b<|.fa rfl<|.gT b<|.fa rfl<|.gT b<|.lo rfl<|.gT b<|.q .dW<|.q (.aO b) ?_
 refine .mo rfl ?_
 refine .split (t:=23) rfl (λc=>?_) (λc=>?_)
 refine .gT c<|.fa rfl<|.gT c<|.fa rfl<|.gT c<|.lo rfl<|.gT c<|.q .dW<|.q (.aO c) ?_
 refine .mo rfl ?_
 refine .split (t:=29) rfl (λe=>?_) (λe=>?_)
 refine .gT e<|.fa rfl<|.gT e<|.lo rfl<|.gT e<|.q .dW<|.q (.aO e) ?_
 refine .az rfl ?_
 refine .ret (aM rfl ?_)
 ·refine⟨congrArg _ ?_,rfl⟩
  unfold iY
  by_cases a:us=⟨#[]⟩
  ·simp only[a,if_true]
   simp_all
  ·simp only[a,if_false]
   simp_all
 refine .gF e<|.gF e<|.gF e<|.q (.aN e) ?_
 refine .az rfl ?_
 refine .ret (aM rfl ?_)
 ·refine⟨congrArg _ ?_,rfl⟩
  unfold iY
  by_cases a:us=⟨#[]⟩
  ·simp only[a,if_true]
   simp_all
  ·simp only[a,if_false]
   simp_all
 refine .gF c<|.gF c<|.gF c<|.gF c<|.q (.aN c) ?_
 refine .mo rfl<|.gX<|.gX<|.gX<|.q .cT<|.az rfl ?_
 refine .ret (aM rfl ?_)
 ·refine⟨congrArg _ ?_,rfl⟩
  unfold iY
  by_cases a:us=⟨#[]⟩
  ·simp only[a,if_true]
   simp_all
  ·simp only[a,if_false]
   simp_all
 refine .gF b<|.gF b<|.gF b<|.gF b<|.q (.aN b) ?_
 refine .mo rfl<|.gX<|.gX<|.gX<|.gX<|.q .cT<|.mo rfl<|.gX<|.gX<|.gX<|.q .cT<|.az rfl ?_
 refine .ret (aM rfl ?_)
 ·refine⟨congrArg _ ?_,rfl⟩
  unfold iY
  by_cases a:us=⟨#[]⟩
  ·simp only[a,if_true]
   simp_all
  ·simp only[a,if_false]
   simp_all
theorem wY(t:aC)(k:t.fits)(R:aD):Spec prog 168 [.agg t.enc.toArray] R [] λv H'=>v=.bool (eM t)/\H'=[]:=by
 obtain⟨d,e,f,g,h,i,j⟩:=k
 refine Spec.body Tryz.func168 rfl Tryz.results168 Tryz.ntmps168 rfl ?_
 refine .sr ?_
 refine .bW rfl (λl=>?_)
 refine .ag rfl<|.z<|.fa rfl<|.q (.loadT rfl) ?_
 refine .ba (wX t.os t.oi d e _) (λv c=>?_)
 subst c
 refine .mo rfl ?_
 refine .split (t:=6) rfl (λa=>?_) (λa=>?_)
 refine .gT a<|.fa rfl<|.gT a<|.lo rfl<|.gT a ?_
 refine .ba (kx t.rel f _) (λv c=>?_)
 subst c
 refine .q (.aO a) ?_
 refine .mo rfl ?_
 refine .split (t:=11) rfl (λb=>?_) (λb=>?_)
 refine .gT b<|.fa rfl<|.gT b<|.q (.loadT rfl) ?_
 refine .gT b ?_
 refine .ba (Qm t.sub g h i j _) (λv c=>?_)
 subst c
 refine .q (.aO b) ?_
 refine .az rfl ?_
 refine .ret (aM rfl ?_)
 ·exact⟨by unfold eM;simp_all,rfl⟩
 refine .gF b<|.gF b<|.gF b<|.q (.aN b) ?_
 refine .az rfl ?_
 refine .ret (aM rfl ?_)
 ·exact⟨by unfold eM;simp_all,rfl⟩
 refine .gF a<|.gF a<|.gF a<|.q (.aN a) ?_
 refine .mo rfl<|.gX<|.gX<|.gX<|.q .cT<|.az rfl ?_
 refine .ret (aM rfl ?_)
 ·exact⟨by unfold eM;simp_all,rfl⟩
theorem SV.Sd{R:aD}{g:Nat}{S:cZ}{ps:List RB}{vf vr:Value}{B:List (bc×(Value×aB))}{C:List (Sub×(Value×aB))}(h:SV R g S ps vf vr B C)(s:S.rows.length<=4096)(k:bc)(r:Int){L:List bB}(J:RL S L):
  Spec prog 188 [pT g,.agg [.string k.os,.string k.oi].toArray,.string k.rel,.int .u64 r] R [] λu H'=>∃T,H'=[T]/\OS 117 4 Sub.enc u (if scan S r then(L.filter λx=>x.there r&&decide (x.t.cQ=k)).map (·.t.sub)else []) T:=by
 have pc:=h.pc
 have a5:=h.of
 have a6:=h.or
 have U:ps.length<=4096:=by rw[<-h.eq,List.length_map]at s;exact s
 obtain⟨pf,G,O,V⟩:=h.lf k
 have H:RS R 1 vz (.slice pf (ids (λx=>x.t.cQ) k ps).length G) (lg (λx=>x.t.cQ) k ps):=RS.of_map (enc:=kl) (f:=λp:RB=>p.1) V
 have I:(lg (λx=>x.t.cQ) k ps).length<=4096:=Nat.le_trans (List.length_filter_le _ _) U
 refine Spec.gO (H':=[[]]) (by simp) ?_
 refine Spec.body Tryz.func188 rfl Tryz.results188 Tryz.ntmps188 rfl ?_
 refine .sr ?_
 refine .bW rfl (λb5=>?_)
 refine .ag rfl<|.zs<|.sr<|.mo rfl<|.mo rfl ?_
 refine .ba ((h.mono λb o e=>.inl e).can r) (λv Z=>?_)
 subst Z
 refine .q .not<|.zn ?_
 refine .cond rfl (λj=>?_) λj=>?_
 have n:scan S r=false:=by simpa using j
 refine .sr<|.az rfl ?_
 refine .ret (aI (bk _ (.one (.tmp rfl)) ((aH [1])) ?_))
 ·exact⟨_,by simp[take];rfl,by rw[n];exact OS.nil⟩
 have n:scan S r=true:=by simpa using j
 refine .kn<|.sr<|.ag rfl<|.zs<|.seq<|.dp [] mixed ?_
 refine .tO 0 rfl .move<|.tO 1 rfl (.nilCheck rfl)<|.tO 2 rfl (.fieldAddr rfl)<|.tO 3 rfl (.cE rfl)<|.tO 4 rfl (.aL rfl)<|.tO 5 rfl .move ?_
 refine .tO 6 rfl .cN ?_
 refine .tO 7 rfl (.oU (h.mono λb o e=>.inl e).mf rfl rfl (key:=k) O) ?_
 refine .tO 8 rfl .move<|.tO 11 rfl .move ?_
 refine .sT 9 rfl ?_
 refine .cK (yc _ (lg (λx=>x.t.cQ) k ps) r _ H.rx (λp Q=>(h.pr p (List.mem_filter.1 Q).1).mono λb o e=>.inl e) (by omega)) (λu D Y=>?_)
 obtain⟨a,m,A,a1⟩:=Y
 have iu:=m.ap
 have a4:a.length<=4096:=by
  rw[A.length_eq,List.length_map]
  exact Nat.le_trans (List.length_filter_le _ _) I
 have a0:a=(L.filter λx=>x.there r&&decide (x.t.cQ=k)).map (·.t):=J.at_ (by
  refine A.trans (.of_eq ?_)
  rw[<-h.eq,List.filter_map,List.map_map]
  unfold lg
  rw[List.filter_filter];rfl) a1
 refine .nil (Next.sub ?_)
 refine .tO 10 rfl (.dN m) ?_
 refine RA.nil (by kernel_rfl) ?_
 refine ax<|.block ?_
 refine .loop (X:=Nat×Value×aB) (λy=>y.1<=a.length/\OS 117 4 Sub.enc y.2.1 ((a.take y.1).map aC.sub) y.2.2) (λy=>[(9,y.2.1),(25,u),(26,iN a.length),(27,iN y.1)]) (λy=>[D,y.2.2]) (λy=>a.length-y.1) (0,sZ,[]) ⟨Nat.zero_le _,OS.nil⟩ kE.c.c.c.c (aH [0,1]) ?_
 rintro⟨i,vo,F⟩ ⟨M,d⟩
 simp only at M d⊢
 have io:=d.ap
 refine .sr<|.q .lss<|.zs ?_
 refine .cond rfl (λl=>?_) λl=>?_
 have w:i<a.length:=cr l
 obtain⟨x,z⟩:=bR w
 have W:a.take (i+1)=a.take i++[x]:=by rw[List.take_add_one,z];rfl
 refine .kn<|.seq<|.block<|.sr ?_
 refine .bo i m z (λa7=>?_)
 refine .q (.aL rfl) ?_
 refine .bN (λa2=>?_)
 refine .bH rfl rfl<|.zn<|.region<|.mo rfl<|.fa rfl<|.q (.loadT rfl) ?_
 refine .dM (λa3=>?_)
 refine .append d (RS.lits (xs:=[x.sub]) rfl (by simp[Sub.enc]) (by simp[Sub.enc,ap])) (by simp only[List.length_singleton,List.length_map,List.length_take];omega) (λv5 E K=>?_)
 refine .ag rfl<|.nil<|bf<|ax<|.region ?_
 refine .ia (i+1) .add ?_
 refine .mo rfl<|.nil ?_
 ·exact aP (i+1,v5,E) ⟨w,by simp only;rw[W,List.map_append];exact K⟩ (by simp only;omega) kE.c.c.c.c (aH [2,2])
 refine .exit<|bq<|bz<|bs<|ax<|.sr<|.mo rfl<|.az rfl ?_
 refine .ret (bk _ (.one (.tmp rfl)) ((aH [1])) ?_)
 ·have N:i=a.length:=by have:=bA l;omega
  subst N
  rw[List.take_length,a0,List.map_map]at d
  exact⟨F,by simp[take,bL],by rw[n];exact d⟩
def iR(s:cj):Bool:=decide (16<s.bS.length)||s.bS.any λr=>iZ isWord r.r
theorem rD(c:bM):c.plain.jL isWord=(decide (16<c.bd.length)||decide (16<c.scopes.length)||c.bd.any iR):=by
 unfold Cf.jL bM.plain
 simp only[List.length_map,List.any_map]
 congr 1
 congr 1
 funext s
 simp[iR,cj.plain,List.any_map,Function.comp_def]
def nj(r:ca):Bool:=r.r.types.all (iQ isWord)
def jN(r:ca):Bool:=isWord r.r.name&&fS isWord r.r.nodes !=0&&nj r
def iC(s:cj):Bool:=isWord s.name&&s.bS.all jN
theorem Bu(c:bM):c.plain.right isWord di=(c.bd.all iC&&c.scopes.all (kS isWord di)&& !c.plain.jL isWord):=by
 unfold Cf.right
 congr 1
 congr 1
 unfold bM.plain
 simp only[List.all_map]
 congr 1
 funext s
 simp only[iC,nk,cj.plain,List.all_map,Function.comp_def]
 rfl
theorem Qz(c:bM)(R:aD)(h:c.is R):Spec prog 140 [.agg c.enc.toArray] R [] λu H'=>u=.bool (c.plain.jL isWord)/\H'=[]:=by
 rw[rD]
 obtain⟨Q,O,j,N⟩:=c
 have g:=h.ss
 have C:=h.sc
 have Z:=g.ap
 have i2:=C.ap
 simp only at g C Z i2⊢
 have a1:=g.le
 refine Spec.body Tryz.func140 rfl Tryz.results140 Tryz.ntmps140 rfl ?_
 refine .sr ?_
 refine .bW rfl (λF=>?_)
 refine .ag rfl<|.zs<|.seq ?_
 refine bx.cL [(1,_)] kE.c (X:=Unit) (λ_=>True) (λ_ E=>(15,.bool (decide (16<j.length)||decide (16<N.length)))::E) (λ_=>[bl F [Q,O] 25]) ?_ ?_
 refine .region<|.fa rfl<|.lo rfl<|.q (.bJ g) ?_
 refine .q .gtr<|.mo rfl ?_
 refine .split (t:=10) rfl (λe=>?_) (λe=>?_)
 refine .gF e<|.gF e<|.gF e<|.gF e<|.q (.aO e) ?_
 refine .nil ?_
 ·exact ay () trivial (kE.c.bP rfl (by grind)) rH
 refine .gT e<|.fa rfl<|.gT e<|.lo rfl<|.gT e<|.q (.bJ C) ?_
 refine .gT e<|.q .gtr<|.q (.aN e) ?_
 refine .nil ?_
 ·exact ay () trivial (kE.c.bP rfl (by grind)) rH
 intro y Y
 refine ax ?_
 refine .cond rfl (λw=>?_) λw=>?_
 refine .sr<|.az rfl ?_
 refine .ret (aI (aM rfl ?_))
 ·exact⟨by rw[w];rfl,rfl⟩
 refine .kn<|.seq<|.sr<|.az rfl<|.block ?_
 refine .cx [(1,_)] (X:=Nat) (λi=>i<=j.length/\(j.take i).any iR=false) (λi E=>(3,iN i)::E) (λ_ G=>G) (λi=>j.length-i) 0 ⟨Nat.zero_le _,rfl⟩ kE.c.c rH ?_
 rintro i ⟨hi,J⟩
 refine .seq<|.sr<|.mo rfl<|.fa rfl<|.lo rfl<|.q (.bJ g) ?_
 refine .q .lss<|.zn ?_
 refine .cond rfl (λx=>?_) λx=>?_
 have I:i<j.length:=cr x
 obtain⟨s,m⟩:=bR I
 have M:=h.all s (aZ m)
 have o:=M.rs
 have a5:=o.ap
 have a2:=o.le
 refine .kn<|.seq<|.block<|.seq<|.sr<|.fa rfl<|.lo rfl<|.mo rfl ?_
 refine .bC i g m (λa7=>?_)
 refine .fa rfl<|.lo rfl<|.q (.bJ o) ?_
 refine .q .gtr<|.zn ?_
 refine .cond rfl (λz=>?_) λz=>?_
 refine .sr<|.az rfl ?_
 refine .ret (aI (bp (aI (cF (bp (aI (aM rfl ?_)))))))
 ·refine⟨?_,rfl⟩
  rw[ow m (f:=iR) (by unfold iR;have:=cm z;rw[decide_eq_true (by omega)];rfl),Bool.or_true]
 refine .kn<|.sr<|.az rfl<|.block ?_
 refine .cx [(1,_),(3,_)] (X:=Nat) (λk=>k<=s.bS.length/\((s.bS.take k).any λr=>iZ isWord r.r)=false) (λk E=>(4,iN k)::E) (λ_ G=>G) (λk=>s.bS.length-k) 0 ⟨Nat.zero_le _,rfl⟩ kE.c.c.c rH ?_
 rintro k ⟨hk,K⟩
 refine .seq<|.sr<|.mo rfl<|.fa rfl<|.lo rfl<|.mo rfl ?_
 refine .bC i g m (λa8=>?_)
 refine .fa rfl<|.lo rfl<|.q (.bJ o) ?_
 refine .q .lss<|.zn ?_
 refine .cond rfl (λA=>?_) λA=>?_
 have H:k<s.bS.length:=cr A
 obtain⟨⟨S,D,r⟩,p⟩:=bR H
 have v:=M.all _ (aZ p)
 have L:RS R 2 Ty.enc S r.types:=v.t
 have B:RS R 5 Nd.enc D r.nodes:=v.d
 have a6:=L.ap
 have a4:=B.ap
 have a3:bZ (ca.enc ⟨S,D,r⟩):=⟨v.cJ⟩
 refine .kn<|.seq<|.block<|.sr<|.fa rfl<|.lo rfl<|.mo rfl ?_
 refine .bC i g m (λa9=>?_)
 refine .fa rfl<|.lo rfl<|.mo rfl ?_
 refine .bC k o p (λb0=>?_)
 refine .q (.aL rfl) ?_
 refine .bN (λb5=>?_)
 refine .bH rfl rfl<|.zs ?_
 refine bx.cL [(1,_),(3,_),(4,_)] kE.c.c.c (X:=Unit) (λ_=>True) (λ_ E=>(66,.bool (iZ isWord r))::E) (λ_=>[bl F [Q,O] 25]) ?_ ?_
 refine .region<|.fa rfl<|.lo rfl<|.q (.bJ L) ?_
 refine .q .gtr<|.mo rfl ?_
 refine .split (t:=55) rfl (λb=>?_) (λb=>?_)
 refine .gF b<|.gF b<|.gF b<|.gF b<|.q (.aO b) ?_
 refine .mo rfl<|.gX<|.gX<|.gX<|.gX<|.q .cO<|.nil ?_
 ·exact ay () trivial (kE.c.c.c.bP rfl (by grind[iZ])) (aH [1])
 refine .gT b<|.fa rfl<|.gT b<|.lo rfl<|.gT b<|.q (.bJ B) ?_
 refine .gT b<|.q .gtr<|.q (.aN b) ?_
 refine .mo rfl ?_
 refine .split (t:=61) rfl (λa=>?_) (λa=>?_)
 refine .gF a<|.gF a<|.gF a<|.gF a<|.q (.aO a) ?_
 refine .nil ?_
 ·exact ay () trivial (kE.c.c.c.bP rfl (by grind[iZ])) (aH [1])
 refine .gT a<|.fa rfl<|.gT a<|.lo rfl<|.gT a ?_
 refine .ba ((Bn D r.nodes R B v.fd).weaken cU) (λu W=>?_)
 subst W
 refine .gT a<|.q .gtr<|.q (.aN a) ?_
 refine .nil ?_
 ·exact ay () trivial (kE.c.c.c.bP rfl (by grind[iZ])) (aH [1])
 intro y Y
 refine ax ?_
 refine .cond rfl (λn=>?_) λn=>?_
 refine .sr<|.az rfl ?_
 refine .ret (bp (aI (cF (bp (bp (aI (cF (bp (aI (aM rfl ?_))))))))))
 ·refine⟨?_,rfl⟩
  rw[ow m (f:=iR) (by unfold iR;rw[ow p n,Bool.or_true]),Bool.or_true]
 refine .skip<|bf<|ax<|.region<|.mo rfl ?_
 refine .ia (k+1) .add ?_
 refine .ag rfl<|.nil ?_
 ·exact aP (k+1) ⟨H,qT p K n⟩ (by omega) kE.c.c.c rH
 have V:iR s=false:=by
  have n:(s.bS.any λr=>iZ isWord r.r)=false:=by rw[<-dx (l:=s.bS) (i:=k) (by have:=bA A;omega)];exact K
  have a0:=bA z
  unfold iR
  rw[n,Bool.or_false]
  exact decide_eq_false (by omega)
 refine .exit<|bq<|bz<|bs<|bf<|ax<|.region<|.mo rfl ?_
 refine .ia (i+1) .add ?_
 refine .ag rfl<|.nil ?_
 ·exact aP (i+1) ⟨I,qT m J V⟩ (by omega) kE.c.c rH
 have U:j.any iR=false:=by rw[<-dx (l:=j) (i:=i) (by have:=bA x;omega)];exact J
 refine .exit<|bq<|bz<|bs<|ax<|.sr<|.az rfl ?_
 refine .ret (aM rfl ?_)
 ·refine⟨?_,rfl⟩
  have T:(decide (16<j.length)||decide (16<N.length))=false:=w
  rw[T,U]
  rfl
theorem QG(c:bM)(R:aD)(h:c.is R):Spec prog 76 [.agg c.enc.toArray] R [] λu H'=>u=.bool (c.plain.right isWord di)/\H'=[]:=by
 rw[Bu]
 obtain⟨V,U,A,z⟩:=c
 have K:=h.ss
 have J:=h.sc
 have i1:=K.ap
 have i2:=J.ap
 simp only at K J i1 i2⊢
 have b7:=K.le
 have b5:=J.le
 refine Spec.body Tryz.func76 rfl Tryz.results76 Tryz.ntmps76 rfl ?_
 refine .sr ?_
 refine .bW rfl (λW=>?_)
 refine .ag rfl<|.zs<|.sr<|.az rfl<|.block ?_
 refine .cx [(1,_)] (X:=Nat) (λi=>i<=A.length/\(A.take i).all iC=true) (λi E=>(3,iN i)::E) (λ_ G=>G) (λi=>A.length-i) 0 ⟨Nat.zero_le _,rfl⟩ kE.c.c rH ?_
 rintro i ⟨hi,hq⟩
 refine .seq<|.sr<|.mo rfl<|.fa rfl<|.lo rfl<|.q (.bJ K) ?_
 refine .q .lss<|.zn ?_
 refine .cond rfl (λY=>?_) λY=>?_
 have a2:i<A.length:=cr Y
 obtain⟨⟨C,L,w⟩,v⟩:=bR a2
 have Q:=h.all _ (aZ v)
 have N:RS R 3 ca.enc L w:=Q.rs
 have c3:=N.ap
 have b9:=N.le
 have c5:bZ (cj.enc ⟨C,L,w⟩):=⟨Q.cJ⟩
 refine .kn<|.seq<|.block<|.sr<|.fa rfl<|.lo rfl<|.mo rfl ?_
 refine .bC i K v (λc6=>?_)
 refine .q (.aL rfl) ?_
 refine .bN (λb4=>?_)
 refine .bH rfl rfl<|.zs<|.sr<|.fa rfl<|.lo rfl ?_
 refine .ba (kx C Q.n _) (λu a=>?_)
 subst a
 refine .q .not<|.zn ?_
 refine .cond rfl (λZ=>?_) λZ=>?_
 refine .sr<|.az rfl ?_
 refine .ret (aI (bp (aI (cF (bp (aI (aM rfl ?_)))))))
 ·refine⟨?_,rfl⟩
  rw[lL v (f:=iC) (by unfold iC;simp only;rw[show isWord C=false by simpa using Z];rfl)]
  rfl
 refine .kn<|.sr<|.az rfl<|.block ?_
 refine .cx [(1,_),(3,_),(4,_)] (X:=Nat) (λk=>k<=w.length/\(w.take k).all jN=true) (λk E=>(5,iN k)::E) (λ_ G=>G) (λk=>w.length-k) 0 ⟨Nat.zero_le _,rfl⟩ kE.c.c.c.c rH ?_
 rintro k ⟨hk,a5⟩
 refine .seq<|.sr<|.mo rfl<|.fa rfl<|.lo rfl<|.q (.bJ N) ?_
 refine .q .lss<|.zn ?_
 refine .cond rfl (λh3=>?_) λh3=>?_
 have a1:k<w.length:=cr h3
 obtain⟨⟨M,D,r⟩,I⟩:=bR a1
 have B:=Q.all _ (aZ I)
 have O:RS R 2 Ty.enc M r.types:=B.t
 have a7:RS R 5 Nd.enc D r.nodes:=B.d
 have c4:=O.ap
 have c2:=a7.ap
 have c0:=O.le
 have c1:bZ (ca.enc ⟨M,D,r⟩):=⟨B.cJ⟩
 refine .kn<|.seq<|.block<|.sr<|.fa rfl<|.lo rfl<|.mo rfl ?_
 refine .bC k N I (λc7=>?_)
 refine .q (.aL rfl) ?_
 refine .bN (λb6=>?_)
 refine .bH rfl rfl<|.zs<|.seq ?_
 refine bx.cL [(1,_),(3,_),(4,_),(5,_),(6,_)] kE.c.c.c.c.c (X:=Unit) (λ_=>True) (λ_ E=>(48,.bool (!(isWord r.name&&fS isWord r.nodes !=0)))::E) (λ_=>[bl b6 (ca.enc ⟨M,D,r⟩) 167,bl b4 (cj.enc ⟨C,L,w⟩) 164,bl W [V,U] 25]) ?_ ?_
 refine .region<|.fa rfl<|.lo rfl ?_
 refine .ba (kx r.name B.n _) (λu a=>?_)
 subst a
 refine .q .not<|.mo rfl ?_
 refine .split (t:=43) rfl (λg=>?_) (λg=>?_)
 refine .gF g<|.gF g<|.gF g<|.gF g<|.q (.aO g) ?_
 refine .nil ?_
 ·exact ay () trivial (kE.c.c.c.c.c.bP rfl (by grind)) rH
 refine .gT g<|.fa rfl<|.gT g<|.lo rfl<|.gT g ?_
 refine .ba ((Bn D r.nodes R a7 B.fd).weaken cU) (λu a=>?_)
 subst a
 refine .gT g<|.q .bK<|.q (.aN g) ?_
 refine .nil ?_
 ·exact ay () trivial (kE.c.c.c.c.c.bP rfl (by grind)) rH
 intro y hy
 refine ax ?_
 refine .cond rfl (λh4=>?_) λh4=>?_
 refine .sr<|.az rfl ?_
 refine .ret (aI (bp (aI (cF (bp (bp (aI (cF (bp (aI (aM rfl ?_)))))))))))
 ·refine⟨?_,rfl⟩
  rw[lL v (f:=iC) (by unfold iC;simp only;rw[lL I (f:=jN) (by unfold jN;rw[show(isWord r.name&&fS isWord r.nodes !=0)=false by grind];rfl),Bool.and_false])]
  rfl
 refine .kn<|.sr<|.az rfl<|.block ?_
 refine .cx [(1,_),(3,_),(4,_),(5,_),(6,_)] (X:=Nat) (λm=>m<=r.types.length/\(r.types.take m).all (iQ isWord)=true) (λm E=>(7,iN m)::E) (λ_ G=>G) (λm=>r.types.length-m) 0 ⟨Nat.zero_le _,rfl⟩ kE.c.c.c.c.c.c rH ?_
 rintro m ⟨hm,a6⟩
 refine .seq<|.sr<|.mo rfl<|.fa rfl<|.lo rfl<|.q (.bJ O) ?_
 refine .q .lss<|.zn ?_
 refine .cond rfl (λF=>?_) λF=>?_
 have a3:m<r.types.length:=cr F
 obtain⟨t,S⟩:=bR a3
 have T:=B.ft t (aZ S)
 refine .kn<|.seq<|.block<|.sr<|.fa rfl<|.lo rfl<|.mo rfl ?_
 refine .bC m O S (λc8=>?_)
 refine .q (.aL rfl) ?_
 refine .bN (λb8=>?_)
 refine .bH rfl rfl<|.zs ?_
 refine bx.cL [(1,_),(3,_),(4,_),(5,_),(6,_),(7,_)] kE.c.c.c.c.c.c (X:=Unit) (λ_=>True) (λ_ E=>(79,.bool (!iQ isWord t))::E) (λ_=>[bl b6 (ca.enc ⟨M,D,r⟩) 167,bl b4 (cj.enc ⟨C,L,w⟩) 164,bl W [V,U] 25]) ?_ ?_
 refine .region<|.fa rfl<|.lo rfl<|.q .dW<|.mo rfl ?_
 refine .split (t:=64) rfl (λx=>?_) (λx=>?_)
 refine .gT x<|.fa rfl<|.gT x<|.lo rfl<|.gT x<|.q .dW<|.q (.aO x) ?_
 refine .mo rfl ?_
 refine .split (t:=69) rfl (λe=>?_) (λe=>?_)
 refine .gF e<|.gF e<|.gF e<|.gF e<|.dd rfl ?_
 refine .dd rfl ?_
 refine .dd rfl ?_
 refine .gF e<|.q (.aO e) ?_
 refine .q .not<|.nil ?_
 ·exact ay () trivial (kE.c.c.c.c.c.c.bP rfl (by grind[iQ])) (aH [1,1,1])
 refine .gT e<|.fa rfl<|.gT e<|.lo rfl<|.gT e ?_
 refine .ba (kx t.space T.1 _) (λu a=>?_)
 subst a
 refine .gT e<|.mo rfl ?_
 refine .split (t:=73) rfl (λb=>?_) (λb=>?_)
 refine .gT b<|.fa rfl<|.gT b<|.lo rfl<|.gT b ?_
 refine .ba (kx t.rel T.2 _) (λu a=>?_)
 subst a
 refine .gT e<|.q (.aO b) ?_
 refine .q (.aN e) ?_
 refine .q .not<|.nil ?_
 ·exact ay () trivial (kE.c.c.c.c.c.c.bP rfl (by grind[iQ])) (aH [1,1,1])
 refine .gF b<|.gF b<|.gF b<|.gT e<|.q (.aN b) ?_
 refine .q (.aN e) ?_
 refine .q .not<|.nil ?_
 ·exact ay () trivial (kE.c.c.c.c.c.c.bP rfl (by grind[iQ])) (aH [1,1,1])
 refine .gF x<|.gF x<|.gF x<|.q (.aN x) ?_
 refine .mo rfl<|.gt rfl ?_
 refine .fa rfl<|.gt rfl ?_
 refine .lo rfl<|.gt rfl ?_
 refine .ba (kx t.space T.1 _) (λu a=>?_)
 subst a
 refine .gt rfl ?_
 refine .mo rfl ?_
 refine .split (t:=73) rfl (λb=>?_) (λb=>?_)
 refine .gT b<|.fa rfl<|.gT b<|.lo rfl<|.gT b ?_
 refine .ba (kx t.rel T.2 _) (λu a=>?_)
 subst a
 refine .gt rfl ?_
 refine .q (.aO b) ?_
 refine .q .cT<|.q .not<|.nil ?_
 ·exact ay () trivial (kE.c.c.c.c.c.c.bP rfl (by grind[iQ])) (aH [1,1,1])
 refine .gF b<|.gF b<|.gF b<|.gt rfl ?_
 refine .q (.aN b) ?_
 refine .q .cT<|.q .not<|.nil ?_
 ·exact ay () trivial (kE.c.c.c.c.c.c.bP rfl (by grind[iQ])) (aH [1,1,1])
 intro y hy
 refine ax ?_
 refine .cond rfl (λH=>?_) λH=>?_
 refine .sr<|.az rfl ?_
 refine .ret (bp (aI (cF (bp (bp (aI (cF (bp (bp (aI (cF (bp (aI (aM rfl ?_))))))))))))))
 ·refine⟨?_,rfl⟩
  rw[lL v (f:=iC) (by unfold iC;simp only;rw[lL I (f:=jN) (by unfold jN nj;rw[lL S (by simpa using H),Bool.and_false]),Bool.and_false])]
  rfl
 refine .skip<|bf<|ax<|.region<|.mo rfl ?_
 refine .ia (m+1) .add ?_
 refine .ag rfl<|.nil ?_
 ·exact aP (m+1) ⟨a3,nG S a6 (by simpa using H)⟩ (by omega) kE.c.c.c.c.c.c rH
 have b0:jN ⟨M,D,r⟩=true:=by
  have H:r.types.all (iQ isWord)=true:=by rw[<-dx (l:=r.types) (i:=m) (by have:=bA F;omega)];exact a6
  have a8:(!(isWord r.name&&fS isWord r.nodes !=0))=false:=h4
  unfold jN nj
  simp only[H,Bool.and_true]
  simpa using a8
 refine .exit<|bq<|bz<|bs<|bf<|ax<|.region<|.mo rfl ?_
 refine .ia (k+1) .add ?_
 refine .ag rfl<|.nil ?_
 ·exact aP (k+1) ⟨a1,nG I a5 b0⟩ (by omega) kE.c.c.c.c (aH [1,1])
 have hm:iC ⟨C,L,w⟩=true:=by
  have F:w.all jN=true:=by rw[<-dx (l:=w) (i:=k) (by have:=bA h3;omega)];exact a5
  unfold iC
  simp only[F,Bool.and_true]
  simpa using Z
 refine .exit<|bq<|bz<|bs<|bf<|ax<|.region<|.mo rfl ?_
 refine .ia (i+1) .add ?_
 refine .ag rfl<|.nil ?_
 ·exact aP (i+1) ⟨a2,nG v hq hm⟩ (by omega) kE.c.c (aH [1])
 have a9:A.all iC=true:=by rw[<-dx (l:=A) (i:=i) (by have:=bA Y;omega)];exact hq
 refine .exit<|bq<|bz<|bs<|ax<|.seq<|.sr<|.az rfl<|.block ?_
 refine .cx [(1,_)] (X:=Nat) (λj=>j<=z.length/\(z.take j).all (kS isWord di)=true) (λj E=>(9,iN j)::E) (λ_ G=>G) (λj=>z.length-j) 0 ⟨Nat.zero_le _,rfl⟩ kE.c.c rH ?_
 rintro j ⟨hj,a4⟩
 refine .seq<|.sr<|.mo rfl<|.fa rfl<|.lo rfl<|.q (.bJ J) ?_
 refine .q .lss<|.zn ?_
 refine .cond rfl (λh7=>?_) λh7=>?_
 have a0:j<z.length:=cr h7
 obtain⟨s,v⟩:=bR a0
 have b2:=h.fc s (aZ v)
 obtain⟨f1,f2,f3,f4⟩:=b2
 refine .kn<|.seq<|.block<|.sr<|.fa rfl<|.lo rfl<|.mo rfl ?_
 refine .bC j J v (λc9=>?_)
 refine .q (.aL rfl) ?_
 refine .bN (λb3=>?_)
 refine .bH rfl rfl<|.zs ?_
 refine bx.cL [(1,_),(9,_)] kE.c.c (X:=Unit) (λ_=>True) (λ_ E=>(107,.bool (!kS isWord di s))::E) (λ_=>[bl W [V,U] 25]) ?_ ?_
 refine .region<|.fa rfl<|.lo rfl ?_
 refine .ba (kx s.name f1 _) (λu a=>?_)
 subst a
 refine .q .not<|.mo rfl ?_
 refine .split (t:=96) rfl (λp=>?_) (λp=>?_)
 refine .gF p<|.gF p<|.gF p<|.gF p<|.q (.aO p) ?_
 refine .mo rfl<|.gX<|.gX<|.gX<|.gX<|.q .cO<|.nil ?_
 ·exact ay () trivial (kE.c.c.bP rfl (by grind[kS])) (aH [1])
 refine .gT p<|.fa rfl<|.gT p<|.q (.loadT rfl) ?_
 refine .gT p ?_
 refine .ba (wX s.kv s.tT f2 f3 _) (λu a=>?_)
 subst a
 refine .gT p<|.q .not<|.q (.aN p) ?_
 refine .mo rfl ?_
 refine .split (t:=102) rfl (λo=>?_) (λo=>?_)
 refine .gF o<|.gF o<|.gF o<|.gF o<|.q (.aO o) ?_
 refine .nil ?_
 ·exact ay () trivial (kE.c.c.bP rfl (by grind[kS])) (aH [1])
 refine .gT o<|.fa rfl<|.gT o<|.lo rfl<|.gT o ?_
 refine .ba (kx s.rel f4 _) (λu a=>?_)
 subst a
 refine .gT o<|.q .not<|.q (.aN o) ?_
 refine .nil ?_
 ·exact ay () trivial (kE.c.c.bP rfl (by grind[kS])) (aH [1])
 intro y hy
 refine ax ?_
 refine .cond rfl (λh8=>?_) λh8=>?_
 refine .sr<|.az rfl ?_
 refine .ret (bp (aI (cF (bp (aI (aM rfl ?_))))))
 ·refine⟨?_,rfl⟩
  rw[lL v (by simpa using h8),Bool.and_false]
  rfl
 refine .skip<|bf<|ax<|.region<|.mo rfl ?_
 refine .ia (j+1) .add ?_
 refine .ag rfl<|.nil ?_
 ·exact aP (j+1) ⟨a0,nG v a4 (by simpa using h8)⟩ (by omega) kE.c.c rH
 refine .exit<|bq<|bz<|bs<|ax<|.sr<|.q (.aL rfl) ?_
 refine .ba ((Qz ⟨V,U,A,z⟩ R h).weaken cU) (λu a=>?_)
 subst a
 refine .q .not<|.az rfl ?_
 refine .ret (aM rfl ?_)
 ·refine⟨?_,rfl⟩
  have h9:z.all (kS isWord di)=true:=by rw[<-dx (l:=z) (i:=j) (by have:=bA h7;omega)];exact a4
  rw[a9,h9]
  rfl
abbrev Nm:=ByteArray×ca
def nM(x:Nm):List Value:=.string x.1::x.2.enc
def Nm.p(x:Nm):ByteArray×Rl:=(x.1,x.2.r)
def bM.fO(c:bM):List Nm:=c.bd.flatMap λs=>s.bS.map λr=>(s.name,r)
theorem pa(c:bM):c.fO.map Nm.p=c.plain.all:=by
 unfold bM.fO Cf.all bM.plain
 simp[List.map_flatMap,List.flatMap_map,cj.plain,Nm.p,Function.comp_def]
def bM.ig(c:bM):Prop:=c.bd.length<=16/\∀s∈c.bd,s.bS.length<=16
theorem vN{α β:Type}{f:α->List β}{n:Nat}:∀{l:List α},(∀x∈l,(f x).length<=n)->(l.flatMap f).length<=l.length*n
 |[],_=>by simp
 |x::l,h=>by
  have b:=h x List.mem_cons_self
  have c:=vN λy a=>h y (List.mem_cons_of_mem _ a)
  rw[List.flatMap_cons,List.length_append,List.length_cons,Nat.succ_mul]
  omega
theorem bM.ig.fO{c:bM}(h:c.ig):c.fO.length<=256:=by
 have:=vN (f:=λs:cj=>s.bS.map λr=>(s.name,r)) (n:=16) (l:=c.bd) λs a=>by rw[List.length_map];exact h.2 s a
 have b:=h.1
 unfold bM.fO
 omega
structure qQ(R:aD)(v:Value)(L:List Nm):Prop where
 rs:RS R 4 nM v L
 all:∀x∈L,x.2.is R
theorem Pb{R:aD}{x:Nm}(h:x.2.is R):∀u∈nM x,ap u=true:=by
 intro u hu
 rcases List.mem_cons.1 hu with rfl|hu
 ·rfl
 ·exact h.cJ u hu
theorem wA{c:bM}{R:aD}(h:c.is R):∀x∈c.fO,x.2.is R:=by
 intro x a
 obtain⟨s,d,a⟩:=List.mem_flatMap.1 a
 obtain⟨r,b,rfl⟩:=List.mem_map.1 a
 exact(h.all s d).all r b
theorem ug(c:bM)(R:aD)(h:c.is R)(v:c.ig):Spec prog 79 [.agg c.enc.toArray] R [] λu H'=>∃T,H'=[T]/\OS 263 4 nM u c.fO T:=by
 have hN:=v.fO
 obtain⟨vs,vc,b,a7⟩:=c
 have e:=h.ss
 have U:=e.ap
 have V:=h.sc.ap
 simp only at e U V⊢
 have a1:=e.le
 have S:∀i s k,b[i]? =some s->((b.take i).flatMap (λs=>s.bS.map λr=>((s.name,r):Nm))++(s.bS.take k).map λr=>((s.name,r):Nm)).length<=512:=λi s k a=>by
  rw[List.length_append,List.length_map]
  have o:=vN (f:=λs:cj=>s.bS.map λr=>((s.name,r):Nm)) (n:=16) (l:=b.take i) λs a=>by rw[List.length_map];exact v.2 s (List.mem_of_mem_take a)
  have p:(b.take i).length<=16:=by rw[List.length_take];have:=v.1;simp only at this;omega
  have h3:=v.2 s (aZ a)
  have h4:(s.bS.take k).length<=16:=by rw[List.length_take];omega
  omega
 refine Spec.body Tryz.func79 rfl Tryz.results79 Tryz.ntmps79 rfl ?_
 refine .sr ?_
 refine .bW rfl (λb1=>?_)
 refine .ag rfl<|.z<|.ag rfl<|.zs<|.sr<|.az rfl<|.block ?_
 refine .cx [(1,_)] (X:=Nat×Value×aB) (λy=>y.1<=b.length/\OS 263 4 nM y.2.1 ((b.take y.1).flatMap λs=>s.bS.map λr=>((s.name,r):Nm)) y.2.2) (λy E=>(4,iN y.1)::(3,y.2.1)::E) (λy G=>y.2.2::G) (λy=>b.length-y.1) (0,sZ,[]) ⟨Nat.zero_le _,OS.nil⟩ kE.c.c.c aW.ff ?_
 rintro⟨i,Z,B⟩ ⟨N,g⟩
 simp only at N g⊢
 have io:=g.ap
 refine .seq<|.sr<|.mo rfl<|.fa rfl<|.lo rfl<|.q (.bJ e) ?_
 refine .q .lss<|.zn ?_
 refine .cond rfl (λo=>?_) λo=>?_
 have F:i<b.length:=cr o
 obtain⟨s,a⟩:=bR F
 have H:=h.all _ (aZ a)
 have m:=H.rs
 have a4:=m.ap
 have a2:=m.le
 refine .kn<|.seq<|.block<|.sr<|.az rfl<|.block ?_
 refine .cx [(1,_),(4,_)] (X:=Nat×Value×aB) (λy=>y.1<=s.bS.length/\OS 263 4 nM y.2.1 (((b.take i).flatMap λs=>s.bS.map λr=>((s.name,r):Nm))++(s.bS.take y.1).map λr=>((s.name,r):Nm)) y.2.2) (λy E=>(5,iN y.1)::(3,y.2.1)::E) (λy G=>y.2.2::G) (λy=>s.bS.length-y.1) (0,Z,B) ⟨Nat.zero_le _,by simpa using g⟩ kE.c.c.c.c rH ?_
 rintro⟨k,W,L⟩ ⟨O,j⟩
 simp only at O j⊢
 have i3:=j.ap
 refine .seq<|.sr<|.mo rfl<|.fa rfl<|.lo rfl<|.mo rfl ?_
 refine .bC i e a (λa6=>?_)
 refine .fa rfl<|.lo rfl<|.q (.bJ m) ?_
 refine .q .lss<|.zn ?_
 refine .cond rfl (λp=>?_) λp=>?_
 have D:k<s.bS.length:=cr p
 obtain⟨⟨K,J,r⟩,w⟩:=bR D
 have A:=H.all _ (aZ w)
 have a5:One K:=RS.ap A.t
 have a3:One J:=RS.ap A.d
 have p1:=e.pc a
 have p2:=m.pc w
 refine .kn<|.seq<|.block<|.dp [18] mixed ?_
 refine .tO 0 rfl .move<|.tO 1 rfl (.fieldAddr rfl)<|.tO 2 rfl (.cE rfl)<|.tO 3 rfl .move ?_
 refine .tO 4 rfl (.bC i e a rfl rfl rfl) ?_
 refine .tO 5 rfl (.fieldAddr rfl)<|.tO 6 rfl (.cE rfl)<|.tO 7 rfl (.fieldAddr rfl)<|.tO 8 rfl (.cE rfl)<|.tO 9 rfl .move ?_
 refine .tO 10 rfl (.bC i e a rfl rfl rfl) ?_
 refine .tO 11 rfl (.fieldAddr rfl)<|.tO 12 rfl (.cE rfl)<|.tO 13 rfl .move ?_
 refine .tO 14 rfl (.bC k m w rfl rfl rfl) ?_
 refine .tO 15 rfl (.aL rfl) ?_
 refine .tO 16 rfl .cN ?_
 refine .sT 17 rfl ?_
 refine .dM (λa0=>?_)
 refine .nil (Next.sub ?_)
 refine .sT 18 rfl ?_
 refine .append j (RS.lits (xs:=[((s.name,⟨K,J,r⟩):Nm)]) rfl (by simp[nM,ca.enc]) (by intro x I;rw[List.mem_singleton]at I;subst I;exact Pb A)) (by have:=S i s k a;simp only[List.length_singleton];omega) (λY M C=>?_)
 have i5:=C.ap
 refine .nil (Next.mod rfl ?_)
 refine .tK 19 rfl .assign ?_
 refine RA.nil (by kernel_rfl) ?_
 refine bf<|ax<|.region<|.mo rfl ?_
 refine .ia (k+1) .add ?_
 refine .ag rfl<|.nil ?_
 ·exact aP (k+1,Y,M) ⟨D,by simp only;rw[dT w,List.map_append, <-List.append_assoc];exact C⟩ (by simp only;omega) kE.c.c.c.c (aH [1,1])
 have Q:s.bS.length<=k:=by have:=bA p;omega
 rw[dx Q]at j
 refine .exit<|bq<|bz<|bs<|bf<|ax<|.region<|.mo rfl ?_
 refine .ia (i+1) .add ?_
 refine .ag rfl<|.nil ?_
 ·exact aP (i+1,W,L) ⟨F,by simp only;rw[dT a,List.flatMap_append];simpa using j⟩ (by simp only;omega) kE.c.c.c rH
 refine .exit<|bq<|bz<|bs<|ax<|.sr<|.mo rfl<|.az rfl ?_
 refine .ret (bk _ (.one (.tmp rfl)) (.one [0] _) ?_)
 ·refine⟨B,by simp[take],?_⟩
  rw[dx (gj o)]at g
  exact g
def fI(o:Option Nat):Int:=match o with|none=> -1|some i=>i
theorem pA(v:Value)(L:List Nm)(R:aD)(h:qQ R v L)(f b:ByteArray):
  Spec prog 141 [v,.string f,.string b] R [] λu H'=>u=.int .i64 (fI (bX (L.map Nm.p) ⟨f,b⟩))/\H'=[]:=by
 have k:=h.rs
 have M:=k.le
 have Q:=k.ap
 refine Spec.body Tryz.func141 rfl Tryz.results141 Tryz.ntmps141 rfl ?_
 refine .sr<|.ag rfl<|.zs<|.sr<|.az rfl<|.block ?_
 refine .cx [(0,_),(1,_),(2,_)] (X:=Nat) (λi=>i<=L.length/\∀j x,j<i->L[j]? =some x->eh x.p≠⟨f,b⟩) (λi E=>(7,iN i)::E) (λ_ G=>G) (λi=>L.length-i) 0 ⟨Nat.zero_le _,λj x g=>absurd g (by omega)⟩ kE.c.c.c.c rH ?_
 rintro i ⟨K,z⟩
 refine .seq<|.sr<|.mo rfl<|.mo rfl<|.q (.bJ k) ?_
 refine .q .lss<|.zn ?_
 refine .cond rfl (λo=>?_) λo=>?_
 have w:i<L.length:=cr o
 obtain⟨⟨n,J,I,r⟩,l⟩:=bR w
 have B:=h.all _ (aZ l)
 have O:One J:=RS.ap B.t
 have N:One I:=RS.ap B.d
 refine .kn<|.seq<|.block<|.seq ?_
 refine bx.cL [(0,_),(1,_),(2,_),(7,_)] kE.c.c.c.c (X:=Unit) (λ_=>True) (λ_ E=>(30,.bool (decide (n=f)&&decide (r.name=b)))::E) (λ_=>[]) ?_ ?_
 refine .region<|.mo rfl<|.mo rfl ?_
 refine .bC i k l (λS=>?_)
 refine .fa rfl<|.lo rfl<|.mo rfl<|.q .dW<|.mo rfl ?_
 refine .split (t:=21) rfl (λa=>?_) (λa=>?_)
 refine .gT a<|.mo rfl<|.gT a<|.mo rfl<|.gT a ?_
 refine .bC i k l (λT=>?_)
 refine .gT a<|.fa rfl<|.gT a<|.fa rfl<|.gT a<|.lo rfl<|.gT a<|.mo rfl<|.gT a<|.q .dW<|.q (.aO a) ?_
 refine .nil ?_
 ·exact ay () trivial (kE.c.c.c.c.bP rfl (by grind)) rH
 refine .gF a<|.gF a<|.gF a<|.gF a<|.gF a<|.gF a<|.gF a<|.gF a<|.q (.aN a) ?_
 refine .nil ?_
 ·exact ay () trivial (kE.c.c.c.c.bP rfl (by grind)) rH
 intro y C
 refine ax ?_
 refine .cond rfl (λs=>?_) λs=>?_
 refine .sr<|.mo rfl<|.az rfl ?_
 refine .ret (bp (aI (cF (bp (aI (aM rfl ?_))))))
 ·refine⟨?_,rfl⟩
  have A:n=f/\r.name=b:=by simpa using s
  have:bX (L.map Nm.p) ⟨f,b⟩=some i:=by
   unfold bX
   rw[List.findIdx?_eq_some_iff_getElem]
   refine⟨by rw[List.length_map];exact w,?_,λj g=>?_⟩
   ·have e:=(List.getElem?_eq_some_iff.1 l).2
    rw[List.getElem_map,e]
    exact decide_eq_true (by show(⟨n,r.name⟩:Ty)=_;rw[A.1,A.2])
   ·rw[List.getElem_map]
    have:=z j _ g (bu (by omega))
    simpa using this
  rw[this]
  rfl
 refine .skip<|bf<|ax<|.region<|.mo rfl ?_
 refine .ia (i+1) .add ?_
 refine .ag rfl<|.nil ?_
 ·exact aP (i+1) ⟨w,λj x g m=>by
   rcases Nat.lt_or_ge j i with hh|hh
   ·exact z j x hh m
   ·obtain rfl:j=i:=by omega
    rw[l]at m
    cases m
    intro D
    injection D with k1 k2
    have F:n=f:=k1
    have H:r.name=b:=k2
    subst F;subst H
    simp at s⟩ (by omega) kE.c.c.c.c rH
 refine .exit<|bq<|bz<|bs<|ax<|.sr<|.az rfl ?_
 refine .ret (aM rfl ?_)
 ·refine⟨?_,rfl⟩
  have:bX (L.map Nm.p) ⟨f,b⟩=none:=by
   unfold bX
   rw[List.findIdx?_eq_none_iff]
   intro x m
   obtain⟨y,C,rfl⟩:=List.mem_map.1 m
   obtain⟨j,g,e⟩:=List.mem_iff_getElem.1 C
   have:=z j y (by have:=bA o;omega) (by rw[bu g,e])
   simpa using this
  rw[this]
  rfl
theorem wD{α:Type}{l:List α}{i:Nat}{x:α}(j:l[i]? =some x)(h:(l.take i).Nodup)(g:∀k y,k<i->l[k]? =some y->y≠x):(l.take (i+1)).Nodup:=by
 rw[dT j,List.nodup_append]
 refine⟨h,by simp,λa d b c=>?_⟩
 rw[List.mem_singleton]at c
 subst c
 obtain⟨k,f,e⟩:=List.mem_iff_getElem.1 d
 rw[List.length_take]at f
 exact g k a (by omega) (by rw[List.getElem_take]at e;rw[bu (by omega),e])
theorem mZ{α:Type}{l:List α}{i k:Nat}{x y:α}(f:k<i)(g:l[i]? =some x)(j:l[k]? =some y)(e:x=y):¬l.Nodup:=by
 intro h
 obtain⟨a,b⟩:=List.getElem?_eq_some_iff.1 g
 obtain⟨c,d⟩:=List.getElem?_eq_some_iff.1 j
 have:=(List.nodup_iff_pairwise_ne.1 h)
 rw[List.pairwise_iff_getElem]at this
 exact this k i c a f (by rw[d,b,e])
theorem Bs{L:List (ByteArray×Rl)}{i:Nat}{x:ByteArray×Rl}(a:L[i]? =some x):∃j,bX L (eh x)=some j/\j<=i/\∃y,L[j]? =some y/\eh y=eh x:=by
 cases h:bX L (eh x)with
 |none=>
  unfold bX at h
  rw[List.findIdx?_eq_none_iff]at h
  have:=h x (aZ a)
  simp at this
 |some j=>
  unfold bX at h
  rw[List.findIdx?_eq_some_iff_getElem]at h
  obtain⟨b,c,d⟩:=h
  refine⟨j,rfl,?_,_,bu b,cm c⟩
  rcases Nat.lt_or_ge i j with h4|h4
  ·have:=d i h4
   rw[(List.getElem?_eq_some_iff.1 a).2]at this
   simp at this
  ·exact h4
theorem QL(c:bM)(R:aD)(h:c.is R)(hf:c.ig):Spec prog 77 [.agg c.enc.toArray] R [] λu H'=>u=.bool (!decide c.plain.dY)/\H'=[]:=by
 have a8:=pa c
 have a4:=wA h
 have a9:=ug c R h hf
 have U:c.plain.dY↔(c.bd.map (·.name)).Nodup/\((c.fO.map Nm.p).map eh).Nodup/\(c.scopes.map (·.name)).Nodup:=by
  unfold Cf.dY
  rw[<-a8]
  simp only[bM.plain,List.map_map]
  exact Iff.rfl
 generalize hL:c.fO=L at *
 obtain⟨vs,vc,l,g⟩:=c
 have H:=h.ss
 have F:=h.sc
 have i1:=H.ap
 have a:=F.ap
 simp only at H F i1 a U⊢
 have c3:=H.le
 have c2:=F.le
 refine Spec.body Tryz.func77 rfl Tryz.results77 Tryz.ntmps77 rfl ?_
 refine .sr ?_
 refine .bW rfl (λb1=>?_)
 refine .ag rfl<|.zs<|.sr<|.az rfl<|.block ?_
 refine .cx [(1,_)] (X:=Nat) (λi=>i<=l.length/\((l.map (·.name)).take i).Nodup) (λi E=>(3,iN i)::E) (λ_ G=>G) (λi=>l.length-i) 0 ⟨Nat.zero_le _,by simp⟩ kE.c.c rH ?_
 rintro i ⟨hi,w⟩
 refine .seq<|.sr<|.mo rfl<|.fa rfl<|.lo rfl<|.q (.bJ H) ?_
 refine .q .lss<|.zn ?_
 refine .cond rfl (λW=>?_) λW=>?_
 have M:i<l.length:=cr W
 obtain⟨s,N⟩:=bR M
 have O:(l.map (·.name))[i]? =some s.name:=by rw[List.getElem?_map,N];rfl
 refine .kn<|.seq<|.block<|.sr<|.az rfl<|.block ?_
 refine .cx [(1,_),(3,_)] (X:=Nat) (λk=>k<=i/\∀j y,j<k->(l.map (·.name))[j]? =some y->y≠s.name) (λk E=>(4,iN k)::E) (λ_ G=>G) (λk=>i-k) 0 ⟨Nat.zero_le _,λj y J=>absurd J (by omega)⟩ kE.c.c.c rH ?_
 rintro k ⟨hk,A⟩
 refine .seq<|.sr<|.mo rfl<|.mo rfl<|.q .lss<|.zn ?_
 refine .cond rfl (λY=>?_) λY=>?_
 have K:k<i:=cr Y
 obtain⟨t,S⟩:∃t,l[k]? =some t:=⟨_,bu (by omega)⟩
 have T:(l.map (·.name))[k]? =some t.name:=by rw[List.getElem?_map,S];rfl
 refine .kn<|.seq<|.block<|.seq ?_
 refine .fX mixed (by kernel_rfl) ?_
 refine .fa rfl<|.lo rfl<|.mo rfl ?_
 refine .bC i H N (λc8=>?_)
 refine .fa rfl<|.lo rfl<|.fa rfl<|.lo rfl<|.mo rfl ?_
 refine .bC k H S (λc9=>?_)
 refine .fa rfl<|.lo rfl<|.q .dW<|.zn ?_
 refine .cond rfl (λV=>?_) λV=>?_
 refine .sr<|.az rfl ?_
 refine .ret (bp (aI (cF (bp (bp (aI (cF (bp (aI (aM rfl ?_))))))))))
 ·refine⟨?_,rfl⟩
  rw[decide_eq_false λhh=>mZ K O T (by simpa using V) (U.1 hh).1]
  rfl
 refine .skip<|bf<|ax<|.region<|.mo rfl ?_
 refine .ia (k+1) .add ?_
 refine .ag rfl<|.nil ?_
 ·exact aP (k+1) ⟨K,λj y J f=>by
   rcases Nat.lt_or_ge j k with hh|hh
   ·exact A j y hh f
   ·obtain rfl:j=k:=by omega
    rw[T]at f
    cases f
    intro e
    rw[e]at V
    simp at V⟩ (by omega) kE.c.c.c rH
 have a0:k=i:=by have:=bA Y;omega
 rw[a0]at A
 refine .exit<|bq<|bz<|bs<|bf<|ax<|.region<|.mo rfl ?_
 refine .ia (i+1) .add ?_
 refine .ag rfl<|.nil ?_
 ·exact aP (i+1) ⟨M,wD O w A⟩ (by omega) kE.c.c rH
 have b0:(l.map (·.name)).Nodup:=by rw[dx (by rw[List.length_map];have:=bA W;omega)]at w;exact w
 refine .exit<|bq<|bz<|bs<|ax<|.sr<|.q (.aL rfl) ?_
 refine .cK (a9.weaken cU) (λu T5 B=>?_)
 have i5:=B.ap
 have c4:=B.le
 refine .ag rfl<|.zs<|.sr<|.az rfl<|.block ?_
 refine .cx [(1,_),(5,_)] (X:=Nat) (λi=>i<=L.length/\(((L.map Nm.p).map eh).take i).Nodup) (λi E=>(6,iN i)::E) (λ_ G=>G) (λi=>L.length-i) 0 ⟨Nat.zero_le _,by simp⟩ kE.c.c.c rH ?_
 rintro a ⟨c0,a1⟩
 refine .seq<|.sr<|.mo rfl<|.mo rfl<|.q (.dN B) ?_
 refine .q .lss<|.zn ?_
 refine .cond rfl (λZ=>?_) λZ=>?_
 have a3:a<L.length:=cr Z
 obtain⟨⟨C,vt,vn,r⟩,Q⟩:=bR a3
 have a7:=a4 _ (aZ Q)
 have c7:One vt:=RS.ap a7.t
 have c6:One vn:=RS.ap a7.d
 have a5:(L.map Nm.p)[a]? =some (C,r):=by rw[List.getElem?_map,Q];rfl
 have a6:((L.map Nm.p).map eh)[a]? =some ⟨C,r.name⟩:=by rw[List.getElem?_map,a5];rfl
 obtain⟨n,b5,c1,yf,b7,b9⟩:=Bs a5
 have a2:bX (L.map Nm.p) ⟨C,r.name⟩=some n:=b5
 have pq:PS T5 (eC u (a*4)) (nM (C,⟨vt,vn,r⟩)):=⟨B.pc Q⟩
 refine .kn<|.seq<|.block<|.seq<|.dp [12] mixed ?_
 refine .tO 0 rfl .move<|.tO 1 rfl .move<|.tO 2 rfl .move ?_
 refine RA.bo 3 rfl a B Q rfl rfl rfl (by kernel_rfl) (λd0=>?_)
 refine .tO 4 rfl (.fieldAddr rfl)<|.tO 5 rfl (.cE rfl)<|.tO 6 rfl .move<|.tO 7 rfl .move ?_
 refine RA.bo 8 rfl a B Q rfl rfl rfl (by kernel_rfl) (λd1=>?_)
 refine .tO 9 rfl (.fieldAddr rfl)<|.tO 10 rfl (.fieldAddr rfl)<|.tO 11 rfl (.cE rfl)<|.tK 13 rfl .move ?_
 refine .sT 12 rfl ?_
 refine .ba (pA u L _ ⟨B.rx,λx hx=>(a4 x hx).mono λb o hb=>.inl hb⟩ C r.name) (λv hv=>?_)
 subst hv
 rw[a2]
 refine .nil (Next.mod rfl ?_)
 refine .tK 14 rfl .dS ?_
 refine RA.nil (by kernel_rfl) ?_
 refine ax ?_
 refine .cond rfl (λh5=>?_) λh5=>?_
 refine .sr<|.az rfl ?_
 refine .ret (bp (aI (cF (bp (aI (aM rfl ?_))))))
 ·refine⟨?_,rfl⟩
  have c5:n≠a:=by
   intro e
   subst e
   simp[fI]at h5
  have b8:((L.map Nm.p).map eh)[n]? =some ⟨C,r.name⟩:=by rw[List.getElem?_map,b7];exact congrArg some b9
  rw[decide_eq_false λhh=>mZ (show n<a by omega) a6 b8 rfl (U.1 hh).2.1]
  rfl
 have b4:n=a:=by
  have m:(fI (some n)==(a:Int))=true:=by simpa using h5
  have D:fI (some n)=(a:Int):=by simpa using m
  have I:(n:Int)=(a:Int):=D
  omega
 refine .skip<|bf<|ax<|.region<|.mo rfl ?_
 refine .ia (a+1) .add ?_
 refine .ag rfl<|.nil ?_
 ·exact aP (a+1) ⟨a3,wD a6 a1 λk y hk f=>by
   intro e
   subst e
   rw[List.getElem?_map]at f
   cases hz:(L.map Nm.p)[k]? with
   |none=>rw[hz]at f;cases f
   |some z=>
    rw[hz]at f
    have b6:eh z=⟨C,r.name⟩:=by simpa using f
    obtain⟨j2,m,D,_⟩:=Bs hz
    rw[b6,a2,b4]at m
    cases m
    omega⟩ (by omega) kE.c.c.c rH
 have b2:((L.map Nm.p).map eh).Nodup:=by rw[dx (by simp only[List.length_map];have:=bA Z;omega)]at a1;exact a1
 refine .exit<|bq<|bz<|bs<|ax<|.seq<|.sr<|.az rfl<|.block ?_
 refine .cx [(1,_)] (X:=Nat) (λi=>i<=g.length/\((g.map (·.name)).take i).Nodup) (λi E=>(7,iN i)::E) (λ_ G=>G) (λi=>g.length-i) 0 ⟨Nat.zero_le _,by simp⟩ kE.c.c rH ?_
 rintro i ⟨hi,w⟩
 refine .seq<|.sr<|.mo rfl<|.fa rfl<|.lo rfl<|.q (.bJ F) ?_
 refine .q .lss<|.zn ?_
 refine .cond rfl (λm=>?_) λm=>?_
 have M:i<g.length:=cr m
 obtain⟨s,N⟩:=bR M
 have O:(g.map (·.name))[i]? =some s.name:=by rw[List.getElem?_map,N];rfl
 refine .kn<|.seq<|.block<|.sr<|.az rfl<|.block ?_
 refine .cx [(1,_),(7,_)] (X:=Nat) (λk=>k<=i/\∀j y,j<k->(g.map (·.name))[j]? =some y->y≠s.name) (λk E=>(8,iN k)::E) (λ_ G=>G) (λk=>i-k) 0 ⟨Nat.zero_le _,λj y J=>absurd J (by omega)⟩ kE.c.c.c rH ?_
 rintro k ⟨hk,A⟩
 refine .seq<|.sr<|.mo rfl<|.mo rfl<|.q .lss<|.zn ?_
 refine .cond rfl (λD=>?_) λD=>?_
 have K:k<i:=cr D
 obtain⟨t,S⟩:∃t,g[k]? =some t:=⟨_,bu (by omega)⟩
 have T:(g.map (·.name))[k]? =some t.name:=by rw[List.getElem?_map,S];rfl
 refine .kn<|.seq<|.block<|.seq ?_
 refine .fX mixed (by kernel_rfl) ?_
 refine .fa rfl<|.lo rfl<|.mo rfl ?_
 refine .bC i F N (λd2=>?_)
 refine .fa rfl<|.lo rfl<|.fa rfl<|.lo rfl<|.mo rfl ?_
 refine .bC k F S (λd3=>?_)
 refine .fa rfl<|.lo rfl<|.q .dW<|.zn ?_
 refine .cond rfl (λI=>?_) λI=>?_
 refine .sr<|.az rfl ?_
 refine .ret (bp (aI (cF (bp (bp (aI (cF (bp (aI (aM rfl ?_))))))))))
 ·refine⟨?_,rfl⟩
  rw[decide_eq_false λhh=>mZ K O T (by simpa using I) (U.1 hh).2.2]
  rfl
 refine .skip<|bf<|ax<|.region<|.mo rfl ?_
 refine .ia (k+1) .add ?_
 refine .ag rfl<|.nil ?_
 ·exact aP (k+1) ⟨K,λj y J f=>by
   rcases Nat.lt_or_ge j k with hh|hh
   ·exact A j y hh f
   ·obtain rfl:j=k:=by omega
    rw[T]at f
    cases f
    intro e
    rw[e]at I
    simp at I⟩ (by omega) kE.c.c.c rH
 have a0:k=i:=by have:=bA D;omega
 rw[a0]at A
 refine .exit<|bq<|bz<|bs<|bf<|ax<|.region<|.mo rfl ?_
 refine .ia (i+1) .add ?_
 refine .ag rfl<|.nil ?_
 ·exact aP (i+1) ⟨M,wD O w A⟩ (by omega) kE.c.c rH
 have b3:(g.map (·.name)).Nodup:=by rw[dx (by rw[List.length_map];have:=bA m;omega)]at w;exact w
 refine .exit<|bq<|bz<|bs<|ax<|.sr<|.az rfl ?_
 refine .ret (aM rfl ?_)
 ·refine⟨?_,rfl⟩
  rw[decide_eq_true (U.2 ⟨b0,b2,b3⟩)]
  rfl
def cW(n:Nat):List Value:=[iN n]
abbrev lZ:=Int×Int×Bool
def jU(e:lZ):List Value:=[.int .i64 e.1,.int .i64 e.2.1,.bool e.2.2]
instance(e:lZ):bZ (jU e):=⟨by simp[jU,ap]⟩
def Ed.m(e:Ed):lZ:=(e.f,e.t,e.a)
theorem Oz{E:List Ed}{now:List Nat}{n j:Nat}{e:Ed}(a:E[j]? =some e):(E.take (j+1)).foldl (eW now) (List.replicate n 0)=eW now ((E.take j).foldl (eW now) (List.replicate n 0)) e:=by rw[dT a,List.foldl_append];rfl
theorem Bw(v:Value)(E:List Ed)(n o:Nat)(R:aD)(h:RS R 3 jU v (E.map Ed.m))(O:∀e∈E,e.f<n/\e.t<n)(hn:n<=1000000)(hs:o<=1000000):
  Spec prog 80 [v,iN n,iN o] R [] λu H'=>∃T,H'=[T]/\OS 3 1 cW u (level E n o) T:=by
 have a5:=h.le
 have iv:=h.ap
 have Y:∀e∈E,e.f<n:=λe C=>(O e C).1
 rw[List.length_map]at a5
 refine Spec.body Tryz.func80 rfl Tryz.results80 Tryz.ntmps80 rfl ?_
 refine .sr<|.ag rfl<|.z<|.mo rfl ?_
 refine .makeSlice (enc:=cW) n 0 rfl rfl (by decide) (by simp[cW,ap]) rfl rfl (by omega) (by omega) (λb7 r Z=>?_)
 refine .ag rfl<|.zs<|.sr<|.az rfl<|.block ?_
 refine .cx [(0,_),(1,_),(2,_)] (X:=Nat×Value×aB) (λy=>y.1<=o/\OS 3 1 cW y.2.1 (level E n y.1) y.2.2) (λy E=>(8,iN y.1)::(7,y.2.1)::E) (λy G=>y.2.2::G) (λy=>o-y.1) (0,_,r) ⟨Nat.zero_le _,Z⟩ kE.c.c.c.c.c rH ?_
 rintro⟨s,v7,r⟩ ⟨b0,D⟩
 simp only at b0 D⊢
 have i7:=D.ap
 have a6:∀i,(level E n s).getD i 0<=s:=wg Y s
 have b3:(level E n s).length=n:=li s
 generalize U:level E n s=now at *
 refine .seq<|.sr<|.mo rfl<|.mo rfl<|.q .lss<|.zn ?_
 refine .cond rfl (λJ=>?_) λJ=>?_
 have b1:s<o:=cr J
 refine .kn<|.seq<|.block<|.sr<|.mo rfl ?_
 refine .makeSlice (enc:=cW) n 0 rfl rfl (by decide) (by simp[cW,ap]) rfl rfl (by omega) (by omega) (λI p b=>?_)
 refine .ag rfl<|.zs<|.sr<|.az rfl<|.block ?_
 refine .cx [(0,_),(1,_),(2,_),(7,_),(8,_),(9,_)] (X:=Nat×aB) (λy=>y.1<=E.length/\OS 3 1 cW (.slice (some ⟨I,0,none⟩) n n) ((E.take y.1).foldl (eW now) (List.replicate n 0)) y.2) (λy E=>(10,iN y.1)::E) (λy G=>y.2::G) (λy=>E.length-y.1) (0,p) ⟨Nat.zero_le _,b⟩ kE.c.c.c.c.c.c.c rH ?_
 rintro⟨j,p⟩ ⟨hj,b⟩
 simp only at hj b⊢
 refine .seq<|.sr<|.mo rfl<|.mo rfl<|.q (.bJ h) ?_
 rw[List.length_map]
 refine .q .lss<|.zn ?_
 refine .cond rfl (λK=>?_) λK=>?_
 have S:j<E.length:=cr K
 obtain⟨e,C⟩:=bR S
 have a1:(E.map Ed.m)[j]? =some e.m:=by rw[List.getElem?_map,C];rfl
 obtain⟨a2,a3⟩:=O e (aZ C)
 obtain⟨g,l,k⟩:=e
 simp only at a2 a3
 have b4:((E.take j).foldl (eW now) (List.replicate n 0)).length=n:=by rw[vY,List.length_replicate]
 generalize a8:(E.take j).foldl (eW now) (List.replicate n 0)=nx at *
 have a7:(E.take (j+1)).foldl (eW now) (List.replicate n 0)=eW now nx ⟨g,l,k⟩:=by rw[Oz C,a8]
 obtain⟨a,Q⟩:∃a,now[l]? =some a:=⟨_,bu (by omega)⟩
 obtain⟨z,F⟩:∃z,nx[g]? =some z:=⟨_,bu (by omega)⟩
 have B:now.getD l 0=a:=by rw[List.getD_eq_getElem?_getD,Q];rfl
 have H:nx.getD g 0=z:=by rw[List.getD_eq_getElem?_getD,F];rfl
 have a0:=a6 l
 rw[B]at a0
 refine .kn<|.seq<|.block<|.sr<|.mo rfl<|.mo rfl ?_
 refine .bC j h a1 (λb5=>?_)
 refine .q (.aL rfl) ?_
 refine .bN (λW=>?_)
 refine .bH rfl rfl<|.z<|.mo rfl<|.fa rfl<|.lo rfl ?_
 refine .bo l D Q (λb6=>?_)
 refine .lo rfl<|.ag rfl<|.zs<|.sr<|.fa rfl<|.lo rfl<|.zn ?_
 refine bx.cL [(0,_),(1,_),(2,_),(7,_),(8,_),(9,_),(10,_),(11,_)] kE.c.c.c.c.c.c.c.c (X:=Unit) (λ_=>True) (λ_ E=>(12,.int .i64 ((a+(if k then 1 else 0):Nat):Int))::E) (λ_=>[bl W (jU (Ed.m ⟨g,l,k⟩)) 266,p,r]) ?_ ?_
 refine .cond rfl (λL=>?_) λL=>?_
 refine .region<|.mo rfl ?_
 refine .ia (a+1) .add ?_
 refine .ag rfl<|.nil ?_
 ·exact ay () trivial (kE.c.c.c.c.c.c.c.c.jG rfl (by have h:k=_:=L;simp[h])) rH
 refine .skip ?_
 ·exact ay () trivial (kE.c.c.c.c.c.c.c.c.jG rfl (by have h:k=_:=L;simp[h])) rH
 intro x V
 refine ax<|.sr<|.mo rfl<|.mo rfl<|.fa rfl<|.lo rfl ?_
 refine .bo g b F (λb8=>?_)
 refine .lo rfl<|.q .gtr<|.zn ?_
 refine bx.cL [(0,_),(1,_),(2,_),(7,_),(8,_),(9,_),(10,_)] kE.c.c.c.c.c.c.c (X:=aB) (λT=>OS 3 1 cW (.slice (some ⟨I,0,none⟩) n n) (eW now nx ⟨g,l,k⟩) T) (λ_ E=>E) (λT=>[T,r]) ?_ ?_
 refine .cond rfl (λA=>?_) λA=>?_
 refine .region<|.mo rfl<|.fa rfl<|.lo rfl<|.mo rfl ?_
 refine .bo g b F (λc0=>?_)
 refine .gz g b F (a+(if k then 1 else 0)) (λM N=>?_)
 refine .nil ?_
 ·first
   |exact ay M (by unfold eW Ed.w;simp only;rw[B,H,if_pos (by have:=cm A;omega)];exact N) kE.c.c.c.c.c.c.c (aH [1,1])
   |exact ay p (by unfold eW Ed.w;simp only;rw[B,H,if_neg (by have:=bA A;omega)];exact b) kE.c.c.c.c.c.c.c (aH [1,1])
 refine .skip ?_
 ·first
   |exact ay M (by unfold eW Ed.w;simp only;rw[B,H,if_pos (by have:=cm A;omega)];exact N) kE.c.c.c.c.c.c.c (aH [1,1])
   |exact ay p (by unfold eW Ed.w;simp only;rw[B,H,if_neg (by have:=bA A;omega)];exact b) kE.c.c.c.c.c.c.c (aH [1,1])
 intro x V
 have b2:OS 3 1 cW (.slice (some ⟨I,0,none⟩) n n) (eW now nx ⟨g,l,k⟩) x:=V
 refine bf<|ax<|.region<|.mo rfl ?_
 refine .ia (j+1) .add ?_
 refine .ag rfl<|.nil ?_
 ·exact aP (j+1,x) ⟨S,by simp only;rw[a7];exact b2⟩ (by simp only;omega) kE.c.c.c.c.c.c.c rH
 have a4:E.length<=j:=by have:=bA K;omega
 rw[dx a4]at b
 refine .exit<|bq<|bz<|bs<|ax<|.region<|.mo rfl<|.ag rfl<|.nil<|bf<|ax<|.region<|.mo rfl ?_
 refine .ia (s+1) .add ?_
 refine .ag rfl<|.nil ?_
 ·exact aP (s+1,_,p) ⟨b1,by simp only;unfold level;rw[U];exact b⟩ (by simp only;omega) (((((kE.d rfl).d rfl).d rfl).d rfl).d rfl) (aH [0])
 have a9:s=o:=by have:=bA J;omega
 refine .exit<|bq<|bz<|bs<|ax<|.sr<|.mo rfl<|.az rfl ?_
 refine .ret (bk _ (.one (.tmp rfl)) (.one [0] _) ?_)
 ·refine⟨r,by simp[take],?_⟩
  rw[<-a9,U]
  exact D
def WE(ok:Bool)(E:List lZ)(o:Option (List Ed)):Prop:=match o with
 |some E'=>ok=true/\E=E'.map Ed.m
 |none=>ok=false
def jJ(dy:ByteArray)(t:Ty):Ty:=⟨t.space,if dy=⟨#[]⟩then t.rel else dy⟩
theorem td(l:List (ByteArray×Rl)):∀ks:List Ty,match findAll l ks with
  |some o=>(ks.all λt=>(bX l t).isSome)=true/\(o.map λk:Nat=>(k:Int))=ks.map λt=>fI (bX l t)
  |none=>(ks.all λt=>(bX l t).isSome)=false
 |[]=>⟨rfl,rfl⟩
 |t::ks=>by
  have a:=td l ks
  unfold findAll
  cases h:bX l t with
  |none=>simp[h]
  |some i=>
   simp only[Option.bind_some,List.all_cons,h,Option.isSome_some,Bool.true_and,List.map_cons]
   cases h2:findAll l ks with
   |none=>rw[h2]at a;exact a
   |some o=>rw[h2]at a;exact⟨a.1,by rw[<-a.2];rfl⟩
def TG(l:List (ByteArray×Rl))(sp:ByteArray)(r:Rl)(n:Nd)(tys:List Ty)(dy:ByteArray):Prop:=
 (n.kind=1/\tys=r.types/\dy=⟨#[]⟩)\/(n.kind=3/\dy=n.dy/\∃k,bX l ⟨sp,n.rel⟩=some k/\tys=(l.map (·.2.types)).getD k [])
def outs(l:List (ByteArray×Rl))(i:Nat)(ab:Bool)(dy:ByteArray)(ts:List Ty):List lZ:=(dI ts).map λt=>((i:Int),fI (bX l (jJ dy t)),ab)
def mA(l:List (ByteArray×Rl))(dy:ByteArray)(ts:List Ty):Bool:=(dI ts).all λt=>(bX l (jJ dy t)).isSome
theorem BV{a:List Ty}{j:Nat}{t:Ty}(h:a[j]? =some t):dI (a.take (j+1))=dI (a.take j)++if t.space=⟨#[]⟩then []else [t]:=by
 unfold dI
 rw[dT h,List.filter_append]
 congr 1
 by_cases e:t.space=⟨#[]⟩
 ·simp[e]
 ·simp[e]
theorem WE.all{l:List (ByteArray×Rl)}{i:Nat}{ab:Bool}(ks:List Ty):WE (ks.all λt=>(bX l t).isSome) (ks.map λt=>((i:Int),fI (bX l t),ab)) ((findAll l ks).map λts=>ts.map λt=>(⟨i,t,ab⟩:Ed)):=by
 have h:=td l ks
 cases h2:findAll l ks with
 |none=>rw[h2]at h;exact h
 |some o=>
  rw[h2]at h
  refine⟨h.1,?_⟩
  have:(ks.map λt=>((i:Int),fI (bX l t),ab))=(ks.map λt=>fI (bX l t)).map λz=>((i:Int),z,ab):=by rw[List.map_map];rfl
  rw[this, <-h.2]
  simp[Ed.m,Function.comp_def]
theorem Pe{l:List (ByteArray×Rl)}{i:Nat}{g:ByteArray}{r:Rl}{ab:Bool}{n:Nd}{c:List Ty}{a:ByteArray}(h:TG l g r n c a)(m:n.kind=3->n.dy≠⟨#[]⟩):
  WE (mA l a c&&(decide (a=⟨#[]⟩)||decide (0<(outs l i ab a c).length))) (outs l i ab a c) (fv l i g r ab n):=by
 rcases h with⟨b,rfl,rfl⟩|⟨b,rfl,k,j,rfl⟩
 ·have e:∀t:Ty,jJ ⟨#[]⟩ t=t:=λt=>by unfold jJ;rw[if_pos rfl]
  have:=WE.all (l:=l) (i:=i) (ab:=ab) (dI r.types)
  unfold fv targets mA outs
  simp only[e,b,if_true,decide_true,Bool.true_or,Bool.and_true]
  exact this
 ·have d:=m b
  have e:∀t:Ty,jJ n.dy t=⟨t.space,n.dy⟩:=λt=>by unfold jJ;rw[if_neg d]
  unfold fv targets mA outs
  simp only[e,b,j,decide_eq_false d,Bool.false_or,if_neg (show ¬(3:Int)=1 by decide),if_neg (show ¬(3:Int)=2 by decide),if_true,List.length_map]
  generalize o:dI ((l.map (·.2.types)).getD k [])=zs
  have f:=WE.all (l:=l) (i:=i) (ab:=ab) (zs.map λt=>(⟨t.space,n.dy⟩:Ty))
  rw[List.all_map,List.map_map]at f
  cases zs with
  |nil=>rfl
  |cons z zs=>
   simp only[List.length_cons,Nat.zero_lt_succ,decide_true,Bool.and_true]
   exact f
theorem CG{l:List (ByteArray×Rl)}{i:Nat}{c:ByteArray}{r:Rl}{A B:List (Nat×Bool)}{f g:Bool}{h j:List lZ}
  (d:WE f h (cat (λp:Nat×Bool=>(r.nodes[p.1]?).bind λn=>fv l i c r p.2 n) A))(e:WE g j (cat (λp:Nat×Bool=>(r.nodes[p.1]?).bind λn=>fv l i c r p.2 n) B)):
  WE (f&&g) (h++j) (cat (λp:Nat×Bool=>(r.nodes[p.1]?).bind λn=>fv l i c r p.2 n) (A++B)):=by
 rw[qU]
 revert d e
 generalize cat (λp:Nat×Bool=>(r.nodes[p.1]?).bind λn=>fv l i c r p.2 n) A=a
 generalize cat (λp:Nat×Bool=>(r.nodes[p.1]?).bind λn=>fv l i c r p.2 n) B=b
 intro d e
 cases a with
 |none=>have k:f=false:=d;subst k;exact Bool.false_and _
 |some a=>
  cases b with
  |none=>have m:g=false:=e;subst m;exact Bool.and_false _
  |some b=>obtain⟨rfl,rfl⟩:=d;obtain⟨rfl,rfl⟩:=e;exact⟨rfl,by simp⟩
theorem Pf{l:List (ByteArray×Rl)}{i:Nat}{a:ByteArray}{r:Rl}{ab:Bool}{n:Nd}(b:n.kind=2):
  WE (decide (0<=fI (bX l ⟨a,n.rel⟩))) [((i:Int),fI (bX l ⟨a,n.rel⟩),ab)] (fv l i a r ab n):=by
 have h:=WE.all (l:=l) (i:=i) (ab:=ab) [(⟨a,n.rel⟩:Ty)]
 unfold fv targets
 rw[if_neg (by omega),if_pos b]
 have e:decide (0<=fI (bX l ⟨a,n.rel⟩))=([(⟨a,n.rel⟩:Ty)].all λt=>(bX l t).isSome):=by
  simp only[List.all_cons,List.all_nil,Bool.and_true]
  cases bX l ⟨a,n.rel⟩with
  |none=>rfl
  |some k=>simp[fI]
 rw[e]
 exact h
theorem Pd{l:List (ByteArray×Rl)}{i:Nat}{a:ByteArray}{r:Rl}{ab:Bool}{n:Nd}(b:n.kind=3)(h:fI (bX l ⟨a,n.rel⟩)<0):WE false [] (fv l i a r ab n):=by
 cases hr:bX l ⟨a,n.rel⟩with
 |none=>
  unfold fv targets
  rw[if_neg (by omega),if_neg (by omega),if_pos b,hr]
  rfl
 |some k=>rw[hr]at h;simp only[fI]at h;omega
def sC(L:List Nm):Prop:=∀x∈L,x.2.r.types.length<=8/\x.2.r.nodes.length<=64/\fS isWord x.2.r.nodes≠0
theorem SQ{s:ByteArray}(h:isWord s=true):s≠⟨#[]⟩:=by
 intro e
 subst e
 revert h
 decide+kernel
theorem AP{L:List Nm}{k:Nat}{y:Nm}(h:L[k]? =some y):((L.map Nm.p).map (·.2.types)).getD k []=y.2.r.types:=by
 rw[List.getD_eq_getElem?_getD,List.getElem?_map,List.getElem?_map,h]
 rfl
theorem QX(v:Value)(L:List Nm)(R:aD)(h:qQ R v L)(hL:sC L)(i:Nat)(l:ByteArray)(vt vn:Value)(r:Rl)(a1:L[i]? =some (l,⟨vt,vn,r⟩)):
  ∀(m b d:Nat),tree isWord r.nodes m=some (b,d)->∀(ab:Bool) (j:Int),j=(m:Int)-1->
  Spec prog 142 [v,iN i,.int .i64 j,.bool ab] R [] λu H'=>∃T,H'=[T]/\∃w E ok,u=.tuple [w,.bool ok].toArray/\OS 266 3 jU w E T/\E.length<=8*(m-b)/\
   WE ok E (cat (λp:Nat×Bool=>(r.nodes[p.1]?).bind λn=>fv (L.map Nm.p) i l r p.2 n) (fx r.nodes m ab)):=by
 intro m
 induction m using Nat.strongRecOn with
 |_ m ih=>
 intro b d ht ab j hj
 have V:=h.rs
 have iv:=V.ap
 have c3:=h.all _ (aZ a1)
 have b2:RS R 2 Ty.enc vt r.types:=c3.t
 have c2:RS R 5 Nd.enc vn r.nodes:=c3.d
 have e5:=b2.ap
 have e4:=c2.ap
 obtain⟨a9,c6,c8⟩:=hL _ (aZ a1)
 simp only at a9 c6 c8
 have d9:=og ht
 obtain⟨e,rfl⟩:∃e,m=e+1:=⟨m-1,by omega⟩
 have c9:j=(e:Int):=by omega
 subst c9
 obtain⟨n,Z⟩:∃n,r.nodes[e]? =some n:=⟨_,bu (by omega)⟩
 have b1:∀ab,n.op=false->cat (λp:Nat×Bool=>(r.nodes[p.1]?).bind λn=>fv (L.map Nm.p) i l r p.2 n) (fx r.nodes (e+1) ab)=fv (L.map Nm.p) i l r ab n:=λab ho=>by
  rw[uL Z ho]
  unfold cat
  simp only[Z,Option.bind_some,cat]
  cases fv (L.map Nm.p) i l r ab n<;>simp
 have a6:n.op=false->n.leaf isWord=true/\b=e:=λho=>by
  rw[lD Z ho]at ht
  split at ht
  ·rename_i hl;cases ht;exact⟨hl,rfl⟩
  ·cases ht
 refine Spec.gO (H':=[[]]) (by simp) ?_
 refine Spec.body Tryz.func142 rfl Tryz.results142 Tryz.ntmps142 rfl ?_
 refine .sr<|.ag rfl<|.ag rfl<|.z<|.ag rfl<|.z<|.mo rfl<|.mo rfl ?_
 refine .bC i V a1 (λf4=>?_)
 refine .fa rfl<|.fa rfl<|.lo rfl<|.mo rfl ?_
 refine .bC e c2 Z (λf5=>?_)
 refine .q (.aL rfl) ?_
 refine .bN (λa3=>?_)
 refine .bH rfl rfl<|.zs<|.seq ?_
 refine bx.cL [(0,_),(1,_),(3,_),(10,_),(11,_)] kE.c.c.c.c.c (X:=Unit) (λ_=>True) (λ_ E=>(45,.bool n.op)::E) (λ_=>[bl a3 n.enc 199,[]]) ?_ ?_
 refine .region<|.fa rfl<|.lo rfl<|.q .bK<|.mo rfl ?_
 refine .split (t:=36) rfl (λI=>?_) (λI=>?_)
 refine .gF I<|.gF I<|.gF I<|.q (.aO I) ?_
 refine .mo rfl<|.gX<|.gX<|.gX<|.q .cO<|.nil ?_
 ·exact ay () trivial (kE.c.c.c.c.c.bP rfl (by clear ih;grind[Nd.op])) rH
 refine .gT I<|.fa rfl<|.gT I<|.lo rfl<|.gT I<|.q .bK<|.q (.aN I) ?_
 refine .mo rfl ?_
 refine .split (t:=41) rfl (λJ=>?_) (λJ=>?_)
 refine .gF J<|.gF J<|.gF J<|.q (.aO J) ?_
 refine .nil ?_
 ·exact ay () trivial (kE.c.c.c.c.c.bP rfl (by clear ih;grind[Nd.op])) rH
 refine .gT J<|.fa rfl<|.gT J<|.lo rfl<|.gT J<|.q .bK<|.q (.aN J) ?_
 refine .nil ?_
 ·exact ay () trivial (kE.c.c.c.c.c.bP rfl (by clear ih;grind[Nd.op])) rH
 intro y hy
 refine ax ?_
 refine .cond rfl (λB=>?_) λB=>?_
 have c1:n.op=true:=B
 obtain⟨b',x,y,Y,h3,M,N,o,h7,h8,h9⟩:=od Z c1 ht
 have d8:=og Y
 have c7:=og M
 simp only at M c7 h9
 have b4:=uM Z c1 ⟨by omega,by omega⟩ ab
 rw[show n.a.toNat+1=b' by omega,show n.b.toNat+1=e by omega]at b4
 refine .sr<|.mo rfl<|.mo rfl<|.fa rfl<|.lo rfl<|.mo rfl ?_
 refine .cK ((ih b' (by omega) b y M ab _ N).weaken cU) (λu Ta C=>?_)
 obtain⟨wa,Ea,e8,rfl,b6,e1,b8⟩:=C
 have e7:=b6.ap
 refine .mo rfl<|.q .extract<|.q .extract<|.ag rfl<|.ag rfl<|.zs ?_
 refine bx.cL [(10,_),(12,_),(13,_)] kE.c.c.c (X:=Value×List lZ×Bool×aB) (λy=>OS 266 3 jU y.1 y.2.1 y.2.2.2/\y.2.1.length<=8*(e-b')/\WE y.2.2.1 y.2.1 (cat (λp:Nat×Bool=>(r.nodes[p.1]?).bind λn=>fv (L.map Nm.p) i l r p.2 n) (fx r.nodes e (ab||n.kind==6)))) (λy E=>(14,y.1)::(15,.bool y.2.2.1)::E) (λy=>[bl a3 n.enc 199,[],Ta,y.2.2.2]) ?_ ?_
 refine .region<|.mo rfl<|.mo rfl<|.fa rfl<|.lo rfl<|.mo rfl<|.mo rfl ?_
 refine .split (t:=61) rfl (λA=>?_) (λA=>?_)
 refine .gF A<|.gF A<|.gF A<|.q (.aO A) ?_
 refine .cK ((ih e (by omega) b' x Y _ _ o).weaken cU) (λu Tb C=>?_)
 obtain⟨wb,Eb,a8,rfl,K,a4,U⟩:=C
 have c5:=K.ap
 refine .mo rfl<|.q .extract<|.q .extract<|.ag rfl<|.ag rfl<|.nil ?_
 ·exact ay (wb,Eb,a8,Tb) ⟨K,a4,by simpa only[B,A,Bool.true_or,Bool.false_or]using U⟩ kE.c.c.c.c.c (aH [2,2,1,0])
 refine .gT A<|.fa rfl<|.gT A<|.lo rfl<|.gT A<|.q .bK<|.q (.aN A) ?_
 refine .cK ((ih e (by omega) b' x Y _ _ o).weaken cU) (λu Tb C=>?_)
 obtain⟨wb,Eb,a8,rfl,K,a4,U⟩:=C
 have c5:=K.ap
 refine .mo rfl<|.q .extract<|.q .extract<|.ag rfl<|.ag rfl<|.nil ?_
 ·exact ay (wb,Eb,a8,Tb) ⟨K,a4,by simpa only[B,A,Bool.true_or,Bool.false_or]using U⟩ kE.c.c.c.c.c (aH [2,2,1,0])
 intro y hy
 obtain⟨wb,Eb,a8,Tb⟩:=y
 obtain⟨K,a4,U⟩:=hy
 simp only at K a4 U⊢
 have c5:=K.ap
 refine ax<|.sr<|.mo rfl<|.mo rfl ?_
 refine .append (OS.nil (enc:=jU) (sz:=3)) b6.rx (by simp only[List.length_nil];omega) (λv1 T1 D=>?_)
 rw[List.nil_append]at D
 have c4:=D.ap
 refine .ag rfl<|.z<|.mo rfl<|.mo rfl ?_
 refine .append D K.rx (by omega) (λv2 T2 b3=>?_)
 have e6:=b3.ap
 refine .mo rfl<|.mo rfl ?_
 refine .split (t:=76) rfl (λS=>?_) (λS=>?_)
 refine .gT S<|.mo rfl<|.q (.aO S) ?_
 refine .ag rfl<|.az rfl ?_
 refine .ret (aI (bk _ (.two (.tmp rfl) (.tmp rfl)) (.one [1] _) ?_))
 ·refine⟨T2,by simp[take,bL],v2,_,_,rfl,b3,?_,?_⟩
  ·rw[List.length_append];omega
  ·rw[b4];have hh:=CG b8 U;simpa only[S,Bool.true_and,Bool.false_and]using hh
 refine .gF S<|.q (.aN S) ?_
 refine .ag rfl<|.az rfl ?_
 refine .ret (aI (bk _ (.two (.tmp rfl) (.tmp rfl)) (.one [1] _) ?_))
 ·refine⟨T2,by simp[take,bL],v2,_,_,rfl,b3,?_,?_⟩
  ·rw[List.length_append];omega
  ·rw[b4];have hh:=CG b8 U;simpa only[S,Bool.true_and,Bool.false_and]using hh
 refine .kn<|.seq<|.sr<|.fa rfl<|.lo rfl<|.q .bK<|.zn ?_
 refine .cond rfl (λY=>?_) λY=>?_
 refine .seq ?_
 refine .dU 8 mixed (by kernel_rfl) ?_
 conv=>arg 6;dsimp only[List.take]
 refine .mo rfl<|.mo rfl<|.mo rfl ?_
 refine .bC i V a1 (λf6=>?_)
 refine .fa rfl<|.lo rfl<|.fa rfl<|.lo rfl<|.nil ?_
 refine .ba ((pA v L R h l n.rel).weaken cU) (λu C=>?_)
 subst C
 refine .ag rfl<|.z<|.mo rfl<|.mo rfl<|.mo rfl<|.mo rfl ?_
 refine .q .cN ?_
 refine .dM (λd7=>?_)
 refine .append (OS.nil (enc:=jU) (sz:=3)) (RS.lits (xs:=[((i:Int),fI (bX (L.map Nm.p) ⟨l,n.rel⟩),ab)]) rfl (by simp[jU]) (by simp[jU,ap])) (by simp) (λv1 T1 D=>?_)
 rw[List.nil_append]at D
 have c4:=D.ap
 refine .mo rfl<|.q .geq<|.ag rfl<|.az rfl ?_
 refine .ret (aI (bk _ (.two (.tmp rfl) (.tmp rfl)) (.one [2] _) ?_))
 ·refine⟨T1,by simp[take,bL],v1,_,_,rfl,D,?_,?_⟩
  ·have:=(a6 B).2;simp only[List.length_singleton];omega
  ·rw[b1 ab B];exact Pf (by simpa using Y)
 have e0:n.kind=1\/n.kind=3:=by have hl:=(a6 B).1;grind[Nd.leaf]
 refine .kn<|.sr<|.mo rfl<|.mo rfl ?_
 refine .bC i V a1 (λe9=>?_)
 refine .fa rfl<|.fa rfl<|.lo rfl<|.ag rfl<|.ag rfl<|.zs<|.sr<|.fa rfl<|.lo rfl<|.q .bK<|.zn ?_
 refine bx.cL [(0,_),(1,_),(3,_),(10,_)] kE.c.c.c.c (X:=Value×List Ty×ByteArray) (λy=>RS R 2 Ty.enc y.1 y.2.1/\y.2.1.length<=8/\TG (L.map Nm.p) l r n y.2.1 y.2.2) (λy E=>(17,y.1)::(18,.string y.2.2)::E) (λy=>[bl a3 n.enc 199,[]]) ?_ ?_
 refine .cond rfl (λh3=>?_) λh3=>?_
 refine .seq ?_
 refine .dU 8 mixed (by kernel_rfl) ?_
 conv=>arg 6;dsimp only[List.take]
 refine .mo rfl<|.mo rfl<|.mo rfl ?_
 refine .bC i V a1 (λf0=>?_)
 refine .fa rfl<|.lo rfl<|.fa rfl<|.lo rfl<|.nil ?_
 refine .ba ((pA v L R h l n.rel).weaken cU) (λu C=>?_)
 subst C
 refine .ag rfl<|.zs<|.sr<|.mo rfl<|.q .lss<|.zn ?_
 refine .cond rfl (λM=>?_) λM=>?_
 refine .sr<|.ag rfl<|.az rfl ?_
 refine .ret (aI (jI (aI (bk _ (.two (.tmp rfl) (.tmp rfl)) (.one [1] _) ?_))))
 ·refine⟨[],by simp[take,bL],_,[],_,rfl,OS.nil,by simp,?_⟩
  rw[b1 ab B]
  exact Pd (by simpa using h3) (by simpa using M)
 obtain⟨k,hk⟩:∃k,bX (L.map Nm.p) ⟨l,n.rel⟩=some k:=by
  cases hr:bX (L.map Nm.p) ⟨l,n.rel⟩with
  |none=>rw[hr]at M;simp[fI]at M
  |some k=>exact⟨k,rfl⟩
 have d1:k<L.length:=by have:=wV hk;rwa [List.length_map]at this
 obtain⟨⟨sk,b5,d5,rk⟩,a2⟩:=bR d1
 have c0:=h.all _ (aZ a2)
 have b0:RS R 2 Ty.enc b5 rk.types:=c0.t
 have e3:=b0.ap
 have e2:One d5:=RS.ap c0.d
 have b9:=(hL _ (aZ a2)).1
 have pk:=V.pc a2
 have d0:fI (bX (L.map Nm.p) ⟨l,n.rel⟩)=(k:Int):=by rw[hk];rfl
 refine .kn ?_
 refine .fX mixed (by kernel_rfl) ?_
 refine .mo rfl<|.mo rfl<|.q (.bC k V a2 rfl rfl d0) ?_
 refine .fa rfl<|.fa rfl<|.lo rfl<|.fa rfl<|.lo rfl<|.ag rfl<|.ag rfl<|.nil ?_
 ·first
   |exact ay (b5,rk.types,n.dy) ⟨b0,b9,.inr ⟨by simpa using h3,rfl,k,hk,(AP a2).symm⟩⟩ kE.c.c.c.c.c.c rH
   |exact ay (vt,r.types,⟨#[]⟩) ⟨b2,a9,.inl ⟨by grind,rfl,rfl⟩⟩ kE.c.c.c.c.c.c rH
 refine .skip ?_
 ·first
   |exact ay (b5,rk.types,n.dy) ⟨b0,b9,.inr ⟨by simpa using h3,rfl,k,hk,(AP a2).symm⟩⟩ kE.c.c.c.c.c.c rH
   |exact ay (vt,r.types,⟨#[]⟩) ⟨b2,a9,.inl ⟨by grind,rfl,rfl⟩⟩ kE.c.c.c.c.c.c rH
 intro x hx
 obtain⟨vy,F,g⟩:=x
 obtain⟨a0,d4,b7⟩:=hx
 simp only at a0 d4 b7⊢
 have iy:=a0.ap
 refine ax<|.sr<|.ag rfl<|.zs<|.sr<|.az rfl<|.block ?_
 refine .cx [(0,_),(1,_),(3,_),(17,_),(18,_)] (X:=Nat×Value×aB) (λy=>y.1<=F.length/\OS 266 3 jU y.2.1 (outs (L.map Nm.p) i ab g (F.take y.1)) y.2.2) (λy E=>(21,iN y.1)::(10,y.2.1)::(20,.bool (mA (L.map Nm.p) g (F.take y.1)))::E) (λy G=>y.2.2::G) (λy=>F.length-y.1) (0,sZ,[]) ⟨Nat.zero_le _,OS.nil⟩ kE.c.c.c.c.c.c.c.c (aH [1,0]) ?_
 rintro⟨q,vo,W⟩ ⟨hq,O⟩
 simp only at hq O⊢
 have io:=O.ap
 have d2:(outs (L.map Nm.p) i ab g (F.take q)).length<=8:=by
  unfold outs dI
  rw[List.length_map]
  exact Nat.le_trans (List.length_filter_le _ _) (by rw[List.length_take];omega)
 refine .seq<|.sr<|.mo rfl<|.mo rfl<|.q (.bJ a0) ?_
 refine .q .lss<|.zn ?_
 refine .cond rfl (λN=>?_) λN=>?_
 have a5:q<F.length:=cr N
 obtain⟨t,a7⟩:=bR a5
 have Q:=BV a7
 refine .kn<|.seq<|.block<|.seq<|.sr<|.mo rfl<|.mo rfl ?_
 refine .bC q a0 a7 (λf1=>?_)
 refine .fa rfl<|.lo rfl<|.q .dW<|.zn ?_
 refine .cond rfl (λo=>?_) λo=>?_
 refine .exit<|bq<|bs<|ax<|.region<|.mo rfl ?_
 refine .ia (q+1) .add ?_
 refine .ag rfl<|.nil ?_
 ·first
   |exact aP (q+1,v1,T1) ⟨a5,by simp only;unfold outs;rw[Q,if_neg (by simpa using o),List.map_append];exact D⟩ (by simp only;omega) (((kE.c.c.c.c.c.bP rfl (by simp only;unfold mA;rw[Q,if_neg (by simpa using o),List.all_append];simp)).cons rfl).cons rfl) (aH [1,1])
   |exact aP (q+1,vo,W) ⟨a5,by simp only;unfold outs;rw[Q,if_pos (by simpa using o),List.append_nil];exact O⟩ (by simp only;omega) (((kE.c.c.c.c.c.bP rfl (by simp only;unfold mA;rw[Q,if_pos (by simpa using o),List.append_nil])).cons rfl).cons rfl) rH
 refine .kn<|.sr<|.mo rfl<|.mo rfl ?_
 refine .bC q a0 a7 (λf2=>?_)
 refine .fa rfl<|.lo rfl<|.ag rfl<|.zs<|.sr<|.mo rfl<|.q .gv<|.zn ?_
 refine bx.cL [(0,_),(1,_),(3,_),(10,_),(17,_),(18,_),(20,_),(21,_)] kE.c.c.c.c.c.c.c.c (X:=Unit) (λ_=>True) (λ_ E=>(22,.string (jJ g t).rel)::E) (λ_=>[W,bl a3 n.enc 199]) ?_ ?_
 refine .cond rfl (λh7=>?_) λh7=>?_
 refine .region<|.mo rfl<|.ag rfl<|.nil ?_
 ·exact ay () trivial (kE.c.c.c.c.c.c.c.c.yx rfl (by unfold jJ;grind)) rH
 refine .skip ?_
 ·exact ay () trivial (kE.c.c.c.c.c.c.c.c.yx rfl (by unfold jJ;grind)) rH
 intro x hx
 refine ax<|.sr<|.mo rfl<|.mo rfl<|.mo rfl ?_
 refine .bC q a0 a7 (λf3=>?_)
 refine .fa rfl<|.lo rfl<|.mo rfl ?_
 refine .ba ((pA v L R h t.space (jJ g t).rel).weaken cU) (λu C=>?_)
 subst C
 rw[show(⟨t.space,(jJ g t).rel⟩:Ty)=jJ g t from rfl]
 refine .ag rfl<|.zs ?_
 refine bx.cL [(0,_),(1,_),(3,_),(10,_),(17,_),(18,_),(21,_),(23,_)] kE.c.c.c.c.c.c.c.c (X:=Unit) (λ_=>True) (λ_ E=>(20,.bool (mA (L.map Nm.p) g (F.take q)&&(bX (L.map Nm.p) (jJ g t)).isSome))::E) (λ_=>[W,bl a3 n.enc 199]) ?_ ?_
 refine .region<|.mo rfl<|.mo rfl ?_
 refine .split (t:=157) rfl (λH=>?_) (λH=>?_)
 refine .gT H<|.mo rfl<|.gT H<|.q .geq<|.q (.aO H) ?_
 refine .ag rfl<|.nil ?_
 ·exact ay () trivial (kE.c.c.c.c.c.c.c.c.bP rfl (by simp only[H,Bool.true_and,Bool.false_and]<;>cases bX (L.map Nm.p) (jJ g t)<;>simp[fI])) rH
 refine .gF H<|.gF H<|.q (.aN H) ?_
 refine .ag rfl<|.nil ?_
 ·exact ay () trivial (kE.c.c.c.c.c.c.c.c.bP rfl (by simp only[H,Bool.true_and,Bool.false_and]<;>cases bX (L.map Nm.p) (jJ g t)<;>simp[fI])) rH
 intro y hy
 refine ax<|.region<|.mo rfl<|.mo rfl<|.mo rfl<|.mo rfl ?_
 refine .q .cN ?_
 refine .dM (λd6=>?_)
 refine .append O (RS.lits (xs:=[((i:Int),fI (bX (L.map Nm.p) (jJ g t)),ab)]) rfl (by simp[jU]) (by simp[jU,ap])) (by simp only[List.length_singleton];omega) (λv1 T1 D=>?_)
 have c4:=D.ap
 refine .ag rfl<|.nil<|bf<|ax<|.region<|.mo rfl ?_
 refine .ia (q+1) .add ?_
 refine .ag rfl<|.nil ?_
 ·first
   |exact aP (q+1,v1,T1) ⟨a5,by simp only;unfold outs;rw[Q,if_neg (by simpa using o),List.map_append];exact D⟩ (by simp only;omega) (((kE.c.c.c.c.c.bP rfl (by simp only;unfold mA;rw[Q,if_neg (by simpa using o),List.all_append];simp)).cons rfl).cons rfl) (aH [1,1])
   |exact aP (q+1,vo,W) ⟨a5,by simp only;unfold outs;rw[Q,if_pos (by simpa using o),List.append_nil];exact O⟩ (by simp only;omega) (((kE.c.c.c.c.c.bP rfl (by simp only;unfold mA;rw[Q,if_pos (by simpa using o),List.append_nil])).cons rfl).cons rfl) rH
 have d3:F.length<=q:=by have:=bA N;omega
 rw[dx d3]at O d2⊢
 refine .exit<|bq<|bz<|bs<|ax<|.seq ?_
 refine bx.cL [] (dL.nil _) (X:=Unit) (λ_=>True) (λ_ E=>(8,vo)::(9,.bool (mA (L.map Nm.p) g F&&(decide (g=⟨#[]⟩)||decide (0<(outs (L.map Nm.p) i ab g F).length))))::E) (λ_=>[W]) ?_ ?_
 refine .region<|.mo rfl<|.mo rfl<|.mo rfl ?_
 refine .split (t:=170) rfl (λf=>?_) (λf=>?_)
 refine .gT f<|.mo rfl<|.gT f<|.q .dW<|.gT f<|.mo rfl ?_
 refine .split (t:=173) rfl (λs=>?_) (λs=>?_)
 refine .gF s<|.gF s<|.gF s<|.gT f<|.q (.aO s) ?_
 refine .q (.aO f) ?_
 refine .ag rfl<|.ag rfl<|.nil ?_
 ·exact ay () trivial (((dL.nil _).bP rfl (by simp[N,f,s])).cons rfl) (aH [0])
 refine .gT s<|.mo rfl<|.gT s<|.q (.dN O) ?_
 refine .gT s<|.q .gtr<|.gT f<|.q (.aN s) ?_
 refine .q (.aO f) ?_
 refine .ag rfl<|.ag rfl<|.nil ?_
 ·exact ay () trivial (((dL.nil _).bP rfl (by simp[N,f,s])).cons rfl) (aH [0])
 refine .gF f<|.gF f<|.gF f<|.dd rfl ?_
 refine .dd rfl ?_
 refine .dd rfl ?_
 refine .gF f<|.q (.aN f) ?_
 refine .ag rfl<|.ag rfl<|.nil ?_
 ·exact ay () trivial (((dL.nil _).bP rfl (by simp[N,f])).cons rfl) (aH [0])
 intro y hy
 refine ax ?_
 refine .ret (bk _ (.two (.tmp rfl) (.tmp rfl)) (.one [0] _) ?_)
 ·refine⟨W,by simp[take,bL],vo,_,_,rfl,O,?_,?_⟩
  ·have:=(a6 B).2;omega
  ·rw[b1 ab B]
   refine Pe b7 λhk=>?_
   have hl:=(a6 B).1
   exact SQ (by grind[Nd.leaf])
theorem WE.ox{c d:Bool}{e f:List lZ}{a b:Option (List Ed)}(g:WE c e a)(h:WE d f b):WE (c&&d) (e++f) (a.bind λx=>b.map (x++ ·)):=by
 cases a with
 |none=>have i:c=false:=g;subst i;exact Bool.false_and _
 |some a=>
  cases b with
  |none=>have j:d=false:=h;subst j;exact Bool.and_false _
  |some b=>obtain⟨rfl,rfl⟩:=g;obtain⟨rfl,rfl⟩:=h;exact⟨rfl,by simp⟩
theorem vA{α:Type}{x:α}:∀{l:List α} {i b:Nat},l[i]? =some x->ko b (l.take (i+1))=ko b (l.take i)++[(b+i,x)]
 |[],i,b,h=>by simp at h
 |y::l,0,b,h=>by simp only[List.getElem?_cons_zero,Option.some.injEq]at h;subst h;rfl
 |y::l,i+1,b,h=>by
  rw[List.take_succ_cons,List.take_succ_cons,ko,ko,vA (l:=l) (i:=i) (b:=b+1) (by simpa using h),show b+1+i=b+(i+1) by omega]
  rfl
def lX(l:List (ByteArray×Rl))(t:Ty):Bool:=decide (t.space=⟨#[]⟩)||(bX l t).isSome
theorem Rk{l:List (ByteArray×Rl)}{a:List Ty}:(findAll l (dI a)).isSome=a.all (lX l):=by
 have h:=td l (dI a)
 have e:((dI a).all λt=>(bX l t).isSome)=a.all (lX l):=by
  unfold dI
  rw[List.all_filter]
  congr 1
  funext t
  unfold lX
  cases decide (t.space=⟨#[]⟩)<;>simp
 rw[<-e]
 cases hf:findAll l (dI a)with
 |none=>rw[hf]at h;exact h.symm
 |some o=>rw[hf]at h;exact h.1.symm
theorem WE.rel{l:List (ByteArray×Rl)}{i:Nat}{a:ByteArray}{r:Rl}{ok:Bool}{E:List lZ}(h:WE ok E (cat (λp:Nat×Bool=>(r.nodes[p.1]?).bind λn=>fv l i a r p.2 n) (fx r.nodes r.nodes.length false))):
  WE (r.types.all (lX l)&&ok) E (lS l i a r):=by
 unfold lS
 rw[<-Rk]
 cases (findAll l (dI r.types)).isSome with
 |true=>simpa using h
 |false=>exact Bool.false_and _
def qv(l:List (ByteArray×Rl))(s:Sc):Bool:=(bX l ⟨s.kv,s.rel⟩).isSome
theorem yC{l:List Nd}(h:fS isWord l≠0):∃d,tree isWord l l.length=some (0,d):=by
 unfold fS at h
 cases ht:tree isWord l l.length with
 |none=>rw[ht]at h;exact absurd rfl h
 |some r=>
  obtain⟨b,d⟩:=r
  rw[ht]at h
  simp only at h
  split at h
  ·rename_i a;subst a;exact⟨d,rfl⟩
  ·exact absurd rfl h
theorem rb(o:Option Nat):decide (0<=fI o)=o.isSome:=by cases o<;>simp[fI]
theorem Qb(c:bM)(R:aD)(h:c.is R)(hf:c.ig)(hr:sC c.fO):Spec prog 78 [.agg c.enc.toArray] R [] λu H'=>∃T,H'=[T]/\∃w E ok,u=.tuple [w,.bool ok].toArray/\OS 266 3 jU w E T/\WE ok E c.plain.gW:=by
 have b4:=ug c R h hf
 have a0:=wA h
 have c0:=hf.fO
 have a3:c.plain.gW=if c.scopes.all (qv (c.fO.map Nm.p))=true then cat (λp:Nat×(ByteArray×Rl)=>lS (c.fO.map Nm.p) p.1 p.2.1 p.2.2) (ko 0 (c.fO.map Nm.p))else none:=by
  rw[pa];rfl
 rw[a3]
 clear a3
 generalize b7:c.fO=L at *
 obtain⟨vs,Z,d4,j⟩:=c
 have i1:One vs:=RS.ap h.ss
 have F:RS R 4 Sc.enc Z j:=h.sc
 have i2:=F.ap
 have b9:=F.le
 refine Spec.gO (H':=[[]]) (by simp) ?_
 refine Spec.body Tryz.func78 rfl Tryz.results78 Tryz.ntmps78 rfl ?_
 refine .sr ?_
 refine .bW rfl (λb1=>?_)
 refine .ag rfl<|.ag rfl<|.z<|.q (.aL rfl) ?_
 refine .cK (b4.weaken cU) (λu v H=>?_)
 have i4:=H.ap
 refine .ag rfl<|.z<|.ag rfl<|.z<|.ag rfl<|.zs<|.sr<|.az rfl<|.block ?_
 refine .cx [(1,_),(4,_)] (X:=Nat×Value×List lZ×Bool×aB) (λy=>y.1<=L.length/\OS 266 3 jU y.2.1 y.2.2.1 y.2.2.2.2/\y.2.2.1.length<=512*y.1/\WE y.2.2.2.1 y.2.2.1 (cat (λp:Nat×(ByteArray×Rl)=>lS (L.map Nm.p) p.1 p.2.1 p.2.2) (ko 0 ((L.map Nm.p).take y.1)))) (λy E=>(7,iN y.1)::(5,y.2.1)::(6,.bool y.2.2.2.1)::E) (λy G=>y.2.2.2.2::G) (λy=>L.length-y.1) (0,sZ,[],true,[]) ⟨Nat.zero_le _,OS.nil,by simp,⟨rfl,rfl⟩⟩ kE.c.c.c.c.c aW.ff ?_
 rintro⟨i,v5,E5,ok,N⟩ ⟨hi,Q,a9,S⟩
 simp only at hi Q a9 S⊢
 have i5:=Q.ap
 refine .seq<|.sr<|.mo rfl<|.mo rfl<|.q (.dN H) ?_
 refine .q .lss<|.zn ?_
 refine .cond rfl (λh1=>?_) λh1=>?_
 have a4:i<L.length:=cr h1
 obtain⟨⟨Y,M,K,r⟩,J⟩:=bR a4
 have W:=a0 _ (aZ J)
 have D:RS R 2 Ty.enc M r.types:=W.t
 have a5:RS R 5 Nd.enc K r.nodes:=W.d
 have c6:=D.ap
 have c5:=a5.ap
 have c3:bZ (ca.enc ⟨M,K,r⟩):=⟨W.cJ⟩
 have c4:bZ (List.take 3 (List.drop 1 (nM (Y,(⟨M,K,r⟩:ca))))):=⟨W.cJ⟩
 obtain⟨b2,b0,a2⟩:=hr _ (aZ J)
 simp only at b2 b0 a2
 obtain⟨d,a6⟩:=yC a2
 have b6:(L.map Nm.p)[i]? =some (Y,r):=by rw[List.getElem?_map,J];rfl
 have O:qQ (λb o=>R b o\/(b,o)∈v) u L:=⟨H.rs λp hp=>.inr hp,λx hx=>(a0 x hx).mono λb o g=>.inl g⟩
 have c2:1<=r.nodes.length:=by have:=(og a6).1;omega
 refine .kn<|.seq<|.block<|.sr<|.mo rfl<|.mo rfl ?_
 refine .bo i H J (λc8=>?_)
 refine .fa rfl<|.q (.loadT rfl) ?_
 refine .bN (λb8=>?_)
 refine .bH rfl rfl<|.zs<|.sr<|.az rfl<|.block ?_
 refine .cx [(1,_),(4,_),(5,_),(7,_),(8,_)] (X:=Nat) (λk=>k<=r.types.length) (λk E=>(9,iN k)::(6,.bool (ok&&(r.types.take k).all (lX (L.map Nm.p))))::E) (λ_ G=>G) (λk=>r.types.length-k) 0 (Nat.zero_le _) ((kE.c.c.c.c.c.bP rfl (by simp)).cons rfl) rH ?_
 rintro k hk
 refine .seq<|.sr<|.mo rfl<|.fa rfl<|.lo rfl<|.q (.bJ D) ?_
 refine .q .lss<|.zn ?_
 refine .cond rfl (λm=>?_) λm=>?_
 have C:k<r.types.length:=cr m
 obtain⟨t,n⟩:=bR C
 refine .kn<|.seq<|.block ?_
 refine bx.cL [(1,_),(4,_),(5,_),(7,_),(8,_),(9,_)] kE.c.c.c.c.c.c (X:=Unit) (λ_=>True) (λ_ E=>(6,.bool (ok&&(r.types.take (k+1)).all (lX (L.map Nm.p))))::E) (λ_=>[bl b8 (ca.enc ⟨M,K,r⟩) 167,N,v,bl b1 [vs,Z] 25]) ?_ ?_
 refine .dU 23 mixed (by kernel_rfl) ?_
 conv=>arg 6;dsimp only[List.take]
 refine .mo rfl<|.mo rfl ?_
 refine .split (t:=34) rfl (λf=>?_) (λf=>?_)
 refine .gT f<|.fa rfl<|.gT f<|.lo rfl<|.gT f<|.mo rfl<|.gT f ?_
 refine .bC k D n (λc9=>?_)
 refine .gT f<|.fa rfl<|.gT f<|.lo rfl<|.gT f<|.q .dW<|.gT f<|.mo rfl ?_
 refine .split (t:=42) rfl (λe=>?_) (λe=>?_)
 refine .gF e<|.gF e<|.gF e<|.gF e<|.gF e<|.gF e<|.gF e<|.gF e<|.gF e<|.gF e<|.gF e<|.gF e<|.gF e<|.nil<|.gF e<|.gF e<|.gT f<|.q (.aO e) ?_
 refine .q (.aO f) ?_
 refine .ag rfl<|.nil ?_
 ·exact ay () trivial (kE.c.c.c.c.c.c.bP rfl (by rw[dT n,List.all_append];simp only[List.all_cons,List.all_nil,Bool.and_true,lX,m,f,e,rb];grind)) rH
 refine .gT e<|.mo rfl<|.gT e<|.fa rfl<|.gT e<|.lo rfl<|.gT e<|.mo rfl<|.gT e ?_
 refine .bC k D n (λd0=>?_)
 refine .gT e<|.fa rfl<|.gT e<|.lo rfl<|.gT e<|.fa rfl<|.gT e<|.lo rfl<|.gT e<|.mo rfl<|.gT e ?_
 refine .bC k D n (λd1=>?_)
 refine .gT e<|.fa rfl<|.gT e<|.lo rfl<|.nil<|.gT e ?_
 refine .ba ((pA u L _ O t.space t.rel).weaken λb o g=>g.elim .inl λg=>.inr (by simp[g])) (λw I=>?_)
 subst I
 rw[show(⟨t.space,t.rel⟩:Ty)=t from rfl]
 refine .gT e<|.q .geq<|.gT f<|.q (.aN e) ?_
 refine .q (.aO f) ?_
 refine .ag rfl<|.nil ?_
 ·exact ay () trivial (kE.c.c.c.c.c.c.bP rfl (by rw[dT n,List.all_append];simp only[List.all_cons,List.all_nil,Bool.and_true,lX,m,f,e,rb];grind)) rH
 refine .gF f<|.gF f<|.gF f<|.gF f<|.gF f<|.gF f<|.gF f<|.gF f<|.dd rfl ?_
 refine .dd rfl ?_
 refine .dd rfl ?_
 refine .dd rfl ?_
 refine .dd rfl ?_
 refine .dd rfl ?_
 refine .dd rfl ?_
 refine .dd rfl ?_
 refine .dd rfl ?_
 refine .dd rfl ?_
 refine .dd rfl ?_
 refine .dd rfl ?_
 refine .dd rfl ?_
 refine .nil<|.dd rfl ?_
 refine .dd rfl ?_
 refine .gF f<|.q (.aN f) ?_
 refine .ag rfl<|.nil ?_
 ·exact ay () trivial (kE.c.c.c.c.c.c.bP rfl (by rw[dT n,List.all_append];simp only[List.all_cons,List.all_nil,Bool.and_true,lX,m,f,rb];grind)) rH
 intro y hy
 refine bf<|ax<|.region<|.mo rfl ?_
 refine .ia (k+1) .add ?_
 refine .ag rfl<|.nil ?_
 ·exact aP (k+1) C (by omega) kE.c.c.c.c.c.c.c rH
 rw[dx (l:=r.types) (i:=k) (by have:=bA m;omega)]
 refine .exit<|bq<|bz<|bs<|ax<|.sr<|.mo rfl<|.mo rfl<|.fa rfl<|.lo rfl<|.q (.bJ a5) ?_
 refine .q (.i64 ((r.nodes.length:Int)-1) .sub ⟨rfl,by omega,by omega⟩) ?_
 refine .cK ((QX u L _ O hr i Y M K r J _ _ _ a6 false _ rfl).weaken λb o g=>g.elim .inl λg=>.inr (by simp[g])) (λw Tw I=>?_)
 obtain⟨w,Ew,a8,rfl,a1,c1,b3⟩:=I
 have iw:=a1.ap
 refine .mo rfl<|.q .extract<|.q .extract<|.ag rfl<|.ag rfl<|.zs ?_
 refine bx.cL [(1,_),(4,_),(5,_),(7,_),(10,_)] kE.c.c.c.c.c (X:=Unit) (λ_=>True) (λ_ E=>(6,.bool (ok&&(r.types.all (lX (L.map Nm.p))&&a8)))::E) (λ_=>[Tw,N,v,bl b1 [vs,Z] 25]) ?_ ?_
 refine .region<|.mo rfl<|.mo rfl ?_
 refine .split (t:=71) rfl (λA=>?_) (λA=>?_)
 refine .gT A<|.mo rfl<|.q (.aO A) ?_
 refine .ag rfl<|.nil ?_
 ·exact ay () trivial (kE.c.c.c.c.c.bP rfl (by grind)) (aH [0,1,1,1])
 refine .gF A<|.q (.aN A) ?_
 refine .ag rfl<|.nil ?_
 ·exact ay () trivial (kE.c.c.c.c.c.bP rfl (by grind)) (aH [0,1,1,1])
 intro y hy
 refine ax<|.region<|.mo rfl<|.mo rfl ?_
 refine .append Q a1.rx (by omega) (λv1 T1 a7=>?_)
 have c7:=a7.ap
 refine .ag rfl<|.nil<|bf<|ax<|.region<|.mo rfl ?_
 refine .ia (i+1) .add ?_
 refine .ag rfl<|.nil ?_
 ·exact aP (i+1,v1,E5++Ew,ok&&(r.types.all (lX (L.map Nm.p))&&a8),T1) ⟨a4,a7,by simp only[List.length_append];omega,by
   simp only
   rw[vA b6,qU]
   refine S.ox ?_
   have U:=WE.rel b3
   simp only[Nat.zero_add,cat]
   revert U
   generalize lS (L.map Nm.p) i Y r=o
   intro U
   cases o with
   |none=>exact U
   |some o=>simpa using U⟩ (by simp only;omega) kE.c.c.c.c.c (aH [1,1,1])
 have b5:L.length<=i:=by have:=bA h1;omega
 rw[dx (by rw[List.length_map];exact b5)]at S
 have O:qQ (λb o=>R b o\/(b,o)∈v) u L:=⟨H.rs λp hp=>.inr hp,λx hx=>(a0 x hx).mono λb o g=>.inl g⟩
 refine .exit<|bq<|bz<|bs<|ax<|.seq<|.sr<|.az rfl<|.block ?_
 refine .cx [(1,_),(4,_),(5,_)] (X:=Nat) (λk=>k<=j.length) (λk E=>(12,iN k)::(6,.bool (ok&&(j.take k).all (qv (L.map Nm.p))))::E) (λ_ G=>G) (λk=>j.length-k) 0 (Nat.zero_le _) ((kE.c.c.c.bP rfl (by simp)).cons rfl) rH ?_
 rintro k hk
 refine .seq<|.sr<|.mo rfl<|.fa rfl<|.lo rfl<|.q (.bJ F) ?_
 refine .q .lss<|.zn ?_
 refine .cond rfl (λB=>?_) λB=>?_
 have C:k<j.length:=cr B
 obtain⟨s,V⟩:=bR C
 refine .kn<|.seq<|.block ?_
 refine bx.cL [(1,_),(4,_),(5,_),(12,_)] kE.c.c.c.c (X:=Unit) (λ_=>True) (λ_ E=>(6,.bool (ok&&(j.take (k+1)).all (qv (L.map Nm.p))))::E) (λ_=>[N,v,bl b1 [vs,Z] 25]) ?_ ?_
 refine .dU 16 mixed (by kernel_rfl) ?_
 conv=>arg 6;dsimp only[List.take]
 refine .mo rfl<|.mo rfl ?_
 refine .split (t:=85) rfl (λa=>?_) (λa=>?_)
 refine .gT a<|.mo rfl<|.gT a<|.fa rfl<|.gT a<|.lo rfl<|.gT a<|.mo rfl<|.gT a ?_
 refine .bC k F V (λd2=>?_)
 refine .gT a<|.fa rfl<|.gT a<|.fa rfl<|.gT a<|.lo rfl<|.gT a<|.fa rfl<|.gT a<|.lo rfl<|.gT a<|.mo rfl<|.gT a ?_
 refine .bC k F V (λd3=>?_)
 refine .gT a<|.fa rfl<|.gT a<|.lo rfl<|.nil<|.gT a ?_
 refine .ba ((pA u L _ O s.kv s.rel).weaken λb o g=>g.elim .inl λg=>.inr (by simp[g])) (λw I=>?_)
 subst I
 refine .gT a<|.q .geq<|.q (.aO a) ?_
 refine .ag rfl<|.nil ?_
 ·exact ay () trivial (kE.c.c.c.c.bP rfl (by rw[dT V,List.all_append];simp only[List.all_cons,List.all_nil,Bool.and_true,qv,B,a,rb];grind)) rH
 refine .gF a<|.gF a<|.gF a<|.gF a<|.gF a<|.gF a<|.gF a<|.gF a<|.gF a<|.gF a<|.gF a<|.gF a<|.gF a<|.gF a<|.nil<|.gF a<|.gF a<|.q (.aN a) ?_
 refine .ag rfl<|.nil ?_
 ·exact ay () trivial (kE.c.c.c.c.bP rfl (by rw[dT V,List.all_append];simp only[List.all_cons,List.all_nil,Bool.and_true,qv,B,a,rb];grind)) rH
 intro y hy
 refine bf<|ax<|.region<|.mo rfl ?_
 refine .ia (k+1) .add ?_
 refine .ag rfl<|.nil ?_
 ·exact aP (k+1) C (by omega) kE.c.c.c.c.c rH
 rw[dx (l:=j) (i:=k) (by have:=bA B;omega)]
 refine .exit<|bq<|bz<|bs<|ax<|.sr<|.mo rfl<|.mo rfl<|.ag rfl<|.az rfl ?_
 refine .ret (bk _ (.two (.tmp rfl) (.tmp rfl)) (.one [0] _) ?_)
 ·refine⟨N,by simp[take,bL],v5,E5,_,rfl,Q,?_⟩
  cases j.all (qv (L.map Nm.p))with
  |true=>simpa using S
  |false=>exact Bool.and_false _
theorem RS.gL{α:Type}{R:aD}{sz:Nat}{enc:α->List Value}:RS R sz enc (sZ) ([]:List α):=(OS.nil (E:=0) (sz:=sz) (enc:=enc)).rs λp a=>(by cases a)
abbrev fA:=Value×List Nat
def dZ(q:fA):List Value:=[q.1]
structure NN(R:aD)(w:Value)(ll:List fA):Prop where
 rs:RS R 1 dZ w ll
 all:∀q∈ll,RS R 1 cW q.1 q.2
theorem NN.mono{R R':aD}{w:Value}{c:List fA}(h:NN R w c)(a:∀b o,R b o->R' b o):NN R' w c:=⟨h.rs.mono a,λq d=>(h.all q d).mono a⟩
theorem NN.nil{R:aD}:NN R (sZ) []:=⟨RS.gL,λq a=>(by cases a)⟩
theorem pi:∀{l:List Sp} {i:Nat} {s:Sp},l[i]? =some s->cI l (i+1)=cI l i+s.bS.length
 |[],i,s,h=>by simp at h
 |x::l,0,s,h=>by
  simp only[List.getElem?_cons_zero,Option.some.injEq]at h
  subst h
  cases l<;>simp[cI]
 |x::l,i+1,s,h=>by
  have:=pi (l:=l) (i:=i) (by simpa using h)
  rw[cI,cI,this]
  omega
theorem tc{c:bM}(h:c.plain.right isWord di=true):c.ig/\sC c.fO:=by
 have e:=nZ h
 have d:c.plain.jL isWord=false:=by
  unfold Cf.right at h
  simp only[Bool.and_eq_true,Bool.not_eq_true']at h
  exact h.2
 rw[rD]at d
 simp only[Bool.or_eq_false_iff,decide_eq_false_iff_not,List.any_eq_false,Nat.not_lt]at d
 refine⟨⟨by omega,λs f=>?_⟩,λx g=>?_⟩
 ·have:=d.2 s f
  unfold iR at this
  simp only[Bool.or_eq_true,decide_eq_true_eq,not_or,Nat.not_lt]at this
  exact this.1
 ·have i:x.p∈c.plain.all:=by rw[<-pa];exact List.mem_map.2 ⟨x,g,rfl⟩
  obtain⟨b,a⟩:=e _ i
  unfold nk at b
  unfold iZ at a
  simp only[Bool.and_eq_true,bne_iff_ne,ne_eq]at b
  simp only[Bool.or_eq_false_iff,decide_eq_false_iff_not,Nat.not_lt]at a
  exact⟨a.1.1,a.1.2,b.1.2⟩
theorem Bz(c:bM)(R:aD)(h:c.is R):Spec prog 32 [.agg c.enc.toArray] R [] λu H'=>∃T,H'=[T]/\∃w ll,u=.tuple [w,.int .i64 (c.plain.numbers isWord di).1].toArray/\NN (sg T) w ll/\ll.map (·.2)=(c.plain.numbers isWord di).2:=by
 have a1:=QG c R h
 have a2:=QL c R h
 have a3:=Qb c R h
 have a4:=ug c R h
 have c9:=pa c
 have a7:=tc (c:=c)
 have Z:∀(i:Nat) s,c.bd[i]? =some s->c.plain.bd[i]? =some s.plain:=λi s B=>by unfold bM.plain;simp only;rw[List.getElem?_map,B];rfl
 have c0:c.plain.bd.length=c.bd.length:=by unfold bM.plain;simp
 have d:c.plain.numbers isWord di=if c.plain.right isWord di=false then((4:Int),([]:List (List Nat)))else if ¬c.plain.dY then(10,[])else match c.plain.gW with|none=>(14,[])|some E=>if kF E c.plain.all.length=true then(0,rows c.plain.bd (level E c.plain.all.length (c.plain.all.length+1)))else(15,[]):=rfl
 have b3:c.plain.all.length=c.fO.length:=by rw[<-c9,List.length_map]
 have d5:=λhh=>bM.ig.fO (c:=c) hh
 have c1:=pR c.plain
 generalize f2:c.plain.numbers isWord di=nn at *
 generalize f3:c.plain=pl at *
 generalize e4:c.fO=L at *
 rw[b3]at d c1
 obtain⟨vs,vc,a9,g3⟩:=c
 have J:=h.ss
 have i1:=J.ap
 have i2:One vc:=RS.ap h.sc
 simp only at J i1 i2 Z c0⊢
 have e9:=J.le
 refine Spec.gO (H':=[[]]) (by simp) ?_
 refine Spec.body Tryz.func32 rfl Tryz.results32 Tryz.ntmps32 rfl ?_
 refine .sr ?_
 refine .bW rfl (λb1=>?_)
 refine .ag rfl<|.ag rfl<|.zs<|.sr<|.q (.aL rfl) ?_
 refine .ba (a1.weaken cU) (λu K=>?_)
 subst K
 refine .q .not<|.zn ?_
 refine .cond rfl (λM=>?_) λM=>?_
 refine .sr<|.ag rfl<|.az rfl ?_
 refine .ret (aI (bk _ (.two (.tmp rfl) (.tmp rfl)) (.one [1] _) ?_))
 ·refine⟨[],by simp[take,bL],sZ,[],?_,.nil,?_⟩
  ·rw[d,if_pos (by simpa using M)]
  ·rw[d,if_pos (by simpa using M)];rfl
 have b7:pl.right isWord di=true:=by simpa using M
 obtain⟨v,c8⟩:=a7 b7
 have f1:=d5 v
 rw[if_neg (by rw[b7];simp)]at d
 refine .kn<|.seq<|.sr<|.q (.aL rfl) ?_
 refine .ba ((a2 v).weaken cU) (λu K=>?_)
 subst K
 refine .zn ?_
 refine .cond rfl (λN=>?_) λN=>?_
 refine .sr<|.ag rfl<|.az rfl ?_
 refine .ret (aI (bk _ (.two (.tmp rfl) (.tmp rfl)) (.one [1] _) ?_))
 ·refine⟨[],by simp[take,bL],sZ,[],?_,.nil,?_⟩
  ·rw[d,if_pos (by simpa using N)]
  ·rw[d,if_pos (by simpa using N)];rfl
 have d8:pl.dY:=by simpa using N
 rw[if_neg (λhh=>hh d8)]at d
 refine .kn<|.sr<|.q (.aL rfl) ?_
 refine .cK ((a3 v c8).weaken cU) (λu T4 K=>?_)
 obtain⟨w4,E4,ok,rfl,a5,r⟩:=K
 have i4:=a5.ap
 refine .mo rfl<|.q .extract<|.q .extract<|.ag rfl<|.ag rfl<|.zs<|.sr<|.mo rfl<|.q .not<|.zn ?_
 refine .cond rfl (λh3=>?_) λh3=>?_
 have I:ok=false:=by simpa using h3
 have U:pl.gW=none:=by
  cases he:pl.gW with
  |none=>rfl
  |some E=>rw[he]at r;rw[r.1]at I;cases I
 rw[U]at d
 simp only at d
 refine .sr<|.ag rfl<|.az rfl ?_
 refine .ret (aI (bk _ (.two (.tmp rfl) (.tmp rfl)) (.one [2] _) ?_))
 ·refine⟨[],by simp[take,bL],sZ,[],?_,.nil,?_⟩
  ·rw[d]
  ·rw[d];rfl
 have I:ok=true:=by simpa using h3
 obtain⟨E,U,c7⟩:∃E,pl.gW=some E/\E4=E.map Ed.m:=by
  cases he:pl.gW with
  |none=>rw[he]at r;rw[show ok=false from r]at I;cases I
  |some E=>rw[he]at r;exact⟨E,rfl,r.2⟩
 subst c7
 rw[U]at d
 simp only at d
 have b0:∀e∈E,e.f<L.length/\e.t<L.length:=by
  have:=qX U
  rw[b3]at this
  exact this
 have f6:(L.length+1)*(L.length+1)<=1000000:=Nat.le_trans (Nat.mul_le_mul (by omega:L.length+1<=257) (by omega:L.length+1<=257)) (by decide)
 refine .kn<|.sr<|.q (.aL rfl) ?_
 refine .cK ((a4 v).weaken cU) (λu T6 c2=>?_)
 have i6:=c2.ap
 refine .q (.dN c2) ?_
 refine .ag rfl<|.z<|.mo rfl<|.mo rfl<|.mo rfl ?_
 refine .ia (L.length+1) .add ?_
 refine .cK (Bw w4 E L.length (L.length+1) _ a5.rx b0 (by omega) (by omega)) (λu T7 a0=>?_)
 have i7:=a0.ap
 refine .ag rfl<|.z<|.mo rfl<|.mo rfl<|.mo rfl ?_
 refine .ia (L.length+1) .add ?_
 refine .mo rfl ?_
 refine .ia (L.length+1) .add ?_
 refine .q (.i64 (((L.length+1)*(L.length+1):Nat):Int) .mul ⟨by rw[Int.natCast_mul],by omega,by omega⟩) ?_
 refine .cK (Bw w4 E L.length ((L.length+1)*(L.length+1)) _ a5.rx b0 (by omega) (by omega)) (λu8 T8 c3=>?_)
 have i8:=c3.ap
 have e7:(level E L.length (L.length+1)).length=L.length:=li _
 have e8:(level E L.length ((L.length+1)*(L.length+1))).length=L.length:=li _
 refine .ag rfl<|.zs<|.sr<|.az rfl<|.block ?_
 refine .cx [(1,_),(6,_),(7,_),(8,_)] (X:=Nat) (λi=>i<=L.length/\∀j,j<i->(level E L.length (L.length+1))[j]? =(level E L.length ((L.length+1)*(L.length+1)))[j]? /\(level E L.length (L.length+1)).getD j 0<L.length) (λi E=>(9,iN i)::E) (λ_ G=>G) (λi=>L.length-i) 0 ⟨Nat.zero_le _,λj V=>absurd V (by omega)⟩ kE.c.c.c.c.c rH ?_
 rintro i ⟨hi,hq⟩
 refine .seq<|.sr<|.mo rfl<|.mo rfl<|.q .lss<|.zn ?_
 refine .cond rfl (λh4=>?_) λh4=>?_
 have Y:i<L.length:=cr h4
 obtain⟨a,p⟩:∃a,(level E L.length (L.length+1))[i]? =some a:=⟨_,bu (by omega)⟩
 obtain⟨b,l⟩:∃b,(level E L.length ((L.length+1)*(L.length+1)))[i]? =some b:=⟨_,bu (by omega)⟩
 refine .kn<|.seq<|.block<|.seq ?_
 refine bx.cL [(1,_),(6,_),(7,_),(8,_),(9,_)] kE.c.c.c.c.c (X:=Unit) (λ_=>True) (λ_ E=>(64,.bool (decide (a≠b\/L.length<=a)))::E) (λ_=>[T8,T7,T6,T4,bl b1 [vs,vc] 25,[]]) ?_ ?_
 refine .fX mixed (by kernel_rfl) ?_
 refine .mo rfl<|.mo rfl ?_
 refine .bo i a0 p (λf8=>?_)
 refine .lo rfl<|.mo rfl<|.mo rfl ?_
 refine .bo i c3 l (λf9=>?_)
 refine .lo rfl<|.q .dS<|.mo rfl ?_
 refine .split (t:=57) rfl (λg=>?_) (λg=>?_)
 refine .gF g<|.gF g<|.gF g<|.gF g<|.gF g<|.gF g<|.q (.aO g) ?_
 refine .nil ?_
 ·exact ay () trivial (kE.c.c.c.c.c.bP rfl (by clear a1 a2 a3 a4 a7 Z hq;grind)) rH
 refine .gT g<|.mo rfl<|.gT g<|.mo rfl<|.gT g ?_
 refine .bo i a0 p (λg0=>?_)
 refine .gT g<|.lo rfl<|.gT g<|.mo rfl<|.gT g<|.q .geq<|.q (.aN g) ?_
 refine .nil ?_
 ·exact ay () trivial (kE.c.c.c.c.c.bP rfl (by clear a1 a2 a3 a4 a7 Z hq;grind)) rH
 intro y hy
 refine ax ?_
 refine .cond rfl (λD=>?_) λD=>?_
 refine .sr<|.ag rfl<|.az rfl ?_
 refine .ret (bp (aI (cF (bp (aI (bk _ (.two (.tmp rfl) (.tmp rfl)) (.one [5] _) ?_))))))
 ·have b4:¬kF E L.length=true:=by
   intro S
   unfold kF at S
   rw[Bool.and_eq_true,List.all_eq_true]at S
   have H:=cm S.1
   have h8:=S.2 a (aZ p)
   rw[H,l]at p
   cases p
   have h5':=cm D
   have h9:=cm h8
   rcases h5' with h5'|h5'
   ·exact h5' rfl
   ·omega
  refine⟨[],by simp[take,bL],sZ,[],?_,.nil,?_⟩
  ·rw[d,if_neg b4]
  ·rw[d,if_neg b4];rfl
 refine .skip<|bf<|ax<|.region<|.mo rfl ?_
 refine .ia (i+1) .add ?_
 refine .ag rfl<|.nil ?_
 ·exact aP (i+1) ⟨Y,λj V=>by
   rcases Nat.lt_or_ge j i with hh|hh
   ·exact hq j hh
   ·obtain rfl:j=i:=by omega
    have h5':=bA D
    simp only[ne_eq,not_or,Decidable.not_not,Nat.not_le]at h5'
    exact⟨by rw[p,l,h5'.1],by rw[List.getD_eq_getElem?_getD,p];exact h5'.2⟩⟩ (by omega) kE.c.c.c.c.c rH
 have e5:i=L.length:=by have:=bA h4;omega
 have d1:kF E L.length=true:=by
  unfold kF
  rw[Bool.and_eq_true]
  refine⟨decide_eq_true (List.ext_getElem? λj=>?_),?_⟩
  ·rcases Nat.lt_or_ge j i with hh|hh
   ·exact(hq j hh).1
   ·rw[List.getElem?_eq_none (by omega),List.getElem?_eq_none (by omega)]
  ·rw[List.all_eq_true]
   intro x hx
   obtain⟨j,V,e⟩:=List.mem_iff_getElem.1 hx
   have:=(hq j (by omega)).2
   rw[List.getD_eq_getElem?_getD,bu V,e]at this
   exact decide_eq_true this
 rw[if_pos d1]at d
 generalize f0:level E L.length (L.length+1)=A at *
 refine .exit<|bq<|bz<|bs<|ax<|.sr<|.ag rfl<|.z<|.ag rfl<|.zs<|.sr<|.az rfl<|.block ?_
 refine .cx [(1,_),(7,_)] (X:=Nat×Value×List fA×aB×aB) (λy=>y.1<=a9.length/\OS 182 1 dZ y.2.1 y.2.2.1 y.2.2.2.1/\(∀q∈y.2.2.1,RS (sg y.2.2.2.2) 1 cW q.1 q.2)/\y.2.2.1.map (·.2)=(rows pl.bd A).take y.1) (λy E=>(12,iN y.1)::(11,.int .i64 (cI pl.bd y.1:Nat))::(10,y.2.1)::E) (λy G=>y.2.2.2.1::y.2.2.2.2::G) (λy=>a9.length-y.1) (0,sZ,[],[],[]) ⟨Nat.zero_le _,OS.nil,λq hq=>(by cases hq),by simp⟩ ((kE.c.c.c.jG rfl (by cases pl.bd<;>rfl)).cons rfl) aW.ja ?_
 rintro⟨i,e1,ll,c5,Tp⟩ ⟨d2,O,a6,W⟩
 simp only at d2 O a6 W⊢
 have f7:=O.ap
 have e6:ll.length<=16:=by
  have D:=congrArg List.length W
  rw[List.length_map,List.length_take,np]at D
  have F:=v.1
  simp only at F
  omega
 refine .seq<|.sr<|.mo rfl<|.fa rfl<|.lo rfl<|.q (.bJ J) ?_
 refine .q .lss<|.zn ?_
 refine .cond rfl (λF=>?_) λF=>?_
 have Y:i<a9.length:=cr F
 obtain⟨s,B⟩:=bR Y
 have d7:=h.all _ (aZ B)
 have b9:=d7.rs
 have f4:=b9.le
 have f5:s.bS.length<=16:=v.2 s (aZ B)
 have a8:=Z i s B
 have b8:=pB (n:=A) a8
 have b5:=pi a8
 have b6:=tS a8
 have d6:s.plain.bS.length=s.bS.length:=by simp[cj.plain]
 rw[d6]at b8 b5 b6
 rw[c1]at b6
 refine .kn<|.seq<|.block<|.sr<|.ag rfl<|.zs<|.sr<|.az rfl<|.block ?_
 refine .cx [(1,_),(7,_),(10,_),(12,_)] (X:=Nat×Value×aB) (λy=>y.1<=s.bS.length/\OS 3 1 cW y.2.1 ((A.drop (cI pl.bd i)).take y.1) y.2.2) (λy E=>(14,iN y.1)::(11,.int .i64 (cI pl.bd i+y.1:Nat))::(13,y.2.1)::E) (λy G=>y.2.2::G) (λy=>s.bS.length-y.1) (0,sZ,[]) ⟨Nat.zero_le _,OS.nil⟩ kE.c.c.c.c.c.c.c aW.ff ?_
 rintro⟨k,c4,c6⟩ ⟨hk,Q⟩
 simp only at hk Q⊢
 have d9:=Q.ap
 refine .seq<|.sr<|.mo rfl<|.fa rfl<|.lo rfl<|.mo rfl ?_
 refine .bC i J B (λg1=>?_)
 refine .fa rfl<|.lo rfl<|.q (.bJ b9) ?_
 refine .q .lss<|.zn ?_
 refine .cond rfl (λH=>?_) λH=>?_
 have d4:k<s.bS.length:=cr H
 obtain⟨a,p⟩:∃a,A[cI pl.bd i+k]? =some a:=⟨_,bu (by omega)⟩
 have d0:(A.drop (cI pl.bd i)).take (k+1)=(A.drop (cI pl.bd i)).take k++[a]:=dT (by rw[List.getElem?_drop,p])
 refine .kn<|.seq<|.block<|.sr<|.mo rfl<|.mo rfl<|.mo rfl ?_
 refine .bo (cI pl.bd i+k) a0 p (λg2=>?_)
 refine .lo rfl ?_
 refine .jT (λe2=>?_)
 refine .append Q (RS.lits (xs:=[a]) rfl (by simp[cW]) (by simp[cW,ap])) (by simp only[List.length_take,List.length_singleton];omega) (λv1 T1 C=>?_)
 rw[<-d0]at C
 have e0:=C.ap
 refine .az rfl<|.region<|.mo rfl ?_
 refine .ia (cI pl.bd i+(k+1)) .add ?_
 refine .ag rfl<|.nil<|bf<|ax<|.region<|.mo rfl ?_
 refine .ia (k+1) .add ?_
 refine .ag rfl<|.nil ?_
 ·exact aP (k+1,v1,T1) ⟨d4,C⟩ (by simp only;omega) kE.c.c.c.c.c.c.c (aH [1,1,1,1,1,1,1,1,1])
 have b2:k=s.bS.length:=by have:=bA H;omega
 refine .exit<|bq<|bz<|bs<|ax<|.region<|.mo rfl<|.mo rfl ?_
 refine .jT (λe3=>?_)
 refine .append O (RS.lits (xs:=[((c4,(A.drop (cI pl.bd i)).take k):fA)]) rfl (by simp[dZ]) (by simp[dZ,d9.h])) (by simp only[List.length_singleton];omega) (λv1 T1 C=>?_)
 have e0:=C.ap
 refine .ag rfl<|.nil<|bf<|ax<|.region<|.mo rfl ?_
 refine .ia (i+1) .add ?_
 refine .ag rfl<|.nil ?_
 ·exact aP (i+1,v1,ll++[(c4,(A.drop (cI pl.bd i)).take k)],T1,c6++Tp) ⟨Y,C,λq hq=>by
   rcases List.mem_append.1 hq with hq|hq
   ·exact(a6 q hq).mono λb o l=>gE l
   ·rw[List.mem_singleton]at hq
    subst hq
    exact Q.sg.mono λb o l=>iE l,by simp only;rw[List.map_append,W,dT b8,b2];rfl⟩ (by simp only;omega) ((kE.c.c.c.jG rfl (by simp only;rw[b5,b2])).cons rfl) ((aH [2,1,1,1,1,1,1,1]).trans (aW.ez (by simp[take,bL])))
 refine .exit<|bq<|bz<|bs<|ax<|.sr<|.mo rfl<|.ag rfl<|.az rfl ?_
 refine .ret (bk _ (.two (.tmp rfl) (.tmp rfl)) (.one [0,0] _) ?_)
 ·have d3:pl.bd.length<=i:=by rw[c0];have:=bA F;omega
  refine⟨c5++Tp,by simp[take,bL],e1,ll,?_,⟨O.sg.mono λb o l=>iE l,λq hq=>(a6 q hq).mono λb o l=>gE l⟩,?_⟩
  ·rw[d]
  ·rw[d,W]
   exact dx (by rw[np];exact d3)
abbrev rL(pb:Nat)(v:Value)(b:Bool):aB:=(bl pb [v,.bool b] 215)
def gm(t:eQ):Prop:=t.kind≠0/\t.text.size<=9223372036854775807/\(t.kind=2\/(t.text≠pM/\t.text≠qH/\t.text≠sh/\t.text≠pL/\t.text≠qG/\t.text≠sj/\t.text≠uE))
instance(t:eQ):Decidable (gm t):=by unfold gm;infer_instance
structure dP(R:aD)(pb:Nat)(st:cv)(T:aB):Prop where
 h:∃v,T=rL pb v st.2/\RS R 3 eQ.enc v st.1
 ok:∀t∈st.1,gm t
theorem dP.nil{R:aD}{a:Nat}:dP R a jq (rL a (sZ) true):=⟨⟨_,rfl,RS.gL⟩,λt b=>(by cases b)⟩
def lW:List eQ->eQ
 |[]=>⟨0,⟨#[]⟩,0⟩
 |t::_=>t
theorem AO(d:Nat)(v:Value)(b:Bool)(l:List eQ)(R:aD)(h:RS R 3 eQ.enc v l) [pc:PC R (pT d) [v,.bool b]]:Spec prog 201 [pT d] R [] λu H'=>u=.agg (lW l).enc.toArray/\H'=[]:=by
 have i:=h.ap
 refine Spec.body Tryz.func201 rfl Tryz.results201 Tryz.ntmps201 rfl ?_
 refine .sr ?_
 refine .bN (λg=>?_)
 refine .zs<|.sr<|.mo rfl<|.nc rfl<|.fa rfl<|.lo rfl<|.q (.bJ h) ?_
 refine .q .bK<|.zn ?_
 refine .cond rfl (λa=>?_) λa=>?_
 have c:(l.length:Int)=0:=by simpa using a
 have f:l=[]:=List.eq_nil_of_length_eq_zero (by omega)
 subst f
 refine .sr ?_
 refine .q .cN ?_
 refine .bH rfl rfl<|.zn ?_
 refine .ret (aI (bk _ (.one (.eI rfl rfl)) (.none _) ?_))
 ·exact⟨rfl,rfl⟩
 have c:¬(l.length:Int)=0:=by simpa using a
 obtain⟨t,r,rfl⟩:∃t r,l=t::r:=by
  cases l with
  |nil=>simp at c
  |cons t r=>exact⟨t,r,rfl⟩
 have e:(t::r)[0]? =some t:=rfl
 refine .kn<|.sr<|.mo rfl<|.nc rfl<|.fa rfl<|.lo rfl ?_
 refine .bC 0 h e (λj=>?_)
 refine .q (.aL rfl)<|.bH rfl rfl<|.zn ?_
 refine .ret (bk _ (.one (.eI rfl rfl)) (.none _) ?_)
 ·exact⟨rfl,rfl⟩
theorem s8(a:Nat)(v:Value) [c:One v](b:Bool)(R:aD):Spec prog 159 [pT a] R [rL a v b] λ_ H'=>∃T',H'=[T']/\T'=rL a (sZ) true:=by
 refine Spec.body Tryz.func159 rfl Tryz.results159 Tryz.ntmps159 rfl ?_
 refine .sr<|.mo rfl<|.nc rfl<|.fa rfl<|.dw rfl rfl<|.zn<|.region<|.mo rfl<|.nc rfl<|.fa rfl<|.dw rfl rfl<|.nil<|iT _ .none rH ?_
 ·exact⟨_,rfl,rfl⟩
theorem ob(n:Nat)(k:cv)(T:aB)(R:aD)(y:dP R n k T)(s:ByteArray):Spec prog 156 [pT n,.string s] R [T] λu H'=>∃T',H'=[T']/\u=.bool (dB s k).isSome/\dP R n ((dB s k).getD k) T':=by
 obtain⟨⟨v,rfl,h⟩,a⟩:=y
 obtain⟨l,b⟩:=k
 simp only at h a⊢
 have D:=h.ap
 have C:=h.le
 have p:dB s ([],b)=none:=rfl
 have m:∀t r,dB s (t::r,b)=if t.kind=2\/t.text≠s then none else some (r,b):=λ_ _=>rfl
 refine Spec.body Tryz.func156 rfl Tryz.results156 Tryz.ntmps156 rfl ?_
 refine .sr<|.ag rfl<|.z<|.mo rfl ?_
 refine .ba (AO n v b l _ h.rx) (λu A=>?_)
 subst A
 refine .bN (λB=>?_)
 refine .bH rfl rfl<|.zs<|.sr<|.fa rfl<|.lo rfl<|.q .bK<|.mo rfl ?_
 refine .split (t:=11) rfl (λf=>?_) (λf=>?_)
 refine .gF f<|.gF f<|.gF f<|.q (.aO f) ?_
 refine .mo rfl<|.gX<|.gX<|.gX<|.gX<|.q .cO<|.zn<|.hY ?_
 have d:dB s (l,b)=none:=by
  cases l with
  |nil=>exact p
  |cons t r=>
   rw[m]
   obtain⟨w,_,_⟩:=a t List.mem_cons_self
   simp only[lW]at *
   rw[if_pos]
   by_cases e:t.kind=2
   ·exact .inl e
   ·exact .inr (by grind)
 refine .sr<|.az rfl ?_
 refine .ret (aI (bk _ (.one (.tmp rfl)) (aH [1]) ?_))
 ·first
   |exact⟨_,rfl,by rw[d];rfl,by rw[d];exact⟨⟨v,rfl,h⟩,a⟩⟩
   |exact⟨_,rfl,by rw[g];rfl,by rw[g];exact⟨⟨o,rfl,j⟩,λt i=>a t (List.mem_cons_of_mem _ i)⟩⟩
 refine .gT f<|.fa rfl<|.gT f<|.lo rfl<|.gT f<|.q .bK<|.q (.aN f) ?_
 refine .mo rfl ?_
 refine .split (t:=16) rfl (λc=>?_) (λc=>?_)
 refine .gF c<|.gF c<|.gF c<|.gF c<|.q (.aO c) ?_
 refine .zn<|.hY ?_
 have d:dB s (l,b)=none:=by
  cases l with
  |nil=>exact p
  |cons t r=>
   rw[m]
   obtain⟨w,_,_⟩:=a t List.mem_cons_self
   simp only[lW]at *
   rw[if_pos]
   by_cases e:t.kind=2
   ·exact .inl e
   ·exact .inr (by grind)
 refine .sr<|.az rfl ?_
 refine .ret (aI (bk _ (.one (.tmp rfl)) (aH [1]) ?_))
 ·first
   |exact⟨_,rfl,by rw[d];rfl,by rw[d];exact⟨⟨v,rfl,h⟩,a⟩⟩
   |exact⟨_,rfl,by rw[g];rfl,by rw[g];exact⟨⟨o,rfl,j⟩,λt i=>a t (List.mem_cons_of_mem _ i)⟩⟩
 refine .gT c<|.fa rfl<|.gT c<|.lo rfl<|.gT c<|.mo rfl<|.gT c<|.q .gv<|.q (.aN c) ?_
 refine .zn ?_
 refine .cond rfl (λx=>?_) λx=>?_
 have d:dB s (l,b)=none:=by
  cases l with
  |nil=>exact p
  |cons t r=>
   rw[m]
   obtain⟨w,_,_⟩:=a t List.mem_cons_self
   simp only[lW]at *
   rw[if_pos]
   by_cases e:t.kind=2
   ·exact .inl e
   ·exact .inr (by grind)
 refine .sr<|.az rfl ?_
 refine .ret (aI (bk _ (.one (.tmp rfl)) (aH [1]) ?_))
 ·first
   |exact⟨_,rfl,by rw[d];rfl,by rw[d];exact⟨⟨v,rfl,h⟩,a⟩⟩
   |exact⟨_,rfl,by rw[g];rfl,by rw[g];exact⟨⟨o,rfl,j⟩,λt i=>a t (List.mem_cons_of_mem _ i)⟩⟩
 obtain⟨t,r,rfl⟩:∃t r,l=t::r:=by
  cases l with
  |nil=>simp[lW]at *
  |cons t r=>exact⟨t,r,rfl⟩
 have g:dB s (t::r,b)=some (r,b):=by
  rw[m,if_neg]
  simp only[lW]at *
  grind
 refine .kn<|.sr<|.mo rfl<|.mo rfl<|.nc rfl<|.fa rfl<|.lo rfl ?_
 refine .nu 1 (r.length+1) h ⟨_,rfl⟩ rfl (by omega) (by simp) (λo j=>?_)
 rw[show((t::r).drop 1).take (r.length+1-1)=r by simp]at j
 have E:=j.ap
 refine .nc rfl<|.fa rfl<|.dw rfl rfl<|.z<|.az rfl ?_
 refine .ret (bk _ (.one (.tmp rfl)) (aH [1]) ?_)
 ·first
   |exact⟨_,rfl,by rw[d];rfl,by rw[d];exact⟨⟨v,rfl,h⟩,a⟩⟩
   |exact⟨_,rfl,by rw[g];rfl,by rw[g];exact⟨⟨o,rfl,j⟩,λt i=>a t (List.mem_cons_of_mem _ i)⟩⟩
theorem tL(e:Nat)(a:cv)(T:aB)(R:aD)(g:dP R e a T)(s:ByteArray):Spec prog 203 [pT e,.string s] R [T] λ_ H'=>∃T',H'=[T']/\dP R e (gw s a) T':=by
 have i:=ob e a T R g s
 have c:gw s a=(dB s a).getD jq:=rfl
 refine Spec.body Tryz.func203 rfl Tryz.results203 Tryz.ntmps203 rfl ?_
 refine .sr<|.mo rfl<|.mo rfl ?_
 refine .cY (R:=R) i (λu T' f=>?_)
 obtain⟨rfl,b⟩:=f
 refine .q .not<|.zn ?_
 refine .cond rfl (λd=>?_) λd=>?_
 have h:dB s a=none:=by
  cases hh:dB s a with
  |none=>rfl
  |some x=>rw[hh]at d;simp at d
 rw[h]at b c
 simp only[Option.getD_none]at b
 obtain⟨⟨v,rfl,j⟩,_⟩:=b
 have l:=j.ap
 refine .region<|.mo rfl ?_
 refine .cY (R:=R) (s8 e v a.2 R) (λu T' f=>?_)
 subst f
 refine .nil<|iT _ .none rH ?_
 ·first
   |exact⟨_,rfl,by rw[c];exact dP.nil⟩
   |exact⟨_,rfl,by rw[c];exact b⟩
 obtain⟨x,k⟩:∃x,dB s a=some x:=by
  cases hh:dB s a with
  |none=>rw[hh]at d;simp at d
  |some x=>exact⟨x,rfl⟩
 rw[k]at b c
 refine .skip<|iT _ .none rH ?_
 ·first
   |exact⟨_,rfl,by rw[c];exact dP.nil⟩
   |exact⟨_,rfl,by rw[c];exact b⟩
theorem rP(g:Nat)(m:cv)(T:aB)(R:aD)(w:dP R g m T):Spec prog 202 [pT g] R [T] λu H'=>∃T',H'=[T']/\u=.string (dD isWord m).1/\dP R g (dD isWord m).2 T':=by
 obtain⟨⟨v,rfl,h⟩,i⟩:=w
 obtain⟨l,b⟩:=m
 simp only at h i⊢
 have B:=h.ap
 have A:=h.le
 have p:dD isWord ([],b)=(⟨#[]⟩,jq):=rfl
 have n:∀t r,dD isWord (t::r,b)=if t.kind≠1\/isWord t.text=false then(⟨#[]⟩,jq)else(t.text,(r,b)):=λ_ _=>rfl
 have x:(lW l).text.size<=9223372036854775807:=by
  cases l with
  |nil=>exact Nat.zero_le _
  |cons t r=>exact(i t List.mem_cons_self).2.1
 refine Spec.body Tryz.func202 rfl Tryz.results202 Tryz.ntmps202 rfl ?_
 refine .sr<|.ag rfl<|.z<|.mo rfl ?_
 refine .ba (AO g v b l _ h.rx) (λu d=>?_)
 subst d
 refine .bN (λy=>?_)
 refine .bH rfl rfl<|.zs<|.sr<|.fa rfl<|.lo rfl<|.q .dS<|.mo rfl ?_
 refine .split (t:=9) rfl (λa=>?_) (λa=>?_)
 refine .gF a<|.gF a<|.gF a<|.gF a<|.q (.aO a) ?_
 refine .zn<|.hY ?_
 have c:dD isWord (l,b)=(⟨#[]⟩,jq):=by
  cases l with
  |nil=>exact p
  |cons t r=>
   rw[n,if_pos]
   simp only[lW]at *
   by_cases e:t.kind=1
   ·right;simp_all
   ·exact .inl e
 refine .sr<|.mo rfl ?_
 refine .cY (R:=R) (s8 g v b R) (λu T' d=>?_)
 subst d
 refine .z<|.az rfl ?_
 refine .ret (aI (bk _ (.one (.tmp rfl)) (aH [1]) ?_))
 ·first
   |exact⟨_,rfl,by rw[c],by rw[c];exact dP.nil⟩
   |exact⟨_,rfl,by rw[f];rfl,by rw[f];exact⟨⟨o,rfl,k⟩,λt j=>i t (List.mem_cons_of_mem _ j)⟩⟩
 refine .gT a<|.fa rfl<|.gT a<|.lo rfl<|.gT a ?_
 refine .ba ((kY _ x R).weaken cU) (λu d=>?_)
 subst d
 refine .gT a<|.q .not<|.q (.aN a) ?_
 refine .zn ?_
 refine .cond rfl (λs=>?_) λs=>?_
 have c:dD isWord (l,b)=(⟨#[]⟩,jq):=by
  cases l with
  |nil=>exact p
  |cons t r=>
   rw[n,if_pos]
   simp only[lW]at *
   by_cases e:t.kind=1
   ·right;simp_all
   ·exact .inl e
 refine .sr<|.mo rfl ?_
 refine .cY (R:=R) (s8 g v b R) (λu T' d=>?_)
 subst d
 refine .z<|.az rfl ?_
 refine .ret (aI (bk _ (.one (.tmp rfl)) (aH [1]) ?_))
 ·first
   |exact⟨_,rfl,by rw[c],by rw[c];exact dP.nil⟩
   |exact⟨_,rfl,by rw[f];rfl,by rw[f];exact⟨⟨o,rfl,k⟩,λt j=>i t (List.mem_cons_of_mem _ j)⟩⟩
 obtain⟨t,r,rfl⟩:∃t r,l=t::r:=by
  cases l with
  |nil=>simp[lW]at *
  |cons t r=>exact⟨t,r,rfl⟩
 have f:dD isWord (t::r,b)=(t.text,(r,b)):=by
  rw[n,if_neg]
  simp_all[lW]
 refine .kn<|.sr<|.mo rfl<|.mo rfl<|.nc rfl<|.fa rfl<|.lo rfl ?_
 refine .nu 1 (r.length+1) h ⟨_,rfl⟩ rfl (by omega) (by simp) (λo k=>?_)
 rw[show((t::r).drop 1).take (r.length+1-1)=r by simp]at k
 have C:=k.ap
 refine .nc rfl<|.fa rfl<|.dw rfl rfl<|.z<|.fa rfl<|.lo rfl<|.az rfl ?_
 refine .ret (bk _ (.one (.tmp rfl)) (aH [1]) ?_)
 ·first
   |exact⟨_,rfl,by rw[c],by rw[c];exact dP.nil⟩
   |exact⟨_,rfl,by rw[f];rfl,by rw[f];exact⟨⟨o,rfl,k⟩,λt j=>i t (List.mem_cons_of_mem _ j)⟩⟩
theorem pQ{s:ByteArray}{a:cv}(h:∀t∈a.1,gm t)(b:s=pM\/s=qH\/s=sh\/s=pL\/s=qG\/s=sj\/s=uE):dB s a=none:=by
 unfold dB
 split
 ·rfl
 ·rename_i t r e
  have ht:=(h t (by rw[e];exact List.mem_cons_self)).2.2
  rw[if_pos]
  rcases ht with ht|⟨c,d,f,g,i,j,k⟩
  ·exact .inl ht
  ·right
   rcases b with rfl|rfl|rfl|rfl|rfl|rfl|rfl<;>assumption
theorem rO{W:ByteArray->Bool}{a:cv}(h:∀t∈a.1,gm t):(dD W a).1.size<=9223372036854775807:=by
 unfold dD
 split
 ·exact Nat.zero_le _
 ·rename_i t r e
  split
  ·exact Nat.zero_le _
  ·exact(h t (by rw[e];exact List.mem_cons_self)).2.1
section
variable{R:aD}
theorem pO(a:Nat)(b:cv)(T:aB)(c:dP R a b T)(s:ByteArray)(d:s=pM\/s=qH\/s=sh\/s=pL\/s=qG\/s=sj\/s=uE):Spec prog 156 [pT a,.string s] R [T] λu H'=>∃T',H'=[T']/\u=.bool false/\dP R a b T':=
 (ob a b T R c s).mono λu H' e=>by
  obtain⟨T',rfl,rfl,h⟩:=e
  rw[pQ c.ok d]at h⊢
  exact⟨T',rfl,rfl,h⟩
theorem Ai(b:Nat)(a:cv)(T:aB)(h:dP R b a T):Spec prog 247 [pT b] R [T] λu H'=>∃T',H'=[T']/\u=.agg (gZ isWord a).1.enc.toArray/\dP R b (gZ isWord a).2 T':=by
 have d:gZ isWord a=match dB sm a with
  |some s=>(⟨⟨#[]⟩,⟨#[]⟩⟩,s)
  |none=>(⟨(dD isWord a).1,(dD isWord (gw sl (dD isWord a).2)).1⟩,(dD isWord (gw sl (dD isWord a).2)).2):=rfl
 generalize gZ isWord a=out at *
 refine Spec.body Tryz.func247 rfl Tryz.results247 Tryz.ntmps247 rfl ?_
 refine .sr ?_
 refine .bN (λo=>?_)
 refine .zs<|.sr<|.mo rfl ?_
 refine .cY (R:=R) (ob b a T R h sm) (λu T' e=>?_)
 obtain⟨rfl,c⟩:=e
 refine .zn ?_
 refine .cond rfl (λf=>?_) λf=>?_
 obtain⟨s,g⟩:=Option.isSome_iff_exists.1 f
 rw[g]at c d
 simp only[Option.getD_some]at c d
 subst d
 refine .sr ?_
 refine .q .cN ?_
 refine .bH rfl rfl<|.zn ?_
 refine .ret (aI (bk _ (.one (.eI rfl rfl)) (aH [1]) ?_))
 ·exact⟨_,rfl,rfl,c⟩
 have g:dB sm a=none:=by
  cases hh:dB sm a with
  |none=>rfl
  |some x=>rw[hh]at f;cases f
 rw[g]at c d
 simp only[Option.getD_none]at c d
 subst d
 refine .kn<|.sr<|.mo rfl ?_
 refine .cY (R:=R) (rP b a _ R c) (λu l e=>?_)
 obtain⟨rfl,i⟩:=e
 refine .q .cN ?_
 refine .bN (λp=>?_)
 refine .bH rfl rfl<|.z<|.mo rfl ?_
 refine .cY (R:=R) (tL b _ _ R i sl) (λu m j=>?_)
 refine .z<|.mo rfl ?_
 refine .cY (R:=R) (rP b _ _ R j) (λu n e=>?_)
 obtain⟨rfl,k⟩:=e
 refine .fa rfl<|.dw rfl rfl<|.z<|.q (.aL rfl)<|.bH rfl rfl<|.zn ?_
 refine .ret (bk _ (.one (.eI rfl rfl)) (aH [2]) ?_)
 ·exact⟨_,rfl,rfl,k⟩
def fN(l:List Nd)(st:cv):List Nd×cv:=
 match dB pN st with
 |some s=>(l++[⟨1,⟨#[]⟩,⟨#[]⟩,0,0⟩],s)
 |none=>(l++[⟨2,(dD isWord st).1,⟨#[]⟩,0,0⟩],(dD isWord st).2)
theorem zm(l:List Nd)(a:cv):fC (fN l a).2 a:=by
 unfold fN
 split
 ·rename_i s h;exact(ju h).1
 ·exact lE a
theorem NJ{a:cv}(h:∀t∈a.1,gm t)(f:Nat)(l:List Nd):na isWord (f+1) l a=fN l a:=by
 rw[na]
 unfold fN
 cases hh:dB pN a with
 |some s=>rfl
 |none=>
  rw[pQ h (by simp)]
  simp only
  rw[pQ (λt b=>h t ((lE a).mem b)) (by simp)]
theorem Sn{a:cv}(h:∀t∈a.1,gm t)(f:Nat)(l:List Nd):nV (na isWord (f+1)) l a=fN l a:=by
 unfold nV
 rw[NJ h,su]
 split
 ·rfl
 ·rw[pQ (λt b=>h t ((zm l a).mem b)) (by simp)]
theorem Ee{a:cv}(h:∀t∈a.1,gm t)(f:Nat)(l:List Nd):ql (na isWord (f+1)) l a=fN l a:=by
 unfold ql
 rw[Sn h,ra]
 have b:∀t∈(fN l a).2.1,gm t:=λt c=>h t ((zm l a).mem c)
 have:rJ (fN l a).2=none:=by
  unfold rJ
  rw[pQ b (by simp),pQ b (by simp)]
  rfl
 rw[this]
theorem NK(c:Nat)(a:cv)(T:aB)(m:dP R c a T)(v:Value)(l:List Nd)(j:aB)(h:OS 199 5 Nd.enc v l j)(B:l.length<=1000000):Spec prog 273 [pT c,v] R [T,j] λu H'=>∃T' Tl',H'=[T',Tl']/\OS 199 5 Nd.enc u (fN l a).1 Tl'/\dP R c (fN l a).2 T':=by
 have e:fN l a=match dB pN a with
  |some s=>(l++[⟨1,⟨#[]⟩,⟨#[]⟩,0,0⟩],s)
  |none=>(l++[⟨2,(dD isWord a).1,⟨#[]⟩,0,0⟩],(dD isWord a).2):=rfl
 generalize fN l a=out at *
 have C:=h.ap
 refine Spec.body Tryz.func273 rfl Tryz.results273 Tryz.ntmps273 rfl ?_
 refine .sr<|.ag rfl<|.zs<|.block<|.sr<|.mo rfl ?_
 refine .cY (R:=R) (ob c a T R m pN) (λu T' b=>?_)
 obtain⟨rfl,d⟩:=b
 refine .az rfl ?_
 refine .cond rfl (λg=>?_) λg=>?_
 obtain⟨s,i⟩:=Option.isSome_iff_exists.1 g
 rw[i]at d e
 simp only[Option.getD_some]at d e
 subst e
 refine .sr<|.mo rfl ?_
 refine .q .cN ?_
 refine .dM (λy=>?_)
 refine .append h (RS.lits (xs:=[(⟨1,⟨#[]⟩,⟨#[]⟩,0,0⟩:Nd)]) rfl (by simp[Nd.enc]) (by simp[Nd.enc,ap])) (by simp only[List.length_singleton];omega) (λt k f=>?_)
 have r:=f.ap
 refine .az rfl ?_
 refine .ret (bp (aI (bk _ (.one (.tmp rfl)) (aH [1,1]) ?_)))
 ·exact⟨_,_,rfl,f,d⟩
 have i:dB pN a=none:=by
  cases hh:dB pN a with
  |none=>rfl
  |some x=>rw[hh]at g;cases g
 rw[i]at d e
 simp only[Option.getD_none]at d e
 subst e
 refine .sr<|.mo rfl ?_
 refine .cY (R:=R) (pO c a _ d pM (by simp)) (λu T' b=>?_)
 obtain⟨rfl,n⟩:=b
 refine .az rfl<|.cS<|.skip<|bf<|ax<|.sr<|.mo rfl ?_
 refine .cY (R:=R) (rP c a _ R n) (λu w b=>?_)
 obtain⟨rfl,o⟩:=b
 refine .q .cN ?_
 refine .bN (λA=>?_)
 refine .bH rfl rfl<|.zs<|.sr<|.mo rfl ?_
 refine .cY (R:=R) (pO c _ _ o sj (by simp)) (λu T' b=>?_)
 obtain⟨rfl,p⟩:=b
 refine .zn<|.cS<|.kn<|.sr<|.mo rfl<|.q (.aL rfl) ?_
 refine .dM (λz=>?_)
 refine .append h (RS.lits (xs:=[(⟨2,(dD isWord a).1,⟨#[]⟩,0,0⟩:Nd)]) rfl (by simp[Nd.enc]) (by simp[Nd.enc,ap])) (by simp only[List.length_singleton];omega) (λt k f=>?_)
 have r:=f.ap
 refine .az rfl ?_
 refine .ret (bk _ (.one (.tmp rfl)) (aH [2,2]) ?_)
 ·exact⟨_,_,rfl,f,p⟩
theorem So(a:Nat)(d:cv)(T:aB)(p:dP R a d T)(v:Value)(l:List Nd)(i:aB)(s:OS 199 5 Nd.enc v l i)(D:l.length<=1000000):Spec prog 265 [pT a,v] R [T,i] λu H'=>∃T' Tl',H'=[T',Tl']/\OS 199 5 Nd.enc u (fN l d).1 Tl'/\dP R a (fN l d).2 T':=by
 have K:=s.ap
 refine Spec.body Tryz.func265 rfl Tryz.results265 Tryz.ntmps265 rfl ?_
 refine .sr<|.ag rfl<|.z<|.mo rfl<|.mo rfl ?_
 refine .call [0,0] (NK (R:=Rx R []) a d T ⟨p.h.imp λv h=>⟨h.1,h.2.rx⟩,p.ok⟩ v l i s D) (λu H' k=>?_)
 obtain⟨m,C,rfl,w,g⟩:=k
 have g:dP R a (fN l d).2 m:=⟨g.h.imp λv h=>⟨h.1,h.2.mono λb o j=>j.elim id λj=>(by cases j)⟩,g.ok⟩
 have I:=w.ap
 conv=>arg 8;simp only[rest,bL,List.cons_append,List.nil_append]
 refine .ag rfl<|.zs<|.block ?_
 refine .cx [(0,_)] (X:=aB) (λT=>dP R a (fN l d).2 T) (λ_ E=>(1,_)::E) (λT G=>T::G) (λ_=>0) m g kE.c.c rH ?_
 rintro n f
 obtain⟨⟨B,x,A⟩,F⟩:=f
 have f:dP R a (fN l d).2 n:=⟨⟨B,x,A⟩,F⟩
 have J:=A.ap
 have L:PS n (pT a) [B,.bool (fN l d).2.2]:=PS.of (E:=215) (fr:=(0,0)) (by rw[x];simp)
 refine .seq<|.seq ?_
 refine bx.cL [(0,_),(1,_)] kE.c.c (X:=aB) (λT=>dP R a (fN l d).2 T) (λ_ E=>(17,.bool false)::E) (λT=>[T,C]) ?_ ?_
 refine .region<|.mo rfl<|.nc rfl<|.fa rfl<|.lo rfl<|.q .not<|.mo rfl ?_
 refine .split (t:=14) rfl (λe=>?_) (λe=>?_)
 refine .gT e<|.mo rfl<|.gT e ?_
 refine .cY (R:=R) (pO a _ _ f sh (by simp)) (λu T' k=>?_)
 obtain⟨rfl,r⟩:=k
 refine .q (.aO e) ?_
 refine .nil ?_
 ·first
   |exact ay _ r kE.c.c.c rH
   |exact ay _ f kE.c.c.c rH
 refine .gF e<|.gF e<|.q (.aN e) ?_
 refine .nil ?_
 ·first
   |exact ay _ r kE.c.c.c rH
   |exact ay _ f kE.c.c.c rH
 intro y H
 refine ax<|.cS<|.exit<|bq<|bz<|bs<|ax<|.sr<|.mo rfl<|.az rfl ?_
 refine .ret (bk _ (.one (.tmp rfl)) rH ?_)
 ·exact⟨_,_,rfl,w,by assumption⟩
theorem Py(a:Nat)(c:cv)(T:aB)(d:dP R a c T):Spec prog 266 [pT a] R [T] λu H'=>∃T',H'=[T']/\u=.int .i64 0/\dP R a c T':=by
 refine Spec.body Tryz.func266 rfl Tryz.results266 Tryz.ntmps266 rfl ?_
 refine .sr<|.ag rfl<|.zs<|.block<|.sr<|.mo rfl ?_
 refine .cY (R:=R) (pO a _ _ d pL (by simp)) (λu T' b=>?_)
 obtain⟨rfl,e⟩:=b
 refine .az rfl<|.cS<|.sr<|.mo rfl ?_
 refine .cY (R:=R) (pO a _ _ e qG (by simp)) (λu T' b=>?_)
 obtain⟨rfl,f⟩:=b
 refine .az rfl<|.cS<|.skip<|bf<|ax<|.sr<|.az rfl ?_
 refine .ret (bk _ (.one (.tmp rfl)) rH ?_)
 ·exact⟨_,rfl,rfl,f⟩
theorem Ef(d:Nat)(e:cv)(T:aB)(k:dP R d e T)(v:Value)(l:List Nd)(g:aB)(m:OS 199 5 Nd.enc v l g)(s:l.length<=1000000):Spec prog 248 [pT d,v] R [T,g] λu H'=>∃T' Tl',H'=[T',Tl']/\OS 199 5 Nd.enc u (fN l e).1 Tl'/\dP R d (fN l e).2 T':=by
 have y:=m.ap
 refine Spec.body Tryz.func248 rfl Tryz.results248 Tryz.ntmps248 rfl ?_
 refine .sr<|.ag rfl<|.z<|.mo rfl<|.mo rfl ?_
 refine .call [0,0] (So (R:=Rx R []) d e T ⟨k.h.imp λv h=>⟨h.1,h.2.rx⟩,k.ok⟩ v l g m s) (λu H' j=>?_)
 obtain⟨p,w,rfl,n,f⟩:=j
 have f:dP R d (fN l e).2 p:=⟨f.h.imp λv h=>⟨h.1,h.2.mono λb o i=>i.elim id λi=>(by cases i)⟩,f.ok⟩
 have x:=n.ap
 conv=>arg 8;simp only[rest,bL,List.cons_append,List.nil_append]
 refine .ag rfl<|.zs<|.sr<|.mo rfl ?_
 refine .cY (R:=R) (Py d _ _ f) (λu T' j=>?_)
 obtain⟨rfl,r⟩:=j
 refine .az rfl<|.block ?_
 refine .cx [(0,_)] (X:=Unit) (λ_=>True) (λ_ E=>(5,.int .i64 0)::(1,_)::E) (λ_ G=>G) (λ_=>0) () trivial kE.c.c.c rH ?_
 rintro _ _
 refine .seq<|.sr<|.mo rfl<|.q .dS<|.mo rfl ?_
 refine .split (t:=14) rfl (λa=>?_) (λa=>?_)
 ·cases a
 refine .gF a<|.gF a<|.gF a<|.gF a<|.gF a<|.q (.aN a) ?_
 refine .zn<|.cS<|.exit<|bq<|bz<|bs<|ax<|.sr<|.mo rfl<|.az rfl ?_
 refine .ret (bk _ (.one (.tmp rfl)) rH ?_)
 ·exact⟨_,_,rfl,n,r⟩
end
theorem Ox(n:Nd)(w:n.fits)(R:aD):Spec prog 226 [.agg n.enc.toArray] R [] λu H'=>u=.bool (n.leaf isWord)/\H'=[]:=by
 obtain⟨k,j,m,a,b⟩:=n
 obtain⟨i,l⟩:=w
 simp only at i l
 refine Spec.body Tryz.func226 rfl Tryz.results226 Tryz.ntmps226 rfl ?_
 refine .sr ?_
 refine .bW rfl (λo=>?_)
 refine .ag rfl<|.zs<|.seq ?_
 refine bx.cL [(1,_)] kE.c (X:=Unit) (λ_=>True) (λ_ E=>(10,.bool (!(a==0&&b==0)))::E) (λ_=>[bl o (Nd.enc ⟨k,j,m,a,b⟩) 199]) ?_ ?_
 refine .region<|.fa rfl<|.lo rfl<|.q .dS<|.mo rfl ?_
 refine .split (t:=6) rfl (λd=>?_) (λd=>?_)
 refine .gF d<|.gF d<|.gF d<|.q (.aO d) ?_
 refine .nil ?_
 ·exact ay () trivial (kE.c.bP rfl (by grind)) rH
 refine .gT d<|.fa rfl<|.gT d<|.lo rfl<|.gT d<|.q .dS<|.q (.aN d) ?_
 refine .nil ?_
 ·exact ay () trivial (kE.c.bP rfl (by grind)) rH
 intro y x
 refine ax ?_
 refine .cond rfl (λp=>?_) λp=>?_
 refine .sr<|.az rfl ?_
 refine .ret (aI (aM rfl ?_))
 ·refine⟨congrArg _ ?_,rfl⟩
  simp only[Nd.leaf]
  grind
 refine .kn<|.seq<|.sr<|.fa rfl<|.lo rfl<|.zn<|.block<|.sr<|.q .bK<|.az rfl ?_
 refine .cond rfl (λr=>?_) λr=>?_
 refine .sr<|.fa rfl<|.lo rfl<|.q .dW<|.mo rfl ?_
 refine .split (t:=18) rfl (λe=>?_) (λe=>?_)
 refine .gT e<|.fa rfl<|.gT e<|.lo rfl<|.gT e<|.q .dW<|.q (.aO e) ?_
 refine .az rfl ?_
 refine .ret (bp (aI (aM rfl ?_)))
 ·refine⟨congrArg _ ?_,rfl⟩
  simp only[Nd.leaf]
  grind
 refine .gF e<|.gF e<|.gF e<|.q (.aN e) ?_
 refine .az rfl ?_
 refine .ret (bp (aI (aM rfl ?_)))
 ·refine⟨congrArg _ ?_,rfl⟩
  simp only[Nd.leaf]
  grind
 refine .sr<|.q .bK<|.az rfl ?_
 refine .cond rfl (λs=>?_) λs=>?_
 refine .sr<|.fa rfl<|.lo rfl ?_
 refine .ba (kY j i _) (λu h=>?_)
 subst h
 refine .mo rfl ?_
 refine .split (t:=28) rfl (λf=>?_) (λf=>?_)
 refine .gT f<|.fa rfl<|.gT f<|.lo rfl<|.gT f<|.q .dW<|.q (.aO f) ?_
 refine .az rfl ?_
 refine .ret (bp (aI (aM rfl ?_)))
 ·refine⟨congrArg _ ?_,rfl⟩
  simp only[Nd.leaf]
  grind
 refine .gF f<|.gF f<|.gF f<|.q (.aN f) ?_
 refine .az rfl ?_
 refine .ret (bp (aI (aM rfl ?_)))
 ·refine⟨congrArg _ ?_,rfl⟩
  simp only[Nd.leaf]
  grind
 refine .sr<|.q .bK<|.az rfl ?_
 refine .cond rfl (λv=>?_) λv=>?_
 refine .sr<|.fa rfl<|.lo rfl ?_
 refine .ba (kY j i _) (λu h=>?_)
 subst h
 refine .mo rfl ?_
 refine .split (t:=38) rfl (λg=>?_) (λg=>?_)
 refine .gT g<|.fa rfl<|.gT g<|.lo rfl<|.gT g ?_
 refine .ba (kY m l _) (λu h=>?_)
 subst h
 refine .q (.aO g) ?_
 refine .az rfl ?_
 refine .ret (bp (aI (aM rfl ?_)))
 ·refine⟨congrArg _ ?_,rfl⟩
  simp only[Nd.leaf]
  grind
 refine .gF g<|.gF g<|.gF g<|.q (.aN g) ?_
 refine .az rfl ?_
 refine .ret (bp (aI (aM rfl ?_)))
 ·refine⟨congrArg _ ?_,rfl⟩
  simp only[Nd.leaf]
  grind
 refine .skip<|bf<|ax<|.sr<|.az rfl ?_
 refine .ret (aM rfl ?_)
 ·refine⟨congrArg _ ?_,rfl⟩
  simp only[Nd.leaf]
  grind
theorem vj(W:ByteArray->Bool):∀(a b:List Nd) (S:List (Nat×Nat)),jH W (a++b) S=(jH W a S).bind (jH W b)
 |[],b,S=>rfl
 |n::a,b,S=>by
  rw[List.cons_append,jH,jH]
  cases iK W S n with
  |none=>rfl
  |some S'=>exact vj W a b S'
theorem ka{α:Type}{A:List α}{i k:Nat}{x z:α}(a:A.length=i):(A++List.replicate (k+1) z).set i x=(A++[x])++List.replicate k z:=by
 subst a
 rw[List.set_append_right _ _ (Nat.le_refl _),Nat.sub_self,List.replicate_succ,List.set_cons_zero]
 simp
theorem rq{A:List Nat}{j k:Nat}{a:Nat}(h:A[j]? =some a):(A++List.replicate k 0)[j]? =some a:=by
 rw[List.getElem?_append_left (List.getElem?_eq_some_iff.1 h).1]
 exact h
def mN(S:List (Nat×Nat))(n:Nd):Prop:=n.rel≠⟨#[]⟩\/n.dy≠⟨#[]⟩\/n.b≠(S.length:Int)-1\/n.b<0\/n.a≠(S.length:Int)-1-(S.getD (S.length-1) (0,0)).1\/n.a<0
instance(S:List (Nat×Nat))(n:Nd):Decidable (mN S n):=by unfold mN;infer_instance
theorem D4{S:List (Nat×Nat)}{n:Nd}(ho:n.op=true)(h:mN S n):iK isWord S n=none:=by
 unfold iK
 rw[if_pos ho]
 exact if_pos h
theorem D5{S:List (Nat×Nat)}{n:Nd}(ho:n.op=true)(h:¬mN S n):iK isWord S n=some (S++[((S.getD n.a.toNat (0,0)).1+(S.getD n.b.toNat (0,0)).1+1,max (S.getD n.a.toNat (0,0)).2 (S.getD n.b.toNat (0,0)).2+1)]):=by
 unfold iK
 rw[if_pos ho]
 exact if_neg h
theorem yA{l:List Nd}{i:Nat}{n:Nd}{S:List (Nat×Nat)}(c:l[i]? =some n)(a:jH isWord (l.take i) []=some S)(h:iK isWord S n=none):qa isWord l=0:=by
 have b:l=l.take i++n::l.drop (i+1):=by
  rw[<-List.take_append_drop i l]
  congr 1
  ·rw[List.take_append_drop]
  ·rw[List.take_append_drop];exact yJ c
 have:jH isWord l []=none:=by
  rw[b,vj,a,Option.bind_some,jH,h]
  rfl
 unfold qa
 rw[this]
theorem yB(v:Value)(l:List Nd)(R:aD)(h:RS R 5 Nd.enc v l)(s:∀x∈l,x.fits)(c7:l.length<=1000000):
    Spec prog 174 [v] R [] λu H'=>u=.int .i64 (fS isWord l:Nat)/\H'=[]:=by
  rw[<-DX]
  have iv:=h.ap
  refine Spec.body Tryz.func174 rfl Tryz.results174 Tryz.ntmps174 rfl ?_
  refine .sr<|.ag rfl<|.zs ?_
  refine bx.cL [(0,_)] kE.c (X:=(Nat×aB)×(Nat×aB)) (λy=>OS 3 1 cW (.slice (some ⟨y.1.1,0,none⟩) l.length l.length) (List.replicate l.length 0) y.1.2/\OS 3 1 cW (.slice (some ⟨y.2.1,0,none⟩) l.length l.length) (List.replicate l.length 0) y.2.2) (λy E=>(3,.slice (some ⟨y.1.1,0,none⟩) l.length l.length)::(4,.slice (some ⟨y.2.1,0,none⟩) l.length l.length)::E) (λy=>[y.1.2,y.2.2]) ?_ ?_
  refine .dp [2,5] mixed ?_
  refine .tK 0 rfl .move ?_
  refine .tK 1 rfl (.bJ h) ?_
  refine .tK 3 rfl .move ?_
  refine .tK 4 rfl (.bJ h) ?_
  refine RA.je 2 5 rfl rfl (by kernel_rfl) rfl ?_ ?_
  refine .makeSlice (enc:=cW) l.length 0 rfl rfl (by decide) (by simp[cW,ap]) rfl rfl (by omega) (by omega) (λL w d=>?_)
  refine .nil (Next.mod rfl ?_)
  refine .tK 6 rfl .assign ?_
  refine .sT 5 rfl ?_
  refine .makeSlice (enc:=cW) l.length 0 rfl rfl (by decide) (by simp[cW,ap]) rfl rfl (by omega) (by omega) (λM A e=>?_)
  refine .nil (Next.mod rfl ?_)
  refine .tK 7 rfl .assign ?_
  refine RA.nil (by kernel_rfl) ?_
  ·first
      |exact ay ((L,w),(M,A)) ⟨d,e⟩ kE.c.c.c (aH [0,0])
      |exact ay ((L,w),(M,A)) ⟨d,e⟩ kE.c.c.c (aH [1,0])
  refine .makeSlice (enc:=cW) l.length 0 rfl rfl (by decide) (by simp[cW,ap]) rfl rfl (by omega) (by omega) (λM A e=>?_)
  refine .nil (Next.mod rfl ?_)
  refine .sT 2 rfl ?_
  refine .makeSlice (enc:=cW) l.length 0 rfl rfl (by decide) (by simp[cW,ap]) rfl rfl (by omega) (by omega) (λL w d=>?_)
  refine .nil (Next.mod rfl ?_)
  refine .tK 6 rfl .assign<|.tK 7 rfl .assign ?_
  refine RA.nil (by kernel_rfl) ?_
  ·first
      |exact ay ((L,w),(M,A)) ⟨d,e⟩ kE.c.c.c (aH [0,0])
      |exact ay ((L,w),(M,A)) ⟨d,e⟩ kE.c.c.c (aH [1,0])
  intro y hy
  obtain⟨⟨L,w⟩,⟨M,A⟩⟩:=y
  obtain⟨d,e⟩:=hy
  simp only at d e⊢
  refine ax<|.seq<|.sr<|.mo rfl<|.q (.bJ h) ?_
  refine .mo rfl<|.zn<|.block ?_
  refine .cx [(0,_),(3,_),(4,_),(13,_),(14,_)] (X:=Nat×List (Nat×Nat)×aB×aB) (λy=>y.1<=l.length/\y.2.1.length=y.1/\jH isWord (l.take y.1) []=some y.2.1/\DI isWord l y.2.1/\OS 3 1 cW (.slice (some ⟨L,0,none⟩) l.length l.length) (y.2.1.map (·.1)++List.replicate (l.length-y.1) 0) y.2.2.1/\OS 3 1 cW (.slice (some ⟨M,0,none⟩) l.length l.length) (y.2.1.map (·.2)++List.replicate (l.length-y.1) 0) y.2.2.2) (λy E=>(15,iN y.1)::E) (λy _=>[y.2.2.1,y.2.2.2]) (λy=>l.length-y.1) (0,[],w,A) ⟨Nat.zero_le _,rfl,rfl,⟨Nat.zero_le _,λj hj=>absurd hj (by simp)⟩,by simpa using d,by simpa using e⟩ kE.c.c.c.c.c.c rH (G:=[]) ?_
  rintro⟨i,S,w,A⟩ ⟨hi,o,Q,m,d,e⟩
  simp only at hi o Q m d e⊢
  refine .sr<|.q .lss<|.zs ?_
  refine .cond rfl (λh1=>?_) λh1=>?_
  have W:i<l.length:=cr h1
  obtain⟨n,J⟩:=bR W
  obtain⟨k,hk⟩:∃k,l.length-i=k+1:=⟨l.length-i-1,by omega⟩
  have K:l.length-(i+1)=k:=by omega
  rw[hk]at d e
  have Y:jH isWord (l.take (i+1)) []=iK isWord S n:=by
    rw[dT J,vj,Q,Option.bind_some,jH]
    cases iK isWord S n<;>rfl
  have a3:(S.map (·.1)).length=i:=by rw[List.length_map,o]
  have a4:(S.map (·.2)).length=i:=by rw[List.length_map,o]
  have r:∀j,j<i->(S.map (·.1))[j]? =some (S.getD j (0,0)).1/\(S.map (·.2))[j]? =some (S.getD j (0,0)).2/\(S.getD j (0,0)).1<=j+1/\(S.getD j (0,0)).2<=j+1/\1<=(S.getD j (0,0)).1:=λj hj=>by
    obtain⟨d1,d2,d3⟩:=m.t j (by omega)
    have d4:=xx _ _ _ d3
    refine⟨?_,?_,d2,d4,d1⟩
    ·rw[List.getElem?_map,bu (by omega),List.getD_eq_getElem?_getD,bu (by omega)];rfl
    ·rw[List.getElem?_map,bu (by omega),List.getD_eq_getElem?_getD,bu (by omega)];rfl
  obtain⟨z1,a0⟩:∃z,(S.map (·.1)++List.replicate (k+1) 0)[i]? =some z:=⟨_,bu (by rw[List.length_append,a3,List.length_replicate];omega)⟩
  obtain⟨z2,a1⟩:∃z,(S.map (·.2)++List.replicate (k+1) 0)[i]? =some z:=⟨_,bu (by rw[List.length_append,a4,List.length_replicate];omega)⟩
  have b4:=h.le
  refine .kn<|.seq<|.block<|.sr<|.mo rfl ?_
  refine .bC i h J (λd7=>?_)
  refine .q (.aL rfl) ?_
  refine .bN (λb6=>?_)
  refine .ag rfl<|.bH rfl rfl<|.zs<|.seq ?_
  refine bx.cL [(0,_),(3,_),(4,_),(5,_),(6,_),(13,_),(14,_),(15,_)] kE.c.c.c.c.c.c.c.c (X:=Unit) (λ_=>True) (λ_ E=>(32,.bool (!n.op))::E) (λ_=>[bl b6 n.enc 199,w,A]) ?_ ?_
  refine .region<|.fa rfl<|.lo rfl<|.q .dS<|.mo rfl ?_
  refine .split (t:=23) rfl (λB=>?_) (λB=>?_)
  refine .gT B<|.fa rfl<|.gT B<|.lo rfl<|.gT B<|.q .dS<|.q (.aO B) ?_
  refine .mo rfl ?_
  refine .split (t:=28) rfl (λC=>?_) (λC=>?_)
  refine .gT C<|.fa rfl<|.gT C<|.lo rfl<|.gT C<|.q .dS<|.q (.aO C) ?_
  refine .nil ?_
  ·exact ay () trivial (kE.c.c.c.c.c.c.c.c.bP rfl (by clear r m d e s;grind[Nd.op])) rH
  refine .gF C<|.gF C<|.gF C<|.q (.aN C) ?_
  refine .nil ?_
  ·exact ay () trivial (kE.c.c.c.c.c.c.c.c.bP rfl (by clear r m d e s;grind[Nd.op])) rH
  refine .gF B<|.gF B<|.gF B<|.q (.aN B) ?_
  refine .mo rfl<|.gX<|.gX<|.gX<|.q .cT<|.nil ?_
  ·exact ay () trivial (kE.c.c.c.c.c.c.c.c.bP rfl (by clear r m d e s;grind[Nd.op])) rH
  intro y hy
  refine ax ?_
  refine .cond rfl (λV=>?_) λV=>?_
  refine .seq<|.sr<|.q (.aL rfl) ?_
  refine .ba (Ox n (s n (aZ J)) _) (λu hu=>?_)
  subst hu
  refine .q .not<|.zn ?_
  refine .cond rfl (λh3=>?_) λh3=>?_
  refine .sr<|.az rfl ?_
  refine .ret (aI (aI (bp (aI (cF (bp (aI (aM rfl ?_))))))))
  ·refine⟨?_,rfl⟩
   rw[yA J Q (by unfold iK;rw[if_neg (by have a5:n.op=false:=by simpa using V
                                         rw[a5];simp),if_neg (by simpa using h3)])]
   rfl
  have a5:n.op=false:=by simpa using V
  have b5:n.leaf isWord=true:=by simpa using h3
  have I:iK isWord S n=some (S++[(1,1)]):=by unfold iK;rw[if_neg (by rw[a5];simp),if_pos b5]
  refine .kn<|.sr<|.mo rfl<|.mo rfl<|.mo rfl<|.mo rfl ?_
  refine .bo i d a0 (λd8=>?_)
  refine .gz i d a0 1 (λT N=>?_)
  rw[ka a3]at N
  refine .bo i e a1 (λd9=>?_)
  refine .gz i e a1 1 (λU O=>?_)
  rw[ka a4]at O
  refine .zn<|.exit<|bq<|bs<|ax<|.region ?_
  refine .ia (i+1) .add ?_
  refine .mo rfl<|.nil ?_
  ·first
      |exact aP (i+1,S++[(1,1)],T,U) ⟨W,by simp[o],by simp only;rw[Y,I],m.step (by rw[o];exact J) I,by simp only;rw[K,List.map_append];exact N,by simp only;rw[K,List.map_append];exact O⟩ (by simp only;omega) kE.c.c.c.c.c.c (aH [1,1])
      |exact aP (i+1,S++[((S.getD n.a.toNat (0,0)).1+(S.getD (i-1) (0,0)).1+1,max (S.getD n.a.toNat (0,0)).2 (S.getD (i-1) (0,0)).2+1)],T,U) ⟨W,by simp[o],by simp only;rw[Y,I],m.step (by rw[o];exact J) I,by simp only;rw[K,List.map_append];exact N,by simp only;rw[K,List.map_append];exact O⟩ (by simp only;omega) kE.c.c.c.c.c.c (aH [1,1])
  refine .kn<|.seq<|.seq ?_
  refine bx.cL [(0,_),(3,_),(4,_),(5,_),(6,_),(13,_),(14,_),(15,_)] kE.c.c.c.c.c.c.c.c (X:=Unit) (λ_=>True) (λ_ E=>(79,.bool (decide (n.rel≠⟨#[]⟩\/n.dy≠⟨#[]⟩\/n.b≠(i:Int)-1\/n.b<0\/n.a≠(i:Int)-1-((S.getD (i-1) (0,0)).1:Nat)\/n.a<0)))::E) (λ_=>[bl b6 n.enc 199,w,A]) ?_ ?_
  refine .fX mixed (by kernel_rfl) ?_
  refine .fa rfl<|.lo rfl<|.q .gv<|.mo rfl ?_
  refine .split (t:=45) rfl (λF=>?_) (λF=>?_)
  refine .gF F<|.gF F<|.gF F<|.q (.aO F) ?_
  refine .mo rfl<|.gX<|.gX<|.gX<|.gX<|.gX<|.q .cO<|.mo rfl<|.gX<|.gX<|.gX<|.q .cO<|.mo rfl<|.gX<|.gX<|.gX<|.gX<|.gX<|.gX<|.gX<|.gX<|.gX<|.gX<|.gX<|.q .cO<|.mo rfl<|.gX<|.gX<|.gX<|.q .cO<|.nil ?_
  ·exact ay () trivial (kE.c.c.c.c.c.c.c.c.bP rfl (by clear r m d e s;grind)) rH
  refine .gT F<|.fa rfl<|.gT F<|.lo rfl<|.gT F<|.q .gv<|.q (.aN F) ?_
  refine .mo rfl ?_
  refine .split (t:=50) rfl (λp=>?_) (λp=>?_)
  refine .gF p<|.gF p<|.gF p<|.gF p<|.gF p<|.q (.aO p) ?_
  refine .mo rfl<|.gX<|.gX<|.gX<|.q .cO<|.mo rfl<|.gX<|.gX<|.gX<|.gX<|.gX<|.gX<|.gX<|.gX<|.gX<|.gX<|.gX<|.q .cO<|.mo rfl<|.gX<|.gX<|.gX<|.q .cO<|.nil ?_
  ·exact ay () trivial (kE.c.c.c.c.c.c.c.c.bP rfl (by clear r m d e s;grind)) rH
  refine .gT p<|.fa rfl<|.gT p<|.lo rfl<|.gT p<|.mo rfl<|.gT p ?_
  refine .q (.i64 ((i:Int)-1) .sub ⟨rfl,by omega,by omega⟩) ?_
  refine .gT p<|.q .dS<|.q (.aN p) ?_
  refine .mo rfl ?_
  refine .split (t:=57) rfl (λD=>?_) (λD=>?_)
  refine .gF D<|.gF D<|.gF D<|.q (.aO D) ?_
  refine .mo rfl<|.gX<|.gX<|.gX<|.gX<|.gX<|.gX<|.gX<|.gX<|.gX<|.gX<|.gX<|.q .cO<|.mo rfl<|.gX<|.gX<|.gX<|.q .cO<|.nil ?_
  ·exact ay () trivial (kE.c.c.c.c.c.c.c.c.bP rfl (by clear r m d e s;grind)) rH
  refine .gT D<|.fa rfl<|.gT D<|.lo rfl<|.gT D<|.q .lss<|.q (.aN D) ?_
  refine .mo rfl ?_
  refine .split (t:=62) rfl (λf=>?_) (λf=>?_)
  refine .gF f<|.gF f<|.gF f<|.gF f<|.gF f<|.gF f<|.gF f<|.gF f<|.gF f<|.gF f<|.gF f<|.q (.aO f) ?_
  refine .mo rfl<|.gX<|.gX<|.gX<|.q .cO<|.nil ?_
  ·exact ay () trivial (kE.c.c.c.c.c.c.c.c.bP rfl (by clear r m d e s;grind)) rH
  have c6:1<=i:=by clear r m d e;grind
  obtain⟨q1,q2,q3,q4,q5⟩:=r (i-1) (by omega)
  have a7:=rq (k:=k+1) q1
  refine .gT f<|.fa rfl<|.gT f<|.lo rfl<|.gT f<|.mo rfl<|.gT f ?_
  refine .q (.i64 ((i:Int)-1) .sub ⟨rfl,by omega,by omega⟩) ?_
  refine .gT f<|.mo rfl<|.gT f<|.mo rfl<|.gT f ?_
  refine .q (.i64 ((i:Int)-1) .sub ⟨rfl,by omega,by omega⟩) ?_
  refine .gT f ?_
  refine .bo (i-1) d a7 (λe0=>?_) rfl rfl (by omega)
  refine .gT f<|.lo rfl<|.gT f ?_
  refine .q (.i64 ((i:Int)-1-((S.getD (i-1) (0,0)).1:Nat)) .sub ⟨rfl,by omega,by omega⟩) ?_
  refine .gT f<|.q .dS<|.q (.aN f) ?_
  refine .mo rfl ?_
  refine .split (t:=75) rfl (λH=>?_) (λH=>?_)
  refine .gF H<|.gF H<|.gF H<|.q (.aO H) ?_
  refine .nil ?_
  ·exact ay () trivial (kE.c.c.c.c.c.c.c.c.bP rfl (by clear r m d e s;grind)) rH
  refine .gT H<|.fa rfl<|.gT H<|.lo rfl<|.gT H<|.q .lss<|.q (.aN H) ?_
  refine .nil ?_
  ·exact ay () trivial (kE.c.c.c.c.c.c.c.c.bP rfl (by clear r m d e s;grind)) rH
  intro y hy
  refine ax ?_
  refine .cond rfl (λh4=>?_) λh4=>?_
  have a6:n.op=true:=by simpa using V
  have Z:mN S n:=by unfold mN;rw[o];exact cm h4
  refine .sr<|.az rfl ?_
  refine .ret (aI (bp (aI (cF (bp (aI (aM rfl ?_)))))))
  ·refine⟨?_,rfl⟩
   rw[yA J Q (D4 a6 Z)]
   rfl
  have a6:n.op=true:=by simpa using V
  have Z:¬mN S n:=by unfold mN;rw[o];exact bA h4
  have a2:=Z
  unfold mN at a2
  simp only[not_or,Decidable.not_not,o]at a2
  obtain⟨c0,c1,c2,c3,c4,c5⟩:=a2
  obtain⟨q1,q2,q3,q4,q5⟩:=r (i-1) (by omega)
  obtain⟨r1,r2,r3,r4,r5⟩:=r n.a.toNat (by omega)
  have a9:n.b.toNat=i-1:=by omega
  have a7:=rq (k:=k+1) q1
  have b7:=rq (k:=k+1) q2
  have b8:=rq (k:=k+1) r1
  have b9:=rq (k:=k+1) r2
  have I:iK isWord S n=some (S++[((S.getD n.a.toNat (0,0)).1+(S.getD (i-1) (0,0)).1+1,max (S.getD n.a.toNat (0,0)).2 (S.getD (i-1) (0,0)).2+1)]):=by
    rw[D5 a6 Z,a9]
  refine .kn<|.seq ?_
  refine .dU 15 mixed (by kernel_rfl) ?_
  conv=>arg 6;dsimp only[List.take]
  refine .mo rfl<|.mo rfl<|.mo rfl<|.fa rfl<|.lo rfl ?_
  refine .bo n.a.toNat d b8 (λe1=>?_) rfl rfl (by omega)
  refine .lo rfl<|.mo rfl<|.fa rfl<|.lo rfl ?_
  refine .bo (i-1) d a7 (λe2=>?_) rfl rfl (by omega)
  refine .lo rfl ?_
  refine .q (.i64 (((S.getD n.a.toNat (0,0)).1+(S.getD (i-1) (0,0)).1:Nat):Int) .add ⟨by push_cast;rfl,by omega,by omega⟩) ?_
  refine .q (.i64 (((S.getD n.a.toNat (0,0)).1+(S.getD (i-1) (0,0)).1+1:Nat):Int) .add ⟨by push_cast;rfl,by omega,by omega⟩) ?_
  refine .bo i d a0 (λe3=>?_)
  refine .nil ?_
  refine .gz i d a0 ((S.getD n.a.toNat (0,0)).1+(S.getD (i-1) (0,0)).1+1) (λT N=>?_)
  rw[ka a3]at N
  refine .zn ?_
  refine .dU 15 mixed (by kernel_rfl) ?_
  conv=>arg 6;dsimp only[List.take]
  refine .mo rfl<|.mo rfl<|.mo rfl<|.fa rfl<|.lo rfl ?_
  refine .bo n.a.toNat e b9 (λc8=>?_) rfl rfl (by omega)
  refine .lo rfl<|.mo rfl<|.fa rfl<|.lo rfl ?_
  refine .bo (i-1) e b7 (λc9=>?_) rfl rfl (by omega)
  refine .lo rfl<|.q .ON ?_
  refine .q (.i64 ((max (S.getD n.a.toNat (0,0)).2 (S.getD (i-1) (0,0)).2+1:Nat):Int) .add ⟨by omega,by omega,by omega⟩) ?_
  refine .bo i e a1 (λd0=>?_)
  refine .nil ?_
  refine .gz i e a1 (max (S.getD n.a.toNat (0,0)).2 (S.getD (i-1) (0,0)).2+1) (λU O=>?_)
  rw[ka a4]at O
  refine .nil<|bf<|ax<|.region ?_
  refine .ia (i+1) .add ?_
  refine .mo rfl<|.nil ?_
  ·first
      |exact aP (i+1,S++[(1,1)],T,U) ⟨W,by simp[o],by simp only;rw[Y,I],m.step (by rw[o];exact J) I,by simp only;rw[K,List.map_append];exact N,by simp only;rw[K,List.map_append];exact O⟩ (by simp only;omega) kE.c.c.c.c.c.c (aH [1,1])
      |exact aP (i+1,S++[((S.getD n.a.toNat (0,0)).1+(S.getD (i-1) (0,0)).1+1,max (S.getD n.a.toNat (0,0)).2 (S.getD (i-1) (0,0)).2+1)],T,U) ⟨W,by simp[o],by simp only;rw[Y,I],m.step (by rw[o];exact J) I,by simp only;rw[K,List.map_append];exact N,by simp only;rw[K,List.map_append];exact O⟩ (by simp only;omega) kE.c.c.c.c.c.c (aH [1,1])
  have b2:i=l.length:=by have:=bA h1;omega
  subst b2
  rw[List.take_length]at Q
  rw[Nat.sub_self]at d e
  simp only[List.replicate_zero,List.append_nil]at d e
  have b4:=h.le
  refine .exit<|bq<|bz<|bs<|ax<|.seq<|.seq ?_
  refine bx.cL [(0,_),(4,_)] kE.c.c (X:=Unit) (λ_=>True) (λ_ E=>(124,.bool (decide (l=[]\/(S.getD (l.length-1) (0,0)).1≠l.length)))::E) (λ_=>[w,A]) ?_ ?_
  refine .region<|.mo rfl<|.q (.bJ h) ?_
  refine .q .bK<|.mo rfl ?_
  refine .split (t:=114) rfl (λg=>?_) (λg=>?_)
  refine .gF g<|.gF g<|.gF g<|.gF g<|.gF g<|.gF g<|.gF g<|.gF g<|.gF g<|.q (.aO g) ?_
  refine .nil ?_
  ·exact ay () trivial (kE.c.c.bP rfl (by clear s m d e;rcases l with _|⟨x,l⟩<;>simp at * <;>grind)) rH
  have b3:1<=l.length:=by have:=bA g;omega
  have b0:(S.map (·.1))[l.length-1]? =some (S.getD (l.length-1) (0,0)).1:=by rw[List.getElem?_map,bu (by omega),List.getD_eq_getElem?_getD,bu (by omega)];rfl
  refine .gT g<|.mo rfl<|.gT g<|.mo rfl<|.gT g<|.q (.bJ h) ?_
  refine .gT g ?_
  refine .q (.i64 ((l.length:Int)-1) .sub ⟨rfl,by omega,by omega⟩) ?_
  refine .gT g ?_
  refine .bo (l.length-1) d b0 (λd5=>?_) rfl rfl (by omega)
  refine .gT g<|.lo rfl<|.gT g<|.mo rfl<|.gT g<|.q (.bJ h) ?_
  refine .gT g<|.q .dS<|.q (.aN g) ?_
  refine .nil ?_
  ·exact ay () trivial (kE.c.c.bP rfl (by clear s m d e;rcases l with _|⟨x,l⟩<;>simp at * <;>grind)) rH
  intro y hy
  refine ax ?_
  refine .cond rfl (λh5=>?_) λh5=>?_
  refine .sr<|.az rfl ?_
  refine .ret (aI (aM rfl ?_))
  ·refine⟨?_,rfl⟩
   unfold qa
   rw[Q]
   simp only
   rw[if_pos (cm h5)]
   rfl
  have a8:=bA h5
  have b3:1<=l.length:=by rcases l with _|⟨x,l⟩<;>simp at a8⊢
  have b1:(S.map (·.2))[l.length-1]? =some (S.getD (l.length-1) (0,0)).2:=by rw[List.getElem?_map,bu (by omega),List.getD_eq_getElem?_getD,bu (by omega)];rfl
  refine .kn<|.sr<|.mo rfl<|.mo rfl<|.q (.bJ h) ?_
  refine .q (.i64 ((l.length:Int)-1) .sub ⟨rfl,by omega,by omega⟩) ?_
  refine .bo (l.length-1) e b1 (λd6=>?_) rfl rfl (by omega)
  refine .lo rfl<|.az rfl ?_
  refine .ret (aM rfl ?_)
  ·refine⟨?_,rfl⟩
   unfold qa
   rw[Q]
   simp only
   rw[if_neg a8]
theorem Ty.kinds(t:Ty):eG [.s,.s] t.enc:=⟨trivial,trivial,trivial⟩
theorem Ty.eq(a b:Ty):eE a.enc b.enc=decide (a=b):=by
 obtain⟨c,d⟩:=a
 obtain⟨e,f⟩:=b
 rw[Bool.eq_iff_iff]
 simp[Ty.enc,eE,mM]
theorem Ot(t:Ty)(f:t.fits)(R:aD):Spec prog 177 [.agg t.enc.toArray] R [] λu H'=>u=.bool (iQ isWord t)/\H'=[]:=by
 obtain⟨s,r⟩:=t
 obtain⟨d,e⟩:=f
 simp only at d e
 refine Spec.body Tryz.func177 rfl Tryz.results177 Tryz.ntmps177 rfl ?_
 refine .sr ?_
 refine .bW rfl (λg=>?_)
 refine .ag rfl<|.z<|.q (.aL rfl) ?_
 refine .q .cN ?_
 refine .q (.cast (.mQ (xs:=Ty.enc ⟨s,r⟩) (ys:=Ty.enc ⟨⟨#[]⟩,⟨#[]⟩⟩) rfl rfl (Ty.kinds _) (Ty.kinds _)) (congrArg Value.bool (Ty.eq _ _))) ?_
 refine .mo rfl ?_
 refine .split (t:=6) rfl (λa=>?_) (λa=>?_)
 refine .gF a<|.gF a<|.gF a<|.gF a<|.dd rfl ?_
 refine .dd rfl ?_
 refine .dd rfl ?_
 refine .gF a<|.q (.aO a) ?_
 refine .az rfl ?_
 refine .ret (aM rfl ?_)
 ·refine⟨congrArg _ ?_,rfl⟩
  simp only[iQ]
  grind
 refine .gT a<|.fa rfl<|.gT a<|.lo rfl<|.gT a ?_
 refine .ba (kY s d _) (λu c=>?_)
 subst c
 refine .gT a<|.mo rfl ?_
 refine .split (t:=10) rfl (λb=>?_) (λb=>?_)
 refine .gT b<|.fa rfl<|.gT b<|.lo rfl<|.gT b ?_
 refine .ba (kY r e _) (λu c=>?_)
 subst c
 refine .gT a<|.q (.aO b) ?_
 refine .q (.aN a) ?_
 refine .az rfl ?_
 refine .ret (aM rfl ?_)
 ·refine⟨congrArg _ ?_,rfl⟩
  simp only[iQ]
  grind
 refine .gF b<|.gF b<|.gF b<|.gT a<|.q (.aN b) ?_
 refine .q (.aN a) ?_
 refine .az rfl ?_
 refine .ret (aM rfl ?_)
 ·refine⟨congrArg _ ?_,rfl⟩
  simp only[iQ]
  grind
theorem Qi(t:Ty)(a:t.fits)(R:aD):Spec prog 176 [.agg t.enc.toArray] R [] λu H'=>u=.bool (!iQ isWord t)/\H'=[]:=by
 refine Spec.body Tryz.func176 rfl Tryz.results176 Tryz.ntmps176 rfl ?_
 refine .sr ?_
 refine .bW rfl (λc=>?_)
 refine .ag rfl<|.z<|.q (.aL rfl) ?_
 refine .ba (Ot t a _) (λu b=>?_)
 subst b
 refine .q .not<|.az rfl ?_
 refine .ret (aM rfl ?_)
 ·exact⟨rfl,rfl⟩
theorem Qj(s:Sc)(h:s.fits)(R:aD):Spec prog 179 [.agg s.enc.toArray] R [] λu H'=>u=.bool (!kS isWord di s)/\H'=[]:=by
 obtain⟨n,j,i,r⟩:=s
 obtain⟨d,e,f,g⟩:=h
 simp only at d e f g
 refine Spec.body Tryz.func179 rfl Tryz.results179 Tryz.ntmps179 rfl ?_
 refine .sr ?_
 refine .bW rfl (λk=>?_)
 refine .ag rfl<|.z<|.fa rfl<|.lo rfl ?_
 refine .ba (kY n d _) (λu c=>?_)
 subst c
 refine .q .not<|.mo rfl ?_
 refine .split (t:=7) rfl (λb=>?_) (λb=>?_)
 refine .gF b<|.gF b<|.gF b<|.gF b<|.q (.aO b) ?_
 refine .mo rfl<|.gX<|.gX<|.gX<|.gX<|.q .cO<|.az rfl ?_
 refine .ret (aM rfl ?_)
 ·refine⟨congrArg _ ?_,rfl⟩
  simp only[kS]
  grind
 refine .gT b<|.fa rfl<|.gT b<|.q (.loadT rfl) ?_
 refine .gT b ?_
 refine .ba (vg j i e f _) (λu c=>?_)
 subst c
 refine .gT b<|.q .dS<|.q (.aN b) ?_
 refine .mo rfl ?_
 refine .split (t:=13) rfl (λa=>?_) (λa=>?_)
 refine .gF a<|.gF a<|.gF a<|.gF a<|.q (.aO a) ?_
 refine .az rfl ?_
 refine .ret (aM rfl ?_)
 ·refine⟨congrArg _ ?_,rfl⟩
  simp only[kS]
  grind
 refine .gT a<|.fa rfl<|.gT a<|.lo rfl<|.gT a ?_
 refine .ba (kY r g _) (λu c=>?_)
 subst c
 refine .gT a<|.q .not<|.q (.aN a) ?_
 refine .az rfl ?_
 refine .ret (aM rfl ?_)
 ·refine⟨congrArg _ ?_,rfl⟩
  simp only[kS]
  grind
theorem OV(p:ca)(R:aD)(h:p.is R)(R':aD)(i:∀b o,R b o->R' b o):Spec prog 161 [.agg p.enc.toArray] R' [] λu H'=>u=.bool (iZ isWord p.r)/\H'=[]:=by
 obtain⟨l,g,r⟩:=p
 have f:RS R 2 Ty.enc l r.types:=h.t
 have e:RS R 5 Nd.enc g r.nodes:=h.d
 have v:=f.ap
 have s:=e.ap
 refine Spec.body Tryz.func161 rfl Tryz.results161 Tryz.ntmps161 rfl ?_
 refine .sr ?_
 refine .bW rfl (λm=>?_)
 refine .ag rfl<|.z<|.fa rfl<|.lo rfl<|.q (.bJ f) ?_
 refine .q .gtr<|.mo rfl ?_
 refine .split (t:=7) rfl (λc=>?_) (λc=>?_)
 refine .gF c<|.gF c<|.gF c<|.gF c<|.q (.aO c) ?_
 refine .mo rfl<|.gX<|.gX<|.gX<|.gX<|.q .cO<|.az rfl ?_
 refine .ret (aM rfl ?_)
 ·refine⟨congrArg _ ?_,rfl⟩
  simp only[iZ]
  grind
 refine .gT c<|.fa rfl<|.gT c<|.lo rfl<|.gT c<|.q (.bJ e) ?_
 refine .gT c<|.q .gtr<|.q (.aN c) ?_
 refine .mo rfl ?_
 refine .split (t:=13) rfl (λa=>?_) (λa=>?_)
 refine .gF a<|.gF a<|.gF a<|.gF a<|.q (.aO a) ?_
 refine .az rfl ?_
 refine .ret (aM rfl ?_)
 ·refine⟨congrArg _ ?_,rfl⟩
  simp only[iZ]
  grind
 have n:r.nodes.length<=64:=by grind
 refine .gT a<|.fa rfl<|.gT a<|.lo rfl<|.gT a ?_
 refine .ba ((yB g r.nodes R e h.fd (by omega)).weaken λb o j=>.inl (i b o j)) (λu k=>?_)
 subst k
 refine .gT a<|.q .gtr<|.q (.aN a) ?_
 refine .az rfl ?_
 refine .ret (aM rfl ?_)
 ·refine⟨congrArg _ ?_,rfl⟩
  simp only[iZ]
  grind
theorem CJ(c:bM)(R:aD)(h:c.is R):Spec prog 100 [.agg c.enc.toArray] R [] λu H'=>u=.bool (!c.plain.jL isWord)/\H'=[]:=by
 rw[rD]
 obtain⟨H,F,e,C⟩:=c
 have g:=h.ss
 have w:=h.sc
 have S:=g.ap
 have T:=w.ap
 simp only at g w S T⊢
 have W:=g.le
 refine Spec.body Tryz.func100 rfl Tryz.results100 Tryz.ntmps100 rfl ?_
 refine .sr ?_
 refine .bW rfl (λz=>?_)
 refine .ag rfl<|.zs<|.seq ?_
 refine bx.cL [(1,_)] kE.c (X:=Unit) (λ_=>True) (λ_ E=>(14,.bool (decide (16<e.length)||decide (16<C.length)))::E) (λ_=>[bl z [H,F] 25]) ?_ ?_
 refine .region<|.fa rfl<|.lo rfl<|.q (.bJ g) ?_
 refine .q .gtr<|.mo rfl ?_
 refine .split (t:=9) rfl (λa=>?_) (λa=>?_)
 refine .gF a<|.gF a<|.gF a<|.gF a<|.q (.aO a) ?_
 refine .nil ?_
 ·exact ay () trivial (kE.c.bP rfl (by grind)) rH
 refine .gT a<|.fa rfl<|.gT a<|.lo rfl<|.gT a<|.q (.bJ w) ?_
 refine .gT a<|.q .gtr<|.q (.aN a) ?_
 refine .nil ?_
 ·exact ay () trivial (kE.c.bP rfl (by grind)) rH
 intro y Q
 refine ax ?_
 refine .cond rfl (λn=>?_) λn=>?_
 refine .sr<|.az rfl ?_
 refine .ret (aI (aM rfl ?_))
 ·exact⟨by rw[n];rfl,rfl⟩
 refine .kn<|.seq<|.sr<|.fa rfl<|.lo rfl<|.q (.bJ g) ?_
 refine .mo rfl<|.zn<|.block ?_
 refine .cx [(16,_),(17,_)] (X:=Nat) (λi=>i<=e.length/\(e.take i).any iR=false) (λi E=>(18,iN i)::E) (λ_ G=>G) (λi=>e.length-i) 0 ⟨Nat.zero_le _,rfl⟩ kE.c.c.c rH ?_
 rintro i ⟨V,B⟩
 refine .sr<|.q .lss<|.zs ?_
 refine .cond rfl (λp=>?_) λp=>?_
 have A:i<e.length:=cr p
 obtain⟨⟨D,m,k⟩,j⟩:=bR A
 have x:=h.all _ (aZ j)
 have v:RS R 3 ca.enc m k:=x.rs
 have Y:=v.ap
 have Z:bZ (cj.enc ⟨D,m,k⟩):=⟨x.cJ⟩
 refine .kn<|.seq<|.block<|.sr ?_
 refine .bC i g j (λa0=>?_)
 refine .q (.aL rfl) ?_
 refine .bN (λU=>?_)
 refine .bH rfl rfl<|.zs ?_
 refine bx.cL [(16,_),(17,_),(18,_)] kE.c.c.c (X:=Unit) (λ_=>True) (λ_ E=>(30,.bool (iR ⟨D,m,k⟩))::E) (λ_=>[bl z [H,F] 25]) ?_ ?_
 refine .region<|.fa rfl<|.lo rfl<|.q (.bJ v) ?_
 refine .q .gtr<|.mo rfl ?_
 refine .split (t:=26) rfl (λd=>?_) (λd=>?_)
 refine .gF d<|.gF d<|.gF d<|.q (.aO d) ?_
 refine .nil ?_
 ·exact ay () trivial (kE.c.c.c.bP rfl (by unfold iR;simp only;grind)) (aH [1])
 refine .gT d<|.fa rfl<|.gT d<|.lo rfl<|.gT d ?_
 refine .ba (LRE.kj 161 [] (λr=>iZ isWord r.r) m k _ v.rx (λr N I K=>OV r R (x.all r N) I λb o L=>K b o (.inl L))) (λu O=>?_)
 subst O
 refine .q (.aN d) ?_
 refine .nil ?_
 ·exact ay () trivial (kE.c.c.c.bP rfl (by unfold iR;simp only;grind)) (aH [1])
 intro y Q
 refine ax ?_
 refine .cond rfl (λs=>?_) λs=>?_
 refine .sr<|.az rfl ?_
 refine .ret (bp (aI (cF (bp (aI (aM rfl ?_))))))
 ·refine⟨?_,rfl⟩
  rw[ow j (f:=iR) s,Bool.or_true]
  rfl
 refine .skip<|bf<|ax<|.region ?_
 refine .ia (i+1) .add ?_
 refine .mo rfl<|.nil ?_
 ·exact aP (i+1) ⟨A,qT j B s⟩ (by omega) kE.c.c.c rH
 refine .exit<|bq<|bz<|bs<|ax<|.sr<|.az rfl ?_
 refine .ret (aM rfl ?_)
 ·refine⟨?_,rfl⟩
  have J:(decide (16<e.length)||decide (16<C.length))=false:=n
  have M:e.any iR=false:=by rw[<-dx (l:=e) (i:=i) (by have:=bA p;omega)];exact B
  rw[J,M]
  rfl
theorem Qk(c:bM)(R:aD)(h:c.is R):Spec prog 120 [.agg c.enc.toArray] R [] λu H'=>u=.bool (c.plain.right isWord di)/\H'=[]:=by
 have hw:=CJ c R h
 have o:c.plain.jL isWord=false->c.ig/\∀s∈c.bd,∀r∈s.bS,r.r.nodes.length<=64:=λx=>by
  rw[rD]at x
  simp only[Bool.or_eq_false_iff,decide_eq_false_iff_not,List.any_eq_false,Nat.not_lt]at x
  refine⟨⟨by omega,λs a=>?_⟩,λs a r o=>?_⟩
  ·have:=x.2 s a
   unfold iR at this
   simp only[Bool.or_eq_true,decide_eq_true_eq,not_or,Nat.not_lt]at this
   exact this.1
  ·have:=x.2 s a
   unfold iR at this
   simp only[Bool.or_eq_true,decide_eq_true_eq,not_or,Nat.not_lt,List.any_eq_true,not_exists,not_and]at this
   have p:=this.2 r o
   unfold iZ at p
   simp only[Bool.or_eq_true,decide_eq_true_eq,not_or,Nat.not_lt]at p
   exact p.1.2
 rw[Bu]
 generalize a7:c.plain.jL isWord=mu at *
 obtain⟨vs,Z,A,a3⟩:=c
 have C:=h.ss
 have N:=h.sc
 have i1:=C.ap
 have i2:=N.ap
 simp only at C N i1 i2⊢
 have a5:=C.le
 refine Spec.body Tryz.func120 rfl Tryz.results120 Tryz.ntmps120 rfl ?_
 refine .sr ?_
 refine .bW rfl (λb1=>?_)
 refine .ag rfl<|.zs<|.sr<|.q (.aL rfl) ?_
 refine .ba (hw.weaken cU) (λu g=>?_)
 subst g
 refine .q .not<|.zn ?_
 refine .cond rfl (λK=>?_) λK=>?_
 have a2:mu=true:=by simpa using K
 refine .sr<|.az rfl ?_
 refine .ret (aI (aM rfl ?_))
 ·refine⟨?_,rfl⟩
  rw[a2]
  simp
 have S:mu=false:=by simpa using K
 obtain⟨a4,T⟩:=o S
 simp only at T
 refine .kn<|.seq<|.sr<|.fa rfl<|.lo rfl<|.q (.bJ C) ?_
 refine .mo rfl<|.zn<|.block ?_
 refine .cx [(1,_),(11,_),(12,_)] (X:=Nat) (λi=>i<=A.length/\(A.take i).all iC=true) (λi E=>(13,iN i)::E) (λ_ G=>G) (λi=>A.length-i) 0 ⟨Nat.zero_le _,rfl⟩ kE.c.c.c.c rH ?_
 rintro i ⟨hi,U⟩
 refine .sr<|.q .lss<|.zs ?_
 refine .cond rfl (λp=>?_) λp=>?_
 have Q:i<A.length:=cr p
 obtain⟨⟨D,I,j⟩,a⟩:=bR Q
 have H:=h.all _ (aZ a)
 have F:RS R 3 ca.enc I j:=H.rs
 have b2:=F.ap
 have a6:=F.le
 have b5:bZ (cj.enc ⟨D,I,j⟩):=⟨H.cJ⟩
 refine .kn<|.seq<|.block<|.sr ?_
 refine .bC i C a (λb7=>?_)
 refine .q (.aL rfl) ?_
 refine .bN (λb4=>?_)
 refine .bH rfl rfl<|.zs<|.sr<|.fa rfl<|.lo rfl ?_
 refine .ba (kY D H.n _) (λu g=>?_)
 subst g
 refine .q .not<|.zn ?_
 refine .cond rfl (λL=>?_) λL=>?_
 refine .sr<|.az rfl ?_
 refine .ret (aI (bp (aI (cF (bp (aI (aM rfl ?_)))))))
 ·refine⟨?_,rfl⟩
  rw[lL a (f:=iC) (by unfold iC;simp only;rw[show isWord D=false by simpa using L];rfl)]
  rfl
 refine .kn<|.sr<|.fa rfl<|.lo rfl<|.q (.bJ F) ?_
 refine .mo rfl<|.zn<|.block ?_
 refine .cx [(1,_),(11,_),(12,_),(13,_),(22,_),(23,_)] (X:=Nat) (λk=>k<=j.length/\(j.take k).all jN=true) (λk E=>(24,iN k)::E) (λ_ G=>G) (λk=>j.length-k) 0 ⟨Nat.zero_le _,rfl⟩ kE.c.c.c.c.c.c.c rH ?_
 rintro k ⟨hk,V⟩
 refine .sr<|.q .lss<|.zs ?_
 refine .cond rfl (λM=>?_) λM=>?_
 have O:k<j.length:=cr M
 obtain⟨⟨w,v,r⟩,o⟩:=bR O
 have z:=H.all _ (aZ o)
 have Y:RS R 2 Ty.enc w r.types:=z.t
 have W:RS R 5 Nd.enc v r.nodes:=z.d
 have b3:=Y.ap
 have b0:=W.ap
 have a8:bZ (ca.enc ⟨w,v,r⟩):=⟨z.cJ⟩
 have a9:r.nodes.length<=64:=T _ (aZ a) _ (aZ o)
 refine .kn<|.seq<|.block<|.sr ?_
 refine .bC k F o (λb8=>?_)
 refine .q (.aL rfl) ?_
 refine .bN (λb6=>?_)
 refine .bH rfl rfl<|.zs ?_
 refine bx.cL [(1,_),(11,_),(12,_),(13,_),(22,_),(23,_),(24,_)] kE.c.c.c.c.c.c.c (X:=Unit) (λ_=>True) (λ_ E=>(42,.bool (!jN ⟨w,v,r⟩))::E) (λ_=>[bl b4 (cj.enc ⟨D,I,j⟩) 164,bl b1 [vs,Z] 25]) ?_ ?_
 refine .region<|.fa rfl<|.lo rfl ?_
 refine .ba (kY r.name z.n _) (λu g=>?_)
 subst g
 refine .q .not<|.mo rfl ?_
 refine .split (t:=32) rfl (λb=>?_) (λb=>?_)
 refine .gF b<|.gF b<|.gF b<|.gF b<|.q (.aO b) ?_
 refine .mo rfl<|.gX<|.gX<|.gX<|.q .cO<|.nil ?_
 ·exact ay () trivial (kE.c.c.c.c.c.c.c.bP rfl (by
   have e:(r.types.any λt=> !iQ isWord t)= !nj ⟨w,v,r⟩:=by unfold nj;simp[List.not_all_eq_any_not]
   unfold jN
   simp only[e]at *
   grind)) (aH [1,1])
 refine .gT b<|.fa rfl<|.gT b<|.lo rfl<|.gT b ?_
 refine .ba ((yB v r.nodes R W z.fd (by omega)).weaken cU) (λu g=>?_)
 subst g
 refine .gT b<|.q .bK<|.q (.aN b) ?_
 refine .mo rfl ?_
 refine .split (t:=38) rfl (λm=>?_) (λm=>?_)
 refine .gF m<|.gF m<|.gF m<|.q (.aO m) ?_
 refine .nil ?_
 ·exact ay () trivial (kE.c.c.c.c.c.c.c.bP rfl (by
   have e:(r.types.any λt=> !iQ isWord t)= !nj ⟨w,v,r⟩:=by unfold nj;simp[List.not_all_eq_any_not]
   unfold jN
   simp only[e]at *
   grind)) (aH [1,1])
 refine .gT m<|.fa rfl<|.gT m<|.lo rfl<|.gT m ?_
 refine .ba (LTY.kj 176 [] (λt=> !iQ isWord t) w r.types _ Y.rx (λt ht J a0=>Qi t (z.ft t ht) J)) (λu g=>?_)
 subst g
 refine .q (.aN m) ?_
 refine .nil ?_
 ·exact ay () trivial (kE.c.c.c.c.c.c.c.bP rfl (by
   have e:(r.types.any λt=> !iQ isWord t)= !nj ⟨w,v,r⟩:=by unfold nj;simp[List.not_all_eq_any_not]
   unfold jN
   simp only[e]at *
   grind)) (aH [1,1])
 intro y hy
 refine ax ?_
 refine .cond rfl (λB=>?_) λB=>?_
 refine .sr<|.az rfl ?_
 refine .ret (bp (aI (cF (bp (bp (aI (cF (bp (aI (aM rfl ?_))))))))))
 ·refine⟨?_,rfl⟩
  rw[lL a (f:=iC) (by unfold iC;simp only;rw[lL o (f:=jN) (by simpa using B),Bool.and_false])]
  rfl
 refine .skip<|bf<|ax<|.region ?_
 refine .ia (k+1) .add ?_
 refine .mo rfl<|.nil ?_
 ·exact aP (k+1) ⟨O,nG o V (by simpa using B)⟩ (by omega) kE.c.c.c.c.c.c.c rH
 have x:iC ⟨D,I,j⟩=true:=by
  have B:j.all jN=true:=by rw[<-dx (l:=j) (i:=k) (by have:=bA M;omega)];exact V
  unfold iC
  simp only[B,Bool.and_true]
  simpa using L
 refine .exit<|bq<|bz<|bs<|bf<|ax<|.region ?_
 refine .ia (i+1) .add ?_
 refine .mo rfl<|.nil ?_
 ·exact aP (i+1) ⟨Q,nG a U x⟩ (by omega) kE.c.c.c.c (aH [1])
 have a1:A.all iC=true:=by rw[<-dx (l:=A) (i:=i) (by have:=bA p;omega)];exact U
 refine .exit<|bq<|bz<|bs<|ax<|.sr<|.fa rfl<|.lo rfl ?_
 refine .ba (LSC.kj 179 [] (λs=> !kS isWord di s) Z a3 _ N.rx (λs a J a0=>Qj s (h.fc s a) J)) (λu g=>?_)
 subst g
 refine .q .not<|.az rfl ?_
 refine .ret (aM rfl ?_)
 ·refine⟨?_,rfl⟩
  rw[a1,S]
  simp[List.not_all_eq_any_not]
instance Ty.v8:fz prog 249 (λk:Ty=>.agg k.enc.toArray):=fz.agg zd Tryz.underlying249 rfl Ty.kinds Ty.eq
abbrev gp:=Nat×Nat
def lO(p:gp):List Value:=[iN p.1,iN p.2]
instance(p:gp):bZ (lO p):=⟨by simp[lO,ap]⟩
abbrev mx(k:Ty):Value:=.agg k.enc.toArray
abbrev lY(p:gp):Value:=.agg (lO p).toArray
theorem Cd(i:Nat)(a:ByteArray):∀{rs:List Rl} {b k:Nat} {r:Rl},rs[k]? =some r->(lT i a b rs)[k]? =some ((⟨a,r.name⟩:Ty),(i,b+k))
 |[],b,k,r,h=>by simp at h
 |x::rs,b,0,r,h=>by simp only[List.getElem?_cons_zero,Option.some.injEq]at h;subst h;rfl
 |x::rs,b,k+1,r,h=>by
  rw[lT,List.getElem?_cons_succ,Cd i a (rs:=rs) (b:=b+1) (k:=k) (r:=r) (by simpa using h)]
  rw[show b+1+k=b+(k+1) by omega]
theorem Cg:∀{l:List Sp} {b i k:Nat} {s:Sp} {r:Rl},l[i]? =some s->s.bS[k]? =some r->(hB b l)[cI l i+k]? =some ((⟨s.name,r.name⟩:Ty),(b+i,k))
 |[],b,i,k,s,r,h,_=>by simp at h
 |x::l,b,0,k,s,r,h,hr=>by
  simp only[List.getElem?_cons_zero,Option.some.injEq]at h
  subst h
  have a:=(List.getElem?_eq_some_iff.1 hr).1
  rw[hB,List.getElem?_append_left (by rw[pI];simpa[cI]using a)]
  simpa[cI]using Cd b x.name (b:=0) hr
 |x::l,b,i+1,k,s,r,h,hr=>by
  rw[hB,cI,List.getElem?_append_right (by rw[pI];omega),pI,show x.bS.length+cI l i+k-x.bS.length=cI l i+k by omega,Cg (l:=l) (b:=b+1) (by simpa using h) hr,show b+1+i=b+(i+1) by omega]
theorem xp:∀(l:List Sp) (b:Nat),(hB b l).length=total l
 |[],b=>rfl
 |s::l,b=>by
  have:=xp l (b+1)
  unfold total at this⊢
  rw[hB,List.length_append,pI,this,List.length_cons,cI]
theorem AD(t:Ty):∀M:List (Ty×gp),dl t M=look t M
 |[]=>rfl
 |(k,x)::M=>by
  have a:=AD t M
  unfold look at a⊢
  rw[dl,List.find?_cons]
  by_cases e:t=k
  ·subst e;simp
  ·rw[if_neg e,a]
   have:decide (k=t)=false:=decide_eq_false λh=>e h.symm
   simp only[this]
def mE(M:List (ByteArray×Bool))(l:List ByteArray):Prop:=∀k,dl k M=if k∈l then some true else none
theorem mE.nil:mE [] []:=λk=>by simp[dl]
theorem mE.add{M:List (ByteArray×Bool)}{l:List ByteArray}(h:mE M l)(t:ByteArray):mE (dR t true M) (l++[t]):=λk=>by
 rw[qg,h k]
 by_cases e:k=t
 ·simp[e]
 ·simp[e]
def qO(xb:Nat)(c:bM)(T:aB):Prop:=∃vm Tm,T=(xb,.cells [c.vs,c.vc,vm].toArray 318 (0,0))::Tm/\MS mx lY vm (hB 0 c.plain.bd) Tm
theorem O7(c:bM)(R:aD)(h:c.is R):Spec prog 121 [.agg c.enc.toArray] R [] λu H'=>∃T,H'=[T]/\((c.plain.dY/\∃xb,u=.tuple [pT xb,.bool true].toArray/\qO xb c T)\/(¬c.plain.dY/\u=.tuple [.pointer none,.bool false].toArray)):=by
 have c2:∀(i:Nat) s,c.bd[i]? =some s->c.plain.bd[i]? =some s.plain:=λi s o=>by unfold bM.plain;simp only;rw[List.getElem?_map,o];rfl
 have c3:c.plain.bd.length=c.bd.length:=by unfold bM.plain;simp
 have N:c.plain.dY↔(c.bd.map (·.name)).Nodup/\((hB 0 c.plain.bd).map (·.1)).Nodup/\(c.scopes.map (·.name)).Nodup:=by
  unfold Cf.dY
  rw[xo]
  simp only[bM.plain,List.map_map]
  exact Iff.rfl
 have b2:∀xb T,qO xb c T↔∃vm Tm,T=(xb,.cells [c.vs,c.vc,vm].toArray 318 (0,0))::Tm/\MS mx lY vm (hB 0 c.plain.bd) Tm:=λ_ _=>Iff.rfl
 have d6:=xp c.plain.bd 0
 generalize e5:c.plain=pl at *
 generalize hS:hB 0 pl.bd=S at *
 have d5:∀i k s (r:Rl),pl.bd[i]? =some s->s.bS[k]? =some r->S[cI pl.bd i+k]? =some ((⟨s.name,r.name⟩:Ty),(i,k)):=λi k s r C D=>by
  have:=Cg (b:=0) C D
  rw[hS,Nat.zero_add]at this
  exact this
 obtain⟨vs,Z,g,v⟩:=c
 have L:=h.ss
 have K:=h.sc
 have i1:=L.ap
 have i2:=K.ap
 simp only at L K i1 i2 c2 c3 N b2⊢
 have e2:=L.le
 have e1:=K.le
 refine Spec.body Tryz.func121 rfl Tryz.results121 Tryz.ntmps121 rfl ?_
 refine .sr ?_
 refine .bW rfl (λb1=>?_)
 refine .ag rfl<|.ag rfl<|.z<|.q (.aL rfl) ?_
 refine .makeMap (λB=>?_)
 refine .q .cN ?_
 refine .bW rfl (λa0=>?_)
 refine .ag rfl<|.z ?_
 refine .makeMap (λa9=>?_)
 refine .ag rfl<|.zs<|.sr<|.fa rfl<|.lo rfl<|.q (.bJ L) ?_
 refine .mo rfl<|.zn<|.block ?_
 refine .cx [(1,_),(4,_),(5,_),(22,_),(23,_)] (G:=[bl a0 [vs,Z,.map (some B)] 318,bl b1 [vs,Z] 25]) (X:=Nat×List (ByteArray×Bool)×aB×aB) (λy=>y.1<=g.length/\((g.map (·.name)).take y.1).Nodup/\mE y.2.1 ((g.map (·.name)).take y.1)/\MS mx lY (.map (some B)) (S.take (cI pl.bd y.1)) y.2.2.1/\MS (λs:ByteArray=>.string s) (λb:Bool=>.bool b) (.map (some a9)) y.2.1 y.2.2.2) (λy E=>(24,iN y.1)::E) (λy G=>y.2.2.1::y.2.2.2::G) (λy=>g.length-y.1) (0,[],[(B,.map #[] 0)],[(a9,.map #[] 0)]) ⟨Nat.zero_le _,by simp,by simpa using mE.nil,by rw[show cI pl.bd 0=0 by cases pl.bd<;>rfl];exact MS.nil,MS.nil⟩ kE.c.c.c.c.c.c (aH [2,0,0,0]) ?_
 rintro⟨i,M,U,Tb⟩ ⟨hi,V,a6,m,a1⟩
 simp only at hi V a6 m a1⊢
 refine .sr<|.q .lss<|.zs ?_
 refine .cond rfl (λC=>?_) λC=>?_
 have b8:i<g.length:=cr C
 obtain⟨⟨f,Q,n⟩,o⟩:=bR b8
 have a5:=h.all _ (aZ o)
 have Y:RS R 3 ca.enc Q n:=a5.rs
 have e7:=Y.ap
 have e3:=Y.le
 have e9:bZ (cj.enc ⟨f,Q,n⟩):=⟨a5.cJ⟩
 have A:(g.map (·.name))[i]? =some f:=by rw[List.getElem?_map,o];rfl
 have c1:=c2 i _ o
 have c0:=pi c1
 rw[show(cj.plain ⟨f,Q,n⟩).bS.length=n.length by simp[cj.plain]]at c0
 refine .kn<|.seq<|.block<|.sr<|.mo rfl ?_
 refine .bC i L o (λf0=>?_)
 refine .q (.aL rfl) ?_
 refine .bN (λb7=>?_)
 refine .ag rfl<|.bH rfl rfl<|.zs<|.sr<|.mo rfl<|.fa rfl<|.lo rfl ?_
 refine .q (.oU a1.rx rfl (key:=f) rfl (show _=Value.bool (decide (f∈(g.map (·.name)).take i))from by rw[a6 f];split<;>simp_all)) ?_
 refine .zn ?_
 refine .cond rfl (λD=>?_) λD=>?_
 refine .sr<|.ag rfl<|.az rfl ?_
 refine .ret (aI (bp (aI (cF (bp (aI (bk _ (.two (.tmp rfl) (.tmp rfl)) (.one [0] _) ?_)))))))
 ·refine⟨_,rfl,.inr ⟨λH=>?_,rfl⟩⟩
  have x:f∈(g.map (·.name)).take i:=by simpa using D
  obtain⟨q,J,e⟩:=List.mem_iff_getElem.1 x
  rw[List.length_take]at J
  rw[List.getElem_take]at e
  exact mZ (show q<i by omega) A (bu (by omega)) e.symm (N.1 H).1
 have a3:f∉(g.map (·.name)).take i:=by simpa using D
 have d1:((g.map (·.name)).take (i+1)).Nodup:=by rw[dT A,List.nodup_append];exact⟨V,by simp,λa ha b F=>by rw[List.mem_singleton]at F;subst F;intro e;subst e;exact a3 ha⟩
 have d7:mE (dR f true M) ((g.map (·.name)).take (i+1)):=by rw[dT A];exact a6.add f
 refine .kn<|.sr<|.mo rfl<|.fa rfl<|.lo rfl ?_
 refine .update (key:=f) (u:=true) a1 rfl rfl rfl (λa8 c6 _=>?_)
 refine .z<|.fa rfl<|.lo rfl<|.q (.bJ Y) ?_
 refine .mo rfl<|.zn<|.block ?_
 refine .cx [(1,_),(4,_),(5,_),(6,_),(7,_),(22,_),(23,_),(24,_),(37,_),(38,_)] (G:=[a8,bl b7 (cj.enc ⟨f,Q,n⟩) 164,bl a0 [vs,Z,.map (some B)] 318,bl b1 [vs,Z] 25]) (X:=Nat×aB) (λy=>y.1<=n.length/\MS mx lY (.map (some B)) (S.take (cI pl.bd i+y.1)) y.2) (λy E=>(39,iN y.1)::E) (λy G=>y.2::G) (λy=>n.length-y.1) (0,U) ⟨Nat.zero_le _,m⟩ kE.c.c.c.c.c.c.c.c.c.c.c (aH [1,1,0,0,0]) ?_
 rintro⟨k,U⟩ ⟨hk,m⟩
 simp only at hk m⊢
 refine .sr<|.q .lss<|.zs ?_
 refine .cond rfl (λh3=>?_) λh3=>?_
 have b6:k<n.length:=cr h3
 obtain⟨⟨vt,vn,r⟩,hr⟩:=bR b6
 have a4:=a5.all _ (aZ hr)
 have e8:One vt:=RS.ap a4.t
 have e6:One vn:=RS.ap a4.d
 have e4:bZ (ca.enc ⟨vt,vn,r⟩):=⟨a4.cJ⟩
 have d4:(cj.plain ⟨f,Q,n⟩).bS[k]? =some r:=by unfold cj.plain;simp only;rw[List.getElem?_map,hr];rfl
 have b4:S[cI pl.bd i+k]? =some ((⟨f,r.name⟩:Ty),(i,k)):=d5 i k _ r c1 d4
 obtain⟨ps,O,d2,I⟩:∃(ps:gp) (O:Bool),[((dl (⟨f,r.name⟩:Ty) (S.take (cI pl.bd i+k))).map lY).getD (lY (0,0)),Value.bool (dl (⟨f,r.name⟩:Ty) (S.take (cI pl.bd i+k))).isSome]=[lY ps,.bool O]/\(dl (⟨f,r.name⟩:Ty) (S.take (cI pl.bd i+k))).isSome=O:=by
  cases dl (⟨f,r.name⟩:Ty) (S.take (cI pl.bd i+k))with
  |none=>exact⟨(0,0),false,rfl,rfl⟩
  |some p=>exact⟨p,true,rfl,rfl⟩
 refine .kn<|.seq<|.block<|.sr<|.mo rfl ?_
 refine .bC k Y hr (λf1=>?_)
 refine .q (.aL rfl) ?_
 refine .bN (λb9=>?_)
 refine .ag rfl<|.bH rfl rfl<|.z<|.fa rfl<|.lo rfl<|.fa rfl<|.lo rfl ?_
 refine .q .cN ?_
 refine .bN (λd8=>?_)
 refine .bH rfl rfl<|.zs<|.seq<|.dp [10] mixed ?_
 refine .tO 0 rfl .move<|.tO 1 rfl (.nilCheck rfl)<|.tO 2 rfl (.fieldAddr rfl)<|.tO 3 rfl (.cE rfl)<|.tO 4 rfl (.aL rfl) ?_
 refine .hJ 5 rfl (.cast (.qf m.rx rfl rfl) (congrArg (λl:List Value=>Value.tuple l.toArray) d2)) (by kernel_rfl) ?_
 refine .tO 6 rfl .move<|.tO 7 rfl .extract<|.tK 8 rfl .extract ?_
 refine .sT 9 rfl ?_
 refine .bN (λd9=>?_)
 refine .nil (Next.sub ?_)
 refine .sT 10 rfl ?_
 refine .bH rfl rfl ?_
 refine .nil (Next.mod rfl ?_)
 refine .tK 11 rfl .assign ?_
 refine RA.nil (by kernel_rfl) ?_
 refine ax<|.sr<|.mo rfl<|.zn ?_
 refine .cond rfl (λh4=>?_) λh4=>?_
 refine .sr<|.ag rfl<|.az rfl ?_
 refine .ret (aI (bp (aI (cF (bp (bp (aI (cF (bp (aI (bk _ (.two (.tmp rfl) (.tmp rfl)) (.one [0] _) ?_)))))))))))
 ·refine⟨_,rfl,.inr ⟨λH=>?_,rfl⟩⟩
  have w:O=true:=h4
  rw[w]at I
  obtain⟨p,hp⟩:=Option.isSome_iff_exists.1 I
  have x:=wy hp
  obtain⟨q,J,e⟩:=List.mem_iff_getElem.1 x
  rw[List.length_take]at J
  rw[List.getElem_take]at e
  have c8:(S.map (·.1))[cI pl.bd i+k]? =some ⟨f,r.name⟩:=by rw[List.getElem?_map,b4];rfl
  have d3:(S.map (·.1))[q]? =some ⟨f,r.name⟩:=by rw[List.getElem?_map,bu (by omega),e];rfl
  exact mZ (show q<cI pl.bd i+k by omega) c8 d3 rfl (N.1 H).2.1
 refine .kn ?_
 refine .dU 8 mixed (by kernel_rfl) ?_
 conv=>arg 6;dsimp only[List.take]
 refine .mo rfl<|.nc rfl<|.fa rfl<|.lo rfl<|.q (.aL rfl)<|.mo rfl<|.mo rfl ?_
 refine .q .cN ?_
 refine .nil ?_
 refine .update (key:=(⟨f,r.name⟩:Ty)) (u:=((i,k):gp)) m rfl rfl rfl (λc4 b3 _=>?_)
 rw[mW (by
  have w:O=false:=h4
  rw[w]at I
  intro x
  rw[Option.isSome_eq_false_iff,Option.isNone_iff_eq_none]at I
  exact wv.1 I x), <-dT b4]at b3
 refine .nil<|bf<|ax<|.region ?_
 refine .ia (k+1) .add ?_
 refine .mo rfl<|.nil ?_
 ·exact aP (k+1,c4) ⟨b6,b3⟩ (by simp only;omega) kE.c.c.c.c.c.c.c.c.c.c.c (aH [3,3,3,3,3])
 have d0:k=n.length:=by have:=bA h3;omega
 rw[d0, <-c0]at m
 refine .exit<|bq<|bz<|bs<|bf<|ax<|.region ?_
 refine .ia (i+1) .add ?_
 refine .mo rfl<|.nil ?_
 ·exact aP (i+1,dR f true M,U,a8) ⟨b8,d1,d7,m,c6⟩ (by simp only;omega) kE.c.c.c.c.c.c (aH [0,0,1,1])
 have c9:i=g.length:=by have:=bA C;omega
 subst c9
 rw[show cI pl.bd g.length=S.length by rw[<-c3,d6];rfl,List.take_length]at m
 rw[show g.length=(g.map (·.name)).length by rw[List.length_map],List.take_length]at V
 refine .exit<|bq<|bz<|bs<|ax<|.sr ?_
 refine .makeMap (λb0=>?_)
 refine .ag rfl<|.zs<|.sr<|.fa rfl<|.lo rfl<|.q (.bJ K) ?_
 refine .mo rfl<|.zn<|.block ?_
 refine .cx [(4,_),(13,_),(71,_),(72,_)] (X:=Nat×List (ByteArray×Bool)×aB) (λy=>y.1<=v.length/\((v.map (·.name)).take y.1).Nodup/\mE y.2.1 ((v.map (·.name)).take y.1)/\MS (λs:ByteArray=>.string s) (λb:Bool=>.bool b) (.map (some b0)) y.2.1 y.2.2) (λy E=>(73,iN y.1)::E) (λy G=>y.2.2::G) (λy=>v.length-y.1) (0,[],[(b0,.map #[] 0)]) ⟨Nat.zero_le _,by simp,by simpa using mE.nil,MS.nil⟩ kE.c.c.c.c.c rH ?_
 rintro⟨j,M3,Tc⟩ ⟨hj,W,a7,a2⟩
 simp only at hj W a7 a2⊢
 refine .sr<|.q .lss<|.zs ?_
 refine .cond rfl (λw=>?_) λw=>?_
 have b5:j<v.length:=cr w
 obtain⟨s,o⟩:=bR b5
 have A:(v.map (·.name))[j]? =some s.name:=by rw[List.getElem?_map,o];rfl
 refine .kn<|.seq<|.block<|.sr ?_
 refine .bC j K o (λf2=>?_)
 refine .q (.aL rfl) ?_
 refine .bN (λe0=>?_)
 refine .bH rfl rfl<|.zs<|.sr<|.mo rfl<|.fa rfl<|.lo rfl ?_
 refine .q (.oU a2.rx rfl (key:=s.name) rfl (show _=Value.bool (decide (s.name∈(v.map (·.name)).take j))from by rw[a7 s.name];split<;>simp_all)) ?_
 refine .zn ?_
 refine .cond rfl (λh6=>?_) λh6=>?_
 refine .sr<|.ag rfl<|.az rfl ?_
 refine .ret (aI (bp (aI (cF (bp (aI (bk _ (.two (.tmp rfl) (.tmp rfl)) (.one [0] _) ?_)))))))
 ·refine⟨_,rfl,.inr ⟨λH=>?_,rfl⟩⟩
  have x:s.name∈(v.map (·.name)).take j:=by simpa using h6
  obtain⟨q,J,e⟩:=List.mem_iff_getElem.1 x
  rw[List.length_take]at J
  rw[List.getElem_take]at e
  exact mZ (show q<j by omega) A (bu (by omega)) e.symm (N.1 H).2.2
 have a3:s.name∉(v.map (·.name)).take j:=by simpa using h6
 refine .kn<|.region<|.mo rfl<|.fa rfl<|.lo rfl ?_
 refine .update (key:=s.name) (u:=true) a2 rfl rfl rfl (λc5 c7 _=>?_)
 refine .nil<|bf<|ax<|.region ?_
 refine .ia (j+1) .add ?_
 refine .mo rfl<|.nil ?_
 ·exact aP (j+1,dR s.name true M3,c5) ⟨b5,by rw[dT A,List.nodup_append];exact⟨W,by simp,λa ha b F=>by rw[List.mem_singleton]at F;subst F;intro e;subst e;exact a3 ha⟩,by simp only;rw[dT A];exact a7.add s.name,c7⟩ (by simp only;omega) kE.c.c.c.c.c (aH [1,1,1,1,1])
 refine .exit<|bq<|bz<|bs<|ax<|.sr<|.mo rfl<|.ag rfl<|.az rfl ?_
 refine .ret (bk _ (.two (.tmp rfl) (.tmp rfl)) (.one [3,1] _) ?_)
 ·refine⟨_,rfl,.inl ⟨N.2 ⟨V,m.nd,?_⟩,a0,rfl,(b2 _ _).2 ⟨_,U,by simp[take,bL],m⟩⟩⟩
  rw[dx (by rw[List.length_map];have:=bA w;omega)]at W
  exact W
theorem aW.jo{H:aV}:aW H [[]]:=⟨H.flatten,by simp⟩
structure IX(R:aD)(xb:Nat)(vm:Value)(c:bM):Prop where
 pc:PC R (pT xb) [c.vs,c.vc,vm]
 om:One vm
 ci:c.is R
 rm:RM R mx lY vm (hB 0 c.plain.bd)
theorem RM.qh{κ β:Type} [DecidableEq κ]{R R':aD}{encK:κ->Value}{a:β->Value}{m:Value}{M:List (κ×β)}(h:RM R encK a m M)(i:∀b o,R b o->R' b o):RM R' encK a m M:=by
 obtain⟨b,d,c,e,f,g⟩:=h
 exact⟨b,d,c,e,i _ _ f,g⟩
theorem IX.mono{R R':aD}{xb:Nat}{vm:Value}{c:bM}(h:IX R xb vm c)(a:∀b o,R b o->R' b o):IX R' xb vm c:=⟨h.pc.mono a,h.om,h.ci.mono a,h.rm.qh a⟩
theorem qO.view{R:aD}{xb:Nat}{c:bM}{T:aB}(h:qO xb c T)(e:c.is R):∃vm,IX (λb o=>R b o\/(b,o)∈T) xb vm c:=by
 obtain⟨vm,g,rfl,a⟩:=h
 refine⟨vm,⟨PC.of (E:=318) (fr:=(0,0)) ?_,a.one,e.mono λb o d=>.inl d,a.rm λp f=>.inr (by simp[f])⟩⟩
 exact .inr (by simp)
def bM.valid(c:bM)(p:gp):Prop:=∃s r,c.bd[p.1]? =some s/\s.bS[p.2]? =some r
def bM.ix(c:bM)(p:gp):Nat:=cI c.plain.bd p.1+p.2
theorem PP{c:bM}{i:Nat}{a:Sp}(h:c.plain.bd[i]? =some a):∃s,c.bd[i]? =some s/\a=s.plain:=by
 unfold bM.plain at h
 simp only at h
 rw[List.getElem?_map]at h
 cases hs:c.bd[i]? with
 |none=>rw[hs]at h;cases h
 |some s=>rw[hs]at h;exact⟨s,rfl,by simpa using h.symm⟩
theorem pj{c:bM}{i:Nat}{s:cj}(h:c.bd[i]? =some s):c.plain.bd[i]? =some s.plain:=by unfold bM.plain;simp only;rw[List.getElem?_map,h];rfl
theorem Bg{s:cj}{k:Nat}{r:ca}(h:s.bS[k]? =some r):s.plain.bS[k]? =some r.r:=by unfold cj.plain;simp only;rw[List.getElem?_map,h];rfl
theorem Qd{s:cj}{k:Nat}{a:Rl}(h:s.plain.bS[k]? =some a):∃r,s.bS[k]? =some r/\a=r.r:=by
 unfold cj.plain at h
 simp only at h
 rw[List.getElem?_map]at h
 cases hs:s.bS[k]? with
 |none=>rw[hs]at h;cases h
 |some s=>rw[hs]at h;exact⟨s,rfl,by simpa using h.symm⟩
def ot(c:bM)(t:Ty)(ps:gp)(ok:Bool):Prop:=match bX c.plain.all t with
 |none=>ok=false
 |some j=>ok=true/\c.ix ps=j/\c.valid ps
theorem looked(c:bM)(t:Ty):∃(ps:gp) (ok:Bool),[((dl t (hB 0 c.plain.bd)).map lY).getD (lY (0,0)),Value.bool (dl t (hB 0 c.plain.bd)).isSome]=[lY ps,.bool ok]/\ot c t ps ok:=by
 have h:=OD c.plain t
 rw[AD]
 unfold ot
 cases hl:look t (hB 0 c.plain.bd)with
 |none=>rw[hl]at h;exact⟨(0,0),false,rfl,by rw[h]⟩
 |some p=>
  obtain⟨i,k⟩:=p
  rw[hl]at h
  obtain⟨a,s,r,b,d,_⟩:=h
  obtain⟨j,e,rfl⟩:=PP b
  obtain⟨g,f,rfl⟩:=Qd d
  exact⟨(i,k),true,rfl,by rw[a];exact⟨rfl,rfl,j,g,e,f⟩⟩
theorem wU{R:aD}{xb:Nat}{vm:Value}{c:bM}(h:IX R xb vm c)(p:gp)(s:cj)(r:ca)(e:c.bd[p.1]? =some s)(a:s.bS[p.2]? =some r):
  Spec prog 229 [pT xb,.agg (lO p).toArray] R [] λu H'=>u=.agg r.enc.toArray/\H'=[]:=by
 obtain⟨i,k⟩:=p
 obtain⟨I,w,H,G⟩:=c
 obtain⟨l,j,r⟩:=r
 have o:=h.pc
 have D:=h.om
 have g:=h.ci.ss
 have m:=g.ap
 have n:One w:=RS.ap h.ci.sc
 simp only at g m n e a o⊢
 have f:=h.ci.all _ (aZ e)
 have b:=f.all _ (aZ a)
 have B:One s.v:=RS.ap f.rs
 have z:bZ (ca.enc ⟨l,j,r⟩):=⟨b.cJ⟩
 have C:One l:=RS.ap b.t
 have A:One j:=RS.ap b.d
 refine Spec.body Tryz.func229 rfl Tryz.results229 Tryz.ntmps229 rfl ?_
 refine .sr ?_
 refine .bW rfl (λx=>?_)
 refine .bN (λy=>?_)
 refine .zs ?_
 refine .dU 14 mixed (by kernel_rfl) ?_
 conv=>arg 6;dsimp only[List.take]
 refine .mo rfl<|.nc rfl<|.fa rfl<|.fa rfl<|.lo rfl<|.fa rfl<|.lo rfl ?_
 refine .bC i g e (λE=>?_)
 refine .fa rfl<|.lo rfl<|.fa rfl<|.lo rfl ?_
 refine .bC k f.rs a (λF=>?_)
 refine .q (.aL rfl)<|.nil<|.bH rfl rfl<|.zn ?_
 refine .ret (bk _ (.one (.eI rfl rfl)) (.none _) ?_)
 ·exact⟨rfl,rfl⟩
theorem xk(v:Value)(l:List Ty)(R:aD)(h:RS R 2 Ty.enc v l)(w:l.length<=100000):Spec prog 230 [v] R [] λu H'=>∃T,H'=[T]/\OS 249 2 Ty.enc u (dI l) T:=by
 have C:=h.ap
 have x:=h.le
 refine Spec.body Tryz.func230 rfl Tryz.results230 Tryz.ntmps230 rfl ?_
 refine .sr<|.ag rfl<|.z<|.ag rfl<|.zs<|.sr<|.mo rfl<|.q (.bJ h) ?_
 refine .mo rfl<|.zn<|.block ?_
 refine .cx [(6,_),(7,_)] (X:=Nat×Value×aB) (λy=>y.1<=l.length/\OS 249 2 Ty.enc y.2.1 (dI (l.take y.1)) y.2.2) (λy E=>(8,iN y.1)::(3,y.2.1)::E) (λy G=>y.2.2::G) (λy=>l.length-y.1) (0,sZ,[]) ⟨Nat.zero_le _,OS.nil⟩ kE.c.c.c.c aW.ff ?_
 rintro⟨i,o,f⟩ ⟨p,a⟩
 simp only at p a⊢
 have B:=a.ap
 have A:(dI (l.take i)).length<=100000:=Nat.le_trans (List.length_filter_le _ _) (by rw[List.length_take];omega)
 refine .sr<|.q .lss<|.zs ?_
 refine .cond rfl (λg=>?_) λg=>?_
 have d:i<l.length:=cr g
 obtain⟨t,m⟩:=bR d
 have e:=BV m
 refine .kn<|.seq<|.block<|.sr ?_
 refine .bC i h m (λF=>?_)
 refine .q (.aL rfl) ?_
 refine .bN (λs=>?_)
 refine .bH rfl rfl<|.z<|.fa rfl<|.lo rfl<|.q .gv<|.zn ?_
 refine .cond rfl (λb=>?_) λb=>?_
 refine .region<|.mo rfl<|.q (.aL rfl) ?_
 refine .dM (λr=>?_)
 refine .append a (RS.lits (xs:=[t]) rfl (by simp[Ty.enc]) (by simp[Ty.enc,ap])) (by simp only[List.length_singleton];omega) (λn k j=>?_)
 have D:=j.ap
 refine .ag rfl<|.nil<|bf<|ax<|.region ?_
 refine .ia (i+1) .add ?_
 refine .mo rfl<|.nil ?_
 ·first
   |exact aP (i+1,n,k) ⟨d,by simp only;rw[e,if_neg (by simpa using b)];exact j⟩ (by simp only;omega) kE.c.c.c.c (aH [2])
   |exact aP (i+1,o,f) ⟨d,by simp only;rw[e,if_pos (by simpa using b),List.append_nil];exact a⟩ (by simp only;omega) kE.c.c.c.c (aH [1])
 refine .skip<|bf<|ax<|.region ?_
 refine .ia (i+1) .add ?_
 refine .mo rfl<|.nil ?_
 ·first
   |exact aP (i+1,n,k) ⟨d,by simp only;rw[e,if_neg (by simpa using b)];exact j⟩ (by simp only;omega) kE.c.c.c.c (aH [2])
   |exact aP (i+1,o,f) ⟨d,by simp only;rw[e,if_pos (by simpa using b),List.append_nil];exact a⟩ (by simp only;omega) kE.c.c.c.c (aH [1])
 refine .exit<|bq<|bz<|bs<|ax<|.sr<|.mo rfl<|.az rfl ?_
 refine .ret (bk _ (.one (.tmp rfl)) (.one [0] _) ?_)
 ·refine⟨f,by simp[take],?_⟩
  rw[dx (gj g)]at a
  exact a
def qc(b:Bool):List Value:=[.bool b]
theorem CY(v:Value)(l:List Nd)(R:aD)(h:RS R 5 Nd.enc v l)(U:fS isWord l≠0)(hl:l.length<=100000):Spec prog 231 [v] R [] λu H'=>∃T,H'=[T]/\OS 4 1 qc u (nF l) T:=by
 have iv:=h.ap
 have a9:=h.le
 obtain⟨d,a2⟩:=yC U
 obtain⟨_,_,_,S⟩:=jf _ _ a2
 have a0:(List.replicate l.length false).length=l.length:=List.length_replicate
 generalize L:List.replicate l.length false=out0 at *
 refine Spec.body Tryz.func231 rfl Tryz.results231 Tryz.ntmps231 rfl ?_
 refine .sr<|.ag rfl<|.z<|.mo rfl<|.q (.bJ h) ?_
 refine .makeSlice (enc:=qc) l.length false rfl rfl (by decide) (by simp[qc,ap]) rfl rfl (by omega) (by omega) (λC Q H=>?_)
 rw[L]at H
 refine .ag rfl<|.zs<|.sr<|.mo rfl<|.q (.bJ h) ?_
 refine .q (.i64 ((l.length:Int)-1) .sub ⟨rfl,by omega,by omega⟩) ?_
 refine .az rfl<|.block ?_
 refine .cx [(0,_),(3,_)] (X:=Nat×aB) (λy=>y.1<=l.length/\OS 4 1 qc (.slice (some ⟨C,0,none⟩) l.length l.length) (down l y.1 (l.length-y.1) out0) y.2) (λy E=>(4,.int .i64 ((y.1:Int)-1))::E) (λy G=>y.2::G) (λy=>y.1) (l.length,Q) ⟨Nat.le_refl _,by simp only;rw[Nat.sub_self];exact H⟩ kE.c.c.c rH ?_
 rintro⟨m,B⟩ ⟨W,g⟩
 simp only at W g⊢
 refine .seq<|.sr<|.mo rfl<|.q .geq<|.zn ?_
 refine .cond rfl (λj=>?_) λj=>?_
 obtain⟨e,rfl⟩:∃e,m=e+1:=⟨m-1,by have:=cm j;omega⟩
 obtain⟨n,s⟩:∃n,l[e]? =some n:=⟨_,bu (by omega)⟩
 have V:((e+1:Nat):Int)-1=(e:Int):=by omega
 have w:=S e (Nat.zero_le _) (by omega)
 have r:down l e (l.length-e) out0=hU l (down l (e+1) (l.length-(e+1)) out0) e:=by
  rw[show l.length-e=1+(l.length-(e+1)) by omega,vi]
  rfl
 have a8:(down l (e+1) (l.length-(e+1)) out0).length=l.length:=by rw[sR,a0]
 generalize hX:down l (e+1) (l.length-(e+1)) out0=X at *
 have i:hU l X e=if n.op then(X.set n.a.toNat (X.getD e false)).set n.b.toNat ((X.set n.a.toNat (X.getD e false)).getD e false||n.kind==6)else X:=by unfold hU;rw[s]
 have J:decide (4<=n.kind)=n.op:=by
  cases ho:n.op with
  |true=>unfold Nd.op at ho;simp only[Bool.or_eq_true,beq_iff_eq]at ho;exact decide_eq_true (by omega)
  |false=>
   rw[lD s ho]at w
   split at w
   ·rename_i F
    unfold Nd.leaf at F
    refine decide_eq_false λh4=>?_
    rw[if_neg (by omega),if_neg (by omega),if_neg (by omega),Bool.and_false]at F
    cases F
   ·cases w
 rw[V]
 refine .kn<|.seq<|.block<|.sr<|.mo rfl<|.mo rfl ?_
 refine .bC e h s (λb0=>?_)
 refine .q (.aL rfl) ?_
 refine .bN (λb5=>?_)
 refine .bH rfl rfl<|.z<|.fa rfl<|.lo rfl<|.q .geq<|.zn ?_
 refine .cond rfl (λk=>?_) λk=>?_
 have K:n.op=true:=by rw[<-J];exact k
 obtain⟨rr,a1⟩:=Option.isSome_iff_exists.1 w
 obtain⟨b',x',y',t1,t2,t3,t4,t5,_,_,_⟩:=od s K a1
 have a6:=og t1
 have a7:=(jf _ _ t3).1
 obtain⟨za,N⟩:∃z,X[n.a.toNat]? =some z:=⟨_,bu (by omega)⟩
 obtain⟨p,O⟩:∃z,X[e]? =some z:=⟨_,bu (by omega)⟩
 have a3:X.getD e false=p:=by rw[List.getD_eq_getElem?_getD,O];rfl
 rw[if_pos K,a3]at i
 obtain⟨z2,M⟩:∃z,(X.set n.a.toNat p)[e]? =some z:=⟨_,bu (by rw[List.length_set];omega)⟩
 obtain⟨z3,x⟩:∃z,(X.set n.a.toNat p)[n.b.toNat]? =some z:=⟨_,bu (by rw[List.length_set];omega)⟩
 have a4:(X.set n.a.toNat p).getD e false=z2:=by rw[List.getD_eq_getElem?_getD,M];rfl
 rw[a4]at i
 refine .seq ?_
 refine .dU 8 mixed (by kernel_rfl) ?_
 conv=>arg 6;dsimp only[List.take]
 refine .mo rfl<|.fa rfl<|.lo rfl<|.mo rfl<|.mo rfl ?_
 refine .bo e g O (λb1=>?_)
 refine .lo rfl ?_
 refine .bo n.a.toNat g N (λb2=>?_) rfl rfl (by omega)
 refine .nil ?_
 refine .gz n.a.toNat g N p (λT1 o=>?_)
 refine .zn ?_
 refine bx.cL [(0,_),(3,_),(4,_)] kE.c.c.c (X:=aB) (λT=>OS 4 1 qc (.slice (some ⟨C,0,none⟩) l.length l.length) (hU l X e) T) (λ_ E=>E) (λT=>[T]) ?_ ?_
 refine .dU 13 mixed (by kernel_rfl) ?_
 conv=>arg 6;dsimp only[List.take]
 refine .mo rfl<|.fa rfl<|.lo rfl<|.mo rfl<|.mo rfl ?_
 refine .bo e o M (λb3=>?_)
 refine .lo rfl<|.mo rfl ?_
 refine .split (t:=38) rfl (λf=>?_) (λf=>?_)
 refine .gF f<|.gF f<|.gF f<|.q (.aO f) ?_
 refine .bo n.b.toNat o x (λa5=>?_) rfl rfl (by omega)
 refine .nil ?_
 refine .gz n.b.toNat o x _ (λA D=>?_)
 refine .nil ?_
 ·exact ay A (by rw[i];simpa only[j,k,f,Bool.true_or,Bool.false_or]using D) kE.c.c.c (aH [1])
 refine .gT f<|.fa rfl<|.gT f<|.lo rfl<|.gT f<|.q .bK<|.q (.aN f) ?_
 refine .bo n.b.toNat o x (λa5=>?_) rfl rfl (by omega)
 refine .nil ?_
 refine .gz n.b.toNat o x _ (λA D=>?_)
 refine .nil ?_
 ·exact ay A (by rw[i];simpa only[j,k,f,Bool.true_or,Bool.false_or]using D) kE.c.c.c (aH [1])
 intro y hy
 have I:OS 4 1 qc (.slice (some ⟨C,0,none⟩) l.length l.length) (hU l X e) y:=hy
 refine bf<|ax<|.region<|.mo rfl ?_
 refine .q (.i64 ((e:Int)-1) .sub ⟨rfl,by omega,by omega⟩) ?_
 refine .ag rfl<|.nil ?_
 ·first
   |exact aP (e,y) ⟨by simp only;omega,by simp only;rw[r];exact I⟩ (by simp only;omega) kE.c.c.c rH
   |exact aP (e,B) ⟨by simp only;omega,by simp only;rw[r,i];exact g⟩ (by simp only;omega) kE.c.c.c (aH [1])
 have Z:¬n.op=true:=by rw[<-J,k];simp
 rw[if_neg Z]at i
 refine .skip<|bf<|ax<|.region<|.mo rfl ?_
 refine .q (.i64 ((e:Int)-1) .sub ⟨rfl,by omega,by omega⟩) ?_
 refine .ag rfl<|.nil ?_
 ·first
   |exact aP (e,y) ⟨by simp only;omega,by simp only;rw[r];exact I⟩ (by simp only;omega) kE.c.c.c rH
   |exact aP (e,B) ⟨by simp only;omega,by simp only;rw[r,i];exact g⟩ (by simp only;omega) kE.c.c.c (aH [1])
 refine .exit<|bq<|bz<|bs<|ax<|.sr<|.mo rfl<|.az rfl ?_
 refine .ret (bk _ (.one (.tmp rfl)) (.one [0] _) ?_)
 ·refine⟨B,by simp[take],?_⟩
  have Y:m=0:=by have:=bA j;omega
  subst Y
  unfold nF
  rw[L]
  exact g
def NA(c:bM)(ok:Bool)(S:List gp)(o:Option (List Nat)):Prop:=match o with
 |none=>ok=false
 |some ts=>ok=true/\S.map c.ix=ts/\∀p∈S,c.valid p
def TN(l:List (ByteArray×Rl))(sp:ByteArray)(r:Rl)(n:Nd)(tys:List Ty):Prop:=targets l sp r.types n=findAll l tys/\tys.length<=8
theorem qy{a:List Ty}{n:Nat}(h:a.length<=n):(dI a).length<=n:=Nat.le_trans (List.length_filter_le _ _) h
theorem zB(l:List (ByteArray×Rl)):∀(a:List Ty) (t:Ty),findAll l (a++[t])=(findAll l a).bind λx=>(bX l t).map λi=>x++[i]
 |[],t=>by
  rw[List.nil_append,findAll,findAll]
  cases bX l t<;>rfl
 |x::a,t=>by
  rw[List.cons_append,findAll,findAll,zB l a t]
  cases bX l x with
  |none=>rfl
  |some i=>
   cases findAll l a with
   |none=>rfl
   |some u=>cases bX l t<;>rfl
theorem zC{l:List (ByteArray×Rl)}{t:Ty}{a:List Ty}(h:t∈a)(c:bX l t=none):findAll l a=none:=by
 cases hf:findAll l a with
 |none=>rfl
 |some o=>obtain⟨i,b,_⟩:=ri hf h;rw[c]at b;cases b
theorem pe{c:bM}{p:gp}{s:cj}{r:ca}(b:c.bd[p.1]? =some s)(a:s.bS[p.2]? =some r):c.plain.all[c.ix p]? =some (s.name,r.r):=by
 have:=x1 (pj b) (Bg a)
 unfold bM.ix Cf.all
 exact this
def bM.rf(c:bM):Prop:=∀s∈c.bd,∀r∈s.bS,r.r.types.length<=8/\r.r.nodes.length<=64/\fS isWord r.r.nodes≠0
theorem OY{R:aD}{xb:Nat}{vm:Value}{c:bM}(h:IX R xb vm c)(L:c.rf)(p:gp)(s:cj)(r:ca)(M:c.bd[p.1]? =some s)(hr:s.bS[p.2]? =some r)(n:Nd):
  Spec prog 232 [pT xb,.agg (lO p).toArray,.agg n.enc.toArray] R [] λu H'=>∃T,H'=[T]/\∃w S ok,u=.tuple [w,.bool ok].toArray/\OS 321 2 lO w S T/\S.length<=8/\
   NA c ok S (targets c.plain.all s.name r.r.types n):=by
 have b8:=wU h p s r M hr
 have a6:=h
 have Y:=(L s (aZ M) r (aZ hr)).1
 have b7:=looked c
 obtain⟨i,k⟩:=p
 have pc:=h.pc
 have om:=h.om
 have b1:=h.ci.ss
 have i1:=b1.ap
 have i2:One c.vc:=RS.ap h.ci.sc
 have c1:=h.ci.all _ (aZ M)
 have b0:=c1.all _ (aZ hr)
 have e0:One s.v:=RS.ap c1.rs
 have d8:bZ (ca.enc r):=⟨b0.cJ⟩
 simp only at M hr
 have e5:=b1.pc M
 generalize hA:c.plain.all=A at *
 refine Spec.body Tryz.func232 rfl Tryz.results232 Tryz.ntmps232 rfl ?_
 refine .sr ?_
 refine .bW rfl (λb4=>?_)
 refine .bW rfl (λb5=>?_)
 refine .ag rfl<|.ag rfl<|.zs ?_
 refine bx.cL [(0,_),(5,_)] kE.c.c (X:=Nat) (λ_=>True) (λy E=>(9,pT y)::(8,.string s.name)::E) (λy=>[bl y r.enc 167,bl b5 n.enc 199,bl b4 (lO (i,k)) 321]) ?_ ?_
 refine .dp [15] mixed ?_
 refine .tO 0 rfl .move<|.tO 1 rfl (.nilCheck rfl)<|.tO 2 rfl (.fieldAddr rfl)<|.tO 3 rfl (.fieldAddr rfl)<|.tO 4 rfl (.cE rfl)<|.tO 5 rfl (.fieldAddr rfl)<|.tO 6 rfl (.cE rfl) ?_
 refine .tO 7 rfl (.bC i b1 M rfl rfl rfl) ?_
 refine .tO 8 rfl (.fieldAddr rfl)<|.tO 9 rfl (.cE rfl)<|.tO 10 rfl .move<|.tO 11 rfl (.aL rfl) ?_
 refine RA.je 12 13 rfl rfl (by kernel_rfl) rfl ?_ ?_
 refine .ba (b8.weaken cU) (λu F=>?_)
 subst F
 refine .nil (Next.sub ?_)
 refine .sT 13 rfl ?_
 refine .bN (λb9=>?_)
 refine .nil (Next.sub ?_)
 refine .tO 14 rfl .assign ?_
 refine .sT 15 rfl ?_
 refine .bH rfl rfl ?_
 refine .nil (Next.mod rfl ?_)
 refine RA.nil (by kernel_rfl) ?_
 ·exact ay b9 trivial kE.c.c.c.c rH
 refine .bN (λb9=>?_)
 refine .nil (Next.sub ?_)
 refine .sT 12 rfl ?_
 refine .ba (b8.weaken cU) (λu F=>?_)
 subst F
 refine .nil (Next.sub ?_)
 refine .tO 14 rfl .assign ?_
 refine .sT 15 rfl ?_
 refine .bH rfl rfl ?_
 refine .nil (Next.mod rfl ?_)
 refine RA.nil (by kernel_rfl) ?_
 ·exact ay b9 trivial kE.c.c.c.c rH
 intro y hy
 obtain⟨vt,vn,r⟩:=r
 have c0:RS R 2 Ty.enc vt r.types:=b0.t
 have e1:One vt:=c0.ap
 have d9:One vn:=RS.ap b0.d
 refine ax<|.sr<|.ag rfl<|.zs<|.sr<|.fa rfl<|.lo rfl<|.zn<|.block<|.sr<|.q .bK<|.az rfl ?_
 refine bx.cL [(0,_)] kE.c (X:=Value×List Ty×aB) (λy=>OS 249 2 Ty.enc y.1 y.2.1 y.2.2/\TN A s.name r n y.2.1) (λy E=>(10,y.1)::E) (λy=>[y.2.2]) ?_ ?_
 refine .cond rfl (λg=>?_) λg=>?_
 refine .region<|.fa rfl<|.lo rfl ?_
 refine .cK (xk vt r.types _ c0.rx (by simp only at Y;omega)) (λu H F=>?_)
 have iu:=F.ap
 refine .ag rfl<|.nil ?_
 ·first
   |exact ay (u,dI r.types,H) ⟨F,by unfold targets;rw[if_pos (by simpa using g)],qy Y⟩ kE.c.c (aH [0])
   |exact ay (_,[(⟨s.name,n.rel⟩:Ty)],_) ⟨OS.lits (xs:=[(⟨s.name,n.rel⟩:Ty)]) rfl (by simp[Ty.enc]) (by simp[Ty.enc,ap]),by unfold targets;rw[if_neg (by simpa using g),if_pos (by simpa using m)],by simp⟩ ((kE.d rfl).d rfl) (aH [0])
   |exact ay (O,(dI f.types).map λt=>(⟨t.space,n.dy⟩:Ty),K) ⟨B,by
     unfold targets
     rw[if_neg (by simpa using g),if_neg (by simpa using m),if_pos (by simpa using C),D]
     simp only
     rw[U]
     cases hz:dI f.types with
     |nil=>exact absurd hz a2
     |cons z zs=>rfl,by rw[List.length_map];exact a5⟩ kE.c.c (aH [0])
   |exact ay (sZ,[],[]) ⟨OS.nil,by unfold targets;rw[if_neg (by simpa using g),if_neg (by simpa using m),if_neg (by simpa using C)];rfl,by simp⟩ kE.c.c aW.jo
 refine .sr<|.q .bK<|.az rfl ?_
 refine .cond rfl (λm=>?_) λm=>?_
 refine .region<|.mo rfl<|.fa rfl<|.lo rfl ?_
 refine .q .cN ?_
 refine .dM (λd6=>?_)
 refine .ag rfl<|.nil ?_
 ·first
   |exact ay (u,dI r.types,H) ⟨F,by unfold targets;rw[if_pos (by simpa using g)],qy Y⟩ kE.c.c (aH [0])
   |exact ay (_,[(⟨s.name,n.rel⟩:Ty)],_) ⟨OS.lits (xs:=[(⟨s.name,n.rel⟩:Ty)]) rfl (by simp[Ty.enc]) (by simp[Ty.enc,ap]),by unfold targets;rw[if_neg (by simpa using g),if_pos (by simpa using m)],by simp⟩ ((kE.d rfl).d rfl) (aH [0])
   |exact ay (O,(dI f.types).map λt=>(⟨t.space,n.dy⟩:Ty),K) ⟨B,by
     unfold targets
     rw[if_neg (by simpa using g),if_neg (by simpa using m),if_pos (by simpa using C),D]
     simp only
     rw[U]
     cases hz:dI f.types with
     |nil=>exact absurd hz a2
     |cons z zs=>rfl,by rw[List.length_map];exact a5⟩ kE.c.c (aH [0])
   |exact ay (sZ,[],[]) ⟨OS.nil,by unfold targets;rw[if_neg (by simpa using g),if_neg (by simpa using m),if_neg (by simpa using C)];rfl,by simp⟩ kE.c.c aW.jo
 refine .sr<|.q .bK<|.az rfl ?_
 refine .cond rfl (λC=>?_) λC=>?_
 obtain⟨I,ok,a9,a⟩:=b7 (⟨s.name,n.rel⟩:Ty)
 refine .seq<|.dp [13] mixed ?_
 refine .tO 0 rfl .move<|.tO 1 rfl (.nilCheck rfl)<|.tO 2 rfl (.fieldAddr rfl)<|.tO 3 rfl (.cE rfl)<|.tO 4 rfl .move<|.tO 5 rfl (.fieldAddr rfl)<|.tO 6 rfl (.cE rfl) ?_
 refine .tO 7 rfl .cN ?_
 refine .hJ 8 rfl (.cast (.qf (a6.rm.qh λb o hb=>.inl hb) rfl rfl) (congrArg (λl:List Value=>Value.tuple l.toArray) a9)) (by kernel_rfl) ?_
 refine .tO 9 rfl .move<|.tO 10 rfl .extract<|.tK 11 rfl .extract ?_
 refine .sT 12 rfl ?_
 refine .bN (λd2=>?_)
 refine .nil (Next.sub ?_)
 refine .sT 13 rfl ?_
 refine .bH rfl rfl ?_
 refine .nil (Next.mod rfl ?_)
 refine .tK 14 rfl .assign ?_
 refine RA.nil (by kernel_rfl) ?_
 refine ax<|.seq<|.sr<|.mo rfl<|.q .not<|.zn ?_
 refine .cond rfl (λh4=>?_) λh4=>?_
 refine .sr<|.ag rfl<|.az rfl ?_
 refine .ret (aI (jI (bp (aI (bk _ (.two (.tmp rfl) (.tmp rfl)) aW.jo ?_)))))
 ·refine⟨[],rfl,_,[],false,rfl,OS.nil,by simp,?_⟩
  have V:ok=false:=by simpa using h4
  have D:bX A ⟨s.name,n.rel⟩=none:=by
   unfold ot at a
   rw[hA]at a
   cases hf:bX A ⟨s.name,n.rel⟩with
   |none=>rfl
   |some j=>rw[hf]at a;rw[a.1]at V;cases V
  unfold targets
  rw[if_neg (by simpa using g),if_neg (by simpa using m),if_pos (by simpa using C),D]
  rfl
 have a8:ok=true:=by simpa using h4
 subst a8
 obtain⟨j,D,a7,s2,f,a4,a3⟩:∃j,bX A ⟨s.name,n.rel⟩=some j/\c.ix I=j/\c.valid I:=by
  unfold ot at a
  rw[hA]at a
  cases hf:bX A ⟨s.name,n.rel⟩with
  |none=>rw[hf]at a;cases a
  |some j=>rw[hf]at a;exact⟨j,rfl,a.2.1,a.2.2⟩
 have c5:=wU a6 I s2 f a4 a3
 obtain⟨c2,e6,f⟩:=f
 have c6:=(h.ci.all _ (aZ a4)).all _ (aZ a3)
 have c7:RS R 2 Ty.enc c2 f.types:=c6.t
 have c8:f.types.length<=8:=(L _ (aZ a4) _ (aZ a3)).1
 have U:(A.map (·.2.types)).getD j []=f.types:=by
  have:=pe a4 a3
  rw[hA,a7]at this
  rw[List.getD_eq_getElem?_getD,List.getElem?_map,this]
  rfl
 refine .kn<|.seq<|.sr<|.mo rfl<|.q (.aL rfl) ?_
 refine .ba (c5.weaken cU) (λu F=>?_)
 subst F
 refine .q (.zt Tryz.underlying167 rfl rfl yV rfl) ?_
 refine .cK (xk c2 f.types _ c7.rx (by omega)) (λu T2 b2=>?_)
 have e2:=b2.ap
 have a5:=qy c8
 refine .q (.dN b2) ?_
 refine .mo rfl<|.zn<|.block ?_
 refine .cx [(0,_),(5,_),(67,_),(68,_)] (X:=Nat×Value×aB) (λy=>y.1<=(dI f.types).length/\OS 249 2 Ty.enc y.2.1 (((dI f.types).take y.1).map λt=>(⟨t.space,n.dy⟩:Ty)) y.2.2) (λy E=>(69,iN y.1)::(10,y.2.1)::E) (λy G=>y.2.2::G) (λy=>(dI f.types).length-y.1) (0,sZ,[]) ⟨Nat.zero_le _,OS.nil⟩ kE.c.c.c.c.c.c aW.ff ?_
 rintro⟨q,O,K⟩ ⟨hq,B⟩
 simp only at hq B⊢
 have io:=B.ap
 refine .sr<|.q .lss<|.zs ?_
 refine .cond rfl (λh5=>?_) λh5=>?_
 have W:q<(dI f.types).length:=by have:=cm h5;omega
 obtain⟨t,N⟩:=bR W
 refine .kn<|.seq<|.block<|.sr ?_
 refine .bo q b2 N (λe3=>?_)
 refine .q (.aL rfl) ?_
 refine .bN (λd3=>?_)
 refine .bH rfl rfl<|.zn<|.region<|.mo rfl<|.fa rfl<|.lo rfl<|.fa rfl<|.lo rfl ?_
 refine .q .cN ?_
 refine .dM (λd7=>?_)
 refine .append B (RS.lits (xs:=[(⟨t.space,n.dy⟩:Ty)]) rfl (by simp[Ty.enc]) (by simp[Ty.enc,ap])) (by simp only[List.length_map,List.length_take,List.length_singleton];omega) (λv1 H Z=>?_)
 have d0:=Z.ap
 refine .ag rfl<|.nil<|bf<|ax<|.region ?_
 refine .ia (q+1) .add ?_
 refine .mo rfl<|.nil ?_
 ·exact aP (q+1,v1,H) ⟨W,by simp only;rw[dT N,List.map_append];exact Z⟩ (by simp only;omega) kE.c.c.c.c.c.c (aH [2,2,2,2,2,2])
 rw[dx (gj h5)]at B
 refine .exit<|bq<|bz<|bs<|ax<|.sr<|.mo rfl<|.q (.dN B) ?_
 refine .q .bK<|.zn ?_
 refine .cond rfl (λh6=>?_) λh6=>?_
 have c4:dI f.types=[]:=by have Q:=eq_of_beq h6;rw[List.length_map]at Q;exact List.eq_nil_of_length_eq_zero (by omega)
 refine .sr<|.ag rfl<|.az rfl ?_
 refine .ret (jI (bp (aI (bk _ (.two (.tmp rfl) (.tmp rfl)) aW.jo ?_))))
 ·refine⟨[],rfl,_,[],false,rfl,OS.nil,by simp,?_⟩
  unfold targets
  rw[if_neg (by simpa using g),if_neg (by simpa using m),if_pos (by simpa using C),D]
  simp only
  rw[U,c4]
  rfl
 have a2:dI f.types≠[]:=by intro e;rw[e]at h6;simp at h6
 refine .skip ?_
 ·first
   |exact ay (u,dI r.types,H) ⟨F,by unfold targets;rw[if_pos (by simpa using g)],qy Y⟩ kE.c.c (aH [0])
   |exact ay (_,[(⟨s.name,n.rel⟩:Ty)],_) ⟨OS.lits (xs:=[(⟨s.name,n.rel⟩:Ty)]) rfl (by simp[Ty.enc]) (by simp[Ty.enc,ap]),by unfold targets;rw[if_neg (by simpa using g),if_pos (by simpa using m)],by simp⟩ ((kE.d rfl).d rfl) (aH [0])
   |exact ay (O,(dI f.types).map λt=>(⟨t.space,n.dy⟩:Ty),K) ⟨B,by
     unfold targets
     rw[if_neg (by simpa using g),if_neg (by simpa using m),if_pos (by simpa using C),D]
     simp only
     rw[U]
     cases hz:dI f.types with
     |nil=>exact absurd hz a2
     |cons z zs=>rfl,by rw[List.length_map];exact a5⟩ kE.c.c (aH [0])
   |exact ay (sZ,[],[]) ⟨OS.nil,by unfold targets;rw[if_neg (by simpa using g),if_neg (by simpa using m),if_neg (by simpa using C)];rfl,by simp⟩ kE.c.c aW.jo
 refine .skip ?_
 ·first
   |exact ay (u,dI r.types,H) ⟨F,by unfold targets;rw[if_pos (by simpa using g)],qy Y⟩ kE.c.c (aH [0])
   |exact ay (_,[(⟨s.name,n.rel⟩:Ty)],_) ⟨OS.lits (xs:=[(⟨s.name,n.rel⟩:Ty)]) rfl (by simp[Ty.enc]) (by simp[Ty.enc,ap]),by unfold targets;rw[if_neg (by simpa using g),if_pos (by simpa using m)],by simp⟩ ((kE.d rfl).d rfl) (aH [0])
   |exact ay (O,(dI f.types).map λt=>(⟨t.space,n.dy⟩:Ty),K) ⟨B,by
     unfold targets
     rw[if_neg (by simpa using g),if_neg (by simpa using m),if_pos (by simpa using C),D]
     simp only
     rw[U]
     cases hz:dI f.types with
     |nil=>exact absurd hz a2
     |cons z zs=>rfl,by rw[List.length_map];exact a5⟩ kE.c.c (aH [0])
   |exact ay (sZ,[],[]) ⟨OS.nil,by unfold targets;rw[if_neg (by simpa using g),if_neg (by simpa using m),if_neg (by simpa using C)];rfl,by simp⟩ kE.c.c aW.jo
 intro x hx
 obtain⟨w,a0,Tt⟩:=x
 obtain⟨a1,b6,c3⟩:=hx
 simp only at a1 b6 c3⊢
 have iw:=a1.ap
 rw[b6]
 refine bf<|ax<|.sr<|.ag rfl<|.zs<|.sr<|.mo rfl<|.q (.dN a1) ?_
 refine .mo rfl<|.zn<|.block ?_
 refine .cx [(0,_),(85,_),(86,_)] (X:=Nat×Value×List gp×aB) (λy=>y.1<=a0.length/\OS 321 2 lO y.2.1 y.2.2.1 y.2.2.2/\y.2.2.1.length=y.1/\NA c true y.2.2.1 (findAll A (a0.take y.1))) (λy E=>(87,iN y.1)::(15,y.2.1)::E) (λy G=>y.2.2.2::G) (λy=>a0.length-y.1) (0,sZ,[],[]) ⟨Nat.zero_le _,OS.nil,rfl,⟨rfl,rfl,λp hp=>(by cases hp)⟩⟩ kE.c.c.c.c.c aW.ff ?_
 rintro⟨q,O,S,K⟩ ⟨hq,B,b3,J⟩
 simp only at hq B b3 J⊢
 have io:=B.ap
 refine .sr<|.q .lss<|.zs ?_
 refine .cond rfl (λQ=>?_) λQ=>?_
 have W:q<a0.length:=cr Q
 obtain⟨t,N⟩:=bR W
 obtain⟨I,ok,a9,a⟩:=b7 t
 unfold ot at a
 rw[hA]at a
 refine .kn<|.seq<|.block<|.sr ?_
 refine .bo q a1 N (λe4=>?_)
 refine .q (.aL rfl) ?_
 refine .bN (λd4=>?_)
 refine .bH rfl rfl<|.zs<|.dp [10] mixed ?_
 refine .tO 0 rfl .move<|.tO 1 rfl (.nilCheck rfl)<|.tO 2 rfl (.fieldAddr rfl)<|.tO 3 rfl (.cE rfl)<|.tO 4 rfl (.aL rfl) ?_
 refine .hJ 5 rfl (.cast (.qf (a6.rm.qh λb o hb=>.inl hb) rfl rfl) (congrArg (λl:List Value=>Value.tuple l.toArray) a9)) (by kernel_rfl) ?_
 refine .tO 6 rfl .move<|.tO 7 rfl .extract<|.tK 8 rfl .extract ?_
 refine .sT 9 rfl ?_
 refine .bN (λd5=>?_)
 refine .nil (Next.sub ?_)
 refine .sT 10 rfl ?_
 refine .bH rfl rfl ?_
 refine .nil (Next.mod rfl ?_)
 refine .tK 11 rfl .assign ?_
 refine RA.nil (by kernel_rfl) ?_
 refine ax<|.seq<|.sr<|.mo rfl<|.q .not<|.zn ?_
 refine .cond rfl (λL=>?_) λL=>?_
 refine .sr<|.ag rfl<|.az rfl ?_
 refine .ret (aI (bp (aI (cF (bp (aI (bk _ (.two (.tmp rfl) (.tmp rfl)) aW.jo ?_)))))))
 ·refine⟨[],rfl,_,[],false,rfl,OS.nil,by simp,?_⟩
  have V:ok=false:=by simpa using L
  have D:bX A t=none:=by
   cases hf:bX A t with
   |none=>rfl
   |some j=>rw[hf]at a;rw[a.1]at V;cases V
  rw[zC (aZ N) D]
  rfl
 have a8:ok=true:=by simpa using L
 subst a8
 obtain⟨j,D,a7,c9⟩:∃j,bX A t=some j/\c.ix I=j/\c.valid I:=by
  cases hf:bX A t with
  |none=>rw[hf]at a;cases a
  |some j=>rw[hf]at a;exact⟨j,rfl,a.2.1,a.2.2⟩
 refine .kn<|.region<|.mo rfl<|.q (.aL rfl) ?_
 refine .dM (λd1=>?_)
 refine .append B (RS.lits (xs:=[I]) rfl (by simp[lO]) (by simp[lO,ap])) (by simp only[List.length_singleton];omega) (λv1 H Z=>?_)
 have d0:=Z.ap
 refine .ag rfl<|.nil<|bf<|ax<|.region ?_
 refine .ia (q+1) .add ?_
 refine .mo rfl<|.nil ?_
 ·exact aP (q+1,v1,S++[I],H) ⟨W,Z,by simp[b3],by
   simp only
   rw[dT N,zB,D]
   cases hf:findAll A (a0.take q)with
   |none=>rw[hf]at J;cases J
   |some o=>
    rw[hf]at J
    obtain⟨_,n1,n2⟩:=J
    refine⟨rfl,by rw[List.map_append,n1];simp[a7],λp hp=>?_⟩
    rcases List.mem_append.1 hp with hp|hp
    ·exact n2 p hp
    ·rw[List.mem_singleton]at hp;subst hp;exact c9⟩ (by simp only;omega) kE.c.c.c.c.c (aH [3,3])
 rw[dx (gj Q)]at J
 refine .exit<|bq<|bz<|bs<|ax<|.sr<|.mo rfl<|.ag rfl<|.az rfl ?_
 refine .ret (bk _ (.two (.tmp rfl) (.tmp rfl)) (.one [0] _) ?_)
 ·exact⟨K,by simp[take],O,S,true,rfl,B,by omega,J⟩
end Go.Proofs.YtdljmchhecoakaaGreat

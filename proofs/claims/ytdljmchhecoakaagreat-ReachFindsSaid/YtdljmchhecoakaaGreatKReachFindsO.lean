/- What the law 'ReachFinds' uses. No condition. -/
import Derived.Test.YtdljmchhecoakaaGreatKReachFindsA
import Derived.Test.YtdljmchhecoakaaGreatKReachFindsB
import Derived.Test.YtdljmchhecoakaaGreatKReachFindsD
import Derived.Test.YtdljmchhecoakaaGreatKReachFindsE
import Derived.Test.YtdljmchhecoakaaGreatKReachFindsH
import Derived.Test.YtdljmchhecoakaaGreatKReachFindsI
import Derived.Test.YtdljmchhecoakaaGreatKReachFindsJ
import Derived.Test.YtdljmchhecoakaaGreatKReachFindsL
import Derived.Test.YtdljmchhecoakaaGreatKReachFindsN
namespace Go.Proofs.YtdljmchhecoakaaGreat
open Tryz (prog)
set_option linter.unusedVariables false
set_option linter.unusedSimpArgs false
set_option maxRecDepth 4000
def nv(t:ay):ByteArray:=if t.us=⟨#[]⟩then⟨#[49]⟩else⟨#[48]⟩
def fG(t:ay):List ByteArray:=[t.os,t.oi,t.rel,nv t,t.us,t.ss,t.si,t.sr]
theorem Nb(a b:ay):eU (nv a) (nv b)=jr (jx a.us) (jx b.us):=by
 unfold nv jx
 split<;>split<;>decide
theorem Oa(a b:ay):jz a b=fN (List.zipWith eU (fG a) (fG b)):=by
 unfold jz fG
 simp only[List.zipWith_cons_cons,List.zipWith_nil_left]
 rw[Nb]
theorem yv:∀{X Y:List ByteArray} {i:Nat} {x y:ByteArray},X.take i=Y.take i->X[i]? =some x->Y[i]? =some y->x≠y->fN (List.zipWith eU X Y)=eU x y
 |x0::X,y0::Y,0,x,y,_,hx,hy,hn=>by
  simp only[List.getElem?_cons_zero,Option.some.injEq]at hx hy
  subst hx hy
  rw[List.zipWith_cons_cons,lZ,if_neg λe=>hn (oa.1 e)]
 |x0::X,y0::Y,i+1,x,y,ht,hx,hy,hn=>by
  simp only[List.take_succ_cons,List.cons.injEq]at ht
  simp only[List.getElem?_cons_succ]at hx hy
  rw[List.zipWith_cons_cons,lZ,if_pos (oa.2 ht.1)]
  exact yv ht.2 hx hy hn
 |[],_,i,x,y,_,hx,_,_=>by simp at hx
 |_::_,[],i,x,y,_,_,hy,_=>by simp at hy
theorem N6{a b:ay}{i:Nat}{x y:ByteArray}(d:(fG a).take i=(fG b).take i)(e:(fG a)[i]? =some x)(f:(fG b)[i]? =some y)(c:x≠y):fH a b=gg x y:=by
 unfold fH
 rw[Oa,yv d e f c,Bool.eq_iff_iff,decide_eq_true_eq,na]
theorem N3{a b:ay}(h:fG a=fG b):a=b:=by
 obtain⟨k,l,m,n,o,p,q⟩:=a
 obtain⟨r,s,t,u,v,w,x⟩:=b
 simp only[fG,List.cons.injEq]at h
 obtain⟨c,d,e,y,f,g,i,j,_⟩:=h
 simp only[ay.mk.injEq]
 exact⟨c,d,e,f,g,i,j⟩
theorem wV(t:ay)(R:aB):Spec prog 256 [.agg t.enc.toArray] R [] λu H'=>∃T,H'=[T]/\OS 9 1 gG u (fG t) T:=by
 refine Spec.gx (H':=[]) (by simp) ?_
 refine Spec.body Tryz.func256 rfl Tryz.results256 Tryz.ntmps256 rfl ?_
 refine .sr ?_
 refine .bX rfl (λb=>?_)
 refine .ag rfl<|.z<|.ag rfl<|.zs<|.sr<|.fa rfl<|.fa rfl<|.lo rfl<|.q .ff<|.zn ?_
 refine bp.cut (X:=ByteArray) (λk=>k=nv t) (λk=>[(1,pT b),(3,.string k)]) (λk=>[bl b t.enc 119]) ?_ ?_
 refine .cond rfl (λa=>?_) λa=>?_
 refine .region<|.ag rfl<|.nil ?_
 ·exact aE ⟨#[48]⟩ (by unfold nv;rw[if_neg (by simpa using a)]) kE.c.c rH
 refine .skip ?_
 ·exact aE ⟨#[49]⟩ (by unfold nv;rw[if_pos (by simpa using a)]) kE.c.c rH
 intro x d
 subst d
 refine aw<|.sr<|.fa rfl<|.fa rfl<|.lo rfl<|.fa rfl<|.fa rfl<|.lo rfl<|.fa rfl<|.lo rfl<|.mo rfl<|.fa rfl<|.fa rfl<|.lo rfl<|.fa rfl<|.fa rfl<|.fa rfl<|.lo rfl<|.fa rfl<|.fa rfl<|.fa rfl<|.lo rfl<|.fa rfl<|.fa rfl<|.lo rfl ?_
 refine .vD [_,_,_,_,_,_,_,_] (λe=>?_)
 refine .az rfl ?_
 refine .ret (bj _ (.one (.tmp rfl)) (.one [0] _) ?_)
 ·refine⟨_,by simp[take];rfl,?_⟩
  exact OS.lits (E:=9) (xs:=fG t) (enc:=gG) rfl (by simp[fG,gG]) (by simp[fG,gG,ap])
theorem Mo(a b:ay)(R:aB):Spec prog 222 [.agg a.enc.toArray,.agg b.enc.toArray] R [] λv H'=>v=.bool (fH a b)/\H'=[]:=by
 refine Spec.body Tryz.func222 rfl Tryz.results222 Tryz.ntmps222 rfl ?_
 refine .sr ?_
 refine .bX rfl (λs=>?_)
 refine .bX rfl (λt=>?_)
 refine .ag rfl<|.zs<|.dt [] mixed ?_
 refine .tO 0 rfl (.aI rfl)<|.tO 2 rfl (.aI rfl) ?_
 refine .sT 1 rfl ?_
 refine .da (wV a _) (λu n d=>?_)
 have A:=d.ap
 refine .nil (Next.sub ?_)
 refine .sT 3 rfl ?_
 refine .da (wV b _) (λw o k=>?_)
 have B:=k.ap
 refine .nil (Next.sub ?_)
 refine .tO 4 rfl .assign<|.tO 5 rfl .assign ?_
 refine RA.nil (by kernel_rfl) ?_
 refine aw<|.seq<|.sr<|.az rfl<|.block ?_
 refine .loop (X:=Nat) (λi=>i<=8/\(fG a).take i=(fG b).take i) (λi=>[(5,u),(6,w),(7,iN i)]) (λ_=>[n,o]) (λi=>8-i) 0 ⟨by omega,by simp⟩ kE.c.c.c (aY [1,0]) ?_
 rintro i ⟨x,m⟩
 refine .seq<|.sr<|.mo rfl<|.mo rfl<|.q (.ej d) ?_
 refine .q .lss<|.zn ?_
 refine .cond rfl (λh=>?_) λh=>?_
 have l:i<8:=by have:=cv h;simp only[fG,List.length_cons,List.length_nil]at this;omega
 obtain⟨z,g⟩:∃z,(fG a)[i]? =some z:=⟨_,bB (by simpa[fG]using l)⟩
 obtain⟨y,f⟩:∃y,(fG b)[i]? =some y:=⟨_,bB (by simpa[fG]using l)⟩
 refine .kn<|.seq<|.block<|.seq ?_
 refine .fq mixed (by kernel_rfl) ?_
 refine .mo rfl<|.mo rfl ?_
 refine .bo i d g (λC=>?_)
 refine .lo rfl<|.mo rfl<|.mo rfl ?_
 refine .bo i k f (λD=>?_)
 refine .lo rfl<|.q .ff<|.zn ?_
 refine .cond rfl (λj=>?_) λj=>?_
 refine .seq ?_
 refine .fq mixed (by kernel_rfl) ?_
 refine .mo rfl<|.mo rfl ?_
 refine .bo i d g (λE=>?_)
 refine .lo rfl<|.mo rfl<|.mo rfl ?_
 refine .bo i k f (λF=>?_)
 refine .lo rfl<|.q .KM<|.az rfl ?_
 refine .ret (bg (aF (cz (bg (aF (aH rfl ?_))))))
 ·have r:z≠y:=by simpa using j
  exact⟨by rw[N6 m g f r],rfl⟩
 refine .skip<|ba<|aw<|.region<|.mo rfl ?_
 refine .ia (i+1) .add ?_
 refine .ag rfl<|.nil ?_
 ·exact bi (i+1) ⟨l,by
   have e:z=y:=by simpa using j
   rw[List.take_add_one,List.take_add_one,m,g,f,e]⟩ (by omega) kE.c.c.c rH
 refine .exit<|bq<|bz<|br<|aw<|.sr<|.az rfl ?_
 refine .ret (aH rfl ?_)
 ·have p:i=8:=by have:=bC h;simp only[fG,List.length_cons,List.length_nil]at this;omega
  subst p
  have:a=b:=N3 (by simpa[fG]using m)
  exact⟨by rw[this,rT],rfl⟩
structure DV(R:aB)(b:Nat)(S:cU)(vL:Value)(L:List bk):Prop where
 pc:PC R (pT b) [vL,.int .u64 S.head,.int .u64 S.dE]
 rs:RS R 9 bk.enc vL L
theorem DV.mono{R R':aB}{b:Nat}{S:cU}{c:Value}{L:List bk}(h:DV R b S c L)(a:∀b o,R b o->R' b o):DV R' b S c L:=⟨h.pc.mono a,h.rs.mono a⟩
theorem MG(x:bk)(r:Int)(R:aB):Spec prog 107 [.agg x.enc.toArray,.int .u64 r] R [] λv H'=>v=.bool (x.there r)/\H'=[]:=by
 obtain⟨⟨c,d,e,f,g,h,i⟩,k,l⟩:=x
 refine Spec.body Tryz.func107 rfl Tryz.results107 Tryz.ntmps107 rfl ?_
 refine .sr ?_
 refine .bX rfl (λj=>?_)
 refine .ag rfl<|.z<|.fa rfl<|.lo rfl<|.mo rfl<|.q .leq<|.mo rfl ?_
 refine .split (t:=9) rfl (λa=>?_) (λa=>?_)
 refine .gT a<|.fa rfl<|.gT a<|.lo rfl<|.gT a<|.q .bO<|.gT a<|.mo rfl ?_
 refine .split (t:=13) rfl (λb=>?_) (λb=>?_)
 refine .gF b<|.gF b<|.gF b<|.gF b<|.gT a<|.q (.aO b) ?_
 refine .q (.aO a) ?_
 refine .az rfl ?_
 refine .ret (aH rfl ?_)
 ·refine⟨congrArg _ ?_,rfl⟩
  unfold bk.there
  simp_all
  try omega
 refine .gT b<|.mo rfl<|.gT b<|.fa rfl<|.gT b<|.lo rfl<|.gT b<|.q .lss<|.gT a<|.q (.aK b) ?_
 refine .q (.aO a) ?_
 refine .az rfl ?_
 refine .ret (aH rfl ?_)
 ·refine⟨congrArg _ ?_,rfl⟩
  unfold bk.there
  simp_all
  try omega
 refine .gF a<|.gF a<|.gF a<|.gF a<|.cN rfl ?_
 refine .cN rfl ?_
 refine .cN rfl ?_
 refine .cN rfl ?_
 refine .gF a<|.q (.aK a) ?_
 refine .az rfl ?_
 refine .ret (aH rfl ?_)
 ·refine⟨congrArg _ ?_,rfl⟩
  unfold bk.there
  simp_all
  try omega
section
variable{R:aB}{b:Nat}{S:cU}{vL:Value}{L:List bk}
theorem DV.can(h:DV R b S vL L)(r:Int):Spec prog 86 [pT b,.int .u64 r] R [] λv H'=>v=.bool (scan S r)/\H'=[]:=by
 have d:=h.pc
 have c:=h.rs.ap
 refine Spec.body Tryz.func86 rfl Tryz.results86 Tryz.ntmps86 rfl ?_
 refine .sr<|.ag rfl<|.z<|.mo rfl<|.nc rfl<|.fa rfl<|.lo rfl<|.mo rfl<|.q .leq<|.mo rfl ?_
 refine .split (t:=11) rfl (λa=>?_) (λa=>?_)
 refine .gT a<|.mo rfl<|.gT a<|.mo rfl<|.gT a<|.nc rfl<|.gT a<|.fa rfl<|.gT a<|.lo rfl<|.gT a<|.q .leq<|.q (.aO a) ?_
 refine .az rfl ?_
 refine .ret (aH rfl ?_)
 ·refine⟨congrArg _ ?_,rfl⟩
  unfold scan
  simp_all
  try omega
 refine .gF a<|.gF a<|.gF a<|.gF a<|.gF a<|.gF a<|.q (.aK a) ?_
 refine .az rfl ?_
 refine .ret (aH rfl ?_)
 ·refine⟨congrArg _ ?_,rfl⟩
  unfold scan
  simp_all
  try omega
theorem DV.NR(h:DV R b S vL L)(Z:L.length<=5000)(k:aU)(r:Int):Spec prog 147 [pT b,.agg [.string k.os,.string k.oi].toArray,.string k.rel,.int .u64 r] R [] λu H'=>∃T,H'=[T]/\OS 117 4 Sub.enc u (if scan S r then(L.filter λx=>x.there r&&decide (x.t.cE=k)).map (·.t.sub)else []) T:=by
 obtain⟨l,m,w⟩:=k
 have pc:=h.pc
 have a1:=h.rs.ap
 obtain⟨pv,a2,rfl⟩:=h.rs.val
 have F:=h.rs
 have V:∀x:bk,decide (x.t.cE=(⟨l,m,w⟩:aU))=(decide (x.t.os=l/\x.t.oi=m)&&decide (x.t.rel=w)):=λx=>by
  rw[Bool.eq_iff_iff]
  simp[ay.cE,and_assoc]
 refine Spec.gx (H':=[[]]) (by simp) ?_
 refine Spec.body Tryz.func147 rfl Tryz.results147 Tryz.ntmps147 rfl ?_
 refine .sr ?_
 refine .bX rfl (λC=>?_)
 refine .ag rfl<|.z<|.ag rfl<|.zs<|.sr<|.az rfl<|.block ?_
 refine .loop (X:=Nat×Value×aA) (λy=>(y.1<=L.length/\(scan S r=false->y.1=0))/\OS 117 4 Sub.enc y.2.1 (((L.take y.1).filter λx=>x.there r&&decide (x.t.cE=(⟨l,m,w⟩:aU))).map (·.t.sub)) y.2.2) (λy=>[(0,pT b),(2,.string w),(3,.int .u64 r),(5,pT C),(9,y.2.1),(10,iN y.1)]) (λy=>[bl C [.string l,.string m] 44,y.2.2]) (λy=>L.length-y.1) (0,sZ,[]) ⟨⟨Nat.zero_le _,λ_=>rfl⟩,OS.nil⟩ kE.c.c.c.c.c.c rH ?_
 rintro⟨i,I,n⟩ ⟨⟨Q,E⟩,g⟩
 simp only at Q E g⊢
 have io:=g.ap
 have a0:(((L.take i).filter λx=>x.there r&&decide (x.t.cE=(⟨l,m,w⟩:aU))).map (·.t.sub)).length<=5000:=by
  rw[List.length_map]
  exact Nat.le_trans (List.length_filter_le _ _) (by rw[List.length_take];omega)
 refine .seq<|.sr<|.mo rfl<|.mo rfl<|.nc rfl<|.fa rfl<|.lo rfl<|.q (.bD F) ?_
 refine .q .lss<|.mo rfl ?_
 refine .split (t:=19) rfl (λe=>?_) (λe=>?_)
 have p:i<L.length:=by have:=cv e;omega
 obtain⟨x,H⟩:=bU p
 have B:L.take (i+1)=L.take i++[x]:=by rw[List.take_add_one,H];rfl
 have A:=V x
 refine .gT e<|.mo rfl<|.gT e<|.mo rfl<|.gT e ?_
 refine .bd ((h.mono λb o O=>.inl O).can r) (λv G=>?_)
 subst G
 refine .q (.aO e) ?_
 refine .zn ?_
 refine .cond rfl (λf=>?_) λf=>?_
 refine .kn<|.seq<|.block<|.sr<|.mo rfl<|.nc rfl<|.fa rfl<|.lo rfl<|.mo rfl ?_
 refine .bA i F H (λa3=>?_)
 refine .fa rfl<|.q (.loadT rfl) ?_
 refine .bN (λM=>?_)
 refine .bG rfl rfl<|.z<|.sub (H':=[bl M x.t.enc 119,bl C [.string l,.string m] 44,n]) rH ?_
 refine .mo rfl<|.nc rfl<|.fa rfl<|.lo rfl<|.mo rfl ?_
 refine .bA i F H (λa4=>?_)
 refine .q (.aI rfl)<|.mo rfl ?_
 refine .bd (MG x r _) (λv G=>?_)
 subst G
 refine .mo rfl ?_
 refine .split (t:=43) rfl (λd=>?_) (λd=>?_)
 refine .gT d<|.fa rfl<|.gT d<|.q (.loadT rfl) ?_
 refine .gT d<|.q (.aI rfl)<|.gT d<|.q (.kZ rfl rfl (show dY [.s,.s] (List.take 2 (List.drop 0 x.t.enc))from⟨trivial,trivial,trivial⟩) (show dY [.s,.s] [.string l,.string m]from⟨trivial,trivial,trivial⟩)) ?_
 rw[show dU (List.take 2 (List.drop 0 x.t.enc)) [.string l,.string m]=decide (x.t.os=l/\x.t.oi=m)from by rw[Bool.eq_iff_iff];simp[ay.enc,dU,kC]]
 refine .q (.aO d) ?_
 refine .mo rfl ?_
 refine .split (t:=49) rfl (λa=>?_) (λa=>?_)
 refine .gT a<|.fa rfl<|.gT a<|.lo rfl<|.gT a<|.mo rfl<|.gT a<|.q .dI<|.q (.aO a) ?_
 refine .zn ?_
 refine .cond rfl (λJ=>?_) λJ=>?_
 refine .region<|.mo rfl<|.fa rfl<|.q (.loadT rfl) ?_
 refine .dA (λY=>?_)
 refine .append g (RS.lits (xs:=[x.t.sub]) rfl (by simp[Sub.enc]) (by simp[Sub.enc,ap])) (by simp only[List.length_singleton];omega) (λW K N=>?_)
 refine .ag rfl<|.nil<|ba<|aw<|.region<|.mo rfl ?_
 refine .ia (i+1) .add ?_
 refine .ag rfl<|.nil ?_
 ·exact bi (i+1,W,K) ⟨⟨p,λj=>by rw[j]at f;cases f⟩,by simp only;rw[B,List.filter_append,List.map_append,List.filter_cons,if_pos (by rw[A,d,a,J];rfl)];exact N⟩ (by simp only;omega) kE.c.c.c.c.c.c (aY [2,2])
 refine .skip<|ba<|aw<|.region<|.mo rfl ?_
 refine .ia (i+1) .add ?_
 refine .ag rfl<|.nil ?_
 ·exact bi (i+1,I,n) ⟨⟨p,λj=>by rw[j]at f;cases f⟩,by simp only;rw[B,List.filter_append,List.map_append,List.filter_cons,if_neg (by rw[A];simp_all)];simpa using g⟩ (by simp only;omega) kE.c.c.c.c.c.c (aY [1,1])
 refine .gF a<|.gF a<|.gF a<|.gF a<|.q (.aK a) ?_
 refine .zn<|.cF<|.skip<|ba<|aw<|.region<|.mo rfl ?_
 refine .ia (i+1) .add ?_
 refine .ag rfl<|.nil ?_
 ·exact bi (i+1,I,n) ⟨⟨p,λj=>by rw[j]at f;cases f⟩,by simp only;rw[B,List.filter_append,List.map_append,List.filter_cons,if_neg (by rw[A];simp_all)];simpa using g⟩ (by simp only;omega) kE.c.c.c.c.c.c (aY [1,1])
 refine .gF d<|.gF d<|.gF d<|.gF d<|.q (.aK d) ?_
 refine .mo rfl<|.gX<|.gX<|.gX<|.gX<|.q .cK<|.zn<|.cF<|.skip<|ba<|aw<|.region<|.mo rfl ?_
 refine .ia (i+1) .add ?_
 refine .ag rfl<|.nil ?_
 ·exact bi (i+1,I,n) ⟨⟨p,λj=>by rw[j]at f;cases f⟩,by simp only;rw[B,List.filter_append,List.map_append,List.filter_cons,if_neg (by rw[A];simp_all)];simpa using g⟩ (by simp only;omega) kE.c.c.c.c.c.c (aY [1,1])
 refine .exit<|bq<|bz<|br<|aw<|.sr<|.mo rfl<|.az rfl ?_
 refine .ret (bj _ (.one (.tmp rfl)) ((aY [1])) ?_)
 ·have D:=E f
  subst D
  exact⟨n,by simp[take,bF],by rw[f];exact g⟩
 have U:i=L.length:=by have:=bC e;omega
 subst U
 rw[List.take_length]at g
 refine .gF e<|.gF e<|.gF e<|.q (.aK e) ?_
 refine .zn<|.cF<|.exit<|bq<|bz<|br<|aw<|.sr<|.mo rfl<|.az rfl ?_
 refine .ret (bj _ (.one (.tmp rfl)) ((aY [1])) ?_)
 ·refine⟨n,by simp[take,bF],?_⟩
  split
  ·exact g
  ·rename_i j
   have D:=E (by simpa using j)
   rw[List.eq_nil_of_length_eq_zero D]at g
   exact g
end
theorem ug(s i:ByteArray)(d:s.size<=9223372036854775807)(c:i.size<=9223372036854775807)(R:aB):Spec prog 139 [.agg [.string s,.string i].toArray] R [] λv H'=>v=.bool (cX s i)/\H'=[]:=by
 refine Spec.body Tryz.func139 rfl Tryz.results139 Tryz.ntmps139 rfl ?_
 refine .sr ?_
 refine .bX rfl (λe=>?_)
 refine .ag rfl<|.z<|.fa rfl<|.lo rfl ?_
 refine .bd (jg s d _) (λv b=>?_)
 subst b
 refine .mo rfl ?_
 refine .split (t:=6) rfl (λa=>?_) (λa=>?_)
 refine .gT a<|.fa rfl<|.gT a<|.lo rfl<|.gT a ?_
 refine .bd (yP i c _) (λv b=>?_)
 subst b
 refine .q (.aO a) ?_
 refine .az rfl ?_
 refine .ret (aH rfl ?_)
 ·exact⟨by unfold cX;simp_all,rfl⟩
 refine .gF a<|.gF a<|.gF a<|.q (.aK a) ?_
 refine .az rfl ?_
 refine .ret (aH rfl ?_)
 ·exact⟨by unfold cX;simp_all,rfl⟩
theorem Mg(s:Sub)(g:s.us.size<=9223372036854775807)(h:s.ss.size<=9223372036854775807)(i:s.si.size<=9223372036854775807)(j:s.sr.size<=9223372036854775807)(R:aB):Spec prog 221 [.agg s.enc.toArray] R [] λv H'=>v=.bool (gH s)/\H'=[]:=by
 obtain⟨us,ss,si,sr⟩:=s
 simp only at g h i j
 refine Spec.body Tryz.func221 rfl Tryz.results221 Tryz.ntmps221 rfl ?_
 refine .sr ?_
 refine .bX rfl (λl=>?_)
 refine .ag rfl<|.zs<|.sr<|.fa rfl<|.lo rfl<|.q .dI<|.zn ?_
 refine .cond rfl (λk=>?_) λk=>?_
 refine .sr<|.fa rfl<|.q (.loadT rfl) ?_
 refine .bd (ug ss si h i _) (λv f=>?_)
 subst f
 refine .mo rfl ?_
 refine .split (t:=9) rfl (λd=>?_) (λd=>?_)
 refine .gT d<|.fa rfl<|.gT d<|.lo rfl<|.gT d ?_
 refine .bd (jg sr j _) (λv f=>?_)
 subst f
 refine .q (.aO d) ?_
 refine .az rfl ?_
 refine .ret (aF (aH rfl ?_))
 ·refine⟨congrArg _ ?_,rfl⟩
  unfold gH
  by_cases a:us=⟨#[]⟩
  ·simp only[a,if_true]
   simp_all
  ·simp only[a,if_false]
   simp_all
 refine .gF d<|.gF d<|.gF d<|.q (.aK d) ?_
 refine .az rfl ?_
 refine .ret (aF (aH rfl ?_))
 ·refine⟨congrArg _ ?_,rfl⟩
  unfold gH
  by_cases a:us=⟨#[]⟩
  ·simp only[a,if_true]
   simp_all
  ·simp only[a,if_false]
   simp_all
 refine .kn<|.sr<|.fa rfl<|.lo rfl ?_
 refine .bd (yP us g _) (λv f=>?_)
 subst f
 refine .mo rfl ?_
 refine .split (t:=17) rfl (λb=>?_) (λb=>?_)
 refine .gT b<|.fa rfl<|.gT b<|.fa rfl<|.gT b<|.lo rfl<|.gT b<|.q .dI<|.q (.aO b) ?_
 refine .mo rfl ?_
 refine .split (t:=23) rfl (λc=>?_) (λc=>?_)
 refine .gT c<|.fa rfl<|.gT c<|.fa rfl<|.gT c<|.lo rfl<|.gT c<|.q .dI<|.q (.aO c) ?_
 refine .mo rfl ?_
 refine .split (t:=29) rfl (λe=>?_) (λe=>?_)
 refine .gT e<|.fa rfl<|.gT e<|.lo rfl<|.gT e<|.q .dI<|.q (.aO e) ?_
 refine .az rfl ?_
 refine .ret (aH rfl ?_)
 ·refine⟨congrArg _ ?_,rfl⟩
  unfold gH
  by_cases a:us=⟨#[]⟩
  ·simp only[a,if_true]
   simp_all
  ·simp only[a,if_false]
   simp_all
 refine .gF e<|.gF e<|.gF e<|.q (.aK e) ?_
 refine .az rfl ?_
 refine .ret (aH rfl ?_)
 ·refine⟨congrArg _ ?_,rfl⟩
  unfold gH
  by_cases a:us=⟨#[]⟩
  ·simp only[a,if_true]
   simp_all
  ·simp only[a,if_false]
   simp_all
 refine .gF c<|.gF c<|.gF c<|.gF c<|.q (.aK c) ?_
 refine .mo rfl<|.gX<|.gX<|.gX<|.q .cK<|.az rfl ?_
 refine .ret (aH rfl ?_)
 ·refine⟨congrArg _ ?_,rfl⟩
  unfold gH
  by_cases a:us=⟨#[]⟩
  ·simp only[a,if_true]
   simp_all
  ·simp only[a,if_false]
   simp_all
 refine .gF b<|.gF b<|.gF b<|.gF b<|.q (.aK b) ?_
 refine .mo rfl<|.gX<|.gX<|.gX<|.gX<|.q .cK<|.mo rfl<|.gX<|.gX<|.gX<|.q .cK<|.az rfl ?_
 refine .ret (aH rfl ?_)
 ·refine⟨congrArg _ ?_,rfl⟩
  unfold gH
  by_cases a:us=⟨#[]⟩
  ·simp only[a,if_true]
   simp_all
  ·simp only[a,if_false]
   simp_all
theorem uh(t:ay)(k:t.fits)(R:aB):Spec prog 168 [.agg t.enc.toArray] R [] λv H'=>v=.bool (ep t)/\H'=[]:=by
 obtain⟨d,e,f,g,h,i,j⟩:=k
 refine Spec.body Tryz.func168 rfl Tryz.results168 Tryz.ntmps168 rfl ?_
 refine .sr ?_
 refine .bX rfl (λl=>?_)
 refine .ag rfl<|.z<|.fa rfl<|.q (.loadT rfl) ?_
 refine .bd (ug t.os t.oi d e _) (λv c=>?_)
 subst c
 refine .mo rfl ?_
 refine .split (t:=6) rfl (λa=>?_) (λa=>?_)
 refine .gT a<|.fa rfl<|.gT a<|.lo rfl<|.gT a ?_
 refine .bd (jg t.rel f _) (λv c=>?_)
 subst c
 refine .q (.aO a) ?_
 refine .mo rfl ?_
 refine .split (t:=11) rfl (λb=>?_) (λb=>?_)
 refine .gT b<|.fa rfl<|.gT b<|.q (.loadT rfl) ?_
 refine .gT b ?_
 refine .bd (Mg t.sub g h i j _) (λv c=>?_)
 subst c
 refine .q (.aO b) ?_
 refine .az rfl ?_
 refine .ret (aH rfl ?_)
 ·exact⟨by unfold ep;simp_all,rfl⟩
 refine .gF b<|.gF b<|.gF b<|.q (.aK b) ?_
 refine .az rfl ?_
 refine .ret (aH rfl ?_)
 ·exact⟨by unfold ep;simp_all,rfl⟩
 refine .gF a<|.gF a<|.gF a<|.q (.aK a) ?_
 refine .mo rfl<|.gX<|.gX<|.gX<|.q .cK<|.az rfl ?_
 refine .ret (aH rfl ?_)
 ·exact⟨by unfold ep;simp_all,rfl⟩
theorem SV.NS{R:aB}{g:Nat}{S:cU}{ps:List RB}{vf vr:Value}{B:List (aU×(Value×aA))}{C:List (Sub×(Value×aA))}(h:SV R g S ps vf vr B C)(s:S.rows.length<=4096)(k:aU)(r:Int){L:List bk}(J:RL S L):
  Spec prog 188 [pT g,.agg [.string k.os,.string k.oi].toArray,.string k.rel,.int .u64 r] R [] λu H'=>∃T,H'=[T]/\OS 117 4 Sub.enc u (if scan S r then(L.filter λx=>x.there r&&decide (x.t.cE=k)).map (·.t.sub)else []) T:=by
 have pc:=h.pc
 have a5:=h.of
 have a6:=h.or
 have U:ps.length<=4096:=by rw[<-h.eq,List.length_map]at s;exact s
 obtain⟨pf,G,O,V⟩:=h.lf k
 have H:RS R 1 sK (.slice pf (ids (λx=>x.t.cE) k ps).length G) (jJ (λx=>x.t.cE) k ps):=RS.of_map (enc:=iX) (f:=λp:RB=>p.1) V
 have I:(jJ (λx=>x.t.cE) k ps).length<=4096:=Nat.le_trans (List.length_filter_le _ _) U
 refine Spec.gx (H':=[[]]) (by simp) ?_
 refine Spec.body Tryz.func188 rfl Tryz.results188 Tryz.ntmps188 rfl ?_
 refine .sr ?_
 refine .bX rfl (λb5=>?_)
 refine .ag rfl<|.zs<|.sr<|.mo rfl<|.mo rfl ?_
 refine .bd ((h.mono λb o e=>.inl e).can r) (λv Z=>?_)
 subst Z
 refine .q .not<|.zn ?_
 refine .cond rfl (λj=>?_) λj=>?_
 have n:scan S r=false:=by simpa using j
 refine .sr<|.az rfl ?_
 refine .ret (aF (bj _ (.one (.tmp rfl)) ((aY [1])) ?_))
 ·exact⟨_,by simp[take];rfl,by rw[n];exact OS.nil⟩
 have n:scan S r=true:=by simpa using j
 refine .kn<|.sr<|.ag rfl<|.zs<|.seq<|.dt [] mixed ?_
 refine .tO 0 rfl .move<|.tO 1 rfl (.nilCheck rfl)<|.tO 2 rfl (.fieldAddr rfl)<|.tO 3 rfl (.cI rfl)<|.tO 4 rfl (.aI rfl)<|.tO 5 rfl .move ?_
 refine .tO 6 rfl .cO ?_
 refine .tO 7 rfl (.mO (h.mono λb o e=>.inl e).mf rfl rfl (key:=k) O) ?_
 refine .tO 8 rfl .move<|.tO 11 rfl .move ?_
 refine .sT 9 rfl ?_
 refine .da (vx _ (jJ (λx=>x.t.cE) k ps) r _ H.rx (λp Q=>(h.pr p (List.mem_filter.1 Q).1).mono λb o e=>.inl e) (by omega)) (λu D Y=>?_)
 obtain⟨a,m,A,a1⟩:=Y
 have iu:=m.ap
 have a4:a.length<=4096:=by
  rw[A.length_eq,List.length_map]
  exact Nat.le_trans (List.length_filter_le _ _) I
 have a0:a=(L.filter λx=>x.there r&&decide (x.t.cE=k)).map (·.t):=J.at_ (by
  refine A.trans (.of_eq ?_)
  rw[<-h.eq,List.filter_map,List.map_map]
  unfold jJ
  rw[List.filter_filter];rfl) a1
 refine .nil (Next.sub ?_)
 refine .tO 10 rfl (.ej m) ?_
 refine RA.nil (by kernel_rfl) ?_
 refine aw<|.block ?_
 refine .loop (X:=Nat×Value×aA) (λy=>y.1<=a.length/\OS 117 4 Sub.enc y.2.1 ((a.take y.1).map ay.sub) y.2.2) (λy=>[(9,y.2.1),(25,u),(26,iN a.length),(27,iN y.1)]) (λy=>[D,y.2.2]) (λy=>a.length-y.1) (0,sZ,[]) ⟨Nat.zero_le _,OS.nil⟩ kE.c.c.c.c (aY [0,1]) ?_
 rintro⟨i,vo,F⟩ ⟨M,d⟩
 simp only at M d⊢
 have io:=d.ap
 refine .sr<|.q .lss<|.zs ?_
 refine .cond rfl (λl=>?_) λl=>?_
 have w:i<a.length:=cg l
 obtain⟨x,z⟩:=bU w
 have W:a.take (i+1)=a.take i++[x]:=by rw[List.take_add_one,z];rfl
 refine .kn<|.seq<|.block<|.sr ?_
 refine .bo i m z (λa7=>?_)
 refine .q (.aI rfl) ?_
 refine .bN (λa2=>?_)
 refine .bG rfl rfl<|.zn<|.region<|.mo rfl<|.fa rfl<|.q (.loadT rfl) ?_
 refine .dA (λa3=>?_)
 refine .append d (RS.lits (xs:=[x.sub]) rfl (by simp[Sub.enc]) (by simp[Sub.enc,ap])) (by simp only[List.length_singleton,List.length_map,List.length_take];omega) (λv5 E K=>?_)
 refine .ag rfl<|.nil<|ba<|aw<|.region ?_
 refine .ia (i+1) .add ?_
 refine .mo rfl<|.nil ?_
 ·exact bi (i+1,v5,E) ⟨w,by simp only;rw[W,List.map_append];exact K⟩ (by simp only;omega) kE.c.c.c.c (aY [2,2])
 refine .exit<|bq<|bz<|br<|aw<|.sr<|.mo rfl<|.az rfl ?_
 refine .ret (bj _ (.one (.tmp rfl)) ((aY [1])) ?_)
 ·have N:i=a.length:=by have:=bC l;omega
  subst N
  rw[List.take_length,a0,List.map_map]at d
  exact⟨F,by simp[take,bF],by rw[n];exact d⟩
def gv(s:bT):Bool:=decide (16<s.bI.length)||s.bI.any λr=>gI isWord r.r
theorem oY(c:bE):c.plain.im isWord=(decide (16<c.aR.length)||decide (16<c.scopes.length)||c.aR.any gv):=by
 unfold Cf.im bE.plain
 simp only[List.length_map,List.any_map]
 congr 1
 congr 1
 funext s
 simp[gv,bT.plain,List.any_map,Function.comp_def]
def lB(r:bQ):Bool:=r.r.types.all (gu isWord)
def iA(r:bQ):Bool:=isWord r.r.name&&fM isWord r.r.nodes !=0&&lB r
def gd(s:bT):Bool:=isWord s.name&&s.bI.all iA
theorem yQ(c:bE):c.plain.right isWord cX=(c.aR.all gd&&c.scopes.all (jw isWord cX)&& !c.plain.im isWord):=by
 unfold Cf.right
 congr 1
 congr 1
 unfold bE.plain
 simp only[List.all_map]
 congr 1
 funext s
 simp only[gd,nS,bT.plain,List.all_map,Function.comp_def]
 rfl
theorem Mv(c:bE)(R:aB)(h:c.is R):Spec prog 140 [.agg c.enc.toArray] R [] λu H'=>u=.bool (c.plain.im isWord)/\H'=[]:=by
 rw[oY]
 obtain⟨Q,O,j,N⟩:=c
 have g:=h.ss
 have C:=h.sc
 have Z:=g.ap
 have i2:=C.ap
 simp only at g C Z i2⊢
 have a1:=g.le
 refine Spec.body Tryz.func140 rfl Tryz.results140 Tryz.ntmps140 rfl ?_
 refine .sr ?_
 refine .bX rfl (λF=>?_)
 refine .ag rfl<|.zs<|.seq ?_
 refine bp.cP [(1,_)] kE.c (X:=Unit) (λ_=>True) (λ_ E=>(15,.bool (decide (16<j.length)||decide (16<N.length)))::E) (λ_=>[bl F [Q,O] 25]) ?_ ?_
 refine .region<|.fa rfl<|.lo rfl<|.q (.bD g) ?_
 refine .q .gtr<|.mo rfl ?_
 refine .split (t:=10) rfl (λe=>?_) (λe=>?_)
 refine .gF e<|.gF e<|.gF e<|.gF e<|.q (.aO e) ?_
 refine .nil ?_
 ·exact aE () trivial (kE.c.bL rfl (by grind)) rH
 refine .gT e<|.fa rfl<|.gT e<|.lo rfl<|.gT e<|.q (.bD C) ?_
 refine .gT e<|.q .gtr<|.q (.aK e) ?_
 refine .nil ?_
 ·exact aE () trivial (kE.c.bL rfl (by grind)) rH
 intro y Y
 refine aw ?_
 refine .cond rfl (λw=>?_) λw=>?_
 refine .sr<|.az rfl ?_
 refine .ret (aF (aH rfl ?_))
 ·exact⟨by rw[w];rfl,rfl⟩
 refine .kn<|.seq<|.sr<|.az rfl<|.block ?_
 refine .cq [(1,_)] (X:=Nat) (λi=>i<=j.length/\(j.take i).any gv=false) (λi E=>(3,iN i)::E) (λ_ G=>G) (λi=>j.length-i) 0 ⟨Nat.zero_le _,rfl⟩ kE.c.c rH ?_
 rintro i ⟨hi,J⟩
 refine .seq<|.sr<|.mo rfl<|.fa rfl<|.lo rfl<|.q (.bD g) ?_
 refine .q .lss<|.zn ?_
 refine .cond rfl (λx=>?_) λx=>?_
 have I:i<j.length:=cg x
 obtain⟨s,m⟩:=bU I
 have M:=h.all s (aX m)
 have o:=M.rs
 have a5:=o.ap
 have a2:=o.le
 refine .kn<|.seq<|.block<|.seq<|.sr<|.fa rfl<|.lo rfl<|.mo rfl ?_
 refine .bA i g m (λa7=>?_)
 refine .fa rfl<|.lo rfl<|.q (.bD o) ?_
 refine .q .gtr<|.zn ?_
 refine .cond rfl (λz=>?_) λz=>?_
 refine .sr<|.az rfl ?_
 refine .ret (aF (bg (aF (cz (bg (aF (aH rfl ?_)))))))
 ·refine⟨?_,rfl⟩
  rw[nE m (f:=gv) (by unfold gv;have:=cv z;rw[decide_eq_true (by omega)];rfl),Bool.or_true]
 refine .kn<|.sr<|.az rfl<|.block ?_
 refine .cq [(1,_),(3,_)] (X:=Nat) (λk=>k<=s.bI.length/\((s.bI.take k).any λr=>gI isWord r.r)=false) (λk E=>(4,iN k)::E) (λ_ G=>G) (λk=>s.bI.length-k) 0 ⟨Nat.zero_le _,rfl⟩ kE.c.c.c rH ?_
 rintro k ⟨hk,K⟩
 refine .seq<|.sr<|.mo rfl<|.fa rfl<|.lo rfl<|.mo rfl ?_
 refine .bA i g m (λa8=>?_)
 refine .fa rfl<|.lo rfl<|.q (.bD o) ?_
 refine .q .lss<|.zn ?_
 refine .cond rfl (λA=>?_) λA=>?_
 have H:k<s.bI.length:=cg A
 obtain⟨⟨S,D,r⟩,p⟩:=bU H
 have v:=M.all _ (aX p)
 have L:RS R 2 Ty.enc S r.types:=v.t
 have B:RS R 5 Nd.enc D r.nodes:=v.d
 have a6:=L.ap
 have a4:=B.ap
 have a3:bW (bQ.enc ⟨S,D,r⟩):=⟨v.cH⟩
 refine .kn<|.seq<|.block<|.sr<|.fa rfl<|.lo rfl<|.mo rfl ?_
 refine .bA i g m (λa9=>?_)
 refine .fa rfl<|.lo rfl<|.mo rfl ?_
 refine .bA k o p (λb0=>?_)
 refine .q (.aI rfl) ?_
 refine .bN (λb5=>?_)
 refine .bG rfl rfl<|.zs ?_
 refine bp.cP [(1,_),(3,_),(4,_)] kE.c.c.c (X:=Unit) (λ_=>True) (λ_ E=>(66,.bool (gI isWord r))::E) (λ_=>[bl F [Q,O] 25]) ?_ ?_
 refine .region<|.fa rfl<|.lo rfl<|.q (.bD L) ?_
 refine .q .gtr<|.mo rfl ?_
 refine .split (t:=55) rfl (λb=>?_) (λb=>?_)
 refine .gF b<|.gF b<|.gF b<|.gF b<|.q (.aO b) ?_
 refine .mo rfl<|.gX<|.gX<|.gX<|.gX<|.q .cD<|.nil ?_
 ·exact aE () trivial (kE.c.c.c.bL rfl (by grind[gI])) (aY [1])
 refine .gT b<|.fa rfl<|.gT b<|.lo rfl<|.gT b<|.q (.bD B) ?_
 refine .gT b<|.q .gtr<|.q (.aK b) ?_
 refine .mo rfl ?_
 refine .split (t:=61) rfl (λa=>?_) (λa=>?_)
 refine .gF a<|.gF a<|.gF a<|.gF a<|.q (.aO a) ?_
 refine .nil ?_
 ·exact aE () trivial (kE.c.c.c.bL rfl (by grind[gI])) (aY [1])
 refine .gT a<|.fa rfl<|.gT a<|.lo rfl<|.gT a ?_
 refine .bd ((yI D r.nodes R B v.fd).weaken cQ) (λu W=>?_)
 subst W
 refine .gT a<|.q .gtr<|.q (.aK a) ?_
 refine .nil ?_
 ·exact aE () trivial (kE.c.c.c.bL rfl (by grind[gI])) (aY [1])
 intro y Y
 refine aw ?_
 refine .cond rfl (λn=>?_) λn=>?_
 refine .sr<|.az rfl ?_
 refine .ret (bg (aF (cz (bg (bg (aF (cz (bg (aF (aH rfl ?_))))))))))
 ·refine⟨?_,rfl⟩
  rw[nE m (f:=gv) (by unfold gv;rw[nE p n,Bool.or_true]),Bool.or_true]
 refine .skip<|ba<|aw<|.region<|.mo rfl ?_
 refine .ia (k+1) .add ?_
 refine .ag rfl<|.nil ?_
 ·exact bi (k+1) ⟨H,qe p K n⟩ (by omega) kE.c.c.c rH
 have V:gv s=false:=by
  have n:(s.bI.any λr=>gI isWord r.r)=false:=by rw[<-dD (l:=s.bI) (i:=k) (by have:=bC A;omega)];exact K
  have a0:=bC z
  unfold gv
  rw[n,Bool.or_false]
  exact decide_eq_false (by omega)
 refine .exit<|bq<|bz<|br<|ba<|aw<|.region<|.mo rfl ?_
 refine .ia (i+1) .add ?_
 refine .ag rfl<|.nil ?_
 ·exact bi (i+1) ⟨I,qe m J V⟩ (by omega) kE.c.c rH
 have U:j.any gv=false:=by rw[<-dD (l:=j) (i:=i) (by have:=bC x;omega)];exact J
 refine .exit<|bq<|bz<|br<|aw<|.sr<|.az rfl ?_
 refine .ret (aH rfl ?_)
 ·refine⟨?_,rfl⟩
  have T:(decide (16<j.length)||decide (16<N.length))=false:=w
  rw[T,U]
  rfl
theorem MD(c:bE)(R:aB)(h:c.is R):Spec prog 76 [.agg c.enc.toArray] R [] λu H'=>u=.bool (c.plain.right isWord cX)/\H'=[]:=by
 rw[yQ]
 obtain⟨V,U,A,z⟩:=c
 have K:=h.ss
 have J:=h.sc
 have i1:=K.ap
 have i2:=J.ap
 simp only at K J i1 i2⊢
 have b7:=K.le
 have b5:=J.le
 refine Spec.body Tryz.func76 rfl Tryz.results76 Tryz.ntmps76 rfl ?_
 refine .sr ?_
 refine .bX rfl (λW=>?_)
 refine .ag rfl<|.zs<|.sr<|.az rfl<|.block ?_
 refine .cq [(1,_)] (X:=Nat) (λi=>i<=A.length/\(A.take i).all gd=true) (λi E=>(3,iN i)::E) (λ_ G=>G) (λi=>A.length-i) 0 ⟨Nat.zero_le _,rfl⟩ kE.c.c rH ?_
 rintro i ⟨hi,hq⟩
 refine .seq<|.sr<|.mo rfl<|.fa rfl<|.lo rfl<|.q (.bD K) ?_
 refine .q .lss<|.zn ?_
 refine .cond rfl (λY=>?_) λY=>?_
 have a2:i<A.length:=cg Y
 obtain⟨⟨C,L,w⟩,v⟩:=bU a2
 have Q:=h.all _ (aX v)
 have N:RS R 3 bQ.enc L w:=Q.rs
 have c3:=N.ap
 have b9:=N.le
 have c5:bW (bT.enc ⟨C,L,w⟩):=⟨Q.cH⟩
 refine .kn<|.seq<|.block<|.sr<|.fa rfl<|.lo rfl<|.mo rfl ?_
 refine .bA i K v (λc6=>?_)
 refine .q (.aI rfl) ?_
 refine .bN (λb4=>?_)
 refine .bG rfl rfl<|.zs<|.sr<|.fa rfl<|.lo rfl ?_
 refine .bd (jg C Q.n _) (λu a=>?_)
 subst a
 refine .q .not<|.zn ?_
 refine .cond rfl (λZ=>?_) λZ=>?_
 refine .sr<|.az rfl ?_
 refine .ret (aF (bg (aF (cz (bg (aF (aH rfl ?_)))))))
 ·refine⟨?_,rfl⟩
  rw[kd v (f:=gd) (by unfold gd;simp only;rw[show isWord C=false by simpa using Z];rfl)]
  rfl
 refine .kn<|.sr<|.az rfl<|.block ?_
 refine .cq [(1,_),(3,_),(4,_)] (X:=Nat) (λk=>k<=w.length/\(w.take k).all iA=true) (λk E=>(5,iN k)::E) (λ_ G=>G) (λk=>w.length-k) 0 ⟨Nat.zero_le _,rfl⟩ kE.c.c.c.c rH ?_
 rintro k ⟨hk,a5⟩
 refine .seq<|.sr<|.mo rfl<|.fa rfl<|.lo rfl<|.q (.bD N) ?_
 refine .q .lss<|.zn ?_
 refine .cond rfl (λh3=>?_) λh3=>?_
 have a1:k<w.length:=cg h3
 obtain⟨⟨M,D,r⟩,I⟩:=bU a1
 have B:=Q.all _ (aX I)
 have O:RS R 2 Ty.enc M r.types:=B.t
 have a7:RS R 5 Nd.enc D r.nodes:=B.d
 have c4:=O.ap
 have c2:=a7.ap
 have c0:=O.le
 have c1:bW (bQ.enc ⟨M,D,r⟩):=⟨B.cH⟩
 refine .kn<|.seq<|.block<|.sr<|.fa rfl<|.lo rfl<|.mo rfl ?_
 refine .bA k N I (λc7=>?_)
 refine .q (.aI rfl) ?_
 refine .bN (λb6=>?_)
 refine .bG rfl rfl<|.zs<|.seq ?_
 refine bp.cP [(1,_),(3,_),(4,_),(5,_),(6,_)] kE.c.c.c.c.c (X:=Unit) (λ_=>True) (λ_ E=>(48,.bool (!(isWord r.name&&fM isWord r.nodes !=0)))::E) (λ_=>[bl b6 (bQ.enc ⟨M,D,r⟩) 167,bl b4 (bT.enc ⟨C,L,w⟩) 164,bl W [V,U] 25]) ?_ ?_
 refine .region<|.fa rfl<|.lo rfl ?_
 refine .bd (jg r.name B.n _) (λu a=>?_)
 subst a
 refine .q .not<|.mo rfl ?_
 refine .split (t:=43) rfl (λg=>?_) (λg=>?_)
 refine .gF g<|.gF g<|.gF g<|.gF g<|.q (.aO g) ?_
 refine .nil ?_
 ·exact aE () trivial (kE.c.c.c.c.c.bL rfl (by grind)) rH
 refine .gT g<|.fa rfl<|.gT g<|.lo rfl<|.gT g ?_
 refine .bd ((yI D r.nodes R a7 B.fd).weaken cQ) (λu a=>?_)
 subst a
 refine .gT g<|.q .bO<|.q (.aK g) ?_
 refine .nil ?_
 ·exact aE () trivial (kE.c.c.c.c.c.bL rfl (by grind)) rH
 intro y hy
 refine aw ?_
 refine .cond rfl (λh4=>?_) λh4=>?_
 refine .sr<|.az rfl ?_
 refine .ret (aF (bg (aF (cz (bg (bg (aF (cz (bg (aF (aH rfl ?_)))))))))))
 ·refine⟨?_,rfl⟩
  rw[kd v (f:=gd) (by unfold gd;simp only;rw[kd I (f:=iA) (by unfold iA;rw[show(isWord r.name&&fM isWord r.nodes !=0)=false by grind];rfl),Bool.and_false])]
  rfl
 refine .kn<|.sr<|.az rfl<|.block ?_
 refine .cq [(1,_),(3,_),(4,_),(5,_),(6,_)] (X:=Nat) (λm=>m<=r.types.length/\(r.types.take m).all (gu isWord)=true) (λm E=>(7,iN m)::E) (λ_ G=>G) (λm=>r.types.length-m) 0 ⟨Nat.zero_le _,rfl⟩ kE.c.c.c.c.c.c rH ?_
 rintro m ⟨hm,a6⟩
 refine .seq<|.sr<|.mo rfl<|.fa rfl<|.lo rfl<|.q (.bD O) ?_
 refine .q .lss<|.zn ?_
 refine .cond rfl (λF=>?_) λF=>?_
 have a3:m<r.types.length:=cg F
 obtain⟨t,S⟩:=bU a3
 have T:=B.ft t (aX S)
 refine .kn<|.seq<|.block<|.sr<|.fa rfl<|.lo rfl<|.mo rfl ?_
 refine .bA m O S (λc8=>?_)
 refine .q (.aI rfl) ?_
 refine .bN (λb8=>?_)
 refine .bG rfl rfl<|.zs ?_
 refine bp.cP [(1,_),(3,_),(4,_),(5,_),(6,_),(7,_)] kE.c.c.c.c.c.c (X:=Unit) (λ_=>True) (λ_ E=>(79,.bool (!gu isWord t))::E) (λ_=>[bl b6 (bQ.enc ⟨M,D,r⟩) 167,bl b4 (bT.enc ⟨C,L,w⟩) 164,bl W [V,U] 25]) ?_ ?_
 refine .region<|.fa rfl<|.lo rfl<|.q .dI<|.mo rfl ?_
 refine .split (t:=64) rfl (λx=>?_) (λx=>?_)
 refine .gT x<|.fa rfl<|.gT x<|.lo rfl<|.gT x<|.q .dI<|.q (.aO x) ?_
 refine .mo rfl ?_
 refine .split (t:=69) rfl (λe=>?_) (λe=>?_)
 refine .gF e<|.gF e<|.gF e<|.gF e<|.cN rfl ?_
 refine .cN rfl ?_
 refine .cN rfl ?_
 refine .gF e<|.q (.aO e) ?_
 refine .q .not<|.nil ?_
 ·exact aE () trivial (kE.c.c.c.c.c.c.bL rfl (by grind[gu])) (aY [1,1,1])
 refine .gT e<|.fa rfl<|.gT e<|.lo rfl<|.gT e ?_
 refine .bd (jg t.space T.1 _) (λu a=>?_)
 subst a
 refine .gT e<|.mo rfl ?_
 refine .split (t:=73) rfl (λb=>?_) (λb=>?_)
 refine .gT b<|.fa rfl<|.gT b<|.lo rfl<|.gT b ?_
 refine .bd (jg t.rel T.2 _) (λu a=>?_)
 subst a
 refine .gT e<|.q (.aO b) ?_
 refine .q (.aK e) ?_
 refine .q .not<|.nil ?_
 ·exact aE () trivial (kE.c.c.c.c.c.c.bL rfl (by grind[gu])) (aY [1,1,1])
 refine .gF b<|.gF b<|.gF b<|.gT e<|.q (.aK b) ?_
 refine .q (.aK e) ?_
 refine .q .not<|.nil ?_
 ·exact aE () trivial (kE.c.c.c.c.c.c.bL rfl (by grind[gu])) (aY [1,1,1])
 refine .gF x<|.gF x<|.gF x<|.q (.aK x) ?_
 refine .mo rfl<|.gt rfl ?_
 refine .fa rfl<|.gt rfl ?_
 refine .lo rfl<|.gt rfl ?_
 refine .bd (jg t.space T.1 _) (λu a=>?_)
 subst a
 refine .gt rfl ?_
 refine .mo rfl ?_
 refine .split (t:=73) rfl (λb=>?_) (λb=>?_)
 refine .gT b<|.fa rfl<|.gT b<|.lo rfl<|.gT b ?_
 refine .bd (jg t.rel T.2 _) (λu a=>?_)
 subst a
 refine .gt rfl ?_
 refine .q (.aO b) ?_
 refine .q .cK<|.q .not<|.nil ?_
 ·exact aE () trivial (kE.c.c.c.c.c.c.bL rfl (by grind[gu])) (aY [1,1,1])
 refine .gF b<|.gF b<|.gF b<|.gt rfl ?_
 refine .q (.aK b) ?_
 refine .q .cK<|.q .not<|.nil ?_
 ·exact aE () trivial (kE.c.c.c.c.c.c.bL rfl (by grind[gu])) (aY [1,1,1])
 intro y hy
 refine aw ?_
 refine .cond rfl (λH=>?_) λH=>?_
 refine .sr<|.az rfl ?_
 refine .ret (bg (aF (cz (bg (bg (aF (cz (bg (bg (aF (cz (bg (aF (aH rfl ?_))))))))))))))
 ·refine⟨?_,rfl⟩
  rw[kd v (f:=gd) (by unfold gd;simp only;rw[kd I (f:=iA) (by unfold iA lB;rw[kd S (by simpa using H),Bool.and_false]),Bool.and_false])]
  rfl
 refine .skip<|ba<|aw<|.region<|.mo rfl ?_
 refine .ia (m+1) .add ?_
 refine .ag rfl<|.nil ?_
 ·exact bi (m+1) ⟨a3,lL S a6 (by simpa using H)⟩ (by omega) kE.c.c.c.c.c.c rH
 have b0:iA ⟨M,D,r⟩=true:=by
  have H:r.types.all (gu isWord)=true:=by rw[<-dD (l:=r.types) (i:=m) (by have:=bC F;omega)];exact a6
  have a8:(!(isWord r.name&&fM isWord r.nodes !=0))=false:=h4
  unfold iA lB
  simp only[H,Bool.and_true]
  simpa using a8
 refine .exit<|bq<|bz<|br<|ba<|aw<|.region<|.mo rfl ?_
 refine .ia (k+1) .add ?_
 refine .ag rfl<|.nil ?_
 ·exact bi (k+1) ⟨a1,lL I a5 b0⟩ (by omega) kE.c.c.c.c (aY [1,1])
 have hm:gd ⟨C,L,w⟩=true:=by
  have F:w.all iA=true:=by rw[<-dD (l:=w) (i:=k) (by have:=bC h3;omega)];exact a5
  unfold gd
  simp only[F,Bool.and_true]
  simpa using Z
 refine .exit<|bq<|bz<|br<|ba<|aw<|.region<|.mo rfl ?_
 refine .ia (i+1) .add ?_
 refine .ag rfl<|.nil ?_
 ·exact bi (i+1) ⟨a2,lL v hq hm⟩ (by omega) kE.c.c (aY [1])
 have a9:A.all gd=true:=by rw[<-dD (l:=A) (i:=i) (by have:=bC Y;omega)];exact hq
 refine .exit<|bq<|bz<|br<|aw<|.seq<|.sr<|.az rfl<|.block ?_
 refine .cq [(1,_)] (X:=Nat) (λj=>j<=z.length/\(z.take j).all (jw isWord cX)=true) (λj E=>(9,iN j)::E) (λ_ G=>G) (λj=>z.length-j) 0 ⟨Nat.zero_le _,rfl⟩ kE.c.c rH ?_
 rintro j ⟨hj,a4⟩
 refine .seq<|.sr<|.mo rfl<|.fa rfl<|.lo rfl<|.q (.bD J) ?_
 refine .q .lss<|.zn ?_
 refine .cond rfl (λh7=>?_) λh7=>?_
 have a0:j<z.length:=cg h7
 obtain⟨s,v⟩:=bU a0
 have b2:=h.fc s (aX v)
 obtain⟨f1,f2,f3,f4⟩:=b2
 refine .kn<|.seq<|.block<|.sr<|.fa rfl<|.lo rfl<|.mo rfl ?_
 refine .bA j J v (λc9=>?_)
 refine .q (.aI rfl) ?_
 refine .bN (λb3=>?_)
 refine .bG rfl rfl<|.zs ?_
 refine bp.cP [(1,_),(9,_)] kE.c.c (X:=Unit) (λ_=>True) (λ_ E=>(107,.bool (!jw isWord cX s))::E) (λ_=>[bl W [V,U] 25]) ?_ ?_
 refine .region<|.fa rfl<|.lo rfl ?_
 refine .bd (jg s.name f1 _) (λu a=>?_)
 subst a
 refine .q .not<|.mo rfl ?_
 refine .split (t:=96) rfl (λp=>?_) (λp=>?_)
 refine .gF p<|.gF p<|.gF p<|.gF p<|.q (.aO p) ?_
 refine .mo rfl<|.gX<|.gX<|.gX<|.gX<|.q .cD<|.nil ?_
 ·exact aE () trivial (kE.c.c.bL rfl (by grind[jw])) (aY [1])
 refine .gT p<|.fa rfl<|.gT p<|.q (.loadT rfl) ?_
 refine .gT p ?_
 refine .bd (ug s.jd s.ra f2 f3 _) (λu a=>?_)
 subst a
 refine .gT p<|.q .not<|.q (.aK p) ?_
 refine .mo rfl ?_
 refine .split (t:=102) rfl (λo=>?_) (λo=>?_)
 refine .gF o<|.gF o<|.gF o<|.gF o<|.q (.aO o) ?_
 refine .nil ?_
 ·exact aE () trivial (kE.c.c.bL rfl (by grind[jw])) (aY [1])
 refine .gT o<|.fa rfl<|.gT o<|.lo rfl<|.gT o ?_
 refine .bd (jg s.rel f4 _) (λu a=>?_)
 subst a
 refine .gT o<|.q .not<|.q (.aK o) ?_
 refine .nil ?_
 ·exact aE () trivial (kE.c.c.bL rfl (by grind[jw])) (aY [1])
 intro y hy
 refine aw ?_
 refine .cond rfl (λh8=>?_) λh8=>?_
 refine .sr<|.az rfl ?_
 refine .ret (bg (aF (cz (bg (aF (aH rfl ?_))))))
 ·refine⟨?_,rfl⟩
  rw[kd v (by simpa using h8),Bool.and_false]
  rfl
 refine .skip<|ba<|aw<|.region<|.mo rfl ?_
 refine .ia (j+1) .add ?_
 refine .ag rfl<|.nil ?_
 ·exact bi (j+1) ⟨a0,lL v a4 (by simpa using h8)⟩ (by omega) kE.c.c rH
 refine .exit<|bq<|bz<|br<|aw<|.sr<|.q (.aI rfl) ?_
 refine .bd ((Mv ⟨V,U,A,z⟩ R h).weaken cQ) (λu a=>?_)
 subst a
 refine .q .not<|.az rfl ?_
 refine .ret (aH rfl ?_)
 ·refine⟨?_,rfl⟩
  have h9:z.all (jw isWord cX)=true:=by rw[<-dD (l:=z) (i:=j) (by have:=bC h7;omega)];exact a4
  rw[a9,h9]
  rfl
abbrev Nm:=ByteArray×bQ
def lR(x:Nm):List Value:=.string x.1::x.2.enc
def Nm.p(x:Nm):ByteArray×Rl:=(x.1,x.2.r)
def bE.eY(c:bE):List Nm:=c.aR.flatMap λs=>s.bI.map λr=>(s.name,r)
theorem mT(c:bE):c.eY.map Nm.p=c.plain.all:=by
 unfold bE.eY Cf.all bE.plain
 simp[List.map_flatMap,List.flatMap_map,bT.plain,Nm.p,Function.comp_def]
def bE.fW(c:bE):Prop:=c.aR.length<=16/\∀s∈c.aR,s.bI.length<=16
theorem sY{α β:Type}{f:α->List β}{n:Nat}:∀{l:List α},(∀x∈l,(f x).length<=n)->(l.flatMap f).length<=l.length*n
 |[],_=>by simp
 |x::l,h=>by
  have b:=h x List.mem_cons_self
  have c:=sY λy a=>h y (List.mem_cons_of_mem _ a)
  rw[List.flatMap_cons,List.length_append,List.length_cons,Nat.succ_mul]
  omega
theorem bE.fW.eY{c:bE}(h:c.fW):c.eY.length<=256:=by
 have:=sY (f:=λs:bT=>s.bI.map λr=>(s.name,r)) (n:=16) (l:=c.aR) λs a=>by rw[List.length_map];exact h.2 s a
 have b:=h.1
 unfold bE.eY
 omega
structure oB(R:aB)(v:Value)(L:List Nm):Prop where
 rs:RS R 4 lR v L
 all:∀x∈L,x.2.is R
theorem La{R:aB}{x:Nm}(h:x.2.is R):∀u∈lR x,ap u=true:=by
 intro u hu
 rcases List.mem_cons.1 hu with rfl|hu
 ·rfl
 ·exact h.cH u hu
theorem tF{c:bE}{R:aB}(h:c.is R):∀x∈c.eY,x.2.is R:=by
 intro x a
 obtain⟨s,d,a⟩:=List.mem_flatMap.1 a
 obtain⟨r,b,rfl⟩:=List.mem_map.1 a
 exact(h.all s d).all r b
theorem rn(c:bE)(R:aB)(h:c.is R)(v:c.fW):Spec prog 79 [.agg c.enc.toArray] R [] λu H'=>∃T,H'=[T]/\OS 263 4 lR u c.eY T:=by
 have hN:=v.eY
 obtain⟨vs,vc,b,a7⟩:=c
 have e:=h.ss
 have U:=e.ap
 have V:=h.sc.ap
 simp only at e U V⊢
 have a1:=e.le
 have S:∀i s k,b[i]? =some s->((b.take i).flatMap (λs=>s.bI.map λr=>((s.name,r):Nm))++(s.bI.take k).map λr=>((s.name,r):Nm)).length<=512:=λi s k a=>by
  rw[List.length_append,List.length_map]
  have o:=sY (f:=λs:bT=>s.bI.map λr=>((s.name,r):Nm)) (n:=16) (l:=b.take i) λs a=>by rw[List.length_map];exact v.2 s (List.mem_of_mem_take a)
  have p:(b.take i).length<=16:=by rw[List.length_take];have:=v.1;simp only at this;omega
  have h3:=v.2 s (aX a)
  have h4:(s.bI.take k).length<=16:=by rw[List.length_take];omega
  omega
 refine Spec.body Tryz.func79 rfl Tryz.results79 Tryz.ntmps79 rfl ?_
 refine .sr ?_
 refine .bX rfl (λb1=>?_)
 refine .ag rfl<|.z<|.ag rfl<|.zs<|.sr<|.az rfl<|.block ?_
 refine .cq [(1,_)] (X:=Nat×Value×aA) (λy=>y.1<=b.length/\OS 263 4 lR y.2.1 ((b.take y.1).flatMap λs=>s.bI.map λr=>((s.name,r):Nm)) y.2.2) (λy E=>(4,iN y.1)::(3,y.2.1)::E) (λy G=>y.2.2::G) (λy=>b.length-y.1) (0,sZ,[]) ⟨Nat.zero_le _,OS.nil⟩ kE.c.c.c bf.gw ?_
 rintro⟨i,Z,B⟩ ⟨N,g⟩
 simp only at N g⊢
 have io:=g.ap
 refine .seq<|.sr<|.mo rfl<|.fa rfl<|.lo rfl<|.q (.bD e) ?_
 refine .q .lss<|.zn ?_
 refine .cond rfl (λo=>?_) λo=>?_
 have F:i<b.length:=cg o
 obtain⟨s,a⟩:=bU F
 have H:=h.all _ (aX a)
 have m:=H.rs
 have a4:=m.ap
 have a2:=m.le
 refine .kn<|.seq<|.block<|.sr<|.az rfl<|.block ?_
 refine .cq [(1,_),(4,_)] (X:=Nat×Value×aA) (λy=>y.1<=s.bI.length/\OS 263 4 lR y.2.1 (((b.take i).flatMap λs=>s.bI.map λr=>((s.name,r):Nm))++(s.bI.take y.1).map λr=>((s.name,r):Nm)) y.2.2) (λy E=>(5,iN y.1)::(3,y.2.1)::E) (λy G=>y.2.2::G) (λy=>s.bI.length-y.1) (0,Z,B) ⟨Nat.zero_le _,by simpa using g⟩ kE.c.c.c.c rH ?_
 rintro⟨k,W,L⟩ ⟨O,j⟩
 simp only at O j⊢
 have i3:=j.ap
 refine .seq<|.sr<|.mo rfl<|.fa rfl<|.lo rfl<|.mo rfl ?_
 refine .bA i e a (λa6=>?_)
 refine .fa rfl<|.lo rfl<|.q (.bD m) ?_
 refine .q .lss<|.zn ?_
 refine .cond rfl (λp=>?_) λp=>?_
 have D:k<s.bI.length:=cg p
 obtain⟨⟨K,J,r⟩,w⟩:=bU D
 have A:=H.all _ (aX w)
 have a5:One K:=RS.ap A.t
 have a3:One J:=RS.ap A.d
 have p1:=e.pc a
 have p2:=m.pc w
 refine .kn<|.seq<|.block<|.dt [18] mixed ?_
 refine .tO 0 rfl .move<|.tO 1 rfl (.fieldAddr rfl)<|.tO 2 rfl (.cI rfl)<|.tO 3 rfl .move ?_
 refine .tO 4 rfl (.bA i e a rfl rfl rfl) ?_
 refine .tO 5 rfl (.fieldAddr rfl)<|.tO 6 rfl (.cI rfl)<|.tO 7 rfl (.fieldAddr rfl)<|.tO 8 rfl (.cI rfl)<|.tO 9 rfl .move ?_
 refine .tO 10 rfl (.bA i e a rfl rfl rfl) ?_
 refine .tO 11 rfl (.fieldAddr rfl)<|.tO 12 rfl (.cI rfl)<|.tO 13 rfl .move ?_
 refine .tO 14 rfl (.bA k m w rfl rfl rfl) ?_
 refine .tO 15 rfl (.aI rfl) ?_
 refine .tO 16 rfl .cO ?_
 refine .sT 17 rfl ?_
 refine .dA (λa0=>?_)
 refine .nil (Next.sub ?_)
 refine .sT 18 rfl ?_
 refine .append j (RS.lits (xs:=[((s.name,⟨K,J,r⟩):Nm)]) rfl (by simp[lR,bQ.enc]) (by intro x I;rw[List.mem_singleton]at I;subst I;exact La A)) (by have:=S i s k a;simp only[List.length_singleton];omega) (λY M C=>?_)
 have i5:=C.ap
 refine .nil (Next.mod rfl ?_)
 refine .tK 19 rfl .assign ?_
 refine RA.nil (by kernel_rfl) ?_
 refine ba<|aw<|.region<|.mo rfl ?_
 refine .ia (k+1) .add ?_
 refine .ag rfl<|.nil ?_
 ·exact bi (k+1,Y,M) ⟨D,by simp only;rw[dS w,List.map_append, <-List.append_assoc];exact C⟩ (by simp only;omega) kE.c.c.c.c (aY [1,1])
 have Q:s.bI.length<=k:=by have:=bC p;omega
 rw[dD Q]at j
 refine .exit<|bq<|bz<|br<|ba<|aw<|.region<|.mo rfl ?_
 refine .ia (i+1) .add ?_
 refine .ag rfl<|.nil ?_
 ·exact bi (i+1,W,L) ⟨F,by simp only;rw[dS a,List.flatMap_append];simpa using j⟩ (by simp only;omega) kE.c.c.c rH
 refine .exit<|bq<|bz<|br<|aw<|.sr<|.mo rfl<|.az rfl ?_
 refine .ret (bj _ (.one (.tmp rfl)) (.one [0] _) ?_)
 ·refine⟨B,by simp[take],?_⟩
  rw[dD (gV o)]at g
  exact g
def fI(o:Option Nat):Int:=match o with|none=> -1|some i=>i
theorem mY(v:Value)(L:List Nm)(R:aB)(h:oB R v L)(f b:ByteArray):
  Spec prog 141 [v,.string f,.string b] R [] λu H'=>u=.int .i64 (fI (bM (L.map Nm.p) ⟨f,b⟩))/\H'=[]:=by
 have k:=h.rs
 have M:=k.le
 have Q:=k.ap
 refine Spec.body Tryz.func141 rfl Tryz.results141 Tryz.ntmps141 rfl ?_
 refine .sr<|.ag rfl<|.zs<|.sr<|.az rfl<|.block ?_
 refine .cq [(0,_),(1,_),(2,_)] (X:=Nat) (λi=>i<=L.length/\∀j x,j<i->L[j]? =some x->dL x.p≠⟨f,b⟩) (λi E=>(7,iN i)::E) (λ_ G=>G) (λi=>L.length-i) 0 ⟨Nat.zero_le _,λj x g=>absurd g (by omega)⟩ kE.c.c.c.c rH ?_
 rintro i ⟨K,z⟩
 refine .seq<|.sr<|.mo rfl<|.mo rfl<|.q (.bD k) ?_
 refine .q .lss<|.zn ?_
 refine .cond rfl (λo=>?_) λo=>?_
 have w:i<L.length:=cg o
 obtain⟨⟨n,J,I,r⟩,l⟩:=bU w
 have B:=h.all _ (aX l)
 have O:One J:=RS.ap B.t
 have N:One I:=RS.ap B.d
 refine .kn<|.seq<|.block<|.seq ?_
 refine bp.cP [(0,_),(1,_),(2,_),(7,_)] kE.c.c.c.c (X:=Unit) (λ_=>True) (λ_ E=>(30,.bool (decide (n=f)&&decide (r.name=b)))::E) (λ_=>[]) ?_ ?_
 refine .region<|.mo rfl<|.mo rfl ?_
 refine .bA i k l (λS=>?_)
 refine .fa rfl<|.lo rfl<|.mo rfl<|.q .dI<|.mo rfl ?_
 refine .split (t:=21) rfl (λa=>?_) (λa=>?_)
 refine .gT a<|.mo rfl<|.gT a<|.mo rfl<|.gT a ?_
 refine .bA i k l (λT=>?_)
 refine .gT a<|.fa rfl<|.gT a<|.fa rfl<|.gT a<|.lo rfl<|.gT a<|.mo rfl<|.gT a<|.q .dI<|.q (.aO a) ?_
 refine .nil ?_
 ·exact aE () trivial (kE.c.c.c.c.bL rfl (by grind)) rH
 refine .gF a<|.gF a<|.gF a<|.gF a<|.gF a<|.gF a<|.gF a<|.gF a<|.q (.aK a) ?_
 refine .nil ?_
 ·exact aE () trivial (kE.c.c.c.c.bL rfl (by grind)) rH
 intro y C
 refine aw ?_
 refine .cond rfl (λs=>?_) λs=>?_
 refine .sr<|.mo rfl<|.az rfl ?_
 refine .ret (bg (aF (cz (bg (aF (aH rfl ?_))))))
 ·refine⟨?_,rfl⟩
  have A:n=f/\r.name=b:=by simpa using s
  have:bM (L.map Nm.p) ⟨f,b⟩=some i:=by
   unfold bM
   rw[List.findIdx?_eq_some_iff_getElem]
   refine⟨by rw[List.length_map];exact w,?_,λj g=>?_⟩
   ·have e:=(List.getElem?_eq_some_iff.1 l).2
    rw[List.getElem_map,e]
    exact decide_eq_true (by show(⟨n,r.name⟩:Ty)=_;rw[A.1,A.2])
   ·rw[List.getElem_map]
    have:=z j _ g (bB (by omega))
    simpa using this
  rw[this]
  rfl
 refine .skip<|ba<|aw<|.region<|.mo rfl ?_
 refine .ia (i+1) .add ?_
 refine .ag rfl<|.nil ?_
 ·exact bi (i+1) ⟨w,λj x g m=>by
   rcases Nat.lt_or_ge j i with hh|hh
   ·exact z j x hh m
   ·obtain rfl:j=i:=by omega
    rw[l]at m
    cases m
    intro D
    injection D with k1 k2
    have F:n=f:=k1
    have H:r.name=b:=k2
    subst F;subst H
    simp at s⟩ (by omega) kE.c.c.c.c rH
 refine .exit<|bq<|bz<|br<|aw<|.sr<|.az rfl ?_
 refine .ret (aH rfl ?_)
 ·refine⟨?_,rfl⟩
  have:bM (L.map Nm.p) ⟨f,b⟩=none:=by
   unfold bM
   rw[List.findIdx?_eq_none_iff]
   intro x m
   obtain⟨y,C,rfl⟩:=List.mem_map.1 m
   obtain⟨j,g,e⟩:=List.mem_iff_getElem.1 C
   have:=z j y (by have:=bC o;omega) (by rw[bB g,e])
   simpa using this
  rw[this]
  rfl
theorem tG{α:Type}{l:List α}{i:Nat}{x:α}(j:l[i]? =some x)(h:(l.take i).Nodup)(g:∀k y,k<i->l[k]? =some y->y≠x):(l.take (i+1)).Nodup:=by
 rw[dS j,List.nodup_append]
 refine⟨h,by simp,λa d b c=>?_⟩
 rw[List.mem_singleton]at c
 subst c
 obtain⟨k,f,e⟩:=List.mem_iff_getElem.1 d
 rw[List.length_take]at f
 exact g k a (by omega) (by rw[List.getElem_take]at e;rw[bB (by omega),e])
theorem lp{α:Type}{l:List α}{i k:Nat}{x y:α}(f:k<i)(g:l[i]? =some x)(j:l[k]? =some y)(e:x=y):¬l.Nodup:=by
 intro h
 obtain⟨a,b⟩:=List.getElem?_eq_some_iff.1 g
 obtain⟨c,d⟩:=List.getElem?_eq_some_iff.1 j
 have:=(List.nodup_iff_pairwise_ne.1 h)
 rw[List.pairwise_iff_getElem]at this
 exact this k i c a f (by rw[d,b,e])
theorem yN{L:List (ByteArray×Rl)}{i:Nat}{x:ByteArray×Rl}(a:L[i]? =some x):∃j,bM L (dL x)=some j/\j<=i/\∃y,L[j]? =some y/\dL y=dL x:=by
 cases h:bM L (dL x)with
 |none=>
  unfold bM at h
  rw[List.findIdx?_eq_none_iff]at h
  have:=h x (aX a)
  simp at this
 |some j=>
  unfold bM at h
  rw[List.findIdx?_eq_some_iff_getElem]at h
  obtain⟨b,c,d⟩:=h
  refine⟨j,rfl,?_,_,bB b,cv c⟩
  rcases Nat.lt_or_ge i j with h4|h4
  ·have:=d i h4
   rw[(List.getElem?_eq_some_iff.1 a).2]at this
   simp at this
  ·exact h4
theorem MI(c:bE)(R:aB)(h:c.is R)(hf:c.fW):Spec prog 77 [.agg c.enc.toArray] R [] λu H'=>u=.bool (!decide c.plain.dG)/\H'=[]:=by
 have a8:=mT c
 have a4:=tF h
 have a9:=rn c R h hf
 have U:c.plain.dG↔(c.aR.map (·.name)).Nodup/\((c.eY.map Nm.p).map dL).Nodup/\(c.scopes.map (·.name)).Nodup:=by
  unfold Cf.dG
  rw[<-a8]
  simp only[bE.plain,List.map_map]
  exact Iff.rfl
 generalize hL:c.eY=L at *
 obtain⟨vs,vc,l,g⟩:=c
 have H:=h.ss
 have F:=h.sc
 have i1:=H.ap
 have a:=F.ap
 simp only at H F i1 a U⊢
 have c3:=H.le
 have c2:=F.le
 refine Spec.body Tryz.func77 rfl Tryz.results77 Tryz.ntmps77 rfl ?_
 refine .sr ?_
 refine .bX rfl (λb1=>?_)
 refine .ag rfl<|.zs<|.sr<|.az rfl<|.block ?_
 refine .cq [(1,_)] (X:=Nat) (λi=>i<=l.length/\((l.map (·.name)).take i).Nodup) (λi E=>(3,iN i)::E) (λ_ G=>G) (λi=>l.length-i) 0 ⟨Nat.zero_le _,by simp⟩ kE.c.c rH ?_
 rintro i ⟨hi,w⟩
 refine .seq<|.sr<|.mo rfl<|.fa rfl<|.lo rfl<|.q (.bD H) ?_
 refine .q .lss<|.zn ?_
 refine .cond rfl (λW=>?_) λW=>?_
 have M:i<l.length:=cg W
 obtain⟨s,N⟩:=bU M
 have O:(l.map (·.name))[i]? =some s.name:=by rw[List.getElem?_map,N];rfl
 refine .kn<|.seq<|.block<|.sr<|.az rfl<|.block ?_
 refine .cq [(1,_),(3,_)] (X:=Nat) (λk=>k<=i/\∀j y,j<k->(l.map (·.name))[j]? =some y->y≠s.name) (λk E=>(4,iN k)::E) (λ_ G=>G) (λk=>i-k) 0 ⟨Nat.zero_le _,λj y J=>absurd J (by omega)⟩ kE.c.c.c rH ?_
 rintro k ⟨hk,A⟩
 refine .seq<|.sr<|.mo rfl<|.mo rfl<|.q .lss<|.zn ?_
 refine .cond rfl (λY=>?_) λY=>?_
 have K:k<i:=cg Y
 obtain⟨t,S⟩:∃t,l[k]? =some t:=⟨_,bB (by omega)⟩
 have T:(l.map (·.name))[k]? =some t.name:=by rw[List.getElem?_map,S];rfl
 refine .kn<|.seq<|.block<|.seq ?_
 refine .fq mixed (by kernel_rfl) ?_
 refine .fa rfl<|.lo rfl<|.mo rfl ?_
 refine .bA i H N (λc8=>?_)
 refine .fa rfl<|.lo rfl<|.fa rfl<|.lo rfl<|.mo rfl ?_
 refine .bA k H S (λc9=>?_)
 refine .fa rfl<|.lo rfl<|.q .dI<|.zn ?_
 refine .cond rfl (λV=>?_) λV=>?_
 refine .sr<|.az rfl ?_
 refine .ret (bg (aF (cz (bg (bg (aF (cz (bg (aF (aH rfl ?_))))))))))
 ·refine⟨?_,rfl⟩
  rw[decide_eq_false λhh=>lp K O T (by simpa using V) (U.1 hh).1]
  rfl
 refine .skip<|ba<|aw<|.region<|.mo rfl ?_
 refine .ia (k+1) .add ?_
 refine .ag rfl<|.nil ?_
 ·exact bi (k+1) ⟨K,λj y J f=>by
   rcases Nat.lt_or_ge j k with hh|hh
   ·exact A j y hh f
   ·obtain rfl:j=k:=by omega
    rw[T]at f
    cases f
    intro e
    rw[e]at V
    simp at V⟩ (by omega) kE.c.c.c rH
 have a0:k=i:=by have:=bC Y;omega
 rw[a0]at A
 refine .exit<|bq<|bz<|br<|ba<|aw<|.region<|.mo rfl ?_
 refine .ia (i+1) .add ?_
 refine .ag rfl<|.nil ?_
 ·exact bi (i+1) ⟨M,tG O w A⟩ (by omega) kE.c.c rH
 have b0:(l.map (·.name)).Nodup:=by rw[dD (by rw[List.length_map];have:=bC W;omega)]at w;exact w
 refine .exit<|bq<|bz<|br<|aw<|.sr<|.q (.aI rfl) ?_
 refine .da (a9.weaken cQ) (λu T5 B=>?_)
 have i5:=B.ap
 have c4:=B.le
 refine .ag rfl<|.zs<|.sr<|.az rfl<|.block ?_
 refine .cq [(1,_),(5,_)] (X:=Nat) (λi=>i<=L.length/\(((L.map Nm.p).map dL).take i).Nodup) (λi E=>(6,iN i)::E) (λ_ G=>G) (λi=>L.length-i) 0 ⟨Nat.zero_le _,by simp⟩ kE.c.c.c rH ?_
 rintro a ⟨c0,a1⟩
 refine .seq<|.sr<|.mo rfl<|.mo rfl<|.q (.ej B) ?_
 refine .q .lss<|.zn ?_
 refine .cond rfl (λZ=>?_) λZ=>?_
 have a3:a<L.length:=cg Z
 obtain⟨⟨C,vt,vn,r⟩,Q⟩:=bU a3
 have a7:=a4 _ (aX Q)
 have c7:One vt:=RS.ap a7.t
 have c6:One vn:=RS.ap a7.d
 have a5:(L.map Nm.p)[a]? =some (C,r):=by rw[List.getElem?_map,Q];rfl
 have a6:((L.map Nm.p).map dL)[a]? =some ⟨C,r.name⟩:=by rw[List.getElem?_map,a5];rfl
 obtain⟨n,b5,c1,yf,b7,b9⟩:=yN a5
 have a2:bM (L.map Nm.p) ⟨C,r.name⟩=some n:=b5
 have pq:PS T5 (eR u (a*4)) (lR (C,⟨vt,vn,r⟩)):=⟨B.pc Q⟩
 refine .kn<|.seq<|.block<|.seq<|.dt [12] mixed ?_
 refine .tO 0 rfl .move<|.tO 1 rfl .move<|.tO 2 rfl .move ?_
 refine RA.bo 3 rfl a B Q rfl rfl rfl (by kernel_rfl) (λd0=>?_)
 refine .tO 4 rfl (.fieldAddr rfl)<|.tO 5 rfl (.cI rfl)<|.tO 6 rfl .move<|.tO 7 rfl .move ?_
 refine RA.bo 8 rfl a B Q rfl rfl rfl (by kernel_rfl) (λd1=>?_)
 refine .tO 9 rfl (.fieldAddr rfl)<|.tO 10 rfl (.fieldAddr rfl)<|.tO 11 rfl (.cI rfl)<|.tK 13 rfl .move ?_
 refine .sT 12 rfl ?_
 refine .bd (mY u L _ ⟨B.rx,λx hx=>(a4 x hx).mono λb o hb=>.inl hb⟩ C r.name) (λv hv=>?_)
 subst hv
 rw[a2]
 refine .nil (Next.mod rfl ?_)
 refine .tK 14 rfl .dQ ?_
 refine RA.nil (by kernel_rfl) ?_
 refine aw ?_
 refine .cond rfl (λh5=>?_) λh5=>?_
 refine .sr<|.az rfl ?_
 refine .ret (bg (aF (cz (bg (aF (aH rfl ?_))))))
 ·refine⟨?_,rfl⟩
  have c5:n≠a:=by
   intro e
   subst e
   simp[fI]at h5
  have b8:((L.map Nm.p).map dL)[n]? =some ⟨C,r.name⟩:=by rw[List.getElem?_map,b7];exact congrArg some b9
  rw[decide_eq_false λhh=>lp (show n<a by omega) a6 b8 rfl (U.1 hh).2.1]
  rfl
 have b4:n=a:=by
  have m:(fI (some n)==(a:Int))=true:=by simpa using h5
  have D:fI (some n)=(a:Int):=by simpa using m
  have I:(n:Int)=(a:Int):=D
  omega
 refine .skip<|ba<|aw<|.region<|.mo rfl ?_
 refine .ia (a+1) .add ?_
 refine .ag rfl<|.nil ?_
 ·exact bi (a+1) ⟨a3,tG a6 a1 λk y hk f=>by
   intro e
   subst e
   rw[List.getElem?_map]at f
   cases hz:(L.map Nm.p)[k]? with
   |none=>rw[hz]at f;cases f
   |some z=>
    rw[hz]at f
    have b6:dL z=⟨C,r.name⟩:=by simpa using f
    obtain⟨j2,m,D,_⟩:=yN hz
    rw[b6,a2,b4]at m
    cases m
    omega⟩ (by omega) kE.c.c.c rH
 have b2:((L.map Nm.p).map dL).Nodup:=by rw[dD (by simp only[List.length_map];have:=bC Z;omega)]at a1;exact a1
 refine .exit<|bq<|bz<|br<|aw<|.seq<|.sr<|.az rfl<|.block ?_
 refine .cq [(1,_)] (X:=Nat) (λi=>i<=g.length/\((g.map (·.name)).take i).Nodup) (λi E=>(7,iN i)::E) (λ_ G=>G) (λi=>g.length-i) 0 ⟨Nat.zero_le _,by simp⟩ kE.c.c rH ?_
 rintro i ⟨hi,w⟩
 refine .seq<|.sr<|.mo rfl<|.fa rfl<|.lo rfl<|.q (.bD F) ?_
 refine .q .lss<|.zn ?_
 refine .cond rfl (λm=>?_) λm=>?_
 have M:i<g.length:=cg m
 obtain⟨s,N⟩:=bU M
 have O:(g.map (·.name))[i]? =some s.name:=by rw[List.getElem?_map,N];rfl
 refine .kn<|.seq<|.block<|.sr<|.az rfl<|.block ?_
 refine .cq [(1,_),(7,_)] (X:=Nat) (λk=>k<=i/\∀j y,j<k->(g.map (·.name))[j]? =some y->y≠s.name) (λk E=>(8,iN k)::E) (λ_ G=>G) (λk=>i-k) 0 ⟨Nat.zero_le _,λj y J=>absurd J (by omega)⟩ kE.c.c.c rH ?_
 rintro k ⟨hk,A⟩
 refine .seq<|.sr<|.mo rfl<|.mo rfl<|.q .lss<|.zn ?_
 refine .cond rfl (λD=>?_) λD=>?_
 have K:k<i:=cg D
 obtain⟨t,S⟩:∃t,g[k]? =some t:=⟨_,bB (by omega)⟩
 have T:(g.map (·.name))[k]? =some t.name:=by rw[List.getElem?_map,S];rfl
 refine .kn<|.seq<|.block<|.seq ?_
 refine .fq mixed (by kernel_rfl) ?_
 refine .fa rfl<|.lo rfl<|.mo rfl ?_
 refine .bA i F N (λd2=>?_)
 refine .fa rfl<|.lo rfl<|.fa rfl<|.lo rfl<|.mo rfl ?_
 refine .bA k F S (λd3=>?_)
 refine .fa rfl<|.lo rfl<|.q .dI<|.zn ?_
 refine .cond rfl (λI=>?_) λI=>?_
 refine .sr<|.az rfl ?_
 refine .ret (bg (aF (cz (bg (bg (aF (cz (bg (aF (aH rfl ?_))))))))))
 ·refine⟨?_,rfl⟩
  rw[decide_eq_false λhh=>lp K O T (by simpa using I) (U.1 hh).2.2]
  rfl
 refine .skip<|ba<|aw<|.region<|.mo rfl ?_
 refine .ia (k+1) .add ?_
 refine .ag rfl<|.nil ?_
 ·exact bi (k+1) ⟨K,λj y J f=>by
   rcases Nat.lt_or_ge j k with hh|hh
   ·exact A j y hh f
   ·obtain rfl:j=k:=by omega
    rw[T]at f
    cases f
    intro e
    rw[e]at I
    simp at I⟩ (by omega) kE.c.c.c rH
 have a0:k=i:=by have:=bC D;omega
 rw[a0]at A
 refine .exit<|bq<|bz<|br<|ba<|aw<|.region<|.mo rfl ?_
 refine .ia (i+1) .add ?_
 refine .ag rfl<|.nil ?_
 ·exact bi (i+1) ⟨M,tG O w A⟩ (by omega) kE.c.c rH
 have b3:(g.map (·.name)).Nodup:=by rw[dD (by rw[List.length_map];have:=bC m;omega)]at w;exact w
 refine .exit<|bq<|bz<|br<|aw<|.sr<|.az rfl ?_
 refine .ret (aH rfl ?_)
 ·refine⟨?_,rfl⟩
  rw[decide_eq_true (U.2 ⟨b0,b2,b3⟩)]
  rfl
def dc(n:Nat):List Value:=[iN n]
abbrev ku:=Int×Int×Bool
def iJ(e:ku):List Value:=[.int .i64 e.1,.int .i64 e.2.1,.bool e.2.2]
instance(e:ku):bW (iJ e):=⟨by simp[iJ,ap]⟩
def Ed.m(e:Ed):ku:=(e.f,e.t,e.a)
theorem KD{E:List Ed}{now:List Nat}{n j:Nat}{e:Ed}(a:E[j]? =some e):(E.take (j+1)).foldl (eL now) (List.replicate n 0)=eL now ((E.take j).foldl (eL now) (List.replicate n 0)) e:=by rw[dS a,List.foldl_append];rfl
theorem yS(v:Value)(E:List Ed)(n o:Nat)(R:aB)(h:RS R 3 iJ v (E.map Ed.m))(L:∀e∈E,e.f<n/\e.t<n)(hn:n<=1000000)(hs:o<=1000000):
  Spec prog 80 [v,iN n,iN o] R [] λu H'=>∃T,H'=[T]/\OS 3 1 dc u (level E n o) T:=by
 have a5:=h.le
 have iv:=h.ap
 have Y:∀e∈E,e.f<n:=λe A=>(L e A).1
 rw[List.length_map]at a5
 refine Spec.body Tryz.func80 rfl Tryz.results80 Tryz.ntmps80 rfl ?_
 refine .sr<|.ag rfl<|.z<|.mo rfl ?_
 refine .makeSlice (enc:=dc) n 0 rfl rfl (by decide) (by simp[dc,ap]) rfl rfl (by omega) (by omega) (λb7 p Z=>?_)
 refine .ag rfl<|.zs<|.sr<|.az rfl<|.block ?_
 refine .cq [(0,_),(1,_),(2,_)] (X:=Nat×Value×aA) (λy=>y.1<=o/\OS 3 1 dc y.2.1 (level E n y.1) y.2.2) (λy E=>(8,iN y.1)::(7,y.2.1)::E) (λy G=>y.2.2::G) (λy=>o-y.1) (0,_,p) ⟨Nat.zero_le _,Z⟩ kE.c.c.c.c.c rH ?_
 rintro⟨s,v7,p⟩ ⟨b0,B⟩
 simp only at b0 B⊢
 have i7:=B.ap
 have a6:∀i,(level E n s).getD i 0<=s:=tg Y s
 have b3:(level E n s).length=n:=jK s
 generalize O:level E n s=now at *
 refine .seq<|.sr<|.mo rfl<|.mo rfl<|.q .lss<|.zn ?_
 refine .cond rfl (λF=>?_) λF=>?_
 have b1:s<o:=cg F
 refine .kn<|.seq<|.block<|.sr<|.mo rfl ?_
 refine .makeSlice (enc:=dc) n 0 rfl rfl (by decide) (by simp[dc,ap]) rfl rfl (by omega) (by omega) (λD r g=>?_)
 refine .ag rfl<|.zs<|.sr<|.az rfl<|.block ?_
 refine .cq [(0,_),(1,_),(2,_),(7,_),(8,_),(9,_)] (X:=Nat×aA) (λy=>y.1<=E.length/\OS 3 1 dc (.slice (some ⟨D,0,none⟩) n n) ((E.take y.1).foldl (eL now) (List.replicate n 0)) y.2) (λy E=>(10,iN y.1)::E) (λy G=>y.2::G) (λy=>E.length-y.1) (0,r) ⟨Nat.zero_le _,g⟩ kE.c.c.c.c.c.c.c rH ?_
 rintro⟨j,r⟩ ⟨hj,g⟩
 simp only at hj g⊢
 refine .seq<|.sr<|.mo rfl<|.mo rfl<|.q (.bD h) ?_
 rw[List.length_map]
 refine .q .lss<|.zn ?_
 refine .cond rfl (λH=>?_) λH=>?_
 have N:j<E.length:=cg H
 obtain⟨e,A⟩:=bU N
 have a1:(E.map Ed.m)[j]? =some e.m:=by rw[List.getElem?_map,A];rfl
 obtain⟨a2,a3⟩:=L e (aX A)
 obtain⟨b,l,k⟩:=e
 simp only at a2 a3
 have b4:((E.take j).foldl (eL now) (List.replicate n 0)).length=n:=by rw[td,List.length_replicate]
 generalize a8:(E.take j).foldl (eL now) (List.replicate n 0)=nx at *
 have a7:(E.take (j+1)).foldl (eL now) (List.replicate n 0)=eL now nx ⟨b,l,k⟩:=by rw[KD A,a8]
 obtain⟨a,M⟩:∃a,now[l]? =some a:=⟨_,bB (by omega)⟩
 obtain⟨z,C⟩:∃z,nx[b]? =some z:=⟨_,bB (by omega)⟩
 have K:now.getD l 0=a:=by rw[List.getD_eq_getElem?_getD,M];rfl
 have S:nx.getD b 0=z:=by rw[List.getD_eq_getElem?_getD,C];rfl
 have a0:=a6 l
 rw[K]at a0
 refine .kn<|.seq<|.block<|.sr<|.mo rfl<|.mo rfl ?_
 refine .bA j h a1 (λb5=>?_)
 refine .q (.aI rfl) ?_
 refine .bN (λV=>?_)
 refine .bG rfl rfl<|.z<|.mo rfl<|.fa rfl<|.lo rfl ?_
 refine .bo l B M (λb6=>?_)
 refine .lo rfl<|.ag rfl<|.zs<|.sr<|.fa rfl<|.lo rfl<|.zn ?_
 refine bp.cP [(0,_),(1,_),(2,_),(7,_),(8,_),(9,_),(10,_),(11,_)] kE.c.c.c.c.c.c.c.c (X:=Unit) (λ_=>True) (λ_ E=>(12,.int .i64 ((a+(if k then 1 else 0):Nat):Int))::E) (λ_=>[bl V (iJ (Ed.m ⟨b,l,k⟩)) 266,r,p]) ?_ ?_
 refine .cond rfl (λI=>?_) λI=>?_
 refine .region<|.mo rfl ?_
 refine .ia (a+1) .add ?_
 refine .ag rfl<|.nil ?_
 ·exact aE () trivial (kE.c.c.c.c.c.c.c.c.lQ rfl (by have h:k=_:=I;simp[h])) rH
 refine .skip ?_
 ·exact aE () trivial (kE.c.c.c.c.c.c.c.c.lQ rfl (by have h:k=_:=I;simp[h])) rH
 intro x Q
 refine aw<|.sr<|.mo rfl<|.mo rfl<|.fa rfl<|.lo rfl ?_
 refine .bo b g C (λb8=>?_)
 refine .lo rfl<|.q .gtr<|.zn ?_
 refine bp.cP [(0,_),(1,_),(2,_),(7,_),(8,_),(9,_),(10,_)] kE.c.c.c.c.c.c.c (X:=aA) (λT=>OS 3 1 dc (.slice (some ⟨D,0,none⟩) n n) (eL now nx ⟨b,l,k⟩) T) (λ_ E=>E) (λT=>[T,p]) ?_ ?_
 refine .cond rfl (λJ=>?_) λJ=>?_
 refine .region<|.mo rfl<|.fa rfl<|.lo rfl<|.mo rfl ?_
 refine .bo b g C (λc0=>?_)
 refine .kP b g C (a+(if k then 1 else 0)) (λU W=>?_)
 refine .nil ?_
 ·exact aE U (by unfold eL Ed.w;simp only;rw[K,S,if_pos (by have:=cv J;omega)];exact W) kE.c.c.c.c.c.c.c (aY [1,1])
 refine .skip ?_
 ·exact aE r (by unfold eL Ed.w;simp only;rw[K,S,if_neg (by have:=bC J;omega)];exact g) kE.c.c.c.c.c.c.c (aY [1,1])
 intro x Q
 have b2:OS 3 1 dc (.slice (some ⟨D,0,none⟩) n n) (eL now nx ⟨b,l,k⟩) x:=Q
 refine ba<|aw<|.region<|.mo rfl ?_
 refine .ia (j+1) .add ?_
 refine .ag rfl<|.nil ?_
 ·exact bi (j+1,x) ⟨N,by simp only;rw[a7];exact b2⟩ (by simp only;omega) kE.c.c.c.c.c.c.c rH
 have a4:E.length<=j:=by have:=bC H;omega
 rw[dD a4]at g
 refine .exit<|bq<|bz<|br<|aw<|.region<|.mo rfl<|.ag rfl<|.nil<|ba<|aw<|.region<|.mo rfl ?_
 refine .ia (s+1) .add ?_
 refine .ag rfl<|.nil ?_
 ·exact bi (s+1,_,r) ⟨b1,by simp only;unfold level;rw[O];exact g⟩ (by simp only;omega) (((((kE.d rfl).d rfl).d rfl).d rfl).d rfl) (aY [0])
 have a9:s=o:=by have:=bC F;omega
 refine .exit<|bq<|bz<|br<|aw<|.sr<|.mo rfl<|.az rfl ?_
 refine .ret (bj _ (.one (.tmp rfl)) (.one [0] _) ?_)
 ·refine⟨p,by simp[take],?_⟩
  rw[<-a9,O]
  exact B
def WE(ok:Bool)(E:List ku)(o:Option (List Ed)):Prop:=match o with
 |some E'=>ok=true/\E=E'.map Ed.m
 |none=>ok=false
def ig(dw:ByteArray)(t:Ty):Ty:=⟨t.space,if dw=⟨#[]⟩then t.rel else dw⟩
theorem qz(l:List (ByteArray×Rl)):∀ks:List Ty,match findAll l ks with
  |some o=>(ks.all λt=>(bM l t).isSome)=true/\(o.map λk:Nat=>(k:Int))=ks.map λt=>fI (bM l t)
  |none=>(ks.all λt=>(bM l t).isSome)=false
 |[]=>⟨rfl,rfl⟩
 |t::ks=>by
  have a:=qz l ks
  unfold findAll
  cases h:bM l t with
  |none=>simp[h]
  |some i=>
   simp only[Option.bind_some,List.all_cons,h,Option.isSome_some,Bool.true_and,List.map_cons]
   cases h2:findAll l ks with
   |none=>rw[h2]at a;exact a
   |some o=>rw[h2]at a;exact⟨a.1,by rw[<-a.2];rfl⟩
def TG(l:List (ByteArray×Rl))(sp:ByteArray)(r:Rl)(n:Nd)(tys:List Ty)(dw:ByteArray):Prop:=
 (n.kind=1/\tys=r.types/\dw=⟨#[]⟩)\/(n.kind=3/\dw=n.dw/\∃k,bM l ⟨sp,n.rel⟩=some k/\tys=(l.map (·.2.types)).getD k [])
def outs(l:List (ByteArray×Rl))(i:Nat)(ab:Bool)(dw:ByteArray)(ts:List Ty):List ku:=(dN ts).map λt=>((i:Int),fI (bM l (ig dw t)),ab)
def lY(l:List (ByteArray×Rl))(dw:ByteArray)(ts:List Ty):Bool:=(dN ts).all λt=>(bM l (ig dw t)).isSome
theorem zh{a:List Ty}{j:Nat}{t:Ty}(h:a[j]? =some t):dN (a.take (j+1))=dN (a.take j)++if t.space=⟨#[]⟩then []else [t]:=by
 unfold dN
 rw[dS h,List.filter_append]
 congr 1
 by_cases e:t.space=⟨#[]⟩
 ·simp[e]
 ·simp[e]
theorem WE.all{l:List (ByteArray×Rl)}{i:Nat}{ab:Bool}(ks:List Ty):WE (ks.all λt=>(bM l t).isSome) (ks.map λt=>((i:Int),fI (bM l t),ab)) ((findAll l ks).map λts=>ts.map λt=>(⟨i,t,ab⟩:Ed)):=by
 have h:=qz l ks
 cases h2:findAll l ks with
 |none=>rw[h2]at h;exact h
 |some o=>
  rw[h2]at h
  refine⟨h.1,?_⟩
  have:(ks.map λt=>((i:Int),fI (bM l t),ab))=(ks.map λt=>fI (bM l t)).map λz=>((i:Int),z,ab):=by rw[List.map_map];rfl
  rw[this, <-h.2]
  simp[Ed.m,Function.comp_def]
theorem Ld{l:List (ByteArray×Rl)}{i:Nat}{g:ByteArray}{r:Rl}{ab:Bool}{n:Nd}{c:List Ty}{a:ByteArray}(h:TG l g r n c a)(m:n.kind=3->n.dw≠⟨#[]⟩):
  WE (lY l a c&&(decide (a=⟨#[]⟩)||decide (0<(outs l i ab a c).length))) (outs l i ab a c) (eS l i g r ab n):=by
 rcases h with⟨b,rfl,rfl⟩|⟨b,rfl,k,j,rfl⟩
 ·have e:∀t:Ty,ig ⟨#[]⟩ t=t:=λt=>by unfold ig;rw[if_pos rfl]
  have:=WE.all (l:=l) (i:=i) (ab:=ab) (dN r.types)
  unfold eS targets lY outs
  simp only[e,b,if_true,decide_true,Bool.true_or,Bool.and_true]
  exact this
 ·have d:=m b
  have e:∀t:Ty,ig n.dw t=⟨t.space,n.dw⟩:=λt=>by unfold ig;rw[if_neg d]
  unfold eS targets lY outs
  simp only[e,b,j,decide_eq_false d,Bool.false_or,if_neg (show ¬(3:Int)=1 by decide),if_neg (show ¬(3:Int)=2 by decide),if_true,List.length_map]
  generalize o:dN ((l.map (·.2.types)).getD k [])=zs
  have f:=WE.all (l:=l) (i:=i) (ab:=ab) (zs.map λt=>(⟨t.space,n.dw⟩:Ty))
  rw[List.all_map,List.map_map]at f
  cases zs with
  |nil=>rfl
  |cons z zs=>
   simp only[List.length_cons,Nat.zero_lt_succ,decide_true,Bool.and_true]
   exact f
theorem zY{l:List (ByteArray×Rl)}{i:Nat}{c:ByteArray}{r:Rl}{A B:List (Nat×Bool)}{f g:Bool}{h j:List ku}
  (d:WE f h (cat (λp:Nat×Bool=>(r.nodes[p.1]?).bind λn=>eS l i c r p.2 n) A))(e:WE g j (cat (λp:Nat×Bool=>(r.nodes[p.1]?).bind λn=>eS l i c r p.2 n) B)):
  WE (f&&g) (h++j) (cat (λp:Nat×Bool=>(r.nodes[p.1]?).bind λn=>eS l i c r p.2 n) (A++B)):=by
 rw[oF]
 revert d e
 generalize cat (λp:Nat×Bool=>(r.nodes[p.1]?).bind λn=>eS l i c r p.2 n) A=a
 generalize cat (λp:Nat×Bool=>(r.nodes[p.1]?).bind λn=>eS l i c r p.2 n) B=b
 intro d e
 cases a with
 |none=>have k:f=false:=d;subst k;exact Bool.false_and _
 |some a=>
  cases b with
  |none=>have m:g=false:=e;subst m;exact Bool.and_false _
  |some b=>obtain⟨rfl,rfl⟩:=d;obtain⟨rfl,rfl⟩:=e;exact⟨rfl,by simp⟩
theorem Le{l:List (ByteArray×Rl)}{i:Nat}{a:ByteArray}{r:Rl}{ab:Bool}{n:Nd}(b:n.kind=2):
  WE (decide (0<=fI (bM l ⟨a,n.rel⟩))) [((i:Int),fI (bM l ⟨a,n.rel⟩),ab)] (eS l i a r ab n):=by
 have h:=WE.all (l:=l) (i:=i) (ab:=ab) [(⟨a,n.rel⟩:Ty)]
 unfold eS targets
 rw[if_neg (by omega),if_pos b]
 have e:decide (0<=fI (bM l ⟨a,n.rel⟩))=([(⟨a,n.rel⟩:Ty)].all λt=>(bM l t).isSome):=by
  simp only[List.all_cons,List.all_nil,Bool.and_true]
  cases bM l ⟨a,n.rel⟩with
  |none=>rfl
  |some k=>simp[fI]
 rw[e]
 exact h
theorem Lc{l:List (ByteArray×Rl)}{i:Nat}{a:ByteArray}{r:Rl}{ab:Bool}{n:Nd}(b:n.kind=3)(h:fI (bM l ⟨a,n.rel⟩)<0):WE false [] (eS l i a r ab n):=by
 cases hr:bM l ⟨a,n.rel⟩with
 |none=>
  unfold eS targets
  rw[if_neg (by omega),if_neg (by omega),if_pos b,hr]
  rfl
 |some k=>rw[hr]at h;simp only[fI]at h;omega
def pV(L:List Nm):Prop:=∀x∈L,x.2.r.types.length<=8/\x.2.r.nodes.length<=64/\fM isWord x.2.r.nodes≠0
theorem On{s:ByteArray}(h:isWord s=true):s≠⟨#[]⟩:=by
 intro e
 subst e
 revert h
 decide+kernel
theorem Lb{L:List Nm}{k:Nat}{y:Nm}(h:L[k]? =some y):((L.map Nm.p).map (·.2.types)).getD k []=y.2.r.types:=by
 rw[List.getD_eq_getElem?_getD,List.getElem?_map,List.getElem?_map,h]
 rfl
theorem MT(v:Value)(L:List Nm)(R:aB)(h:oB R v L)(hL:pV L)(i:Nat)(l:ByteArray)(vt vn:Value)(r:Rl)(a0:L[i]? =some (l,⟨vt,vn,r⟩)):
  ∀(m b d:Nat),tree isWord r.nodes m=some (b,d)->∀(ab:Bool) (j:Int),j=(m:Int)-1->
  Spec prog 142 [v,iN i,.int .i64 j,.bool ab] R [] λu H'=>∃T,H'=[T]/\∃w E ok,u=.tuple [w,.bool ok].toArray/\OS 266 3 iJ w E T/\E.length<=8*(m-b)/\
   WE ok E (cat (λp:Nat×Bool=>(r.nodes[p.1]?).bind λn=>eS (L.map Nm.p) i l r p.2 n) (gk r.nodes m ab)):=by
 intro m
 induction m using Nat.strongRecOn with
 |_ m ih=>
 intro b d Y ab j hj
 have U:=h.rs
 have iv:=U.ap
 have c1:=h.all _ (aX a0)
 have c0:RS R 2 Ty.enc vt r.types:=c1.t
 have b9:RS R 5 Nd.enc vn r.nodes:=c1.d
 have e5:=c0.ap
 have e4:=b9.ap
 obtain⟨b3,c5,c7⟩:=hL _ (aX a0)
 simp only at b3 c5 c7
 have d9:=mq Y
 obtain⟨e,rfl⟩:∃e,m=e+1:=⟨m-1,by omega⟩
 have c8:j=(e:Int):=by omega
 subst c8
 obtain⟨n,W⟩:∃n,r.nodes[e]? =some n:=⟨_,bB (by omega)⟩
 have a8:∀ab,n.op=false->cat (λp:Nat×Bool=>(r.nodes[p.1]?).bind λn=>eS (L.map Nm.p) i l r p.2 n) (gk r.nodes (e+1) ab)=eS (L.map Nm.p) i l r ab n:=λab ho=>by
  rw[Oj W ho]
  unfold cat
  simp only[W,Option.bind_some,cat]
  cases eS (L.map Nm.p) i l r ab n<;>simp
 have a4:n.op=false->n.leaf isWord=true/\b=e:=λho=>by
  rw[kQ W ho]at Y
  split at Y
  ·rename_i hl;cases Y;exact⟨hl,rfl⟩
  ·cases Y
 refine Spec.gx (H':=[[]]) (by simp) ?_
 refine Spec.body Tryz.func142 rfl Tryz.results142 Tryz.ntmps142 rfl ?_
 refine .sr<|.ag rfl<|.ag rfl<|.z<|.ag rfl<|.z<|.mo rfl<|.mo rfl ?_
 refine .bA i U a0 (λf4=>?_)
 refine .fa rfl<|.fa rfl<|.lo rfl<|.mo rfl ?_
 refine .bA e b9 W (λf5=>?_)
 refine .q (.aI rfl) ?_
 refine .bN (λa1=>?_)
 refine .bG rfl rfl<|.zs<|.seq ?_
 refine bp.cP [(0,_),(1,_),(3,_),(10,_),(11,_)] kE.c.c.c.c.c (X:=Unit) (λ_=>True) (λ_ E=>(45,.bool n.op)::E) (λ_=>[bl a1 n.enc 199,[]]) ?_ ?_
 refine .region<|.fa rfl<|.lo rfl<|.q .bO<|.mo rfl ?_
 refine .split (t:=36) rfl (λH=>?_) (λH=>?_)
 refine .gF H<|.gF H<|.gF H<|.q (.aO H) ?_
 refine .mo rfl<|.gX<|.gX<|.gX<|.q .cD<|.nil ?_
 ·exact aE () trivial (kE.c.c.c.c.c.bL rfl (by clear ih;grind[Nd.op])) rH
 refine .gT H<|.fa rfl<|.gT H<|.lo rfl<|.gT H<|.q .bO<|.q (.aK H) ?_
 refine .mo rfl ?_
 refine .split (t:=41) rfl (λI=>?_) (λI=>?_)
 refine .gF I<|.gF I<|.gF I<|.q (.aO I) ?_
 refine .nil ?_
 ·exact aE () trivial (kE.c.c.c.c.c.bL rfl (by clear ih;grind[Nd.op])) rH
 refine .gT I<|.fa rfl<|.gT I<|.lo rfl<|.gT I<|.q .bO<|.q (.aK I) ?_
 refine .nil ?_
 ·exact aE () trivial (kE.c.c.c.c.c.bL rfl (by clear ih;grind[Nd.op])) rH
 intro y hy
 refine aw ?_
 refine .cond rfl (λA=>?_) λA=>?_
 have b8:n.op=true:=A
 obtain⟨b',x,y,V,h3,K,M,N,h7,h8,h9⟩:=ot W b8 Y
 have d8:=mq V
 have c6:=mq K
 simp only at K c6 h9
 have b1:=Ok W b8 ⟨by omega,by omega⟩ ab
 rw[show n.a.toNat+1=b' by omega,show n.b.toNat+1=e by omega]at b1
 refine .sr<|.mo rfl<|.mo rfl<|.fa rfl<|.lo rfl<|.mo rfl ?_
 refine .da ((ih b' (by omega) b y K ab _ M).weaken cQ) (λu Ta B=>?_)
 obtain⟨wa,Ea,e8,rfl,b2,e1,b5⟩:=B
 have e7:=b2.ap
 refine .mo rfl<|.q .extract<|.q .extract<|.ag rfl<|.ag rfl<|.zs ?_
 refine bp.cP [(10,_),(12,_),(13,_)] kE.c.c.c (X:=Value×List ku×Bool×aA) (λy=>OS 266 3 iJ y.1 y.2.1 y.2.2.2/\y.2.1.length<=8*(e-b')/\WE y.2.2.1 y.2.1 (cat (λp:Nat×Bool=>(r.nodes[p.1]?).bind λn=>eS (L.map Nm.p) i l r p.2 n) (gk r.nodes e (ab||n.kind==6)))) (λy E=>(14,y.1)::(15,.bool y.2.2.1)::E) (λy=>[bl a1 n.enc 199,[],Ta,y.2.2.2]) ?_ ?_
 refine .region<|.mo rfl<|.mo rfl<|.fa rfl<|.lo rfl<|.mo rfl<|.mo rfl ?_
 refine .split (t:=61) rfl (λs=>?_) (λs=>?_)
 refine .gF s<|.gF s<|.gF s<|.q (.aO s) ?_
 refine .da ((ih e (by omega) b' x V _ _ N).weaken cQ) (λu Tb B=>?_)
 obtain⟨wb,Eb,a7,rfl,J,a2,S⟩:=B
 have c3:=J.ap
 refine .mo rfl<|.q .extract<|.q .extract<|.ag rfl<|.ag rfl<|.nil ?_
 ·exact aE (wb,Eb,a7,Tb) ⟨J,a2,by simpa only[A,s,Bool.true_or,Bool.false_or]using S⟩ kE.c.c.c.c.c (aY [2,2,1,0])
 refine .gT s<|.fa rfl<|.gT s<|.lo rfl<|.gT s<|.q .bO<|.q (.aK s) ?_
 refine .da ((ih e (by omega) b' x V _ _ N).weaken cQ) (λu Tb B=>?_)
 obtain⟨wb,Eb,a7,rfl,J,a2,S⟩:=B
 have c3:=J.ap
 refine .mo rfl<|.q .extract<|.q .extract<|.ag rfl<|.ag rfl<|.nil ?_
 ·exact aE (wb,Eb,a7,Tb) ⟨J,a2,by simpa only[A,s,Bool.true_or,Bool.false_or]using S⟩ kE.c.c.c.c.c (aY [2,2,1,0])
 intro y hy
 obtain⟨wb,Eb,a7,Tb⟩:=y
 obtain⟨J,a2,S⟩:=hy
 simp only at J a2 S⊢
 have c3:=J.ap
 refine aw<|.sr<|.mo rfl<|.mo rfl ?_
 refine .append (OS.nil (enc:=iJ) (sz:=3)) b2.rx (by simp only[List.length_nil];omega) (λv1 T1 C=>?_)
 rw[List.nil_append]at C
 have c2:=C.ap
 refine .ag rfl<|.z<|.mo rfl<|.mo rfl ?_
 refine .append C J.rx (by omega) (λv2 T2 b0=>?_)
 have e6:=b0.ap
 refine .mo rfl<|.mo rfl ?_
 refine .split (t:=76) rfl (λO=>?_) (λO=>?_)
 refine .gT O<|.mo rfl<|.q (.aO O) ?_
 refine .ag rfl<|.az rfl ?_
 refine .ret (aF (bj _ (.two (.tmp rfl) (.tmp rfl)) (.one [1] _) ?_))
 ·refine⟨T2,by simp[take,bF],v2,_,_,rfl,b0,?_,?_⟩
  ·rw[List.length_append];omega
  ·rw[b1];have hh:=zY b5 S;simpa only[O,Bool.true_and,Bool.false_and]using hh
 refine .gF O<|.q (.aK O) ?_
 refine .ag rfl<|.az rfl ?_
 refine .ret (aF (bj _ (.two (.tmp rfl) (.tmp rfl)) (.one [1] _) ?_))
 ·refine⟨T2,by simp[take,bF],v2,_,_,rfl,b0,?_,?_⟩
  ·rw[List.length_append];omega
  ·rw[b1];have hh:=zY b5 S;simpa only[O,Bool.true_and,Bool.false_and]using hh
 refine .kn<|.seq<|.sr<|.fa rfl<|.lo rfl<|.q .bO<|.zn ?_
 refine .cond rfl (λV=>?_) λV=>?_
 refine .seq ?_
 refine .dF 8 mixed (by kernel_rfl) ?_
 conv=>arg 6;dsimp only[List.take]
 refine .mo rfl<|.mo rfl<|.mo rfl ?_
 refine .bA i U a0 (λf6=>?_)
 refine .fa rfl<|.lo rfl<|.fa rfl<|.lo rfl<|.nil ?_
 refine .bd ((mY v L R h l n.rel).weaken cQ) (λu B=>?_)
 subst B
 refine .ag rfl<|.z<|.mo rfl<|.mo rfl<|.mo rfl<|.mo rfl ?_
 refine .q .cO ?_
 refine .dA (λd7=>?_)
 refine .append (OS.nil (enc:=iJ) (sz:=3)) (RS.lits (xs:=[((i:Int),fI (bM (L.map Nm.p) ⟨l,n.rel⟩),ab)]) rfl (by simp[iJ]) (by simp[iJ,ap])) (by simp) (λv1 T1 C=>?_)
 rw[List.nil_append]at C
 have c2:=C.ap
 refine .mo rfl<|.q .geq<|.ag rfl<|.az rfl ?_
 refine .ret (aF (bj _ (.two (.tmp rfl) (.tmp rfl)) (.one [2] _) ?_))
 ·refine⟨T1,by simp[take,bF],v1,_,_,rfl,C,?_,?_⟩
  ·have:=(a4 A).2;simp only[List.length_singleton];omega
  ·rw[a8 ab A];exact Le (by simpa using V)
 have e0:n.kind=1\/n.kind=3:=by have hl:=(a4 A).1;grind[Nd.leaf]
 refine .kn<|.sr<|.mo rfl<|.mo rfl ?_
 refine .bA i U a0 (λe9=>?_)
 refine .fa rfl<|.fa rfl<|.lo rfl<|.ag rfl<|.ag rfl<|.zs<|.sr<|.fa rfl<|.lo rfl<|.q .bO<|.zn ?_
 refine bp.cP [(0,_),(1,_),(3,_),(10,_)] kE.c.c.c.c (X:=Value×List Ty×ByteArray) (λy=>RS R 2 Ty.enc y.1 y.2.1/\y.2.1.length<=8/\TG (L.map Nm.p) l r n y.2.1 y.2.2) (λy E=>(17,y.1)::(18,.string y.2.2)::E) (λy=>[bl a1 n.enc 199,[]]) ?_ ?_
 refine .cond rfl (λh3=>?_) λh3=>?_
 refine .seq ?_
 refine .dF 8 mixed (by kernel_rfl) ?_
 conv=>arg 6;dsimp only[List.take]
 refine .mo rfl<|.mo rfl<|.mo rfl ?_
 refine .bA i U a0 (λf0=>?_)
 refine .fa rfl<|.lo rfl<|.fa rfl<|.lo rfl<|.nil ?_
 refine .bd ((mY v L R h l n.rel).weaken cQ) (λu B=>?_)
 subst B
 refine .ag rfl<|.zs<|.sr<|.mo rfl<|.q .lss<|.zn ?_
 refine .cond rfl (λK=>?_) λK=>?_
 refine .sr<|.ag rfl<|.az rfl ?_
 refine .ret (aF (ib (aF (bj _ (.two (.tmp rfl) (.tmp rfl)) (.one [1] _) ?_))))
 ·refine⟨[],by simp[take,bF],_,[],_,rfl,OS.nil,by simp,?_⟩
  rw[a8 ab A]
  exact Lc (by simpa using h3) (by simpa using K)
 obtain⟨k,hk⟩:∃k,bM (L.map Nm.p) ⟨l,n.rel⟩=some k:=by
  cases hr:bM (L.map Nm.p) ⟨l,n.rel⟩with
  |none=>rw[hr]at K;simp[fI]at K
  |some k=>exact⟨k,rfl⟩
 have d1:k<L.length:=by have:=uf hk;rwa [List.length_map]at this
 obtain⟨⟨sk,c4,d5,rk⟩,a3⟩:=bU d1
 have b6:=h.all _ (aX a3)
 have b7:RS R 2 Ty.enc c4 rk.types:=b6.t
 have e3:=b7.ap
 have e2:One d5:=RS.ap b6.d
 have c9:=(hL _ (aX a3)).1
 have pk:=U.pc a3
 have d0:fI (bM (L.map Nm.p) ⟨l,n.rel⟩)=(k:Int):=by rw[hk];rfl
 refine .kn ?_
 refine .fq mixed (by kernel_rfl) ?_
 refine .mo rfl<|.mo rfl<|.q (.bA k U a3 rfl rfl d0) ?_
 refine .fa rfl<|.fa rfl<|.lo rfl<|.fa rfl<|.lo rfl<|.ag rfl<|.ag rfl<|.nil ?_
 ·exact aE (c4,rk.types,n.dw) ⟨b7,c9,.inr ⟨by simpa using h3,rfl,k,hk,(Lb a3).symm⟩⟩ kE.c.c.c.c.c.c rH
 refine .skip ?_
 ·exact aE (vt,r.types,⟨#[]⟩) ⟨c0,b3,.inl ⟨by grind,rfl,rfl⟩⟩ kE.c.c.c.c.c.c rH
 intro x hx
 obtain⟨vy,D,g⟩:=x
 obtain⟨Z,d4,b4⟩:=hx
 simp only at Z d4 b4⊢
 have iy:=Z.ap
 refine aw<|.sr<|.ag rfl<|.zs<|.sr<|.az rfl<|.block ?_
 refine .cq [(0,_),(1,_),(3,_),(17,_),(18,_)] (X:=Nat×Value×aA) (λy=>y.1<=D.length/\OS 266 3 iJ y.2.1 (outs (L.map Nm.p) i ab g (D.take y.1)) y.2.2) (λy E=>(21,iN y.1)::(10,y.2.1)::(20,.bool (lY (L.map Nm.p) g (D.take y.1)))::E) (λy G=>y.2.2::G) (λy=>D.length-y.1) (0,sZ,[]) ⟨Nat.zero_le _,OS.nil⟩ kE.c.c.c.c.c.c.c.c (aY [1,0]) ?_
 rintro⟨q,vo,To⟩ ⟨hq,Q⟩
 simp only at hq Q⊢
 have io:=Q.ap
 have d2:(outs (L.map Nm.p) i ab g (D.take q)).length<=8:=by
  unfold outs dN
  rw[List.length_map]
  exact Nat.le_trans (List.length_filter_le _ _) (by rw[List.length_take];omega)
 refine .seq<|.sr<|.mo rfl<|.mo rfl<|.q (.bD Z) ?_
 refine .q .lss<|.zn ?_
 refine .cond rfl (λM=>?_) λM=>?_
 have a9:q<D.length:=cg M
 obtain⟨t,a6⟩:=bU a9
 have a5:=zh a6
 refine .kn<|.seq<|.block<|.seq<|.sr<|.mo rfl<|.mo rfl ?_
 refine .bA q Z a6 (λf1=>?_)
 refine .fa rfl<|.lo rfl<|.q .dI<|.zn ?_
 refine .cond rfl (λN=>?_) λN=>?_
 refine .exit<|bq<|br<|aw<|.region<|.mo rfl ?_
 refine .ia (q+1) .add ?_
 refine .ag rfl<|.nil ?_
 ·exact bi (q+1,vo,To) ⟨a9,by simp only;unfold outs;rw[a5,if_pos (by simpa using N),List.append_nil];exact Q⟩ (by simp only;omega) (((kE.c.c.c.c.c.bL rfl (by simp only;unfold lY;rw[a5,if_pos (by simpa using N),List.append_nil])).cons rfl).cons rfl) rH
 refine .kn<|.sr<|.mo rfl<|.mo rfl ?_
 refine .bA q Z a6 (λf2=>?_)
 refine .fa rfl<|.lo rfl<|.ag rfl<|.zs<|.sr<|.mo rfl<|.q .ff<|.zn ?_
 refine bp.cP [(0,_),(1,_),(3,_),(10,_),(17,_),(18,_),(20,_),(21,_)] kE.c.c.c.c.c.c.c.c (X:=Unit) (λ_=>True) (λ_ E=>(22,.string (ig g t).rel)::E) (λ_=>[To,bl a1 n.enc 199]) ?_ ?_
 refine .cond rfl (λh7=>?_) λh7=>?_
 refine .region<|.mo rfl<|.ag rfl<|.nil ?_
 ·exact aE () trivial (kE.c.c.c.c.c.c.c.c.vT rfl (by unfold ig;grind)) rH
 refine .skip ?_
 ·exact aE () trivial (kE.c.c.c.c.c.c.c.c.vT rfl (by unfold ig;grind)) rH
 intro x hx
 refine aw<|.sr<|.mo rfl<|.mo rfl<|.mo rfl ?_
 refine .bA q Z a6 (λf3=>?_)
 refine .fa rfl<|.lo rfl<|.mo rfl ?_
 refine .bd ((mY v L R h t.space (ig g t).rel).weaken cQ) (λu B=>?_)
 subst B
 rw[show(⟨t.space,(ig g t).rel⟩:Ty)=ig g t from rfl]
 refine .ag rfl<|.zs ?_
 refine bp.cP [(0,_),(1,_),(3,_),(10,_),(17,_),(18,_),(21,_),(23,_)] kE.c.c.c.c.c.c.c.c (X:=Unit) (λ_=>True) (λ_ E=>(20,.bool (lY (L.map Nm.p) g (D.take q)&&(bM (L.map Nm.p) (ig g t)).isSome))::E) (λ_=>[To,bl a1 n.enc 199]) ?_ ?_
 refine .region<|.mo rfl<|.mo rfl ?_
 refine .split (t:=157) rfl (λF=>?_) (λF=>?_)
 refine .gT F<|.mo rfl<|.gT F<|.q .geq<|.q (.aO F) ?_
 refine .ag rfl<|.nil ?_
 ·exact aE () trivial (kE.c.c.c.c.c.c.c.c.bL rfl (by simp only[F,Bool.true_and,Bool.false_and]<;>cases bM (L.map Nm.p) (ig g t)<;>simp[fI])) rH
 refine .gF F<|.gF F<|.q (.aK F) ?_
 refine .ag rfl<|.nil ?_
 ·exact aE () trivial (kE.c.c.c.c.c.c.c.c.bL rfl (by simp only[F,Bool.true_and,Bool.false_and]<;>cases bM (L.map Nm.p) (ig g t)<;>simp[fI])) rH
 intro y hy
 refine aw<|.region<|.mo rfl<|.mo rfl<|.mo rfl<|.mo rfl ?_
 refine .q .cO ?_
 refine .dA (λd6=>?_)
 refine .append Q (RS.lits (xs:=[((i:Int),fI (bM (L.map Nm.p) (ig g t)),ab)]) rfl (by simp[iJ]) (by simp[iJ,ap])) (by simp only[List.length_singleton];omega) (λv1 T1 C=>?_)
 have c2:=C.ap
 refine .ag rfl<|.nil<|ba<|aw<|.region<|.mo rfl ?_
 refine .ia (q+1) .add ?_
 refine .ag rfl<|.nil ?_
 ·exact bi (q+1,v1,T1) ⟨a9,by simp only;unfold outs;rw[a5,if_neg (by simpa using N),List.map_append];exact C⟩ (by simp only;omega) (((kE.c.c.c.c.c.bL rfl (by simp only;unfold lY;rw[a5,if_neg (by simpa using N),List.all_append];simp)).cons rfl).cons rfl) (aY [1,1])
 have d3:D.length<=q:=by have:=bC M;omega
 rw[dD d3]at Q d2⊢
 refine .exit<|bq<|bz<|br<|aw<|.seq ?_
 refine bp.cP [] (dx.nil _) (X:=Unit) (λ_=>True) (λ_ E=>(8,vo)::(9,.bool (lY (L.map Nm.p) g D&&(decide (g=⟨#[]⟩)||decide (0<(outs (L.map Nm.p) i ab g D).length))))::E) (λ_=>[To]) ?_ ?_
 refine .region<|.mo rfl<|.mo rfl<|.mo rfl ?_
 refine .split (t:=170) rfl (λf=>?_) (λf=>?_)
 refine .gT f<|.mo rfl<|.gT f<|.q .dI<|.gT f<|.mo rfl ?_
 refine .split (t:=173) rfl (λo=>?_) (λo=>?_)
 refine .gF o<|.gF o<|.gF o<|.gT f<|.q (.aO o) ?_
 refine .q (.aO f) ?_
 refine .ag rfl<|.ag rfl<|.nil ?_
 ·exact aE () trivial (((dx.nil _).bL rfl (by simp[M,f,o])).cons rfl) (aY [0])
 refine .gT o<|.mo rfl<|.gT o<|.q (.ej Q) ?_
 refine .gT o<|.q .gtr<|.gT f<|.q (.aK o) ?_
 refine .q (.aO f) ?_
 refine .ag rfl<|.ag rfl<|.nil ?_
 ·exact aE () trivial (((dx.nil _).bL rfl (by simp[M,f,o])).cons rfl) (aY [0])
 refine .gF f<|.gF f<|.gF f<|.cN rfl ?_
 refine .cN rfl ?_
 refine .cN rfl ?_
 refine .gF f<|.q (.aK f) ?_
 refine .ag rfl<|.ag rfl<|.nil ?_
 ·exact aE () trivial (((dx.nil _).bL rfl (by simp[M,f])).cons rfl) (aY [0])
 intro y hy
 refine aw ?_
 refine .ret (bj _ (.two (.tmp rfl) (.tmp rfl)) (.one [0] _) ?_)
 ·refine⟨To,by simp[take,bF],vo,_,_,rfl,Q,?_,?_⟩
  ·have:=(a4 A).2;omega
  ·rw[a8 ab A]
   refine Ld b4 λhk=>?_
   have hl:=(a4 A).1
   exact On (by grind[Nd.leaf])
theorem WE.mD{c d:Bool}{e f:List ku}{a b:Option (List Ed)}(g:WE c e a)(h:WE d f b):WE (c&&d) (e++f) (a.bind λx=>b.map (x++ ·)):=by
 cases a with
 |none=>have i:c=false:=g;subst i;exact Bool.false_and _
 |some a=>
  cases b with
  |none=>have j:d=false:=h;subst j;exact Bool.and_false _
  |some b=>obtain⟨rfl,rfl⟩:=g;obtain⟨rfl,rfl⟩:=h;exact⟨rfl,by simp⟩
theorem sL{α:Type}{x:α}:∀{l:List α} {i b:Nat},l[i]? =some x->iY b (l.take (i+1))=iY b (l.take i)++[(b+i,x)]
 |[],i,b,h=>by simp at h
 |y::l,0,b,h=>by simp only[List.getElem?_cons_zero,Option.some.injEq]at h;subst h;rfl
 |y::l,i+1,b,h=>by
  rw[List.take_succ_cons,List.take_succ_cons,iY,iY,sL (l:=l) (i:=i) (b:=b+1) (by simpa using h),show b+1+i=b+(i+1) by omega]
  rfl
def kq(l:List (ByteArray×Rl))(t:Ty):Bool:=decide (t.space=⟨#[]⟩)||(bM l t).isSome
theorem Nl{l:List (ByteArray×Rl)}{a:List Ty}:(findAll l (dN a)).isSome=a.all (kq l):=by
 have h:=qz l (dN a)
 have e:((dN a).all λt=>(bM l t).isSome)=a.all (kq l):=by
  unfold dN
  rw[List.all_filter]
  congr 1
  funext t
  unfold kq
  cases decide (t.space=⟨#[]⟩)<;>simp
 rw[<-e]
 cases hf:findAll l (dN a)with
 |none=>rw[hf]at h;exact h.symm
 |some o=>rw[hf]at h;exact h.1.symm
theorem WE.rel{l:List (ByteArray×Rl)}{i:Nat}{a:ByteArray}{r:Rl}{ok:Bool}{E:List ku}(h:WE ok E (cat (λp:Nat×Bool=>(r.nodes[p.1]?).bind λn=>eS l i a r p.2 n) (gk r.nodes r.nodes.length false))):
  WE (r.types.all (kq l)&&ok) E (kN l i a r):=by
 unfold kN
 rw[<-Nl]
 cases (findAll l (dN r.types)).isSome with
 |true=>simpa using h
 |false=>exact Bool.false_and _
def nY(l:List (ByteArray×Rl))(s:Sc):Bool:=(bM l ⟨s.jd,s.rel⟩).isSome
theorem vX{l:List Nd}(h:fM isWord l≠0):∃d,tree isWord l l.length=some (0,d):=by
 unfold fM at h
 cases ht:tree isWord l l.length with
 |none=>rw[ht]at h;exact absurd rfl h
 |some r=>
  obtain⟨b,d⟩:=r
  rw[ht]at h
  simp only at h
  split at h
  ·rename_i a;subst a;exact⟨d,rfl⟩
  ·exact absurd rfl h
theorem oK(o:Option Nat):decide (0<=fI o)=o.isSome:=by cases o<;>simp[fI]
theorem L4(c:bE)(R:aB)(h:c.is R)(hf:c.fW)(hr:pV c.eY):Spec prog 78 [.agg c.enc.toArray] R [] λu H'=>∃T,H'=[T]/\∃w E ok,u=.tuple [w,.bool ok].toArray/\OS 266 3 iJ w E T/\WE ok E c.plain.gE:=by
 have b4:=rn c R h hf
 have a0:=tF h
 have c0:=hf.eY
 have a3:c.plain.gE=if c.scopes.all (nY (c.eY.map Nm.p))=true then cat (λp:Nat×(ByteArray×Rl)=>kN (c.eY.map Nm.p) p.1 p.2.1 p.2.2) (iY 0 (c.eY.map Nm.p))else none:=by
  rw[mT];rfl
 rw[a3]
 clear a3
 generalize b7:c.eY=L at *
 obtain⟨vs,Z,d4,j⟩:=c
 have i1:One vs:=RS.ap h.ss
 have F:RS R 4 Sc.enc Z j:=h.sc
 have i2:=F.ap
 have b9:=F.le
 refine Spec.gx (H':=[[]]) (by simp) ?_
 refine Spec.body Tryz.func78 rfl Tryz.results78 Tryz.ntmps78 rfl ?_
 refine .sr ?_
 refine .bX rfl (λb1=>?_)
 refine .ag rfl<|.ag rfl<|.z<|.q (.aI rfl) ?_
 refine .da (b4.weaken cQ) (λu v H=>?_)
 have i4:=H.ap
 refine .ag rfl<|.z<|.ag rfl<|.z<|.ag rfl<|.zs<|.sr<|.az rfl<|.block ?_
 refine .cq [(1,_),(4,_)] (X:=Nat×Value×List ku×Bool×aA) (λy=>y.1<=L.length/\OS 266 3 iJ y.2.1 y.2.2.1 y.2.2.2.2/\y.2.2.1.length<=512*y.1/\WE y.2.2.2.1 y.2.2.1 (cat (λp:Nat×(ByteArray×Rl)=>kN (L.map Nm.p) p.1 p.2.1 p.2.2) (iY 0 ((L.map Nm.p).take y.1)))) (λy E=>(7,iN y.1)::(5,y.2.1)::(6,.bool y.2.2.2.1)::E) (λy G=>y.2.2.2.2::G) (λy=>L.length-y.1) (0,sZ,[],true,[]) ⟨Nat.zero_le _,OS.nil,by simp,⟨rfl,rfl⟩⟩ kE.c.c.c.c.c bf.gw ?_
 rintro⟨i,v5,E5,ok,N⟩ ⟨hi,Q,a9,S⟩
 simp only at hi Q a9 S⊢
 have i5:=Q.ap
 refine .seq<|.sr<|.mo rfl<|.mo rfl<|.q (.ej H) ?_
 refine .q .lss<|.zn ?_
 refine .cond rfl (λh1=>?_) λh1=>?_
 have a4:i<L.length:=cg h1
 obtain⟨⟨Y,M,K,r⟩,J⟩:=bU a4
 have W:=a0 _ (aX J)
 have D:RS R 2 Ty.enc M r.types:=W.t
 have a5:RS R 5 Nd.enc K r.nodes:=W.d
 have c6:=D.ap
 have c5:=a5.ap
 have c3:bW (bQ.enc ⟨M,K,r⟩):=⟨W.cH⟩
 have c4:bW (List.take 3 (List.drop 1 (lR (Y,(⟨M,K,r⟩:bQ))))):=⟨W.cH⟩
 obtain⟨b2,b0,a2⟩:=hr _ (aX J)
 simp only at b2 b0 a2
 obtain⟨d,a6⟩:=vX a2
 have b6:(L.map Nm.p)[i]? =some (Y,r):=by rw[List.getElem?_map,J];rfl
 have O:oB (λb o=>R b o\/(b,o)∈v) u L:=⟨H.rs λp hp=>.inr hp,λx hx=>(a0 x hx).mono λb o g=>.inl g⟩
 have c2:1<=r.nodes.length:=by have:=(mq a6).1;omega
 refine .kn<|.seq<|.block<|.sr<|.mo rfl<|.mo rfl ?_
 refine .bo i H J (λc8=>?_)
 refine .fa rfl<|.q (.loadT rfl) ?_
 refine .bN (λb8=>?_)
 refine .bG rfl rfl<|.zs<|.sr<|.az rfl<|.block ?_
 refine .cq [(1,_),(4,_),(5,_),(7,_),(8,_)] (X:=Nat) (λk=>k<=r.types.length) (λk E=>(9,iN k)::(6,.bool (ok&&(r.types.take k).all (kq (L.map Nm.p))))::E) (λ_ G=>G) (λk=>r.types.length-k) 0 (Nat.zero_le _) ((kE.c.c.c.c.c.bL rfl (by simp)).cons rfl) rH ?_
 rintro k hk
 refine .seq<|.sr<|.mo rfl<|.fa rfl<|.lo rfl<|.q (.bD D) ?_
 refine .q .lss<|.zn ?_
 refine .cond rfl (λm=>?_) λm=>?_
 have C:k<r.types.length:=cg m
 obtain⟨t,n⟩:=bU C
 refine .kn<|.seq<|.block ?_
 refine bp.cP [(1,_),(4,_),(5,_),(7,_),(8,_),(9,_)] kE.c.c.c.c.c.c (X:=Unit) (λ_=>True) (λ_ E=>(6,.bool (ok&&(r.types.take (k+1)).all (kq (L.map Nm.p))))::E) (λ_=>[bl b8 (bQ.enc ⟨M,K,r⟩) 167,N,v,bl b1 [vs,Z] 25]) ?_ ?_
 refine .dF 23 mixed (by kernel_rfl) ?_
 conv=>arg 6;dsimp only[List.take]
 refine .mo rfl<|.mo rfl ?_
 refine .split (t:=34) rfl (λf=>?_) (λf=>?_)
 refine .gT f<|.fa rfl<|.gT f<|.lo rfl<|.gT f<|.mo rfl<|.gT f ?_
 refine .bA k D n (λc9=>?_)
 refine .gT f<|.fa rfl<|.gT f<|.lo rfl<|.gT f<|.q .dI<|.gT f<|.mo rfl ?_
 refine .split (t:=42) rfl (λe=>?_) (λe=>?_)
 refine .gF e<|.gF e<|.gF e<|.gF e<|.gF e<|.gF e<|.gF e<|.gF e<|.gF e<|.gF e<|.gF e<|.gF e<|.gF e<|.nil<|.gF e<|.gF e<|.gT f<|.q (.aO e) ?_
 refine .q (.aO f) ?_
 refine .ag rfl<|.nil ?_
 ·exact aE () trivial (kE.c.c.c.c.c.c.bL rfl (by rw[dS n,List.all_append];simp only[List.all_cons,List.all_nil,Bool.and_true,kq,m,f,e,oK];grind)) rH
 refine .gT e<|.mo rfl<|.gT e<|.fa rfl<|.gT e<|.lo rfl<|.gT e<|.mo rfl<|.gT e ?_
 refine .bA k D n (λd0=>?_)
 refine .gT e<|.fa rfl<|.gT e<|.lo rfl<|.gT e<|.fa rfl<|.gT e<|.lo rfl<|.gT e<|.mo rfl<|.gT e ?_
 refine .bA k D n (λd1=>?_)
 refine .gT e<|.fa rfl<|.gT e<|.lo rfl<|.nil<|.gT e ?_
 refine .bd ((mY u L _ O t.space t.rel).weaken λb o g=>g.elim .inl λg=>.inr (by simp[g])) (λw I=>?_)
 subst I
 rw[show(⟨t.space,t.rel⟩:Ty)=t from rfl]
 refine .gT e<|.q .geq<|.gT f<|.q (.aK e) ?_
 refine .q (.aO f) ?_
 refine .ag rfl<|.nil ?_
 ·exact aE () trivial (kE.c.c.c.c.c.c.bL rfl (by rw[dS n,List.all_append];simp only[List.all_cons,List.all_nil,Bool.and_true,kq,m,f,e,oK];grind)) rH
 refine .gF f<|.gF f<|.gF f<|.gF f<|.gF f<|.gF f<|.gF f<|.gF f<|.cN rfl ?_
 refine .cN rfl ?_
 refine .cN rfl ?_
 refine .cN rfl ?_
 refine .cN rfl ?_
 refine .cN rfl ?_
 refine .cN rfl ?_
 refine .cN rfl ?_
 refine .cN rfl ?_
 refine .cN rfl ?_
 refine .cN rfl ?_
 refine .cN rfl ?_
 refine .cN rfl ?_
 refine .nil<|.cN rfl ?_
 refine .cN rfl ?_
 refine .gF f<|.q (.aK f) ?_
 refine .ag rfl<|.nil ?_
 ·exact aE () trivial (kE.c.c.c.c.c.c.bL rfl (by rw[dS n,List.all_append];simp only[List.all_cons,List.all_nil,Bool.and_true,kq,m,f,oK];grind)) rH
 intro y hy
 refine ba<|aw<|.region<|.mo rfl ?_
 refine .ia (k+1) .add ?_
 refine .ag rfl<|.nil ?_
 ·exact bi (k+1) C (by omega) kE.c.c.c.c.c.c.c rH
 rw[dD (l:=r.types) (i:=k) (by have:=bC m;omega)]
 refine .exit<|bq<|bz<|br<|aw<|.sr<|.mo rfl<|.mo rfl<|.fa rfl<|.lo rfl<|.q (.bD a5) ?_
 refine .q (.i64 ((r.nodes.length:Int)-1) .sub ⟨rfl,by omega,by omega⟩) ?_
 refine .da ((MT u L _ O hr i Y M K r J _ _ _ a6 false _ rfl).weaken λb o g=>g.elim .inl λg=>.inr (by simp[g])) (λw Tw I=>?_)
 obtain⟨w,Ew,a8,rfl,a1,c1,b3⟩:=I
 have iw:=a1.ap
 refine .mo rfl<|.q .extract<|.q .extract<|.ag rfl<|.ag rfl<|.zs ?_
 refine bp.cP [(1,_),(4,_),(5,_),(7,_),(10,_)] kE.c.c.c.c.c (X:=Unit) (λ_=>True) (λ_ E=>(6,.bool (ok&&(r.types.all (kq (L.map Nm.p))&&a8)))::E) (λ_=>[Tw,N,v,bl b1 [vs,Z] 25]) ?_ ?_
 refine .region<|.mo rfl<|.mo rfl ?_
 refine .split (t:=71) rfl (λA=>?_) (λA=>?_)
 refine .gT A<|.mo rfl<|.q (.aO A) ?_
 refine .ag rfl<|.nil ?_
 ·exact aE () trivial (kE.c.c.c.c.c.bL rfl (by grind)) (aY [0,1,1,1])
 refine .gF A<|.q (.aK A) ?_
 refine .ag rfl<|.nil ?_
 ·exact aE () trivial (kE.c.c.c.c.c.bL rfl (by grind)) (aY [0,1,1,1])
 intro y hy
 refine aw<|.region<|.mo rfl<|.mo rfl ?_
 refine .append Q a1.rx (by omega) (λv1 T1 a7=>?_)
 have c7:=a7.ap
 refine .ag rfl<|.nil<|ba<|aw<|.region<|.mo rfl ?_
 refine .ia (i+1) .add ?_
 refine .ag rfl<|.nil ?_
 ·exact bi (i+1,v1,E5++Ew,ok&&(r.types.all (kq (L.map Nm.p))&&a8),T1) ⟨a4,a7,by simp only[List.length_append];omega,by
   simp only
   rw[sL b6,oF]
   refine S.mD ?_
   have U:=WE.rel b3
   simp only[Nat.zero_add,cat]
   revert U
   generalize kN (L.map Nm.p) i Y r=o
   intro U
   cases o with
   |none=>exact U
   |some o=>simpa using U⟩ (by simp only;omega) kE.c.c.c.c.c (aY [1,1,1])
 have b5:L.length<=i:=by have:=bC h1;omega
 rw[dD (by rw[List.length_map];exact b5)]at S
 have O:oB (λb o=>R b o\/(b,o)∈v) u L:=⟨H.rs λp hp=>.inr hp,λx hx=>(a0 x hx).mono λb o g=>.inl g⟩
 refine .exit<|bq<|bz<|br<|aw<|.seq<|.sr<|.az rfl<|.block ?_
 refine .cq [(1,_),(4,_),(5,_)] (X:=Nat) (λk=>k<=j.length) (λk E=>(12,iN k)::(6,.bool (ok&&(j.take k).all (nY (L.map Nm.p))))::E) (λ_ G=>G) (λk=>j.length-k) 0 (Nat.zero_le _) ((kE.c.c.c.bL rfl (by simp)).cons rfl) rH ?_
 rintro k hk
 refine .seq<|.sr<|.mo rfl<|.fa rfl<|.lo rfl<|.q (.bD F) ?_
 refine .q .lss<|.zn ?_
 refine .cond rfl (λB=>?_) λB=>?_
 have C:k<j.length:=cg B
 obtain⟨s,V⟩:=bU C
 refine .kn<|.seq<|.block ?_
 refine bp.cP [(1,_),(4,_),(5,_),(12,_)] kE.c.c.c.c (X:=Unit) (λ_=>True) (λ_ E=>(6,.bool (ok&&(j.take (k+1)).all (nY (L.map Nm.p))))::E) (λ_=>[N,v,bl b1 [vs,Z] 25]) ?_ ?_
 refine .dF 16 mixed (by kernel_rfl) ?_
 conv=>arg 6;dsimp only[List.take]
 refine .mo rfl<|.mo rfl ?_
 refine .split (t:=85) rfl (λa=>?_) (λa=>?_)
 refine .gT a<|.mo rfl<|.gT a<|.fa rfl<|.gT a<|.lo rfl<|.gT a<|.mo rfl<|.gT a ?_
 refine .bA k F V (λd2=>?_)
 refine .gT a<|.fa rfl<|.gT a<|.fa rfl<|.gT a<|.lo rfl<|.gT a<|.fa rfl<|.gT a<|.lo rfl<|.gT a<|.mo rfl<|.gT a ?_
 refine .bA k F V (λd3=>?_)
 refine .gT a<|.fa rfl<|.gT a<|.lo rfl<|.nil<|.gT a ?_
 refine .bd ((mY u L _ O s.jd s.rel).weaken λb o g=>g.elim .inl λg=>.inr (by simp[g])) (λw I=>?_)
 subst I
 refine .gT a<|.q .geq<|.q (.aO a) ?_
 refine .ag rfl<|.nil ?_
 ·exact aE () trivial (kE.c.c.c.c.bL rfl (by rw[dS V,List.all_append];simp only[List.all_cons,List.all_nil,Bool.and_true,nY,B,a,oK];grind)) rH
 refine .gF a<|.gF a<|.gF a<|.gF a<|.gF a<|.gF a<|.gF a<|.gF a<|.gF a<|.gF a<|.gF a<|.gF a<|.gF a<|.gF a<|.nil<|.gF a<|.gF a<|.q (.aK a) ?_
 refine .ag rfl<|.nil ?_
 ·exact aE () trivial (kE.c.c.c.c.bL rfl (by rw[dS V,List.all_append];simp only[List.all_cons,List.all_nil,Bool.and_true,nY,B,a,oK];grind)) rH
 intro y hy
 refine ba<|aw<|.region<|.mo rfl ?_
 refine .ia (k+1) .add ?_
 refine .ag rfl<|.nil ?_
 ·exact bi (k+1) C (by omega) kE.c.c.c.c.c rH
 rw[dD (l:=j) (i:=k) (by have:=bC B;omega)]
 refine .exit<|bq<|bz<|br<|aw<|.sr<|.mo rfl<|.mo rfl<|.ag rfl<|.az rfl ?_
 refine .ret (bj _ (.two (.tmp rfl) (.tmp rfl)) (.one [0] _) ?_)
 ·refine⟨N,by simp[take,bF],v5,E5,_,rfl,Q,?_⟩
  cases j.all (nY (L.map Nm.p))with
  |true=>simpa using S
  |false=>exact Bool.and_false _
theorem RS.fZ{α:Type}{R:aB}{sz:Nat}{enc:α->List Value}:RS R sz enc (sZ) ([]:List α):=(OS.nil (E:=0) (sz:=sz) (enc:=enc)).rs λp a=>(by cases a)
abbrev fP:=Value×List Nat
def fe(q:fP):List Value:=[q.1]
structure NN(R:aB)(w:Value)(ll:List fP):Prop where
 rs:RS R 1 fe w ll
 all:∀q∈ll,RS R 1 dc q.1 q.2
theorem NN.mono{R R':aB}{w:Value}{c:List fP}(h:NN R w c)(a:∀b o,R b o->R' b o):NN R' w c:=⟨h.rs.mono a,λq d=>(h.all q d).mono a⟩
theorem NN.nil{R:aB}:NN R (sZ) []:=⟨RS.fZ,λq a=>(by cases a)⟩
theorem mW:∀{l:List Sp} {i:Nat} {s:Sp},l[i]? =some s->cA l (i+1)=cA l i+s.bI.length
 |[],i,s,h=>by simp at h
 |x::l,0,s,h=>by
  simp only[List.getElem?_cons_zero,Option.some.injEq]at h
  subst h
  cases l<;>simp[cA]
 |x::l,i+1,s,h=>by
  have:=mW (l:=l) (i:=i) (by simpa using h)
  rw[cA,cA,this]
  omega
theorem qy{c:bE}(h:c.plain.right isWord cX=true):c.fW/\pV c.eY:=by
 have e:=pD h
 have d:c.plain.im isWord=false:=by
  unfold Cf.right at h
  simp only[Bool.and_eq_true,Bool.not_eq_true']at h
  exact h.2
 rw[oY]at d
 simp only[Bool.or_eq_false_iff,decide_eq_false_iff_not,List.any_eq_false,Nat.not_lt]at d
 refine⟨⟨by omega,λs f=>?_⟩,λx g=>?_⟩
 ·have:=d.2 s f
  unfold gv at this
  simp only[Bool.or_eq_true,decide_eq_true_eq,not_or,Nat.not_lt]at this
  exact this.1
 ·have i:x.p∈c.plain.all:=by rw[<-mT];exact List.mem_map.2 ⟨x,g,rfl⟩
  obtain⟨b,a⟩:=e _ i
  unfold nS at b
  unfold gI at a
  simp only[Bool.and_eq_true,bne_iff_ne,ne_eq]at b
  simp only[Bool.or_eq_false_iff,decide_eq_false_iff_not,Nat.not_lt]at a
  exact⟨a.1.1,a.1.2,b.1.2⟩
theorem uj(c:bE)(R:aB)(h:c.is R):Spec prog 32 [.agg c.enc.toArray] R [] λu H'=>∃T,H'=[T]/\∃w ll,u=.tuple [w,.int .i64 (c.plain.numbers isWord cX).1].toArray/\NN (sg T) w ll/\ll.map (·.2)=(c.plain.numbers isWord cX).2:=by
 have a1:=MD c R h
 have a2:=MI c R h
 have a3:=L4 c R h
 have a4:=rn c R h
 have c9:=mT c
 have a7:=qy (c:=c)
 have Z:∀(i:Nat) s,c.aR[i]? =some s->c.plain.aR[i]? =some s.plain:=λi s B=>by unfold bE.plain;simp only;rw[List.getElem?_map,B];rfl
 have c0:c.plain.aR.length=c.aR.length:=by unfold bE.plain;simp
 have d:c.plain.numbers isWord cX=if c.plain.right isWord cX=false then((4:Int),([]:List (List Nat)))else if ¬c.plain.dG then(10,[])else match c.plain.gE with|none=>(14,[])|some E=>if jm E c.plain.all.length=true then(0,rows c.plain.aR (level E c.plain.all.length (c.plain.all.length+1)))else(15,[]):=rfl
 have b3:c.plain.all.length=c.eY.length:=by rw[<-c9,List.length_map]
 have d5:=λhh=>bE.fW.eY (c:=c) hh
 have c1:=ny c.plain
 generalize f2:c.plain.numbers isWord cX=nn at *
 generalize f3:c.plain=pl at *
 generalize e4:c.eY=L at *
 rw[b3]at d c1
 obtain⟨vs,vc,a9,g3⟩:=c
 have J:=h.ss
 have i1:=J.ap
 have i2:One vc:=RS.ap h.sc
 simp only at J i1 i2 Z c0⊢
 have e9:=J.le
 refine Spec.gx (H':=[[]]) (by simp) ?_
 refine Spec.body Tryz.func32 rfl Tryz.results32 Tryz.ntmps32 rfl ?_
 refine .sr ?_
 refine .bX rfl (λb1=>?_)
 refine .ag rfl<|.ag rfl<|.zs<|.sr<|.q (.aI rfl) ?_
 refine .bd (a1.weaken cQ) (λu K=>?_)
 subst K
 refine .q .not<|.zn ?_
 refine .cond rfl (λM=>?_) λM=>?_
 refine .sr<|.ag rfl<|.az rfl ?_
 refine .ret (aF (bj _ (.two (.tmp rfl) (.tmp rfl)) (.one [1] _) ?_))
 ·refine⟨[],by simp[take,bF],sZ,[],?_,.nil,?_⟩
  ·rw[d,if_pos (by simpa using M)]
  ·rw[d,if_pos (by simpa using M)];rfl
 have b7:pl.right isWord cX=true:=by simpa using M
 obtain⟨v,c8⟩:=a7 b7
 have f1:=d5 v
 rw[if_neg (by rw[b7];simp)]at d
 refine .kn<|.seq<|.sr<|.q (.aI rfl) ?_
 refine .bd ((a2 v).weaken cQ) (λu K=>?_)
 subst K
 refine .zn ?_
 refine .cond rfl (λN=>?_) λN=>?_
 refine .sr<|.ag rfl<|.az rfl ?_
 refine .ret (aF (bj _ (.two (.tmp rfl) (.tmp rfl)) (.one [1] _) ?_))
 ·refine⟨[],by simp[take,bF],sZ,[],?_,.nil,?_⟩
  ·rw[d,if_pos (by simpa using N)]
  ·rw[d,if_pos (by simpa using N)];rfl
 have d8:pl.dG:=by simpa using N
 rw[if_neg (λhh=>hh d8)]at d
 refine .kn<|.sr<|.q (.aI rfl) ?_
 refine .da ((a3 v c8).weaken cQ) (λu T4 K=>?_)
 obtain⟨w4,E4,ok,rfl,a5,r⟩:=K
 have i4:=a5.ap
 refine .mo rfl<|.q .extract<|.q .extract<|.ag rfl<|.ag rfl<|.zs<|.sr<|.mo rfl<|.q .not<|.zn ?_
 refine .cond rfl (λh3=>?_) λh3=>?_
 have I:ok=false:=by simpa using h3
 have U:pl.gE=none:=by
  cases he:pl.gE with
  |none=>rfl
  |some E=>rw[he]at r;rw[r.1]at I;cases I
 rw[U]at d
 simp only at d
 refine .sr<|.ag rfl<|.az rfl ?_
 refine .ret (aF (bj _ (.two (.tmp rfl) (.tmp rfl)) (.one [2] _) ?_))
 ·refine⟨[],by simp[take,bF],sZ,[],?_,.nil,?_⟩
  ·rw[d]
  ·rw[d];rfl
 have I:ok=true:=by simpa using h3
 obtain⟨E,U,c7⟩:∃E,pl.gE=some E/\E4=E.map Ed.m:=by
  cases he:pl.gE with
  |none=>rw[he]at r;rw[show ok=false from r]at I;cases I
  |some E=>rw[he]at r;exact⟨E,rfl,r.2⟩
 subst c7
 rw[U]at d
 simp only at d
 have b0:∀e∈E,e.f<L.length/\e.t<L.length:=by
  have:=oH U
  rw[b3]at this
  exact this
 have f6:(L.length+1)*(L.length+1)<=1000000:=Nat.le_trans (Nat.mul_le_mul (by omega:L.length+1<=257) (by omega:L.length+1<=257)) (by decide)
 refine .kn<|.sr<|.q (.aI rfl) ?_
 refine .da ((a4 v).weaken cQ) (λu T6 c2=>?_)
 have i6:=c2.ap
 refine .q (.ej c2) ?_
 refine .ag rfl<|.z<|.mo rfl<|.mo rfl<|.mo rfl ?_
 refine .ia (L.length+1) .add ?_
 refine .da (yS w4 E L.length (L.length+1) _ a5.rx b0 (by omega) (by omega)) (λu T7 a0=>?_)
 have i7:=a0.ap
 refine .ag rfl<|.z<|.mo rfl<|.mo rfl<|.mo rfl ?_
 refine .ia (L.length+1) .add ?_
 refine .mo rfl ?_
 refine .ia (L.length+1) .add ?_
 refine .q (.i64 (((L.length+1)*(L.length+1):Nat):Int) .mul ⟨by rw[Int.natCast_mul],by omega,by omega⟩) ?_
 refine .da (yS w4 E L.length ((L.length+1)*(L.length+1)) _ a5.rx b0 (by omega) (by omega)) (λu8 T8 c3=>?_)
 have i8:=c3.ap
 have e7:(level E L.length (L.length+1)).length=L.length:=jK _
 have e8:(level E L.length ((L.length+1)*(L.length+1))).length=L.length:=jK _
 refine .ag rfl<|.zs<|.sr<|.az rfl<|.block ?_
 refine .cq [(1,_),(6,_),(7,_),(8,_)] (X:=Nat) (λi=>i<=L.length/\∀j,j<i->(level E L.length (L.length+1))[j]? =(level E L.length ((L.length+1)*(L.length+1)))[j]? /\(level E L.length (L.length+1)).getD j 0<L.length) (λi E=>(9,iN i)::E) (λ_ G=>G) (λi=>L.length-i) 0 ⟨Nat.zero_le _,λj V=>absurd V (by omega)⟩ kE.c.c.c.c.c rH ?_
 rintro i ⟨hi,hq⟩
 refine .seq<|.sr<|.mo rfl<|.mo rfl<|.q .lss<|.zn ?_
 refine .cond rfl (λh4=>?_) λh4=>?_
 have Y:i<L.length:=cg h4
 obtain⟨a,p⟩:∃a,(level E L.length (L.length+1))[i]? =some a:=⟨_,bB (by omega)⟩
 obtain⟨b,l⟩:∃b,(level E L.length ((L.length+1)*(L.length+1)))[i]? =some b:=⟨_,bB (by omega)⟩
 refine .kn<|.seq<|.block<|.seq ?_
 refine bp.cP [(1,_),(6,_),(7,_),(8,_),(9,_)] kE.c.c.c.c.c (X:=Unit) (λ_=>True) (λ_ E=>(64,.bool (decide (a≠b\/L.length<=a)))::E) (λ_=>[T8,T7,T6,T4,bl b1 [vs,vc] 25,[]]) ?_ ?_
 refine .fq mixed (by kernel_rfl) ?_
 refine .mo rfl<|.mo rfl ?_
 refine .bo i a0 p (λf8=>?_)
 refine .lo rfl<|.mo rfl<|.mo rfl ?_
 refine .bo i c3 l (λf9=>?_)
 refine .lo rfl<|.q .dQ<|.mo rfl ?_
 refine .split (t:=57) rfl (λg=>?_) (λg=>?_)
 refine .gF g<|.gF g<|.gF g<|.gF g<|.gF g<|.gF g<|.q (.aO g) ?_
 refine .nil ?_
 ·exact aE () trivial (kE.c.c.c.c.c.bL rfl (by clear a1 a2 a3 a4 a7 Z hq;grind)) rH
 refine .gT g<|.mo rfl<|.gT g<|.mo rfl<|.gT g ?_
 refine .bo i a0 p (λg0=>?_)
 refine .gT g<|.lo rfl<|.gT g<|.mo rfl<|.gT g<|.q .geq<|.q (.aK g) ?_
 refine .nil ?_
 ·exact aE () trivial (kE.c.c.c.c.c.bL rfl (by clear a1 a2 a3 a4 a7 Z hq;grind)) rH
 intro y hy
 refine aw ?_
 refine .cond rfl (λD=>?_) λD=>?_
 refine .sr<|.ag rfl<|.az rfl ?_
 refine .ret (bg (aF (cz (bg (aF (bj _ (.two (.tmp rfl) (.tmp rfl)) (.one [5] _) ?_))))))
 ·have b4:¬jm E L.length=true:=by
   intro S
   unfold jm at S
   rw[Bool.and_eq_true,List.all_eq_true]at S
   have H:=cv S.1
   have h8:=S.2 a (aX p)
   rw[H,l]at p
   cases p
   have h5':=cv D
   have h9:=cv h8
   rcases h5' with h5'|h5'
   ·exact h5' rfl
   ·omega
  refine⟨[],by simp[take,bF],sZ,[],?_,.nil,?_⟩
  ·rw[d,if_neg b4]
  ·rw[d,if_neg b4];rfl
 refine .skip<|ba<|aw<|.region<|.mo rfl ?_
 refine .ia (i+1) .add ?_
 refine .ag rfl<|.nil ?_
 ·exact bi (i+1) ⟨Y,λj V=>by
   rcases Nat.lt_or_ge j i with hh|hh
   ·exact hq j hh
   ·obtain rfl:j=i:=by omega
    have h5':=bC D
    simp only[ne_eq,not_or,Decidable.not_not,Nat.not_le]at h5'
    exact⟨by rw[p,l,h5'.1],by rw[List.getD_eq_getElem?_getD,p];exact h5'.2⟩⟩ (by omega) kE.c.c.c.c.c rH
 have e5:i=L.length:=by have:=bC h4;omega
 have d1:jm E L.length=true:=by
  unfold jm
  rw[Bool.and_eq_true]
  refine⟨decide_eq_true (List.ext_getElem? λj=>?_),?_⟩
  ·rcases Nat.lt_or_ge j i with hh|hh
   ·exact(hq j hh).1
   ·rw[List.getElem?_eq_none (by omega),List.getElem?_eq_none (by omega)]
  ·rw[List.all_eq_true]
   intro x hx
   obtain⟨j,V,e⟩:=List.mem_iff_getElem.1 hx
   have:=(hq j (by omega)).2
   rw[List.getD_eq_getElem?_getD,bB V,e]at this
   exact decide_eq_true this
 rw[if_pos d1]at d
 generalize f0:level E L.length (L.length+1)=A at *
 refine .exit<|bq<|bz<|br<|aw<|.sr<|.ag rfl<|.z<|.ag rfl<|.zs<|.sr<|.az rfl<|.block ?_
 refine .cq [(1,_),(7,_)] (X:=Nat×Value×List fP×aA×aA) (λy=>y.1<=a9.length/\OS 182 1 fe y.2.1 y.2.2.1 y.2.2.2.1/\(∀q∈y.2.2.1,RS (sg y.2.2.2.2) 1 dc q.1 q.2)/\y.2.2.1.map (·.2)=(rows pl.aR A).take y.1) (λy E=>(12,iN y.1)::(11,.int .i64 (cA pl.aR y.1:Nat))::(10,y.2.1)::E) (λy G=>y.2.2.2.1::y.2.2.2.2::G) (λy=>a9.length-y.1) (0,sZ,[],[],[]) ⟨Nat.zero_le _,OS.nil,λq hq=>(by cases hq),by simp⟩ ((kE.c.c.c.lQ rfl (by cases pl.aR<;>rfl)).cons rfl) bf.gJ ?_
 rintro⟨i,e1,ll,c5,Tp⟩ ⟨d2,O,a6,W⟩
 simp only at d2 O a6 W⊢
 have f7:=O.ap
 have e6:ll.length<=16:=by
  have D:=congrArg List.length W
  rw[List.length_map,List.length_take,lC]at D
  have F:=v.1
  simp only at F
  omega
 refine .seq<|.sr<|.mo rfl<|.fa rfl<|.lo rfl<|.q (.bD J) ?_
 refine .q .lss<|.zn ?_
 refine .cond rfl (λF=>?_) λF=>?_
 have Y:i<a9.length:=cg F
 obtain⟨s,B⟩:=bU Y
 have d7:=h.all _ (aX B)
 have b9:=d7.rs
 have f4:=b9.le
 have f5:s.bI.length<=16:=v.2 s (aX B)
 have a8:=Z i s B
 have b8:=mZ (n:=A) a8
 have b5:=mW a8
 have b6:=qZ a8
 have d6:s.plain.bI.length=s.bI.length:=by simp[bT.plain]
 rw[d6]at b8 b5 b6
 rw[c1]at b6
 refine .kn<|.seq<|.block<|.sr<|.ag rfl<|.zs<|.sr<|.az rfl<|.block ?_
 refine .cq [(1,_),(7,_),(10,_),(12,_)] (X:=Nat×Value×aA) (λy=>y.1<=s.bI.length/\OS 3 1 dc y.2.1 ((A.drop (cA pl.aR i)).take y.1) y.2.2) (λy E=>(14,iN y.1)::(11,.int .i64 (cA pl.aR i+y.1:Nat))::(13,y.2.1)::E) (λy G=>y.2.2::G) (λy=>s.bI.length-y.1) (0,sZ,[]) ⟨Nat.zero_le _,OS.nil⟩ kE.c.c.c.c.c.c.c bf.gw ?_
 rintro⟨k,c4,c6⟩ ⟨hk,Q⟩
 simp only at hk Q⊢
 have d9:=Q.ap
 refine .seq<|.sr<|.mo rfl<|.fa rfl<|.lo rfl<|.mo rfl ?_
 refine .bA i J B (λg1=>?_)
 refine .fa rfl<|.lo rfl<|.q (.bD b9) ?_
 refine .q .lss<|.zn ?_
 refine .cond rfl (λH=>?_) λH=>?_
 have d4:k<s.bI.length:=cg H
 obtain⟨a,p⟩:∃a,A[cA pl.aR i+k]? =some a:=⟨_,bB (by omega)⟩
 have d0:(A.drop (cA pl.aR i)).take (k+1)=(A.drop (cA pl.aR i)).take k++[a]:=dS (by rw[List.getElem?_drop,p])
 refine .kn<|.seq<|.block<|.sr<|.mo rfl<|.mo rfl<|.mo rfl ?_
 refine .bo (cA pl.aR i+k) a0 p (λg2=>?_)
 refine .lo rfl ?_
 refine .iV (λe2=>?_)
 refine .append Q (RS.lits (xs:=[a]) rfl (by simp[dc]) (by simp[dc,ap])) (by simp only[List.length_take,List.length_singleton];omega) (λv1 T1 C=>?_)
 rw[<-d0]at C
 have e0:=C.ap
 refine .az rfl<|.region<|.mo rfl ?_
 refine .ia (cA pl.aR i+(k+1)) .add ?_
 refine .ag rfl<|.nil<|ba<|aw<|.region<|.mo rfl ?_
 refine .ia (k+1) .add ?_
 refine .ag rfl<|.nil ?_
 ·exact bi (k+1,v1,T1) ⟨d4,C⟩ (by simp only;omega) kE.c.c.c.c.c.c.c (aY [1,1,1,1,1,1,1,1,1])
 have b2:k=s.bI.length:=by have:=bC H;omega
 refine .exit<|bq<|bz<|br<|aw<|.region<|.mo rfl<|.mo rfl ?_
 refine .iV (λe3=>?_)
 refine .append O (RS.lits (xs:=[((c4,(A.drop (cA pl.aR i)).take k):fP)]) rfl (by simp[fe]) (by simp[fe,d9.h])) (by simp only[List.length_singleton];omega) (λv1 T1 C=>?_)
 have e0:=C.ap
 refine .ag rfl<|.nil<|ba<|aw<|.region<|.mo rfl ?_
 refine .ia (i+1) .add ?_
 refine .ag rfl<|.nil ?_
 ·exact bi (i+1,v1,ll++[(c4,(A.drop (cA pl.aR i)).take k)],T1,c6++Tp) ⟨Y,C,λq hq=>by
   rcases List.mem_append.1 hq with hq|hq
   ·exact(a6 q hq).mono λb o l=>fO l
   ·rw[List.mem_singleton]at hq
    subst hq
    exact Q.sg.mono λb o l=>gy l,by simp only;rw[List.map_append,W,dS b8,b2];rfl⟩ (by simp only;omega) ((kE.c.c.c.lQ rfl (by simp only;rw[b5,b2])).cons rfl) ((aY [2,1,1,1,1,1,1,1]).trans (bf.eT (by simp[take,bF])))
 refine .exit<|bq<|bz<|br<|aw<|.sr<|.mo rfl<|.ag rfl<|.az rfl ?_
 refine .ret (bj _ (.two (.tmp rfl) (.tmp rfl)) (.one [0,0] _) ?_)
 ·have d3:pl.aR.length<=i:=by rw[c0];have:=bC F;omega
  refine⟨c5++Tp,by simp[take,bF],e1,ll,?_,⟨O.sg.mono λb o l=>gy l,λq hq=>(a6 q hq).mono λb o l=>fO l⟩,?_⟩
  ·rw[d]
  ·rw[d,W]
   exact dD (by rw[lC];exact d3)
abbrev pj(pb:Nat)(v:Value)(b:Bool):aA:=(bl pb [v,.bool b] 215)
def fu(t:eu):Prop:=t.kind≠0/\t.text.size<=9223372036854775807/\(t.kind=2\/(t.text≠np/\t.text≠oq/\t.text≠pN/\t.text≠nk/\t.text≠oo/\t.text≠pO/\t.text≠rR))
instance(t:eu):Decidable (fu t):=by unfold fu;infer_instance
structure dB(R:aB)(pb:Nat)(st:bV)(T:aA):Prop where
 h:∃v,T=pj pb v st.2/\RS R 3 eu.enc v st.1
 ok:∀t∈st.1,fu t
theorem dB.nil{R:aB}{a:Nat}:dB R a je (pj a (sZ) true):=⟨⟨_,rfl,RS.fZ⟩,λt b=>(by cases b)⟩
def kp:List eu->eu
 |[]=>⟨0,⟨#[]⟩,0⟩
 |t::_=>t
theorem yj(d:Nat)(v:Value)(b:Bool)(l:List eu)(R:aB)(h:RS R 3 eu.enc v l) [pc:PC R (pT d) [v,.bool b]]:Spec prog 201 [pT d] R [] λu H'=>u=.agg (kp l).enc.toArray/\H'=[]:=by
 have i:=h.ap
 refine Spec.body Tryz.func201 rfl Tryz.results201 Tryz.ntmps201 rfl ?_
 refine .sr ?_
 refine .bN (λg=>?_)
 refine .zs<|.sr<|.mo rfl<|.nc rfl<|.fa rfl<|.lo rfl<|.q (.bD h) ?_
 refine .q .bO<|.zn ?_
 refine .cond rfl (λa=>?_) λa=>?_
 have c:(l.length:Int)=0:=by simpa using a
 have f:l=[]:=List.eq_nil_of_length_eq_zero (by omega)
 subst f
 refine .sr ?_
 refine .q .cO ?_
 refine .bG rfl rfl<|.zn ?_
 refine .ret (aF (bj _ (.one (.ei rfl rfl)) (.none _) ?_))
 ·exact⟨rfl,rfl⟩
 have c:¬(l.length:Int)=0:=by simpa using a
 obtain⟨t,r,rfl⟩:∃t r,l=t::r:=by
  cases l with
  |nil=>simp at c
  |cons t r=>exact⟨t,r,rfl⟩
 have e:(t::r)[0]? =some t:=rfl
 refine .kn<|.sr<|.mo rfl<|.nc rfl<|.fa rfl<|.lo rfl ?_
 refine .bA 0 h e (λj=>?_)
 refine .q (.aI rfl)<|.bG rfl rfl<|.zn ?_
 refine .ret (bj _ (.one (.ei rfl rfl)) (.none _) ?_)
 ·exact⟨rfl,rfl⟩
theorem qw(a:Nat)(v:Value) [c:One v](b:Bool)(R:aB):Spec prog 159 [pT a] R [pj a v b] λ_ H'=>∃T',H'=[T']/\T'=pj a (sZ) true:=by
 refine Spec.body Tryz.func159 rfl Tryz.results159 Tryz.ntmps159 rfl ?_
 refine .sr<|.mo rfl<|.nc rfl<|.fa rfl<|.dm rfl rfl<|.zn<|.region<|.mo rfl<|.nc rfl<|.fa rfl<|.dm rfl rfl<|.nil<|jO _ .none rH ?_
 ·exact⟨_,rfl,rfl⟩
theorem ml(j:Nat)(g:bV)(T:aA)(R:aB)(w:dB R j g T)(s:ByteArray):Spec prog 156 [pT j,.string s] R [T] λu H'=>∃T',H'=[T']/\u=.bool (dl s g).isSome/\dB R j ((dl s g).getD g) T':=by
 obtain⟨⟨v,rfl,h⟩,f⟩:=w
 obtain⟨l,b⟩:=g
 simp only at h f⊢
 have D:=h.ap
 have C:=h.le
 have k:dl s ([],b)=none:=rfl
 have i:∀t r,dl s (t::r,b)=if t.kind=2\/t.text≠s then none else some (r,b):=λ_ _=>rfl
 refine Spec.body Tryz.func156 rfl Tryz.results156 Tryz.ntmps156 rfl ?_
 refine .sr<|.ag rfl<|.z<|.mo rfl ?_
 refine .bd (yj j v b l _ h.rx) (λu y=>?_)
 subst y
 refine .bN (λB=>?_)
 refine .bG rfl rfl<|.zs<|.sr<|.fa rfl<|.lo rfl<|.q .bO<|.mo rfl ?_
 refine .split (t:=11) rfl (λc=>?_) (λc=>?_)
 refine .gF c<|.gF c<|.gF c<|.q (.aO c) ?_
 refine .mo rfl<|.gX<|.gX<|.gX<|.gX<|.q .cD<|.zn<|.gD ?_
 have d:dl s (l,b)=none:=by
  cases l with
  |nil=>exact k
  |cons t r=>
   rw[i]
   obtain⟨o,_,_⟩:=f t List.mem_cons_self
   simp only[kp]at *
   rw[if_pos]
   by_cases e:t.kind=2
   ·exact .inl e
   ·exact .inr (by grind)
 refine .sr<|.az rfl ?_
 refine .ret (aF (bj _ (.one (.tmp rfl)) (aY [1]) ?_))
 ·exact⟨_,rfl,by rw[d];rfl,by rw[d];exact⟨⟨v,rfl,h⟩,f⟩⟩
 refine .gT c<|.fa rfl<|.gT c<|.lo rfl<|.gT c<|.q .bO<|.q (.aK c) ?_
 refine .mo rfl ?_
 refine .split (t:=16) rfl (λa=>?_) (λa=>?_)
 refine .gF a<|.gF a<|.gF a<|.gF a<|.q (.aO a) ?_
 refine .zn<|.gD ?_
 have d:dl s (l,b)=none:=by
  cases l with
  |nil=>exact k
  |cons t r=>
   rw[i]
   obtain⟨o,_,_⟩:=f t List.mem_cons_self
   simp only[kp]at *
   rw[if_pos]
   by_cases e:t.kind=2
   ·exact .inl e
   ·exact .inr (by grind)
 refine .sr<|.az rfl ?_
 refine .ret (aF (bj _ (.one (.tmp rfl)) (aY [1]) ?_))
 ·exact⟨_,rfl,by rw[d];rfl,by rw[d];exact⟨⟨v,rfl,h⟩,f⟩⟩
 refine .gT a<|.fa rfl<|.gT a<|.lo rfl<|.gT a<|.mo rfl<|.gT a<|.q .ff<|.q (.aK a) ?_
 refine .zn ?_
 refine .cond rfl (λp=>?_) λp=>?_
 have d:dl s (l,b)=none:=by
  cases l with
  |nil=>exact k
  |cons t r=>
   rw[i]
   obtain⟨o,_,_⟩:=f t List.mem_cons_self
   simp only[kp]at *
   rw[if_pos]
   by_cases e:t.kind=2
   ·exact .inl e
   ·exact .inr (by grind)
 refine .sr<|.az rfl ?_
 refine .ret (aF (bj _ (.one (.tmp rfl)) (aY [1]) ?_))
 ·exact⟨_,rfl,by rw[d];rfl,by rw[d];exact⟨⟨v,rfl,h⟩,f⟩⟩
 obtain⟨t,r,rfl⟩:∃t r,l=t::r:=by
  cases l with
  |nil=>simp[kp]at *
  |cons t r=>exact⟨t,r,rfl⟩
 have n:dl s (t::r,b)=some (r,b):=by
  rw[i,if_neg]
  simp only[kp]at *
  grind
 refine .kn<|.sr<|.mo rfl<|.mo rfl<|.nc rfl<|.fa rfl<|.lo rfl ?_
 refine .lE 1 (r.length+1) h ⟨_,rfl⟩ rfl (by omega) (by simp) (λA m=>?_)
 rw[show((t::r).drop 1).take (r.length+1-1)=r by simp]at m
 have E:=m.ap
 refine .nc rfl<|.fa rfl<|.dm rfl rfl<|.z<|.az rfl ?_
 refine .ret (bj _ (.one (.tmp rfl)) (aY [1]) ?_)
 ·exact⟨_,rfl,by rw[n];rfl,by rw[n];exact⟨⟨A,rfl,m⟩,λt x=>f t (List.mem_cons_of_mem _ x)⟩⟩
theorem qT(d:Nat)(a:bV)(T:aA)(R:aB)(g:dB R d a T)(s:ByteArray):Spec prog 203 [pT d,.string s] R [T] λ_ H'=>∃T',H'=[T']/\dB R d (fz s a) T':=by
 have i:=ml d a T R g s
 have e:fz s a=(dl s a).getD je:=rfl
 refine Spec.body Tryz.func203 rfl Tryz.results203 Tryz.ntmps203 rfl ?_
 refine .sr<|.mo rfl<|.mo rfl ?_
 refine .cV (R:=R) i (λu T' f=>?_)
 obtain⟨rfl,c⟩:=f
 refine .q .not<|.zn ?_
 refine .cond rfl (λb=>?_) λb=>?_
 have h:dl s a=none:=by
  cases hh:dl s a with
  |none=>rfl
  |some x=>rw[hh]at b;simp at b
 rw[h]at c e
 simp only[Option.getD_none]at c
 obtain⟨⟨v,rfl,j⟩,_⟩:=c
 have l:=j.ap
 refine .region<|.mo rfl ?_
 refine .cV (R:=R) (qw d v a.2 R) (λu T' f=>?_)
 subst f
 refine .nil<|jO _ .none rH ?_
 ·exact⟨_,rfl,by rw[e];exact dB.nil⟩
 obtain⟨x,k⟩:∃x,dl s a=some x:=by
  cases hh:dl s a with
  |none=>rw[hh]at b;simp at b
  |some x=>exact⟨x,rfl⟩
 rw[k]at c e
 refine .skip<|jO _ .none rH ?_
 ·exact⟨_,rfl,by rw[e];exact c⟩
theorem px(d:Nat)(g:bV)(T:aA)(R:aB)(p:dB R d g T):Spec prog 202 [pT d] R [T] λu H'=>∃T',H'=[T']/\u=.string (dq isWord g).1/\dB R d (dq isWord g).2 T':=by
 obtain⟨⟨v,rfl,h⟩,j⟩:=p
 obtain⟨l,b⟩:=g
 simp only at h j⊢
 have B:=h.ap
 have A:=h.le
 have m:dq isWord ([],b)=(⟨#[]⟩,je):=rfl
 have i:∀t r,dq isWord (t::r,b)=if t.kind≠1\/isWord t.text=false then(⟨#[]⟩,je)else(t.text,(r,b)):=λ_ _=>rfl
 have w:(kp l).text.size<=9223372036854775807:=by
  cases l with
  |nil=>exact Nat.zero_le _
  |cons t r=>exact(j t List.mem_cons_self).2.1
 refine Spec.body Tryz.func202 rfl Tryz.results202 Tryz.ntmps202 rfl ?_
 refine .sr<|.ag rfl<|.z<|.mo rfl ?_
 refine .bd (yj d v b l _ h.rx) (λu c=>?_)
 subst c
 refine .bN (λy=>?_)
 refine .bG rfl rfl<|.zs<|.sr<|.fa rfl<|.lo rfl<|.q .dQ<|.mo rfl ?_
 refine .split (t:=9) rfl (λa=>?_) (λa=>?_)
 refine .gF a<|.gF a<|.gF a<|.gF a<|.q (.aO a) ?_
 refine .zn<|.gD ?_
 have f:dq isWord (l,b)=(⟨#[]⟩,je):=by
  cases l with
  |nil=>exact m
  |cons t r=>
   rw[i,if_pos]
   simp only[kp]at *
   by_cases e:t.kind=1
   ·right;simp_all
   ·exact .inl e
 refine .sr<|.mo rfl ?_
 refine .cV (R:=R) (qw d v b R) (λu T' c=>?_)
 subst c
 refine .z<|.az rfl ?_
 refine .ret (aF (bj _ (.one (.tmp rfl)) (aY [1]) ?_))
 ·exact⟨_,rfl,by rw[f],by rw[f];exact dB.nil⟩
 refine .gT a<|.fa rfl<|.gT a<|.lo rfl<|.gT a ?_
 refine .bd ((jD _ w R).weaken cQ) (λu c=>?_)
 subst c
 refine .gT a<|.q .not<|.q (.aK a) ?_
 refine .zn ?_
 refine .cond rfl (λo=>?_) λo=>?_
 have f:dq isWord (l,b)=(⟨#[]⟩,je):=by
  cases l with
  |nil=>exact m
  |cons t r=>
   rw[i,if_pos]
   simp only[kp]at *
   by_cases e:t.kind=1
   ·right;simp_all
   ·exact .inl e
 refine .sr<|.mo rfl ?_
 refine .cV (R:=R) (qw d v b R) (λu T' c=>?_)
 subst c
 refine .z<|.az rfl ?_
 refine .ret (aF (bj _ (.one (.tmp rfl)) (aY [1]) ?_))
 ·exact⟨_,rfl,by rw[f],by rw[f];exact dB.nil⟩
 obtain⟨t,r,rfl⟩:∃t r,l=t::r:=by
  cases l with
  |nil=>simp[kp]at *
  |cons t r=>exact⟨t,r,rfl⟩
 have n:dq isWord (t::r,b)=(t.text,(r,b)):=by
  rw[i,if_neg]
  simp_all[kp]
 refine .kn<|.sr<|.mo rfl<|.mo rfl<|.nc rfl<|.fa rfl<|.lo rfl ?_
 refine .lE 1 (r.length+1) h ⟨_,rfl⟩ rfl (by omega) (by simp) (λx k=>?_)
 rw[show((t::r).drop 1).take (r.length+1-1)=r by simp]at k
 have C:=k.ap
 refine .nc rfl<|.fa rfl<|.dm rfl rfl<|.z<|.fa rfl<|.lo rfl<|.az rfl ?_
 refine .ret (bj _ (.one (.tmp rfl)) (aY [1]) ?_)
 ·exact⟨_,rfl,by rw[n];rfl,by rw[n];exact⟨⟨x,rfl,k⟩,λt s=>j t (List.mem_cons_of_mem _ s)⟩⟩
theorem nw{s:ByteArray}{a:bV}(h:∀t∈a.1,fu t)(b:s=np\/s=oq\/s=pN\/s=nk\/s=oo\/s=pO\/s=rR):dl s a=none:=by
 unfold dl
 split
 ·rfl
 ·rename_i t r e
  have ht:=(h t (by rw[e];exact List.mem_cons_self)).2.2
  rw[if_pos]
  rcases ht with ht|⟨c,d,f,g,i,j,k⟩
  ·exact .inl ht
  ·right
   rcases b with rfl|rfl|rfl|rfl|rfl|rfl|rfl<;>assumption
theorem pp{W:ByteArray->Bool}{a:bV}(h:∀t∈a.1,fu t):(dq W a).1.size<=9223372036854775807:=by
 unfold dq
 split
 ·exact Nat.zero_le _
 ·rename_i t r e
  split
  ·exact Nat.zero_le _
  ·exact(h t (by rw[e];exact List.mem_cons_self)).2.1
section
variable{R:aB}
theorem nr(a:Nat)(b:bV)(T:aA)(c:dB R a b T)(s:ByteArray)(d:s=np\/s=oq\/s=pN\/s=nk\/s=oo\/s=pO\/s=rR):Spec prog 156 [pT a,.string s] R [T] λu H'=>∃T',H'=[T']/\u=.bool false/\dB R a b T':=
 (ml a b T R c s).mono λu H' e=>by
  obtain⟨T',rfl,rfl,h⟩:=e
  rw[nw c.ok d]at h⊢
  exact⟨T',rfl,rfl,h⟩
theorem xJ(b:Nat)(a:bV)(T:aA)(h:dB R b a T):Spec prog 247 [pT b] R [T] λu H'=>∃T',H'=[T']/\u=.agg (fR isWord a).1.enc.toArray/\dB R b (fR isWord a).2 T':=by
 have d:fR isWord a=match dl pQ a with
  |some s=>(⟨⟨#[]⟩,⟨#[]⟩⟩,s)
  |none=>(⟨(dq isWord a).1,(dq isWord (fz pP (dq isWord a).2)).1⟩,(dq isWord (fz pP (dq isWord a).2)).2):=rfl
 generalize fR isWord a=out at *
 refine Spec.body Tryz.func247 rfl Tryz.results247 Tryz.ntmps247 rfl ?_
 refine .sr ?_
 refine .bN (λo=>?_)
 refine .zs<|.sr<|.mo rfl ?_
 refine .cV (R:=R) (ml b a T R h pQ) (λu T' e=>?_)
 obtain⟨rfl,c⟩:=e
 refine .zn ?_
 refine .cond rfl (λf=>?_) λf=>?_
 obtain⟨s,g⟩:=Option.isSome_iff_exists.1 f
 rw[g]at c d
 simp only[Option.getD_some]at c d
 subst d
 refine .sr ?_
 refine .q .cO ?_
 refine .bG rfl rfl<|.zn ?_
 refine .ret (aF (bj _ (.one (.ei rfl rfl)) (aY [1]) ?_))
 ·exact⟨_,rfl,rfl,c⟩
 have g:dl pQ a=none:=by
  cases hh:dl pQ a with
  |none=>rfl
  |some x=>rw[hh]at f;cases f
 rw[g]at c d
 simp only[Option.getD_none]at c d
 subst d
 refine .kn<|.sr<|.mo rfl ?_
 refine .cV (R:=R) (px b a _ R c) (λu l e=>?_)
 obtain⟨rfl,i⟩:=e
 refine .q .cO ?_
 refine .bN (λp=>?_)
 refine .bG rfl rfl<|.z<|.mo rfl ?_
 refine .cV (R:=R) (qT b _ _ R i pP) (λu m j=>?_)
 refine .z<|.mo rfl ?_
 refine .cV (R:=R) (px b _ _ R j) (λu n e=>?_)
 obtain⟨rfl,k⟩:=e
 refine .fa rfl<|.dm rfl rfl<|.z<|.q (.aI rfl)<|.bG rfl rfl<|.zn ?_
 refine .ret (bj _ (.one (.ei rfl rfl)) (aY [2]) ?_)
 ·exact⟨_,rfl,rfl,k⟩
def eX(l:List Nd)(st:bV):List Nd×bV:=
 match dl nq st with
 |some s=>(l++[⟨1,⟨#[]⟩,⟨#[]⟩,0,0⟩],s)
 |none=>(l++[⟨2,(dq isWord st).1,⟨#[]⟩,0,0⟩],(dq isWord st).2)
theorem wR(l:List Nd)(a:bV):eQ (eX l a).2 a:=by
 unfold eX
 split
 ·rename_i s h;exact(gY h).1
 ·exact jW a
theorem JW{a:bV}(h:∀t∈a.1,fu t)(f:Nat)(l:List Nd):ls isWord (f+1) l a=eX l a:=by
 rw[ls]
 unfold eX
 cases hh:dl nq a with
 |some s=>rfl
 |none=>
  rw[nw h (by simp)]
  simp only
  rw[nw (λt b=>h t ((jW a).mem b)) (by simp)]
theorem N0{a:bV}(h:∀t∈a.1,fu t)(f:Nat)(l:List Nd):mc (ls isWord (f+1)) l a=eX l a:=by
 unfold mc
 rw[JW h,pR]
 split
 ·rfl
 ·rw[nw (λt b=>h t ((wR l a).mem b)) (by simp)]
theorem Bd{a:bV}(h:∀t∈a.1,fu t)(f:Nat)(l:List Nd):nP (ls isWord (f+1)) l a=eX l a:=by
 unfold nP
 rw[N0 h,oJ]
 have b:∀t∈(eX l a).2.1,fu t:=λt c=>h t ((wR l a).mem c)
 have:ph (eX l a).2=none:=by
  unfold ph
  rw[nw b (by simp),nw b (by simp)]
  rfl
 rw[this]
theorem JX(c:Nat)(a:bV)(T:aA)(m:dB R c a T)(v:Value)(l:List Nd)(j:aA)(h:OS 199 5 Nd.enc v l j)(B:l.length<=1000000):Spec prog 273 [pT c,v] R [T,j] λu H'=>∃T' Tl',H'=[T',Tl']/\OS 199 5 Nd.enc u (eX l a).1 Tl'/\dB R c (eX l a).2 T':=by
 have e:eX l a=match dl nq a with
  |some s=>(l++[⟨1,⟨#[]⟩,⟨#[]⟩,0,0⟩],s)
  |none=>(l++[⟨2,(dq isWord a).1,⟨#[]⟩,0,0⟩],(dq isWord a).2):=rfl
 generalize eX l a=out at *
 have C:=h.ap
 refine Spec.body Tryz.func273 rfl Tryz.results273 Tryz.ntmps273 rfl ?_
 refine .sr<|.ag rfl<|.zs<|.block<|.sr<|.mo rfl ?_
 refine .cV (R:=R) (ml c a T R m nq) (λu T' b=>?_)
 obtain⟨rfl,d⟩:=b
 refine .az rfl ?_
 refine .cond rfl (λg=>?_) λg=>?_
 obtain⟨s,i⟩:=Option.isSome_iff_exists.1 g
 rw[i]at d e
 simp only[Option.getD_some]at d e
 subst e
 refine .sr<|.mo rfl ?_
 refine .q .cO ?_
 refine .dA (λy=>?_)
 refine .append h (RS.lits (xs:=[(⟨1,⟨#[]⟩,⟨#[]⟩,0,0⟩:Nd)]) rfl (by simp[Nd.enc]) (by simp[Nd.enc,ap])) (by simp only[List.length_singleton];omega) (λt k f=>?_)
 have r:=f.ap
 refine .az rfl ?_
 refine .ret (bg (aF (bj _ (.one (.tmp rfl)) (aY [1,1]) ?_)))
 ·exact⟨_,_,rfl,f,d⟩
 have i:dl nq a=none:=by
  cases hh:dl nq a with
  |none=>rfl
  |some x=>rw[hh]at g;cases g
 rw[i]at d e
 simp only[Option.getD_none]at d e
 subst e
 refine .sr<|.mo rfl ?_
 refine .cV (R:=R) (nr c a _ d np (by simp)) (λu T' b=>?_)
 obtain⟨rfl,n⟩:=b
 refine .az rfl<|.cF<|.skip<|ba<|aw<|.sr<|.mo rfl ?_
 refine .cV (R:=R) (px c a _ R n) (λu w b=>?_)
 obtain⟨rfl,o⟩:=b
 refine .q .cO ?_
 refine .bN (λA=>?_)
 refine .bG rfl rfl<|.zs<|.sr<|.mo rfl ?_
 refine .cV (R:=R) (nr c _ _ o pO (by simp)) (λu T' b=>?_)
 obtain⟨rfl,p⟩:=b
 refine .zn<|.cF<|.kn<|.sr<|.mo rfl<|.q (.aI rfl) ?_
 refine .dA (λz=>?_)
 refine .append h (RS.lits (xs:=[(⟨2,(dq isWord a).1,⟨#[]⟩,0,0⟩:Nd)]) rfl (by simp[Nd.enc]) (by simp[Nd.enc,ap])) (by simp only[List.length_singleton];omega) (λt k f=>?_)
 have r:=f.ap
 refine .az rfl ?_
 refine .ret (bj _ (.one (.tmp rfl)) (aY [2,2]) ?_)
 ·exact⟨_,_,rfl,f,p⟩
theorem N1(a:Nat)(d:bV)(T:aA)(p:dB R a d T)(v:Value)(l:List Nd)(i:aA)(r:OS 199 5 Nd.enc v l i)(D:l.length<=1000000):Spec prog 265 [pT a,v] R [T,i] λu H'=>∃T' Tl',H'=[T',Tl']/\OS 199 5 Nd.enc u (eX l d).1 Tl'/\dB R a (eX l d).2 T':=by
 have K:=r.ap
 refine Spec.body Tryz.func265 rfl Tryz.results265 Tryz.ntmps265 rfl ?_
 refine .sr<|.ag rfl<|.z<|.mo rfl<|.mo rfl ?_
 refine .call [0,0] (JX (R:=Rx R []) a d T ⟨p.h.imp λv h=>⟨h.1,h.2.rx⟩,p.ok⟩ v l i r D) (λu H' k=>?_)
 obtain⟨m,B,rfl,s,f⟩:=k
 have f:dB R a (eX l d).2 m:=⟨f.h.imp λv h=>⟨h.1,h.2.mono λb o j=>j.elim id λj=>(by cases j)⟩,f.ok⟩
 have I:=s.ap
 conv=>arg 8;simp only[rest,bF,List.cons_append,List.nil_append]
 refine .ag rfl<|.zs<|.block ?_
 refine .cq [(0,_)] (X:=aA) (λT=>dB R a (eX l d).2 T) (λ_ E=>(1,_)::E) (λT G=>T::G) (λ_=>0) m f kE.c.c rH ?_
 rintro n g
 obtain⟨⟨A,w,x⟩,F⟩:=g
 have g:dB R a (eX l d).2 n:=⟨⟨A,w,x⟩,F⟩
 have J:=x.ap
 have L:PS n (pT a) [A,.bool (eX l d).2.2]:=PS.of (E:=215) (fr:=(0,0)) (by rw[w];simp)
 refine .seq<|.seq ?_
 refine bp.cP [(0,_),(1,_)] kE.c.c (X:=aA) (λT=>dB R a (eX l d).2 T) (λ_ E=>(17,.bool false)::E) (λT=>[T,B]) ?_ ?_
 refine .region<|.mo rfl<|.nc rfl<|.fa rfl<|.lo rfl<|.q .not<|.mo rfl ?_
 refine .split (t:=14) rfl (λe=>?_) (λe=>?_)
 refine .gT e<|.mo rfl<|.gT e ?_
 refine .cV (R:=R) (nr a _ _ g pN (by simp)) (λu T' k=>?_)
 obtain⟨rfl,C⟩:=k
 refine .q (.aO e) ?_
 refine .nil ?_
 ·exact aE _ C kE.c.c.c rH
 refine .gF e<|.gF e<|.q (.aK e) ?_
 refine .nil ?_
 ·exact aE _ g kE.c.c.c rH
 intro y H
 refine aw<|.cF<|.exit<|bq<|bz<|br<|aw<|.sr<|.mo rfl<|.az rfl ?_
 refine .ret (bj _ (.one (.tmp rfl)) rH ?_)
 ·exact⟨_,_,rfl,s,by assumption⟩
theorem Lu(a:Nat)(c:bV)(T:aA)(d:dB R a c T):Spec prog 266 [pT a] R [T] λu H'=>∃T',H'=[T']/\u=.int .i64 0/\dB R a c T':=by
 refine Spec.body Tryz.func266 rfl Tryz.results266 Tryz.ntmps266 rfl ?_
 refine .sr<|.ag rfl<|.zs<|.block<|.sr<|.mo rfl ?_
 refine .cV (R:=R) (nr a _ _ d nk (by simp)) (λu T' b=>?_)
 obtain⟨rfl,e⟩:=b
 refine .az rfl<|.cF<|.sr<|.mo rfl ?_
 refine .cV (R:=R) (nr a _ _ e oo (by simp)) (λu T' b=>?_)
 obtain⟨rfl,f⟩:=b
 refine .az rfl<|.cF<|.skip<|ba<|aw<|.sr<|.az rfl ?_
 refine .ret (bj _ (.one (.tmp rfl)) rH ?_)
 ·exact⟨_,rfl,rfl,f⟩
theorem Be(d:Nat)(e:bV)(T:aA)(k:dB R d e T)(v:Value)(l:List Nd)(g:aA)(m:OS 199 5 Nd.enc v l g)(s:l.length<=1000000):Spec prog 248 [pT d,v] R [T,g] λu H'=>∃T' Tl',H'=[T',Tl']/\OS 199 5 Nd.enc u (eX l e).1 Tl'/\dB R d (eX l e).2 T':=by
 have y:=m.ap
 refine Spec.body Tryz.func248 rfl Tryz.results248 Tryz.ntmps248 rfl ?_
 refine .sr<|.ag rfl<|.z<|.mo rfl<|.mo rfl ?_
 refine .call [0,0] (N1 (R:=Rx R []) d e T ⟨k.h.imp λv h=>⟨h.1,h.2.rx⟩,k.ok⟩ v l g m s) (λu H' j=>?_)
 obtain⟨p,w,rfl,n,f⟩:=j
 have f:dB R d (eX l e).2 p:=⟨f.h.imp λv h=>⟨h.1,h.2.mono λb o i=>i.elim id λi=>(by cases i)⟩,f.ok⟩
 have x:=n.ap
 conv=>arg 8;simp only[rest,bF,List.cons_append,List.nil_append]
 refine .ag rfl<|.zs<|.sr<|.mo rfl ?_
 refine .cV (R:=R) (Lu d _ _ f) (λu T' j=>?_)
 obtain⟨rfl,r⟩:=j
 refine .az rfl<|.block ?_
 refine .cq [(0,_)] (X:=Unit) (λ_=>True) (λ_ E=>(5,.int .i64 0)::(1,_)::E) (λ_ G=>G) (λ_=>0) () trivial kE.c.c.c rH ?_
 rintro _ _
 refine .seq<|.sr<|.mo rfl<|.q .dQ<|.mo rfl ?_
 refine .split (t:=14) rfl (λa=>?_) (λa=>?_)
 ·cases a
 refine .gF a<|.gF a<|.gF a<|.gF a<|.gF a<|.q (.aK a) ?_
 refine .zn<|.cF<|.exit<|bq<|bz<|br<|aw<|.sr<|.mo rfl<|.az rfl ?_
 refine .ret (bj _ (.one (.tmp rfl)) rH ?_)
 ·exact⟨_,_,rfl,n,r⟩
end
theorem KB(n:Nd)(w:n.fits)(R:aB):Spec prog 226 [.agg n.enc.toArray] R [] λu H'=>u=.bool (n.leaf isWord)/\H'=[]:=by
 obtain⟨k,j,m,a,b⟩:=n
 obtain⟨i,l⟩:=w
 simp only at i l
 refine Spec.body Tryz.func226 rfl Tryz.results226 Tryz.ntmps226 rfl ?_
 refine .sr ?_
 refine .bX rfl (λo=>?_)
 refine .ag rfl<|.zs<|.seq ?_
 refine bp.cP [(1,_)] kE.c (X:=Unit) (λ_=>True) (λ_ E=>(10,.bool (!(a==0&&b==0)))::E) (λ_=>[bl o (Nd.enc ⟨k,j,m,a,b⟩) 199]) ?_ ?_
 refine .region<|.fa rfl<|.lo rfl<|.q .dQ<|.mo rfl ?_
 refine .split (t:=6) rfl (λd=>?_) (λd=>?_)
 refine .gF d<|.gF d<|.gF d<|.q (.aO d) ?_
 refine .nil ?_
 ·exact aE () trivial (kE.c.bL rfl (by grind)) rH
 refine .gT d<|.fa rfl<|.gT d<|.lo rfl<|.gT d<|.q .dQ<|.q (.aK d) ?_
 refine .nil ?_
 ·exact aE () trivial (kE.c.bL rfl (by grind)) rH
 intro y x
 refine aw ?_
 refine .cond rfl (λp=>?_) λp=>?_
 refine .sr<|.az rfl ?_
 refine .ret (aF (aH rfl ?_))
 ·refine⟨congrArg _ ?_,rfl⟩
  simp only[Nd.leaf]
  grind
 refine .kn<|.seq<|.sr<|.fa rfl<|.lo rfl<|.zn<|.block<|.sr<|.q .bO<|.az rfl ?_
 refine .cond rfl (λr=>?_) λr=>?_
 refine .sr<|.fa rfl<|.lo rfl<|.q .dI<|.mo rfl ?_
 refine .split (t:=18) rfl (λe=>?_) (λe=>?_)
 refine .gT e<|.fa rfl<|.gT e<|.lo rfl<|.gT e<|.q .dI<|.q (.aO e) ?_
 refine .az rfl ?_
 refine .ret (bg (aF (aH rfl ?_)))
 ·refine⟨congrArg _ ?_,rfl⟩
  simp only[Nd.leaf]
  grind
 refine .gF e<|.gF e<|.gF e<|.q (.aK e) ?_
 refine .az rfl ?_
 refine .ret (bg (aF (aH rfl ?_)))
 ·refine⟨congrArg _ ?_,rfl⟩
  simp only[Nd.leaf]
  grind
 refine .sr<|.q .bO<|.az rfl ?_
 refine .cond rfl (λs=>?_) λs=>?_
 refine .sr<|.fa rfl<|.lo rfl ?_
 refine .bd (jD j i _) (λu h=>?_)
 subst h
 refine .mo rfl ?_
 refine .split (t:=28) rfl (λf=>?_) (λf=>?_)
 refine .gT f<|.fa rfl<|.gT f<|.lo rfl<|.gT f<|.q .dI<|.q (.aO f) ?_
 refine .az rfl ?_
 refine .ret (bg (aF (aH rfl ?_)))
 ·refine⟨congrArg _ ?_,rfl⟩
  simp only[Nd.leaf]
  grind
 refine .gF f<|.gF f<|.gF f<|.q (.aK f) ?_
 refine .az rfl ?_
 refine .ret (bg (aF (aH rfl ?_)))
 ·refine⟨congrArg _ ?_,rfl⟩
  simp only[Nd.leaf]
  grind
 refine .sr<|.q .bO<|.az rfl ?_
 refine .cond rfl (λv=>?_) λv=>?_
 refine .sr<|.fa rfl<|.lo rfl ?_
 refine .bd (jD j i _) (λu h=>?_)
 subst h
 refine .mo rfl ?_
 refine .split (t:=38) rfl (λg=>?_) (λg=>?_)
 refine .gT g<|.fa rfl<|.gT g<|.lo rfl<|.gT g ?_
 refine .bd (jD m l _) (λu h=>?_)
 subst h
 refine .q (.aO g) ?_
 refine .az rfl ?_
 refine .ret (bg (aF (aH rfl ?_)))
 ·refine⟨congrArg _ ?_,rfl⟩
  simp only[Nd.leaf]
  grind
 refine .gF g<|.gF g<|.gF g<|.q (.aK g) ?_
 refine .az rfl ?_
 refine .ret (bg (aF (aH rfl ?_)))
 ·refine⟨congrArg _ ?_,rfl⟩
  simp only[Nd.leaf]
  grind
 refine .skip<|ba<|aw<|.sr<|.az rfl ?_
 refine .ret (aH rfl ?_)
 ·refine⟨congrArg _ ?_,rfl⟩
  simp only[Nd.leaf]
  grind
theorem sI(W:ByteArray->Bool):∀(a b:List Nd) (S:List (Nat×Nat)),hZ W (a++b) S=(hZ W a S).bind (hZ W b)
 |[],b,S=>rfl
 |n::a,b,S=>by
  rw[List.cons_append,hZ,hZ]
  cases gp W S n with
  |none=>rfl
  |some S'=>exact sI W a b S'
theorem pK{α:Type}{A:List α}{i k:Nat}{x z:α}(a:A.length=i):(A++List.replicate (k+1) z).set i x=(A++[x])++List.replicate k z:=by
 subst a
 rw[List.set_append_right _ _ (Nat.le_refl _),Nat.sub_self,List.replicate_succ,List.set_cons_zero]
 simp
theorem oR{A:List Nat}{j k:Nat}{a:Nat}(h:A[j]? =some a):(A++List.replicate k 0)[j]? =some a:=by
 rw[List.getElem?_append_left (List.getElem?_eq_some_iff.1 h).1]
 exact h
def kY(S:List (Nat×Nat))(n:Nd):Prop:=n.rel≠⟨#[]⟩\/n.dw≠⟨#[]⟩\/n.b≠(S.length:Int)-1\/n.b<0\/n.a≠(S.length:Int)-1-(S.getD (S.length-1) (0,0)).1\/n.a<0
instance(S:List (Nat×Nat))(n:Nd):Decidable (kY S n):=by unfold kY;infer_instance
theorem A4{S:List (Nat×Nat)}{n:Nd}(ho:n.op=true)(h:kY S n):gp isWord S n=none:=by
 unfold gp
 rw[if_pos ho]
 exact if_pos h
theorem A5{S:List (Nat×Nat)}{n:Nd}(ho:n.op=true)(h:¬kY S n):gp isWord S n=some (S++[((S.getD n.a.toNat (0,0)).1+(S.getD n.b.toNat (0,0)).1+1,max (S.getD n.a.toNat (0,0)).2 (S.getD n.b.toNat (0,0)).2+1)]):=by
 unfold gp
 rw[if_pos ho]
 exact if_neg h
theorem vV{l:List Nd}{i:Nat}{n:Nd}{S:List (Nat×Nat)}(c:l[i]? =some n)(a:hZ isWord (l.take i) []=some S)(h:gp isWord S n=none):nG isWord l=0:=by
 have b:l=l.take i++n::l.drop (i+1):=by
  rw[<-List.take_append_drop i l]
  congr 1
  ·rw[List.take_append_drop]
  ·rw[List.take_append_drop];exact v8 c
 have:hZ isWord l []=none:=by
  rw[b,sI,a,Option.bind_some,hZ,h]
  rfl
 unfold nG
 rw[this]
theorem vW(v:Value)(l:List Nd)(R:aB)(h:RS R 5 Nd.enc v l)(s:∀x∈l,x.fits)(c7:l.length<=1000000):
    Spec prog 174 [v] R [] λu H'=>u=.int .i64 (fM isWord l:Nat)/\H'=[]:=by
  rw[<-AY]
  have iv:=h.ap
  refine Spec.body Tryz.func174 rfl Tryz.results174 Tryz.ntmps174 rfl ?_
  refine .sr<|.ag rfl<|.zs ?_
  refine bp.cP [(0,_)] kE.c (X:=(Nat×aA)×(Nat×aA)) (λy=>OS 3 1 dc (.slice (some ⟨y.1.1,0,none⟩) l.length l.length) (List.replicate l.length 0) y.1.2/\OS 3 1 dc (.slice (some ⟨y.2.1,0,none⟩) l.length l.length) (List.replicate l.length 0) y.2.2) (λy E=>(3,.slice (some ⟨y.1.1,0,none⟩) l.length l.length)::(4,.slice (some ⟨y.2.1,0,none⟩) l.length l.length)::E) (λy=>[y.1.2,y.2.2]) ?_ ?_
  refine .dt [2,5] mixed ?_
  refine .tK 0 rfl .move ?_
  refine .tK 1 rfl (.bD h) ?_
  refine .tK 3 rfl .move ?_
  refine .tK 4 rfl (.bD h) ?_
  refine RA.jS 2 5 rfl rfl (by kernel_rfl) rfl ?_ ?_
  refine .makeSlice (enc:=dc) l.length 0 rfl rfl (by decide) (by simp[dc,ap]) rfl rfl (by omega) (by omega) (λL w d=>?_)
  refine .nil (Next.mod rfl ?_)
  refine .tK 6 rfl .assign ?_
  refine .sT 5 rfl ?_
  refine .makeSlice (enc:=dc) l.length 0 rfl rfl (by decide) (by simp[dc,ap]) rfl rfl (by omega) (by omega) (λM A e=>?_)
  refine .nil (Next.mod rfl ?_)
  refine .tK 7 rfl .assign ?_
  refine RA.nil (by kernel_rfl) ?_
  ·first
      |exact aE ((L,w),(M,A)) ⟨d,e⟩ kE.c.c.c (aY [0,0])
      |exact aE ((L,w),(M,A)) ⟨d,e⟩ kE.c.c.c (aY [1,0])
  refine .makeSlice (enc:=dc) l.length 0 rfl rfl (by decide) (by simp[dc,ap]) rfl rfl (by omega) (by omega) (λM A e=>?_)
  refine .nil (Next.mod rfl ?_)
  refine .sT 2 rfl ?_
  refine .makeSlice (enc:=dc) l.length 0 rfl rfl (by decide) (by simp[dc,ap]) rfl rfl (by omega) (by omega) (λL w d=>?_)
  refine .nil (Next.mod rfl ?_)
  refine .tK 6 rfl .assign<|.tK 7 rfl .assign ?_
  refine RA.nil (by kernel_rfl) ?_
  ·first
      |exact aE ((L,w),(M,A)) ⟨d,e⟩ kE.c.c.c (aY [0,0])
      |exact aE ((L,w),(M,A)) ⟨d,e⟩ kE.c.c.c (aY [1,0])
  intro y hy
  obtain⟨⟨L,w⟩,⟨M,A⟩⟩:=y
  obtain⟨d,e⟩:=hy
  simp only at d e⊢
  refine aw<|.seq<|.sr<|.mo rfl<|.q (.bD h) ?_
  refine .mo rfl<|.zn<|.block ?_
  refine .cq [(0,_),(3,_),(4,_),(13,_),(14,_)] (X:=Nat×List (Nat×Nat)×aA×aA) (λy=>y.1<=l.length/\y.2.1.length=y.1/\hZ isWord (l.take y.1) []=some y.2.1/\DI isWord l y.2.1/\OS 3 1 dc (.slice (some ⟨L,0,none⟩) l.length l.length) (y.2.1.map (·.1)++List.replicate (l.length-y.1) 0) y.2.2.1/\OS 3 1 dc (.slice (some ⟨M,0,none⟩) l.length l.length) (y.2.1.map (·.2)++List.replicate (l.length-y.1) 0) y.2.2.2) (λy E=>(15,iN y.1)::E) (λy _=>[y.2.2.1,y.2.2.2]) (λy=>l.length-y.1) (0,[],w,A) ⟨Nat.zero_le _,rfl,rfl,⟨Nat.zero_le _,λj hj=>absurd hj (by simp)⟩,by simpa using d,by simpa using e⟩ kE.c.c.c.c.c.c rH (G:=[]) ?_
  rintro⟨i,S,w,A⟩ ⟨hi,o,Q,m,d,e⟩
  simp only at hi o Q m d e⊢
  refine .sr<|.q .lss<|.zs ?_
  refine .cond rfl (λh1=>?_) λh1=>?_
  have W:i<l.length:=cg h1
  obtain⟨n,J⟩:=bU W
  obtain⟨k,hk⟩:∃k,l.length-i=k+1:=⟨l.length-i-1,by omega⟩
  have K:l.length-(i+1)=k:=by omega
  rw[hk]at d e
  have Y:hZ isWord (l.take (i+1)) []=gp isWord S n:=by
    rw[dS J,sI,Q,Option.bind_some,hZ]
    cases gp isWord S n<;>rfl
  have a3:(S.map (·.1)).length=i:=by rw[List.length_map,o]
  have a4:(S.map (·.2)).length=i:=by rw[List.length_map,o]
  have r:∀j,j<i->(S.map (·.1))[j]? =some (S.getD j (0,0)).1/\(S.map (·.2))[j]? =some (S.getD j (0,0)).2/\(S.getD j (0,0)).1<=j+1/\(S.getD j (0,0)).2<=j+1/\1<=(S.getD j (0,0)).1:=λj hj=>by
    obtain⟨d1,d2,d3⟩:=m.t j (by omega)
    have d4:=uI _ _ _ d3
    refine⟨?_,?_,d2,d4,d1⟩
    ·rw[List.getElem?_map,bB (by omega),List.getD_eq_getElem?_getD,bB (by omega)];rfl
    ·rw[List.getElem?_map,bB (by omega),List.getD_eq_getElem?_getD,bB (by omega)];rfl
  obtain⟨z1,a0⟩:∃z,(S.map (·.1)++List.replicate (k+1) 0)[i]? =some z:=⟨_,bB (by rw[List.length_append,a3,List.length_replicate];omega)⟩
  obtain⟨z2,a1⟩:∃z,(S.map (·.2)++List.replicate (k+1) 0)[i]? =some z:=⟨_,bB (by rw[List.length_append,a4,List.length_replicate];omega)⟩
  have b4:=h.le
  refine .kn<|.seq<|.block<|.sr<|.mo rfl ?_
  refine .bA i h J (λd7=>?_)
  refine .q (.aI rfl) ?_
  refine .bN (λb6=>?_)
  refine .ag rfl<|.bG rfl rfl<|.zs<|.seq ?_
  refine bp.cP [(0,_),(3,_),(4,_),(5,_),(6,_),(13,_),(14,_),(15,_)] kE.c.c.c.c.c.c.c.c (X:=Unit) (λ_=>True) (λ_ E=>(32,.bool (!n.op))::E) (λ_=>[bl b6 n.enc 199,w,A]) ?_ ?_
  refine .region<|.fa rfl<|.lo rfl<|.q .dQ<|.mo rfl ?_
  refine .split (t:=23) rfl (λB=>?_) (λB=>?_)
  refine .gT B<|.fa rfl<|.gT B<|.lo rfl<|.gT B<|.q .dQ<|.q (.aO B) ?_
  refine .mo rfl ?_
  refine .split (t:=28) rfl (λC=>?_) (λC=>?_)
  refine .gT C<|.fa rfl<|.gT C<|.lo rfl<|.gT C<|.q .dQ<|.q (.aO C) ?_
  refine .nil ?_
  ·exact aE () trivial (kE.c.c.c.c.c.c.c.c.bL rfl (by clear r m d e s;grind[Nd.op])) rH
  refine .gF C<|.gF C<|.gF C<|.q (.aK C) ?_
  refine .nil ?_
  ·exact aE () trivial (kE.c.c.c.c.c.c.c.c.bL rfl (by clear r m d e s;grind[Nd.op])) rH
  refine .gF B<|.gF B<|.gF B<|.q (.aK B) ?_
  refine .mo rfl<|.gX<|.gX<|.gX<|.q .cK<|.nil ?_
  ·exact aE () trivial (kE.c.c.c.c.c.c.c.c.bL rfl (by clear r m d e s;grind[Nd.op])) rH
  intro y hy
  refine aw ?_
  refine .cond rfl (λV=>?_) λV=>?_
  refine .seq<|.sr<|.q (.aI rfl) ?_
  refine .bd (KB n (s n (aX J)) _) (λu hu=>?_)
  subst hu
  refine .q .not<|.zn ?_
  refine .cond rfl (λh3=>?_) λh3=>?_
  refine .sr<|.az rfl ?_
  refine .ret (aF (aF (bg (aF (cz (bg (aF (aH rfl ?_))))))))
  ·refine⟨?_,rfl⟩
   rw[vV J Q (by unfold gp;rw[if_neg (by have a5:n.op=false:=by simpa using V
                                         rw[a5];simp),if_neg (by simpa using h3)])]
   rfl
  have a5:n.op=false:=by simpa using V
  have b5:n.leaf isWord=true:=by simpa using h3
  have I:gp isWord S n=some (S++[(1,1)]):=by unfold gp;rw[if_neg (by rw[a5];simp),if_pos b5]
  refine .kn<|.sr<|.mo rfl<|.mo rfl<|.mo rfl<|.mo rfl ?_
  refine .bo i d a0 (λd8=>?_)
  refine .kP i d a0 1 (λT N=>?_)
  rw[pK a3]at N
  refine .bo i e a1 (λd9=>?_)
  refine .kP i e a1 1 (λU O=>?_)
  rw[pK a4]at O
  refine .zn<|.exit<|bq<|br<|aw<|.region ?_
  refine .ia (i+1) .add ?_
  refine .mo rfl<|.nil ?_
  ·first
      |exact bi (i+1,S++[(1,1)],T,U) ⟨W,by simp[o],by simp only;rw[Y,I],m.step (by rw[o];exact J) I,by simp only;rw[K,List.map_append];exact N,by simp only;rw[K,List.map_append];exact O⟩ (by simp only;omega) kE.c.c.c.c.c.c (aY [1,1])
      |exact bi (i+1,S++[((S.getD n.a.toNat (0,0)).1+(S.getD (i-1) (0,0)).1+1,max (S.getD n.a.toNat (0,0)).2 (S.getD (i-1) (0,0)).2+1)],T,U) ⟨W,by simp[o],by simp only;rw[Y,I],m.step (by rw[o];exact J) I,by simp only;rw[K,List.map_append];exact N,by simp only;rw[K,List.map_append];exact O⟩ (by simp only;omega) kE.c.c.c.c.c.c (aY [1,1])
  refine .kn<|.seq<|.seq ?_
  refine bp.cP [(0,_),(3,_),(4,_),(5,_),(6,_),(13,_),(14,_),(15,_)] kE.c.c.c.c.c.c.c.c (X:=Unit) (λ_=>True) (λ_ E=>(79,.bool (decide (n.rel≠⟨#[]⟩\/n.dw≠⟨#[]⟩\/n.b≠(i:Int)-1\/n.b<0\/n.a≠(i:Int)-1-((S.getD (i-1) (0,0)).1:Nat)\/n.a<0)))::E) (λ_=>[bl b6 n.enc 199,w,A]) ?_ ?_
  refine .fq mixed (by kernel_rfl) ?_
  refine .fa rfl<|.lo rfl<|.q .ff<|.mo rfl ?_
  refine .split (t:=45) rfl (λF=>?_) (λF=>?_)
  refine .gF F<|.gF F<|.gF F<|.q (.aO F) ?_
  refine .mo rfl<|.gX<|.gX<|.gX<|.gX<|.gX<|.q .cD<|.mo rfl<|.gX<|.gX<|.gX<|.q .cD<|.mo rfl<|.gX<|.gX<|.gX<|.gX<|.gX<|.gX<|.gX<|.gX<|.gX<|.gX<|.gX<|.q .cD<|.mo rfl<|.gX<|.gX<|.gX<|.q .cD<|.nil ?_
  ·exact aE () trivial (kE.c.c.c.c.c.c.c.c.bL rfl (by clear r m d e s;grind)) rH
  refine .gT F<|.fa rfl<|.gT F<|.lo rfl<|.gT F<|.q .ff<|.q (.aK F) ?_
  refine .mo rfl ?_
  refine .split (t:=50) rfl (λp=>?_) (λp=>?_)
  refine .gF p<|.gF p<|.gF p<|.gF p<|.gF p<|.q (.aO p) ?_
  refine .mo rfl<|.gX<|.gX<|.gX<|.q .cD<|.mo rfl<|.gX<|.gX<|.gX<|.gX<|.gX<|.gX<|.gX<|.gX<|.gX<|.gX<|.gX<|.q .cD<|.mo rfl<|.gX<|.gX<|.gX<|.q .cD<|.nil ?_
  ·exact aE () trivial (kE.c.c.c.c.c.c.c.c.bL rfl (by clear r m d e s;grind)) rH
  refine .gT p<|.fa rfl<|.gT p<|.lo rfl<|.gT p<|.mo rfl<|.gT p ?_
  refine .q (.i64 ((i:Int)-1) .sub ⟨rfl,by omega,by omega⟩) ?_
  refine .gT p<|.q .dQ<|.q (.aK p) ?_
  refine .mo rfl ?_
  refine .split (t:=57) rfl (λD=>?_) (λD=>?_)
  refine .gF D<|.gF D<|.gF D<|.q (.aO D) ?_
  refine .mo rfl<|.gX<|.gX<|.gX<|.gX<|.gX<|.gX<|.gX<|.gX<|.gX<|.gX<|.gX<|.q .cD<|.mo rfl<|.gX<|.gX<|.gX<|.q .cD<|.nil ?_
  ·exact aE () trivial (kE.c.c.c.c.c.c.c.c.bL rfl (by clear r m d e s;grind)) rH
  refine .gT D<|.fa rfl<|.gT D<|.lo rfl<|.gT D<|.q .lss<|.q (.aK D) ?_
  refine .mo rfl ?_
  refine .split (t:=62) rfl (λf=>?_) (λf=>?_)
  refine .gF f<|.gF f<|.gF f<|.gF f<|.gF f<|.gF f<|.gF f<|.gF f<|.gF f<|.gF f<|.gF f<|.q (.aO f) ?_
  refine .mo rfl<|.gX<|.gX<|.gX<|.q .cD<|.nil ?_
  ·exact aE () trivial (kE.c.c.c.c.c.c.c.c.bL rfl (by clear r m d e s;grind)) rH
  have c6:1<=i:=by clear r m d e;grind
  obtain⟨q1,q2,q3,q4,q5⟩:=r (i-1) (by omega)
  have a7:=oR (k:=k+1) q1
  refine .gT f<|.fa rfl<|.gT f<|.lo rfl<|.gT f<|.mo rfl<|.gT f ?_
  refine .q (.i64 ((i:Int)-1) .sub ⟨rfl,by omega,by omega⟩) ?_
  refine .gT f<|.mo rfl<|.gT f<|.mo rfl<|.gT f ?_
  refine .q (.i64 ((i:Int)-1) .sub ⟨rfl,by omega,by omega⟩) ?_
  refine .gT f ?_
  refine .bo (i-1) d a7 (λe0=>?_) rfl rfl (by omega)
  refine .gT f<|.lo rfl<|.gT f ?_
  refine .q (.i64 ((i:Int)-1-((S.getD (i-1) (0,0)).1:Nat)) .sub ⟨rfl,by omega,by omega⟩) ?_
  refine .gT f<|.q .dQ<|.q (.aK f) ?_
  refine .mo rfl ?_
  refine .split (t:=75) rfl (λH=>?_) (λH=>?_)
  refine .gF H<|.gF H<|.gF H<|.q (.aO H) ?_
  refine .nil ?_
  ·exact aE () trivial (kE.c.c.c.c.c.c.c.c.bL rfl (by clear r m d e s;grind)) rH
  refine .gT H<|.fa rfl<|.gT H<|.lo rfl<|.gT H<|.q .lss<|.q (.aK H) ?_
  refine .nil ?_
  ·exact aE () trivial (kE.c.c.c.c.c.c.c.c.bL rfl (by clear r m d e s;grind)) rH
  intro y hy
  refine aw ?_
  refine .cond rfl (λh4=>?_) λh4=>?_
  have a6:n.op=true:=by simpa using V
  have Z:kY S n:=by unfold kY;rw[o];exact cv h4
  refine .sr<|.az rfl ?_
  refine .ret (aF (bg (aF (cz (bg (aF (aH rfl ?_)))))))
  ·refine⟨?_,rfl⟩
   rw[vV J Q (A4 a6 Z)]
   rfl
  have a6:n.op=true:=by simpa using V
  have Z:¬kY S n:=by unfold kY;rw[o];exact bC h4
  have a2:=Z
  unfold kY at a2
  simp only[not_or,Decidable.not_not,o]at a2
  obtain⟨c0,c1,c2,c3,c4,c5⟩:=a2
  obtain⟨q1,q2,q3,q4,q5⟩:=r (i-1) (by omega)
  obtain⟨r1,r2,r3,r4,r5⟩:=r n.a.toNat (by omega)
  have a9:n.b.toNat=i-1:=by omega
  have a7:=oR (k:=k+1) q1
  have b7:=oR (k:=k+1) q2
  have b8:=oR (k:=k+1) r1
  have b9:=oR (k:=k+1) r2
  have I:gp isWord S n=some (S++[((S.getD n.a.toNat (0,0)).1+(S.getD (i-1) (0,0)).1+1,max (S.getD n.a.toNat (0,0)).2 (S.getD (i-1) (0,0)).2+1)]):=by
    rw[A5 a6 Z,a9]
  refine .kn<|.seq ?_
  refine .dF 15 mixed (by kernel_rfl) ?_
  conv=>arg 6;dsimp only[List.take]
  refine .mo rfl<|.mo rfl<|.mo rfl<|.fa rfl<|.lo rfl ?_
  refine .bo n.a.toNat d b8 (λe1=>?_) rfl rfl (by omega)
  refine .lo rfl<|.mo rfl<|.fa rfl<|.lo rfl ?_
  refine .bo (i-1) d a7 (λe2=>?_) rfl rfl (by omega)
  refine .lo rfl ?_
  refine .q (.i64 (((S.getD n.a.toNat (0,0)).1+(S.getD (i-1) (0,0)).1:Nat):Int) .add ⟨by push_cast;rfl,by omega,by omega⟩) ?_
  refine .q (.i64 (((S.getD n.a.toNat (0,0)).1+(S.getD (i-1) (0,0)).1+1:Nat):Int) .add ⟨by push_cast;rfl,by omega,by omega⟩) ?_
  refine .bo i d a0 (λe3=>?_)
  refine .nil ?_
  refine .kP i d a0 ((S.getD n.a.toNat (0,0)).1+(S.getD (i-1) (0,0)).1+1) (λT N=>?_)
  rw[pK a3]at N
  refine .zn ?_
  refine .dF 15 mixed (by kernel_rfl) ?_
  conv=>arg 6;dsimp only[List.take]
  refine .mo rfl<|.mo rfl<|.mo rfl<|.fa rfl<|.lo rfl ?_
  refine .bo n.a.toNat e b9 (λc8=>?_) rfl rfl (by omega)
  refine .lo rfl<|.mo rfl<|.fa rfl<|.lo rfl ?_
  refine .bo (i-1) e b7 (λc9=>?_) rfl rfl (by omega)
  refine .lo rfl<|.q .KR ?_
  refine .q (.i64 ((max (S.getD n.a.toNat (0,0)).2 (S.getD (i-1) (0,0)).2+1:Nat):Int) .add ⟨by omega,by omega,by omega⟩) ?_
  refine .bo i e a1 (λd0=>?_)
  refine .nil ?_
  refine .kP i e a1 (max (S.getD n.a.toNat (0,0)).2 (S.getD (i-1) (0,0)).2+1) (λU O=>?_)
  rw[pK a4]at O
  refine .nil<|ba<|aw<|.region ?_
  refine .ia (i+1) .add ?_
  refine .mo rfl<|.nil ?_
  ·first
      |exact bi (i+1,S++[(1,1)],T,U) ⟨W,by simp[o],by simp only;rw[Y,I],m.step (by rw[o];exact J) I,by simp only;rw[K,List.map_append];exact N,by simp only;rw[K,List.map_append];exact O⟩ (by simp only;omega) kE.c.c.c.c.c.c (aY [1,1])
      |exact bi (i+1,S++[((S.getD n.a.toNat (0,0)).1+(S.getD (i-1) (0,0)).1+1,max (S.getD n.a.toNat (0,0)).2 (S.getD (i-1) (0,0)).2+1)],T,U) ⟨W,by simp[o],by simp only;rw[Y,I],m.step (by rw[o];exact J) I,by simp only;rw[K,List.map_append];exact N,by simp only;rw[K,List.map_append];exact O⟩ (by simp only;omega) kE.c.c.c.c.c.c (aY [1,1])
  have b2:i=l.length:=by have:=bC h1;omega
  subst b2
  rw[List.take_length]at Q
  rw[Nat.sub_self]at d e
  simp only[List.replicate_zero,List.append_nil]at d e
  have b4:=h.le
  refine .exit<|bq<|bz<|br<|aw<|.seq<|.seq ?_
  refine bp.cP [(0,_),(4,_)] kE.c.c (X:=Unit) (λ_=>True) (λ_ E=>(124,.bool (decide (l=[]\/(S.getD (l.length-1) (0,0)).1≠l.length)))::E) (λ_=>[w,A]) ?_ ?_
  refine .region<|.mo rfl<|.q (.bD h) ?_
  refine .q .bO<|.mo rfl ?_
  refine .split (t:=114) rfl (λg=>?_) (λg=>?_)
  refine .gF g<|.gF g<|.gF g<|.gF g<|.gF g<|.gF g<|.gF g<|.gF g<|.gF g<|.q (.aO g) ?_
  refine .nil ?_
  ·exact aE () trivial (kE.c.c.bL rfl (by clear s m d e;rcases l with _|⟨x,l⟩<;>simp at * <;>grind)) rH
  have b3:1<=l.length:=by have:=bC g;omega
  have b0:(S.map (·.1))[l.length-1]? =some (S.getD (l.length-1) (0,0)).1:=by rw[List.getElem?_map,bB (by omega),List.getD_eq_getElem?_getD,bB (by omega)];rfl
  refine .gT g<|.mo rfl<|.gT g<|.mo rfl<|.gT g<|.q (.bD h) ?_
  refine .gT g ?_
  refine .q (.i64 ((l.length:Int)-1) .sub ⟨rfl,by omega,by omega⟩) ?_
  refine .gT g ?_
  refine .bo (l.length-1) d b0 (λd5=>?_) rfl rfl (by omega)
  refine .gT g<|.lo rfl<|.gT g<|.mo rfl<|.gT g<|.q (.bD h) ?_
  refine .gT g<|.q .dQ<|.q (.aK g) ?_
  refine .nil ?_
  ·exact aE () trivial (kE.c.c.bL rfl (by clear s m d e;rcases l with _|⟨x,l⟩<;>simp at * <;>grind)) rH
  intro y hy
  refine aw ?_
  refine .cond rfl (λh5=>?_) λh5=>?_
  refine .sr<|.az rfl ?_
  refine .ret (aF (aH rfl ?_))
  ·refine⟨?_,rfl⟩
   unfold nG
   rw[Q]
   simp only
   rw[if_pos (cv h5)]
   rfl
  have a8:=bC h5
  have b3:1<=l.length:=by rcases l with _|⟨x,l⟩<;>simp at a8⊢
  have b1:(S.map (·.2))[l.length-1]? =some (S.getD (l.length-1) (0,0)).2:=by rw[List.getElem?_map,bB (by omega),List.getD_eq_getElem?_getD,bB (by omega)];rfl
  refine .kn<|.sr<|.mo rfl<|.mo rfl<|.q (.bD h) ?_
  refine .q (.i64 ((l.length:Int)-1) .sub ⟨rfl,by omega,by omega⟩) ?_
  refine .bo (l.length-1) e b1 (λd6=>?_) rfl rfl (by omega)
  refine .lo rfl<|.az rfl ?_
  refine .ret (aH rfl ?_)
  ·refine⟨?_,rfl⟩
   unfold nG
   rw[Q]
   simp only
   rw[if_neg a8]
theorem Ty.kinds(t:Ty):dY [.s,.s] t.enc:=⟨trivial,trivial,trivial⟩
theorem Ty.eq(a b:Ty):dU a.enc b.enc=decide (a=b):=by
 obtain⟨c,d⟩:=a
 obtain⟨e,f⟩:=b
 rw[Bool.eq_iff_iff]
 simp[Ty.enc,dU,kC]
theorem Ky(t:Ty)(f:t.fits)(R:aB):Spec prog 177 [.agg t.enc.toArray] R [] λu H'=>u=.bool (gu isWord t)/\H'=[]:=by
 obtain⟨s,r⟩:=t
 obtain⟨d,e⟩:=f
 simp only at d e
 refine Spec.body Tryz.func177 rfl Tryz.results177 Tryz.ntmps177 rfl ?_
 refine .sr ?_
 refine .bX rfl (λg=>?_)
 refine .ag rfl<|.z<|.q (.aI rfl) ?_
 refine .q .cO ?_
 refine .q (.cast (.kZ (xs:=Ty.enc ⟨s,r⟩) (ys:=Ty.enc ⟨⟨#[]⟩,⟨#[]⟩⟩) rfl rfl (Ty.kinds _) (Ty.kinds _)) (congrArg Value.bool (Ty.eq _ _))) ?_
 refine .mo rfl ?_
 refine .split (t:=6) rfl (λa=>?_) (λa=>?_)
 refine .gF a<|.gF a<|.gF a<|.gF a<|.cN rfl ?_
 refine .cN rfl ?_
 refine .cN rfl ?_
 refine .gF a<|.q (.aO a) ?_
 refine .az rfl ?_
 refine .ret (aH rfl ?_)
 ·refine⟨congrArg _ ?_,rfl⟩
  simp only[gu]
  grind
 refine .gT a<|.fa rfl<|.gT a<|.lo rfl<|.gT a ?_
 refine .bd (jD s d _) (λu c=>?_)
 subst c
 refine .gT a<|.mo rfl ?_
 refine .split (t:=10) rfl (λb=>?_) (λb=>?_)
 refine .gT b<|.fa rfl<|.gT b<|.lo rfl<|.gT b ?_
 refine .bd (jD r e _) (λu c=>?_)
 subst c
 refine .gT a<|.q (.aO b) ?_
 refine .q (.aK a) ?_
 refine .az rfl ?_
 refine .ret (aH rfl ?_)
 ·refine⟨congrArg _ ?_,rfl⟩
  simp only[gu]
  grind
 refine .gF b<|.gF b<|.gF b<|.gT a<|.q (.aK b) ?_
 refine .q (.aK a) ?_
 refine .az rfl ?_
 refine .ret (aH rfl ?_)
 ·refine⟨congrArg _ ?_,rfl⟩
  simp only[gu]
  grind
theorem Mb(t:Ty)(a:t.fits)(R:aB):Spec prog 176 [.agg t.enc.toArray] R [] λu H'=>u=.bool (!gu isWord t)/\H'=[]:=by
 refine Spec.body Tryz.func176 rfl Tryz.results176 Tryz.ntmps176 rfl ?_
 refine .sr ?_
 refine .bX rfl (λc=>?_)
 refine .ag rfl<|.z<|.q (.aI rfl) ?_
 refine .bd (Ky t a _) (λu b=>?_)
 subst b
 refine .q .not<|.az rfl ?_
 refine .ret (aH rfl ?_)
 ·exact⟨rfl,rfl⟩
theorem Mc(s:Sc)(h:s.fits)(R:aB):Spec prog 179 [.agg s.enc.toArray] R [] λu H'=>u=.bool (!jw isWord cX s)/\H'=[]:=by
 obtain⟨n,j,i,r⟩:=s
 obtain⟨d,e,f,g⟩:=h
 simp only at d e f g
 refine Spec.body Tryz.func179 rfl Tryz.results179 Tryz.ntmps179 rfl ?_
 refine .sr ?_
 refine .bX rfl (λk=>?_)
 refine .ag rfl<|.z<|.fa rfl<|.lo rfl ?_
 refine .bd (jD n d _) (λu c=>?_)
 subst c
 refine .q .not<|.mo rfl ?_
 refine .split (t:=7) rfl (λb=>?_) (λb=>?_)
 refine .gF b<|.gF b<|.gF b<|.gF b<|.q (.aO b) ?_
 refine .mo rfl<|.gX<|.gX<|.gX<|.gX<|.q .cD<|.az rfl ?_
 refine .ret (aH rfl ?_)
 ·refine⟨congrArg _ ?_,rfl⟩
  simp only[jw]
  grind
 refine .gT b<|.fa rfl<|.gT b<|.q (.loadT rfl) ?_
 refine .gT b ?_
 refine .bd (sE j i e f _) (λu c=>?_)
 subst c
 refine .gT b<|.q .dQ<|.q (.aK b) ?_
 refine .mo rfl ?_
 refine .split (t:=13) rfl (λa=>?_) (λa=>?_)
 refine .gF a<|.gF a<|.gF a<|.gF a<|.q (.aO a) ?_
 refine .az rfl ?_
 refine .ret (aH rfl ?_)
 ·refine⟨congrArg _ ?_,rfl⟩
  simp only[jw]
  grind
 refine .gT a<|.fa rfl<|.gT a<|.lo rfl<|.gT a ?_
 refine .bd (jD r g _) (λu c=>?_)
 subst c
 refine .gT a<|.q .not<|.q (.aK a) ?_
 refine .az rfl ?_
 refine .ret (aH rfl ?_)
 ·refine⟨congrArg _ ?_,rfl⟩
  simp only[jw]
  grind
theorem KX(p:bQ)(R:aB)(h:p.is R)(R':aB)(i:∀b o,R b o->R' b o):Spec prog 161 [.agg p.enc.toArray] R' [] λu H'=>u=.bool (gI isWord p.r)/\H'=[]:=by
 obtain⟨l,g,r⟩:=p
 have f:RS R 2 Ty.enc l r.types:=h.t
 have e:RS R 5 Nd.enc g r.nodes:=h.d
 have v:=f.ap
 have s:=e.ap
 refine Spec.body Tryz.func161 rfl Tryz.results161 Tryz.ntmps161 rfl ?_
 refine .sr ?_
 refine .bX rfl (λm=>?_)
 refine .ag rfl<|.z<|.fa rfl<|.lo rfl<|.q (.bD f) ?_
 refine .q .gtr<|.mo rfl ?_
 refine .split (t:=7) rfl (λc=>?_) (λc=>?_)
 refine .gF c<|.gF c<|.gF c<|.gF c<|.q (.aO c) ?_
 refine .mo rfl<|.gX<|.gX<|.gX<|.gX<|.q .cD<|.az rfl ?_
 refine .ret (aH rfl ?_)
 ·refine⟨congrArg _ ?_,rfl⟩
  simp only[gI]
  grind
 refine .gT c<|.fa rfl<|.gT c<|.lo rfl<|.gT c<|.q (.bD e) ?_
 refine .gT c<|.q .gtr<|.q (.aK c) ?_
 refine .mo rfl ?_
 refine .split (t:=13) rfl (λa=>?_) (λa=>?_)
 refine .gF a<|.gF a<|.gF a<|.gF a<|.q (.aO a) ?_
 refine .az rfl ?_
 refine .ret (aH rfl ?_)
 ·refine⟨congrArg _ ?_,rfl⟩
  simp only[gI]
  grind
 have n:r.nodes.length<=64:=by grind
 refine .gT a<|.fa rfl<|.gT a<|.lo rfl<|.gT a ?_
 refine .bd ((vW g r.nodes R e h.fd (by omega)).weaken λb o j=>.inl (i b o j)) (λu k=>?_)
 subst k
 refine .gT a<|.q .gtr<|.q (.aK a) ?_
 refine .az rfl ?_
 refine .ret (aH rfl ?_)
 ·refine⟨congrArg _ ?_,rfl⟩
  simp only[gI]
  grind
theorem zZ(c:bE)(R:aB)(h:c.is R):Spec prog 100 [.agg c.enc.toArray] R [] λu H'=>u=.bool (!c.plain.im isWord)/\H'=[]:=by
 rw[oY]
 obtain⟨H,F,e,C⟩:=c
 have g:=h.ss
 have w:=h.sc
 have S:=g.ap
 have T:=w.ap
 simp only at g w S T⊢
 have W:=g.le
 refine Spec.body Tryz.func100 rfl Tryz.results100 Tryz.ntmps100 rfl ?_
 refine .sr ?_
 refine .bX rfl (λz=>?_)
 refine .ag rfl<|.zs<|.seq ?_
 refine bp.cP [(1,_)] kE.c (X:=Unit) (λ_=>True) (λ_ E=>(14,.bool (decide (16<e.length)||decide (16<C.length)))::E) (λ_=>[bl z [H,F] 25]) ?_ ?_
 refine .region<|.fa rfl<|.lo rfl<|.q (.bD g) ?_
 refine .q .gtr<|.mo rfl ?_
 refine .split (t:=9) rfl (λa=>?_) (λa=>?_)
 refine .gF a<|.gF a<|.gF a<|.gF a<|.q (.aO a) ?_
 refine .nil ?_
 ·exact aE () trivial (kE.c.bL rfl (by grind)) rH
 refine .gT a<|.fa rfl<|.gT a<|.lo rfl<|.gT a<|.q (.bD w) ?_
 refine .gT a<|.q .gtr<|.q (.aK a) ?_
 refine .nil ?_
 ·exact aE () trivial (kE.c.bL rfl (by grind)) rH
 intro y Q
 refine aw ?_
 refine .cond rfl (λn=>?_) λn=>?_
 refine .sr<|.az rfl ?_
 refine .ret (aF (aH rfl ?_))
 ·exact⟨by rw[n];rfl,rfl⟩
 refine .kn<|.seq<|.sr<|.fa rfl<|.lo rfl<|.q (.bD g) ?_
 refine .mo rfl<|.zn<|.block ?_
 refine .cq [(16,_),(17,_)] (X:=Nat) (λi=>i<=e.length/\(e.take i).any gv=false) (λi E=>(18,iN i)::E) (λ_ G=>G) (λi=>e.length-i) 0 ⟨Nat.zero_le _,rfl⟩ kE.c.c.c rH ?_
 rintro i ⟨V,B⟩
 refine .sr<|.q .lss<|.zs ?_
 refine .cond rfl (λp=>?_) λp=>?_
 have A:i<e.length:=cg p
 obtain⟨⟨D,m,k⟩,j⟩:=bU A
 have x:=h.all _ (aX j)
 have v:RS R 3 bQ.enc m k:=x.rs
 have Y:=v.ap
 have Z:bW (bT.enc ⟨D,m,k⟩):=⟨x.cH⟩
 refine .kn<|.seq<|.block<|.sr ?_
 refine .bA i g j (λa0=>?_)
 refine .q (.aI rfl) ?_
 refine .bN (λU=>?_)
 refine .bG rfl rfl<|.zs ?_
 refine bp.cP [(16,_),(17,_),(18,_)] kE.c.c.c (X:=Unit) (λ_=>True) (λ_ E=>(30,.bool (gv ⟨D,m,k⟩))::E) (λ_=>[bl z [H,F] 25]) ?_ ?_
 refine .region<|.fa rfl<|.lo rfl<|.q (.bD v) ?_
 refine .q .gtr<|.mo rfl ?_
 refine .split (t:=26) rfl (λd=>?_) (λd=>?_)
 refine .gF d<|.gF d<|.gF d<|.q (.aO d) ?_
 refine .nil ?_
 ·exact aE () trivial (kE.c.c.c.bL rfl (by unfold gv;simp only;grind)) (aY [1])
 refine .gT d<|.fa rfl<|.gT d<|.lo rfl<|.gT d ?_
 refine .bd (LRE.iW 161 [] (λr=>gI isWord r.r) m k _ v.rx (λr N I K=>KX r R (x.all r N) I λb o L=>K b o (.inl L))) (λu O=>?_)
 subst O
 refine .q (.aK d) ?_
 refine .nil ?_
 ·exact aE () trivial (kE.c.c.c.bL rfl (by unfold gv;simp only;grind)) (aY [1])
 intro y Q
 refine aw ?_
 refine .cond rfl (λs=>?_) λs=>?_
 refine .sr<|.az rfl ?_
 refine .ret (bg (aF (cz (bg (aF (aH rfl ?_))))))
 ·refine⟨?_,rfl⟩
  rw[nE j (f:=gv) s,Bool.or_true]
  rfl
 refine .skip<|ba<|aw<|.region ?_
 refine .ia (i+1) .add ?_
 refine .mo rfl<|.nil ?_
 ·exact bi (i+1) ⟨A,qe j B s⟩ (by omega) kE.c.c.c rH
 refine .exit<|bq<|bz<|br<|aw<|.sr<|.az rfl ?_
 refine .ret (aH rfl ?_)
 ·refine⟨?_,rfl⟩
  have J:(decide (16<e.length)||decide (16<C.length))=false:=n
  have M:e.any gv=false:=by rw[<-dD (l:=e) (i:=i) (by have:=bC p;omega)];exact B
  rw[J,M]
  rfl
theorem Md(c:bE)(R:aB)(h:c.is R):Spec prog 120 [.agg c.enc.toArray] R [] λu H'=>u=.bool (c.plain.right isWord cX)/\H'=[]:=by
 have hw:=zZ c R h
 have o:c.plain.im isWord=false->c.fW/\∀s∈c.aR,∀r∈s.bI,r.r.nodes.length<=64:=λx=>by
  rw[oY]at x
  simp only[Bool.or_eq_false_iff,decide_eq_false_iff_not,List.any_eq_false,Nat.not_lt]at x
  refine⟨⟨by omega,λs a=>?_⟩,λs a r o=>?_⟩
  ·have:=x.2 s a
   unfold gv at this
   simp only[Bool.or_eq_true,decide_eq_true_eq,not_or,Nat.not_lt]at this
   exact this.1
  ·have:=x.2 s a
   unfold gv at this
   simp only[Bool.or_eq_true,decide_eq_true_eq,not_or,Nat.not_lt,List.any_eq_true,not_exists,not_and]at this
   have p:=this.2 r o
   unfold gI at p
   simp only[Bool.or_eq_true,decide_eq_true_eq,not_or,Nat.not_lt]at p
   exact p.1.2
 rw[yQ]
 generalize a7:c.plain.im isWord=mu at *
 obtain⟨vs,Z,A,a3⟩:=c
 have C:=h.ss
 have N:=h.sc
 have i1:=C.ap
 have i2:=N.ap
 simp only at C N i1 i2⊢
 have a5:=C.le
 refine Spec.body Tryz.func120 rfl Tryz.results120 Tryz.ntmps120 rfl ?_
 refine .sr ?_
 refine .bX rfl (λb1=>?_)
 refine .ag rfl<|.zs<|.sr<|.q (.aI rfl) ?_
 refine .bd (hw.weaken cQ) (λu g=>?_)
 subst g
 refine .q .not<|.zn ?_
 refine .cond rfl (λK=>?_) λK=>?_
 have a2:mu=true:=by simpa using K
 refine .sr<|.az rfl ?_
 refine .ret (aF (aH rfl ?_))
 ·refine⟨?_,rfl⟩
  rw[a2]
  simp
 have S:mu=false:=by simpa using K
 obtain⟨a4,T⟩:=o S
 simp only at T
 refine .kn<|.seq<|.sr<|.fa rfl<|.lo rfl<|.q (.bD C) ?_
 refine .mo rfl<|.zn<|.block ?_
 refine .cq [(1,_),(11,_),(12,_)] (X:=Nat) (λi=>i<=A.length/\(A.take i).all gd=true) (λi E=>(13,iN i)::E) (λ_ G=>G) (λi=>A.length-i) 0 ⟨Nat.zero_le _,rfl⟩ kE.c.c.c.c rH ?_
 rintro i ⟨hi,U⟩
 refine .sr<|.q .lss<|.zs ?_
 refine .cond rfl (λp=>?_) λp=>?_
 have Q:i<A.length:=cg p
 obtain⟨⟨D,I,j⟩,a⟩:=bU Q
 have H:=h.all _ (aX a)
 have F:RS R 3 bQ.enc I j:=H.rs
 have b2:=F.ap
 have a6:=F.le
 have b5:bW (bT.enc ⟨D,I,j⟩):=⟨H.cH⟩
 refine .kn<|.seq<|.block<|.sr ?_
 refine .bA i C a (λb7=>?_)
 refine .q (.aI rfl) ?_
 refine .bN (λb4=>?_)
 refine .bG rfl rfl<|.zs<|.sr<|.fa rfl<|.lo rfl ?_
 refine .bd (jD D H.n _) (λu g=>?_)
 subst g
 refine .q .not<|.zn ?_
 refine .cond rfl (λL=>?_) λL=>?_
 refine .sr<|.az rfl ?_
 refine .ret (aF (bg (aF (cz (bg (aF (aH rfl ?_)))))))
 ·refine⟨?_,rfl⟩
  rw[kd a (f:=gd) (by unfold gd;simp only;rw[show isWord D=false by simpa using L];rfl)]
  rfl
 refine .kn<|.sr<|.fa rfl<|.lo rfl<|.q (.bD F) ?_
 refine .mo rfl<|.zn<|.block ?_
 refine .cq [(1,_),(11,_),(12,_),(13,_),(22,_),(23,_)] (X:=Nat) (λk=>k<=j.length/\(j.take k).all iA=true) (λk E=>(24,iN k)::E) (λ_ G=>G) (λk=>j.length-k) 0 ⟨Nat.zero_le _,rfl⟩ kE.c.c.c.c.c.c.c rH ?_
 rintro k ⟨hk,V⟩
 refine .sr<|.q .lss<|.zs ?_
 refine .cond rfl (λM=>?_) λM=>?_
 have O:k<j.length:=cg M
 obtain⟨⟨w,v,r⟩,o⟩:=bU O
 have z:=H.all _ (aX o)
 have Y:RS R 2 Ty.enc w r.types:=z.t
 have W:RS R 5 Nd.enc v r.nodes:=z.d
 have b3:=Y.ap
 have b0:=W.ap
 have a8:bW (bQ.enc ⟨w,v,r⟩):=⟨z.cH⟩
 have a9:r.nodes.length<=64:=T _ (aX a) _ (aX o)
 refine .kn<|.seq<|.block<|.sr ?_
 refine .bA k F o (λb8=>?_)
 refine .q (.aI rfl) ?_
 refine .bN (λb6=>?_)
 refine .bG rfl rfl<|.zs ?_
 refine bp.cP [(1,_),(11,_),(12,_),(13,_),(22,_),(23,_),(24,_)] kE.c.c.c.c.c.c.c (X:=Unit) (λ_=>True) (λ_ E=>(42,.bool (!iA ⟨w,v,r⟩))::E) (λ_=>[bl b4 (bT.enc ⟨D,I,j⟩) 164,bl b1 [vs,Z] 25]) ?_ ?_
 refine .region<|.fa rfl<|.lo rfl ?_
 refine .bd (jD r.name z.n _) (λu g=>?_)
 subst g
 refine .q .not<|.mo rfl ?_
 refine .split (t:=32) rfl (λb=>?_) (λb=>?_)
 refine .gF b<|.gF b<|.gF b<|.gF b<|.q (.aO b) ?_
 refine .mo rfl<|.gX<|.gX<|.gX<|.q .cD<|.nil ?_
 ·exact aE () trivial (kE.c.c.c.c.c.c.c.bL rfl (by
   have e:(r.types.any λt=> !gu isWord t)= !lB ⟨w,v,r⟩:=by unfold lB;simp[List.not_all_eq_any_not]
   unfold iA
   simp only[e]at *
   grind)) (aY [1,1])
 refine .gT b<|.fa rfl<|.gT b<|.lo rfl<|.gT b ?_
 refine .bd ((vW v r.nodes R W z.fd (by omega)).weaken cQ) (λu g=>?_)
 subst g
 refine .gT b<|.q .bO<|.q (.aK b) ?_
 refine .mo rfl ?_
 refine .split (t:=38) rfl (λm=>?_) (λm=>?_)
 refine .gF m<|.gF m<|.gF m<|.q (.aO m) ?_
 refine .nil ?_
 ·exact aE () trivial (kE.c.c.c.c.c.c.c.bL rfl (by
   have e:(r.types.any λt=> !gu isWord t)= !lB ⟨w,v,r⟩:=by unfold lB;simp[List.not_all_eq_any_not]
   unfold iA
   simp only[e]at *
   grind)) (aY [1,1])
 refine .gT m<|.fa rfl<|.gT m<|.lo rfl<|.gT m ?_
 refine .bd (LTY.iW 176 [] (λt=> !gu isWord t) w r.types _ Y.rx (λt ht J a0=>Mb t (z.ft t ht) J)) (λu g=>?_)
 subst g
 refine .q (.aK m) ?_
 refine .nil ?_
 ·exact aE () trivial (kE.c.c.c.c.c.c.c.bL rfl (by
   have e:(r.types.any λt=> !gu isWord t)= !lB ⟨w,v,r⟩:=by unfold lB;simp[List.not_all_eq_any_not]
   unfold iA
   simp only[e]at *
   grind)) (aY [1,1])
 intro y hy
 refine aw ?_
 refine .cond rfl (λB=>?_) λB=>?_
 refine .sr<|.az rfl ?_
 refine .ret (bg (aF (cz (bg (bg (aF (cz (bg (aF (aH rfl ?_))))))))))
 ·refine⟨?_,rfl⟩
  rw[kd a (f:=gd) (by unfold gd;simp only;rw[kd o (f:=iA) (by simpa using B),Bool.and_false])]
  rfl
 refine .skip<|ba<|aw<|.region ?_
 refine .ia (k+1) .add ?_
 refine .mo rfl<|.nil ?_
 ·exact bi (k+1) ⟨O,lL o V (by simpa using B)⟩ (by omega) kE.c.c.c.c.c.c.c rH
 have x:gd ⟨D,I,j⟩=true:=by
  have B:j.all iA=true:=by rw[<-dD (l:=j) (i:=k) (by have:=bC M;omega)];exact V
  unfold gd
  simp only[B,Bool.and_true]
  simpa using L
 refine .exit<|bq<|bz<|br<|ba<|aw<|.region ?_
 refine .ia (i+1) .add ?_
 refine .mo rfl<|.nil ?_
 ·exact bi (i+1) ⟨Q,lL a U x⟩ (by omega) kE.c.c.c.c (aY [1])
 have a1:A.all gd=true:=by rw[<-dD (l:=A) (i:=i) (by have:=bC p;omega)];exact U
 refine .exit<|bq<|bz<|br<|aw<|.sr<|.fa rfl<|.lo rfl ?_
 refine .bd (LSC.iW 179 [] (λs=> !jw isWord cX s) Z a3 _ N.rx (λs a J a0=>Mc s (h.fc s a) J)) (λu g=>?_)
 subst g
 refine .q .not<|.az rfl ?_
 refine .ret (aH rfl ?_)
 ·refine⟨?_,rfl⟩
  rw[a1,S]
  simp[List.not_all_eq_any_not]
instance Ty.te:eP prog 249 (λk:Ty=>.agg k.enc.toArray):=eP.agg wH Tryz.underlying249 rfl Ty.kinds Ty.eq
abbrev fx:=Nat×Nat
def kg(p:fx):List Value:=[iN p.1,iN p.2]
instance(p:fx):bW (kg p):=⟨by simp[kg,ap]⟩
abbrev kJ(k:Ty):Value:=.agg k.enc.toArray
abbrev kr(p:fx):Value:=.agg (kg p).toArray
theorem zw(i:Nat)(a:ByteArray):∀{rs:List Rl} {b k:Nat} {r:Rl},rs[k]? =some r->(kk i a b rs)[k]? =some ((⟨a,r.name⟩:Ty),(i,b+k))
 |[],b,k,r,h=>by simp at h
 |x::rs,b,0,r,h=>by simp only[List.getElem?_cons_zero,Option.some.injEq]at h;subst h;rfl
 |x::rs,b,k+1,r,h=>by
  rw[kk,List.getElem?_cons_succ,zw i a (rs:=rs) (b:=b+1) (k:=k) (r:=r) (by simpa using h)]
  rw[show b+1+k=b+(k+1) by omega]
theorem zy:∀{l:List Sp} {b i k:Nat} {s:Sp} {r:Rl},l[i]? =some s->s.bI[k]? =some r->(fS b l)[cA l i+k]? =some ((⟨s.name,r.name⟩:Ty),(b+i,k))
 |[],b,i,k,s,r,h,_=>by simp at h
 |x::l,b,0,k,s,r,h,hr=>by
  simp only[List.getElem?_cons_zero,Option.some.injEq]at h
  subst h
  have a:=(List.getElem?_eq_some_iff.1 hr).1
  rw[fS,List.getElem?_append_left (by rw[ni];simpa[cA]using a)]
  simpa[cA]using zw b x.name (b:=0) hr
 |x::l,b,i+1,k,s,r,h,hr=>by
  rw[fS,cA,List.getElem?_append_right (by rw[ni];omega),ni,show x.bI.length+cA l i+k-x.bI.length=cA l i+k by omega,zy (l:=l) (b:=b+1) (by simpa using h) hr,show b+1+i=b+(i+1) by omega]
theorem uC:∀(l:List Sp) (b:Nat),(fS b l).length=total l
 |[],b=>rfl
 |s::l,b=>by
  have:=uC l (b+1)
  unfold total at this⊢
  rw[fS,List.length_append,ni,this,List.length_cons,cA]
theorem x9(t:Ty):∀M:List (Ty×fx),db t M=look t M
 |[]=>rfl
 |(k,x)::M=>by
  have a:=x9 t M
  unfold look at a⊢
  rw[db,List.find?_cons]
  by_cases e:t=k
  ·subst e;simp
  ·rw[if_neg e,a]
   have:decide (k=t)=false:=decide_eq_false λh=>e h.symm
   simp only[this]
def kR(M:List (ByteArray×Bool))(l:List ByteArray):Prop:=∀k,db k M=if k∈l then some true else none
theorem kR.nil:kR [] []:=λk=>by simp[db]
theorem kR.add{M:List (ByteArray×Bool)}{l:List ByteArray}(h:kR M l)(t:ByteArray):kR (dy t true M) (l++[t]):=λk=>by
 rw[nN,h k]
 by_cases e:k=t
 ·simp[e]
 ·simp[e]
def oy(xb:Nat)(c:bE)(T:aA):Prop:=∃vm Tm,T=(xb,.cells [c.vs,c.vc,vm].toArray 318 (0,0))::Tm/\MS kJ kr vm (fS 0 c.plain.aR) Tm
theorem K7(c:bE)(R:aB)(h:c.is R):Spec prog 121 [.agg c.enc.toArray] R [] λu H'=>∃T,H'=[T]/\((c.plain.dG/\∃xb,u=.tuple [pT xb,.bool true].toArray/\oy xb c T)\/(¬c.plain.dG/\u=.tuple [.pointer none,.bool false].toArray)):=by
 have c2:∀(i:Nat) s,c.aR[i]? =some s->c.plain.aR[i]? =some s.plain:=λi s o=>by unfold bE.plain;simp only;rw[List.getElem?_map,o];rfl
 have c3:c.plain.aR.length=c.aR.length:=by unfold bE.plain;simp
 have N:c.plain.dG↔(c.aR.map (·.name)).Nodup/\((fS 0 c.plain.aR).map (·.1)).Nodup/\(c.scopes.map (·.name)).Nodup:=by
  unfold Cf.dG
  rw[uB]
  simp only[bE.plain,List.map_map]
  exact Iff.rfl
 have b2:∀xb T,oy xb c T↔∃vm Tm,T=(xb,.cells [c.vs,c.vc,vm].toArray 318 (0,0))::Tm/\MS kJ kr vm (fS 0 c.plain.aR) Tm:=λ_ _=>Iff.rfl
 have d6:=uC c.plain.aR 0
 generalize e5:c.plain=pl at *
 generalize hS:fS 0 pl.aR=S at *
 have d5:∀i k s (r:Rl),pl.aR[i]? =some s->s.bI[k]? =some r->S[cA pl.aR i+k]? =some ((⟨s.name,r.name⟩:Ty),(i,k)):=λi k s r C D=>by
  have:=zy (b:=0) C D
  rw[hS,Nat.zero_add]at this
  exact this
 obtain⟨vs,Z,g,v⟩:=c
 have L:=h.ss
 have K:=h.sc
 have i1:=L.ap
 have i2:=K.ap
 simp only at L K i1 i2 c2 c3 N b2⊢
 have e2:=L.le
 have e1:=K.le
 refine Spec.body Tryz.func121 rfl Tryz.results121 Tryz.ntmps121 rfl ?_
 refine .sr ?_
 refine .bX rfl (λb1=>?_)
 refine .ag rfl<|.ag rfl<|.z<|.q (.aI rfl) ?_
 refine .makeMap (λB=>?_)
 refine .q .cO ?_
 refine .bX rfl (λa0=>?_)
 refine .ag rfl<|.z ?_
 refine .makeMap (λa9=>?_)
 refine .ag rfl<|.zs<|.sr<|.fa rfl<|.lo rfl<|.q (.bD L) ?_
 refine .mo rfl<|.zn<|.block ?_
 refine .cq [(1,_),(4,_),(5,_),(22,_),(23,_)] (G:=[bl a0 [vs,Z,.map (some B)] 318,bl b1 [vs,Z] 25]) (X:=Nat×List (ByteArray×Bool)×aA×aA) (λy=>y.1<=g.length/\((g.map (·.name)).take y.1).Nodup/\kR y.2.1 ((g.map (·.name)).take y.1)/\MS kJ kr (.map (some B)) (S.take (cA pl.aR y.1)) y.2.2.1/\MS (λs:ByteArray=>.string s) (λb:Bool=>.bool b) (.map (some a9)) y.2.1 y.2.2.2) (λy E=>(24,iN y.1)::E) (λy G=>y.2.2.1::y.2.2.2::G) (λy=>g.length-y.1) (0,[],[(B,.map #[] 0)],[(a9,.map #[] 0)]) ⟨Nat.zero_le _,by simp,by simpa using kR.nil,by rw[show cA pl.aR 0=0 by cases pl.aR<;>rfl];exact MS.nil,MS.nil⟩ kE.c.c.c.c.c.c (aY [2,0,0,0]) ?_
 rintro⟨i,M,U,Tb⟩ ⟨hi,V,a6,m,a1⟩
 simp only at hi V a6 m a1⊢
 refine .sr<|.q .lss<|.zs ?_
 refine .cond rfl (λC=>?_) λC=>?_
 have b8:i<g.length:=cg C
 obtain⟨⟨f,Q,n⟩,o⟩:=bU b8
 have a5:=h.all _ (aX o)
 have Y:RS R 3 bQ.enc Q n:=a5.rs
 have e7:=Y.ap
 have e3:=Y.le
 have e9:bW (bT.enc ⟨f,Q,n⟩):=⟨a5.cH⟩
 have A:(g.map (·.name))[i]? =some f:=by rw[List.getElem?_map,o];rfl
 have c1:=c2 i _ o
 have c0:=mW c1
 rw[show(bT.plain ⟨f,Q,n⟩).bI.length=n.length by simp[bT.plain]]at c0
 refine .kn<|.seq<|.block<|.sr<|.mo rfl ?_
 refine .bA i L o (λf0=>?_)
 refine .q (.aI rfl) ?_
 refine .bN (λb7=>?_)
 refine .ag rfl<|.bG rfl rfl<|.zs<|.sr<|.mo rfl<|.fa rfl<|.lo rfl ?_
 refine .q (.mO a1.rx rfl (key:=f) rfl (show _=Value.bool (decide (f∈(g.map (·.name)).take i))from by rw[a6 f];split<;>simp_all)) ?_
 refine .zn ?_
 refine .cond rfl (λD=>?_) λD=>?_
 refine .sr<|.ag rfl<|.az rfl ?_
 refine .ret (aF (bg (aF (cz (bg (aF (bj _ (.two (.tmp rfl) (.tmp rfl)) (.one [0] _) ?_)))))))
 ·refine⟨_,rfl,.inr ⟨λH=>?_,rfl⟩⟩
  have x:f∈(g.map (·.name)).take i:=by simpa using D
  obtain⟨q,J,e⟩:=List.mem_iff_getElem.1 x
  rw[List.length_take]at J
  rw[List.getElem_take]at e
  exact lp (show q<i by omega) A (bB (by omega)) e.symm (N.1 H).1
 have a3:f∉(g.map (·.name)).take i:=by simpa using D
 have d1:((g.map (·.name)).take (i+1)).Nodup:=by rw[dS A,List.nodup_append];exact⟨V,by simp,λa ha b F=>by rw[List.mem_singleton]at F;subst F;intro e;subst e;exact a3 ha⟩
 have d7:kR (dy f true M) ((g.map (·.name)).take (i+1)):=by rw[dS A];exact a6.add f
 refine .kn<|.sr<|.mo rfl<|.fa rfl<|.lo rfl ?_
 refine .update (key:=f) (u:=true) a1 rfl rfl rfl (λa8 c6 _=>?_)
 refine .z<|.fa rfl<|.lo rfl<|.q (.bD Y) ?_
 refine .mo rfl<|.zn<|.block ?_
 refine .cq [(1,_),(4,_),(5,_),(6,_),(7,_),(22,_),(23,_),(24,_),(37,_),(38,_)] (G:=[a8,bl b7 (bT.enc ⟨f,Q,n⟩) 164,bl a0 [vs,Z,.map (some B)] 318,bl b1 [vs,Z] 25]) (X:=Nat×aA) (λy=>y.1<=n.length/\MS kJ kr (.map (some B)) (S.take (cA pl.aR i+y.1)) y.2) (λy E=>(39,iN y.1)::E) (λy G=>y.2::G) (λy=>n.length-y.1) (0,U) ⟨Nat.zero_le _,m⟩ kE.c.c.c.c.c.c.c.c.c.c.c (aY [1,1,0,0,0]) ?_
 rintro⟨k,U⟩ ⟨hk,m⟩
 simp only at hk m⊢
 refine .sr<|.q .lss<|.zs ?_
 refine .cond rfl (λh3=>?_) λh3=>?_
 have b6:k<n.length:=cg h3
 obtain⟨⟨vt,vn,r⟩,hr⟩:=bU b6
 have a4:=a5.all _ (aX hr)
 have e8:One vt:=RS.ap a4.t
 have e6:One vn:=RS.ap a4.d
 have e4:bW (bQ.enc ⟨vt,vn,r⟩):=⟨a4.cH⟩
 have d4:(bT.plain ⟨f,Q,n⟩).bI[k]? =some r:=by unfold bT.plain;simp only;rw[List.getElem?_map,hr];rfl
 have b4:S[cA pl.aR i+k]? =some ((⟨f,r.name⟩:Ty),(i,k)):=d5 i k _ r c1 d4
 obtain⟨ps,O,d2,I⟩:∃(ps:fx) (O:Bool),[((db (⟨f,r.name⟩:Ty) (S.take (cA pl.aR i+k))).map kr).getD (kr (0,0)),Value.bool (db (⟨f,r.name⟩:Ty) (S.take (cA pl.aR i+k))).isSome]=[kr ps,.bool O]/\(db (⟨f,r.name⟩:Ty) (S.take (cA pl.aR i+k))).isSome=O:=by
  cases db (⟨f,r.name⟩:Ty) (S.take (cA pl.aR i+k))with
  |none=>exact⟨(0,0),false,rfl,rfl⟩
  |some p=>exact⟨p,true,rfl,rfl⟩
 refine .kn<|.seq<|.block<|.sr<|.mo rfl ?_
 refine .bA k Y hr (λf1=>?_)
 refine .q (.aI rfl) ?_
 refine .bN (λb9=>?_)
 refine .ag rfl<|.bG rfl rfl<|.z<|.fa rfl<|.lo rfl<|.fa rfl<|.lo rfl ?_
 refine .q .cO ?_
 refine .bN (λd8=>?_)
 refine .bG rfl rfl<|.zs<|.seq<|.dt [10] mixed ?_
 refine .tO 0 rfl .move<|.tO 1 rfl (.nilCheck rfl)<|.tO 2 rfl (.fieldAddr rfl)<|.tO 3 rfl (.cI rfl)<|.tO 4 rfl (.aI rfl) ?_
 refine .gM 5 rfl (.cast (.nL m.rx rfl rfl) (congrArg (λl:List Value=>Value.tuple l.toArray) d2)) (by kernel_rfl) ?_
 refine .tO 6 rfl .move<|.tO 7 rfl .extract<|.tK 8 rfl .extract ?_
 refine .sT 9 rfl ?_
 refine .bN (λd9=>?_)
 refine .nil (Next.sub ?_)
 refine .sT 10 rfl ?_
 refine .bG rfl rfl ?_
 refine .nil (Next.mod rfl ?_)
 refine .tK 11 rfl .assign ?_
 refine RA.nil (by kernel_rfl) ?_
 refine aw<|.sr<|.mo rfl<|.zn ?_
 refine .cond rfl (λh4=>?_) λh4=>?_
 refine .sr<|.ag rfl<|.az rfl ?_
 refine .ret (aF (bg (aF (cz (bg (bg (aF (cz (bg (aF (bj _ (.two (.tmp rfl) (.tmp rfl)) (.one [0] _) ?_)))))))))))
 ·refine⟨_,rfl,.inr ⟨λH=>?_,rfl⟩⟩
  have w:O=true:=h4
  rw[w]at I
  obtain⟨p,hp⟩:=Option.isSome_iff_exists.1 I
  have x:=tw hp
  obtain⟨q,J,e⟩:=List.mem_iff_getElem.1 x
  rw[List.length_take]at J
  rw[List.getElem_take]at e
  have c8:(S.map (·.1))[cA pl.aR i+k]? =some ⟨f,r.name⟩:=by rw[List.getElem?_map,b4];rfl
  have d3:(S.map (·.1))[q]? =some ⟨f,r.name⟩:=by rw[List.getElem?_map,bB (by omega),e];rfl
  exact lp (show q<cA pl.aR i+k by omega) c8 d3 rfl (N.1 H).2.1
 refine .kn ?_
 refine .dF 8 mixed (by kernel_rfl) ?_
 conv=>arg 6;dsimp only[List.take]
 refine .mo rfl<|.nc rfl<|.fa rfl<|.lo rfl<|.q (.aI rfl)<|.mo rfl<|.mo rfl ?_
 refine .q .cO ?_
 refine .nil ?_
 refine .update (key:=(⟨f,r.name⟩:Ty)) (u:=((i,k):fx)) m rfl rfl rfl (λc4 b3 _=>?_)
 rw[lj (by
  have w:O=false:=h4
  rw[w]at I
  intro x
  rw[Option.isSome_eq_false_iff,Option.isNone_iff_eq_none]at I
  exact tu.1 I x), <-dS b4]at b3
 refine .nil<|ba<|aw<|.region ?_
 refine .ia (k+1) .add ?_
 refine .mo rfl<|.nil ?_
 ·exact bi (k+1,c4) ⟨b6,b3⟩ (by simp only;omega) kE.c.c.c.c.c.c.c.c.c.c.c (aY [3,3,3,3,3])
 have d0:k=n.length:=by have:=bC h3;omega
 rw[d0, <-c0]at m
 refine .exit<|bq<|bz<|br<|ba<|aw<|.region ?_
 refine .ia (i+1) .add ?_
 refine .mo rfl<|.nil ?_
 ·exact bi (i+1,dy f true M,U,a8) ⟨b8,d1,d7,m,c6⟩ (by simp only;omega) kE.c.c.c.c.c.c (aY [0,0,1,1])
 have c9:i=g.length:=by have:=bC C;omega
 subst c9
 rw[show cA pl.aR g.length=S.length by rw[<-c3,d6];rfl,List.take_length]at m
 rw[show g.length=(g.map (·.name)).length by rw[List.length_map],List.take_length]at V
 refine .exit<|bq<|bz<|br<|aw<|.sr ?_
 refine .makeMap (λb0=>?_)
 refine .ag rfl<|.zs<|.sr<|.fa rfl<|.lo rfl<|.q (.bD K) ?_
 refine .mo rfl<|.zn<|.block ?_
 refine .cq [(4,_),(13,_),(71,_),(72,_)] (X:=Nat×List (ByteArray×Bool)×aA) (λy=>y.1<=v.length/\((v.map (·.name)).take y.1).Nodup/\kR y.2.1 ((v.map (·.name)).take y.1)/\MS (λs:ByteArray=>.string s) (λb:Bool=>.bool b) (.map (some b0)) y.2.1 y.2.2) (λy E=>(73,iN y.1)::E) (λy G=>y.2.2::G) (λy=>v.length-y.1) (0,[],[(b0,.map #[] 0)]) ⟨Nat.zero_le _,by simp,by simpa using kR.nil,MS.nil⟩ kE.c.c.c.c.c rH ?_
 rintro⟨j,M3,Tc⟩ ⟨hj,W,a7,a2⟩
 simp only at hj W a7 a2⊢
 refine .sr<|.q .lss<|.zs ?_
 refine .cond rfl (λw=>?_) λw=>?_
 have b5:j<v.length:=cg w
 obtain⟨s,o⟩:=bU b5
 have A:(v.map (·.name))[j]? =some s.name:=by rw[List.getElem?_map,o];rfl
 refine .kn<|.seq<|.block<|.sr ?_
 refine .bA j K o (λf2=>?_)
 refine .q (.aI rfl) ?_
 refine .bN (λe0=>?_)
 refine .bG rfl rfl<|.zs<|.sr<|.mo rfl<|.fa rfl<|.lo rfl ?_
 refine .q (.mO a2.rx rfl (key:=s.name) rfl (show _=Value.bool (decide (s.name∈(v.map (·.name)).take j))from by rw[a7 s.name];split<;>simp_all)) ?_
 refine .zn ?_
 refine .cond rfl (λh6=>?_) λh6=>?_
 refine .sr<|.ag rfl<|.az rfl ?_
 refine .ret (aF (bg (aF (cz (bg (aF (bj _ (.two (.tmp rfl) (.tmp rfl)) (.one [0] _) ?_)))))))
 ·refine⟨_,rfl,.inr ⟨λH=>?_,rfl⟩⟩
  have x:s.name∈(v.map (·.name)).take j:=by simpa using h6
  obtain⟨q,J,e⟩:=List.mem_iff_getElem.1 x
  rw[List.length_take]at J
  rw[List.getElem_take]at e
  exact lp (show q<j by omega) A (bB (by omega)) e.symm (N.1 H).2.2
 have a3:s.name∉(v.map (·.name)).take j:=by simpa using h6
 refine .kn<|.region<|.mo rfl<|.fa rfl<|.lo rfl ?_
 refine .update (key:=s.name) (u:=true) a2 rfl rfl rfl (λc5 c7 _=>?_)
 refine .nil<|ba<|aw<|.region ?_
 refine .ia (j+1) .add ?_
 refine .mo rfl<|.nil ?_
 ·exact bi (j+1,dy s.name true M3,c5) ⟨b5,by rw[dS A,List.nodup_append];exact⟨W,by simp,λa ha b F=>by rw[List.mem_singleton]at F;subst F;intro e;subst e;exact a3 ha⟩,by simp only;rw[dS A];exact a7.add s.name,c7⟩ (by simp only;omega) kE.c.c.c.c.c (aY [1,1,1,1,1])
 refine .exit<|bq<|bz<|br<|aw<|.sr<|.mo rfl<|.ag rfl<|.az rfl ?_
 refine .ret (bj _ (.two (.tmp rfl) (.tmp rfl)) (.one [3,1] _) ?_)
 ·refine⟨_,rfl,.inl ⟨N.2 ⟨V,m.nd,?_⟩,a0,rfl,(b2 _ _).2 ⟨_,U,by simp[take,bF],m⟩⟩⟩
  rw[dD (by rw[List.length_map];have:=bC w;omega)]at W
  exact W
theorem bf.ja{H:aN}:bf H [[]]:=⟨H.flatten,by simp⟩
structure IX(R:aB)(xb:Nat)(vm:Value)(c:bE):Prop where
 pc:PC R (pT xb) [c.vs,c.vc,vm]
 om:One vm
 ci:c.is R
 rm:RM R kJ kr vm (fS 0 c.plain.aR)
theorem RM.nO{κ β:Type} [DecidableEq κ]{R R':aB}{encK:κ->Value}{a:β->Value}{m:Value}{M:List (κ×β)}(h:RM R encK a m M)(i:∀b o,R b o->R' b o):RM R' encK a m M:=by
 obtain⟨b,d,c,e,f,g⟩:=h
 exact⟨b,d,c,e,i _ _ f,g⟩
theorem IX.mono{R R':aB}{xb:Nat}{vm:Value}{c:bE}(h:IX R xb vm c)(a:∀b o,R b o->R' b o):IX R' xb vm c:=⟨h.pc.mono a,h.om,h.ci.mono a,h.rm.nO a⟩
theorem oy.view{R:aB}{xb:Nat}{c:bE}{T:aA}(h:oy xb c T)(e:c.is R):∃vm,IX (λb o=>R b o\/(b,o)∈T) xb vm c:=by
 obtain⟨vm,g,rfl,a⟩:=h
 refine⟨vm,⟨PC.of (E:=318) (fr:=(0,0)) ?_,a.one,e.mono λb o d=>.inl d,a.rm λp f=>.inr (by simp[f])⟩⟩
 exact .inr (by simp)
def bE.valid(c:bE)(p:fx):Prop:=∃s r,c.aR[p.1]? =some s/\s.bI[p.2]? =some r
def bE.ix(c:bE)(p:fx):Nat:=cA c.plain.aR p.1+p.2
theorem LM{c:bE}{i:Nat}{a:Sp}(h:c.plain.aR[i]? =some a):∃s,c.aR[i]? =some s/\a=s.plain:=by
 unfold bE.plain at h
 simp only at h
 rw[List.getElem?_map]at h
 cases hs:c.aR[i]? with
 |none=>rw[hs]at h;cases h
 |some s=>rw[hs]at h;exact⟨s,rfl,by simpa using h.symm⟩
theorem mX{c:bE}{i:Nat}{s:bT}(h:c.aR[i]? =some s):c.plain.aR[i]? =some s.plain:=by unfold bE.plain;simp only;rw[List.getElem?_map,h];rfl
theorem yF{s:bT}{k:Nat}{r:bQ}(h:s.bI[k]? =some r):s.plain.bI[k]? =some r.r:=by unfold bT.plain;simp only;rw[List.getElem?_map,h];rfl
theorem L6{s:bT}{k:Nat}{a:Rl}(h:s.plain.bI[k]? =some a):∃r,s.bI[k]? =some r/\a=r.r:=by
 unfold bT.plain at h
 simp only at h
 rw[List.getElem?_map]at h
 cases hs:s.bI[k]? with
 |none=>rw[hs]at h;cases h
 |some s=>rw[hs]at h;exact⟨s,rfl,by simpa using h.symm⟩
def mA(c:bE)(t:Ty)(ps:fx)(ok:Bool):Prop:=match bM c.plain.all t with
 |none=>ok=false
 |some j=>ok=true/\c.ix ps=j/\c.valid ps
theorem looked(c:bE)(t:Ty):∃(ps:fx) (ok:Bool),[((db t (fS 0 c.plain.aR)).map kr).getD (kr (0,0)),Value.bool (db t (fS 0 c.plain.aR)).isSome]=[kr ps,.bool ok]/\mA c t ps ok:=by
 have h:=KI c.plain t
 rw[x9]
 unfold mA
 cases hl:look t (fS 0 c.plain.aR)with
 |none=>rw[hl]at h;exact⟨(0,0),false,rfl,by rw[h]⟩
 |some p=>
  obtain⟨i,k⟩:=p
  rw[hl]at h
  obtain⟨a,s,r,b,d,_⟩:=h
  obtain⟨j,e,rfl⟩:=LM b
  obtain⟨g,f,rfl⟩:=L6 d
  exact⟨(i,k),true,rfl,by rw[a];exact⟨rfl,rfl,j,g,e,f⟩⟩
theorem ud{R:aB}{xb:Nat}{vm:Value}{c:bE}(h:IX R xb vm c)(p:fx)(s:bT)(r:bQ)(e:c.aR[p.1]? =some s)(a:s.bI[p.2]? =some r):
  Spec prog 229 [pT xb,.agg (kg p).toArray] R [] λu H'=>u=.agg r.enc.toArray/\H'=[]:=by
 obtain⟨i,k⟩:=p
 obtain⟨I,w,H,G⟩:=c
 obtain⟨l,j,r⟩:=r
 have o:=h.pc
 have D:=h.om
 have g:=h.ci.ss
 have m:=g.ap
 have n:One w:=RS.ap h.ci.sc
 simp only at g m n e a o⊢
 have f:=h.ci.all _ (aX e)
 have b:=f.all _ (aX a)
 have B:One s.v:=RS.ap f.rs
 have z:bW (bQ.enc ⟨l,j,r⟩):=⟨b.cH⟩
 have C:One l:=RS.ap b.t
 have A:One j:=RS.ap b.d
 refine Spec.body Tryz.func229 rfl Tryz.results229 Tryz.ntmps229 rfl ?_
 refine .sr ?_
 refine .bX rfl (λx=>?_)
 refine .bN (λy=>?_)
 refine .zs ?_
 refine .dF 14 mixed (by kernel_rfl) ?_
 conv=>arg 6;dsimp only[List.take]
 refine .mo rfl<|.nc rfl<|.fa rfl<|.fa rfl<|.lo rfl<|.fa rfl<|.lo rfl ?_
 refine .bA i g e (λE=>?_)
 refine .fa rfl<|.lo rfl<|.fa rfl<|.lo rfl ?_
 refine .bA k f.rs a (λF=>?_)
 refine .q (.aI rfl)<|.nil<|.bG rfl rfl<|.zn ?_
 refine .ret (bj _ (.one (.ei rfl rfl)) (.none _) ?_)
 ·exact⟨rfl,rfl⟩
theorem ux(v:Value)(l:List Ty)(R:aB)(h:RS R 2 Ty.enc v l)(w:l.length<=100000):Spec prog 230 [v] R [] λu H'=>∃T,H'=[T]/\OS 249 2 Ty.enc u (dN l) T:=by
 have C:=h.ap
 have x:=h.le
 refine Spec.body Tryz.func230 rfl Tryz.results230 Tryz.ntmps230 rfl ?_
 refine .sr<|.ag rfl<|.z<|.ag rfl<|.zs<|.sr<|.mo rfl<|.q (.bD h) ?_
 refine .mo rfl<|.zn<|.block ?_
 refine .cq [(6,_),(7,_)] (X:=Nat×Value×aA) (λy=>y.1<=l.length/\OS 249 2 Ty.enc y.2.1 (dN (l.take y.1)) y.2.2) (λy E=>(8,iN y.1)::(3,y.2.1)::E) (λy G=>y.2.2::G) (λy=>l.length-y.1) (0,sZ,[]) ⟨Nat.zero_le _,OS.nil⟩ kE.c.c.c.c bf.gw ?_
 rintro⟨i,p,f⟩ ⟨n,a⟩
 simp only at n a⊢
 have B:=a.ap
 have A:(dN (l.take i)).length<=100000:=Nat.le_trans (List.length_filter_le _ _) (by rw[List.length_take];omega)
 refine .sr<|.q .lss<|.zs ?_
 refine .cond rfl (λb=>?_) λb=>?_
 have e:i<l.length:=cg b
 obtain⟨t,j⟩:=bU e
 have g:=zh j
 refine .kn<|.seq<|.block<|.sr ?_
 refine .bA i h j (λF=>?_)
 refine .q (.aI rfl) ?_
 refine .bN (λs=>?_)
 refine .bG rfl rfl<|.z<|.fa rfl<|.lo rfl<|.q .ff<|.zn ?_
 refine .cond rfl (λd=>?_) λd=>?_
 refine .region<|.mo rfl<|.q (.aI rfl) ?_
 refine .dA (λr=>?_)
 refine .append a (RS.lits (xs:=[t]) rfl (by simp[Ty.enc]) (by simp[Ty.enc,ap])) (by simp only[List.length_singleton];omega) (λo m k=>?_)
 have D:=k.ap
 refine .ag rfl<|.nil<|ba<|aw<|.region ?_
 refine .ia (i+1) .add ?_
 refine .mo rfl<|.nil ?_
 ·exact bi (i+1,o,m) ⟨e,by simp only;rw[g,if_neg (by simpa using d)];exact k⟩ (by simp only;omega) kE.c.c.c.c (aY [2])
 refine .skip<|ba<|aw<|.region ?_
 refine .ia (i+1) .add ?_
 refine .mo rfl<|.nil ?_
 ·exact bi (i+1,p,f) ⟨e,by simp only;rw[g,if_pos (by simpa using d),List.append_nil];exact a⟩ (by simp only;omega) kE.c.c.c.c (aY [1])
 refine .exit<|bq<|bz<|br<|aw<|.sr<|.mo rfl<|.az rfl ?_
 refine .ret (bj _ (.one (.tmp rfl)) (.one [0] _) ?_)
 ·refine⟨f,by simp[take],?_⟩
  rw[dD (gV b)]at a
  exact a
def nI(b:Bool):List Value:=[.bool b]
theorem Ag(v:Value)(l:List Nd)(R:aB)(h:RS R 5 Nd.enc v l)(U:fM isWord l≠0)(hl:l.length<=100000):Spec prog 231 [v] R [] λu H'=>∃T,H'=[T]/\OS 4 1 nI u (lK l) T:=by
 have iv:=h.ap
 have a9:=h.le
 obtain⟨d,a2⟩:=vX U
 obtain⟨_,_,_,S⟩:=jV _ _ a2
 have a0:(List.replicate l.length false).length=l.length:=List.length_replicate
 generalize K:List.replicate l.length false=out0 at *
 refine Spec.body Tryz.func231 rfl Tryz.results231 Tryz.ntmps231 rfl ?_
 refine .sr<|.ag rfl<|.z<|.mo rfl<|.q (.bD h) ?_
 refine .makeSlice (enc:=nI) l.length false rfl rfl (by decide) (by simp[nI,ap]) rfl rfl (by omega) (by omega) (λA O F=>?_)
 rw[K]at F
 refine .ag rfl<|.zs<|.sr<|.mo rfl<|.q (.bD h) ?_
 refine .q (.i64 ((l.length:Int)-1) .sub ⟨rfl,by omega,by omega⟩) ?_
 refine .az rfl<|.block ?_
 refine .cq [(0,_),(3,_)] (X:=Nat×aA) (λy=>y.1<=l.length/\OS 4 1 nI (.slice (some ⟨A,0,none⟩) l.length l.length) (down l y.1 (l.length-y.1) out0) y.2) (λy E=>(4,.int .i64 ((y.1:Int)-1))::E) (λy G=>y.2::G) (λy=>y.1) (l.length,O) ⟨Nat.le_refl _,by simp only;rw[Nat.sub_self];exact F⟩ kE.c.c.c rH ?_
 rintro⟨m,D⟩ ⟨W,g⟩
 simp only at W g⊢
 refine .seq<|.sr<|.mo rfl<|.q .geq<|.zn ?_
 refine .cond rfl (λj=>?_) λj=>?_
 obtain⟨e,rfl⟩:∃e,m=e+1:=⟨m-1,by have:=cv j;omega⟩
 obtain⟨n,r⟩:∃n,l[e]? =some n:=⟨_,bB (by omega)⟩
 have V:((e+1:Nat):Int)-1=(e:Int):=by omega
 have s:=S e (Nat.zero_le _) (by omega)
 have H:down l e (l.length-e) out0=fV l (down l (e+1) (l.length-(e+1)) out0) e:=by
  rw[show l.length-e=1+(l.length-(e+1)) by omega,sH]
  rfl
 have a8:(down l (e+1) (l.length-(e+1)) out0).length=l.length:=by rw[qn,a0]
 generalize hX:down l (e+1) (l.length-(e+1)) out0=X at *
 have i:fV l X e=if n.op then(X.set n.a.toNat (X.getD e false)).set n.b.toNat ((X.set n.a.toNat (X.getD e false)).getD e false||n.kind==6)else X:=by unfold fV;rw[r]
 have I:decide (4<=n.kind)=n.op:=by
  cases ho:n.op with
  |true=>unfold Nd.op at ho;simp only[Bool.or_eq_true,beq_iff_eq]at ho;exact decide_eq_true (by omega)
  |false=>
   rw[kQ r ho]at s
   split at s
   ·rename_i C
    unfold Nd.leaf at C
    refine decide_eq_false λh4=>?_
    rw[if_neg (by omega),if_neg (by omega),if_neg (by omega),Bool.and_false]at C
    cases C
   ·cases s
 rw[V]
 refine .kn<|.seq<|.block<|.sr<|.mo rfl<|.mo rfl ?_
 refine .bA e h r (λb0=>?_)
 refine .q (.aI rfl) ?_
 refine .bN (λb5=>?_)
 refine .bG rfl rfl<|.z<|.fa rfl<|.lo rfl<|.q .geq<|.zn ?_
 refine .cond rfl (λk=>?_) λk=>?_
 have J:n.op=true:=by rw[<-I];exact k
 obtain⟨rr,a1⟩:=Option.isSome_iff_exists.1 s
 obtain⟨b',x',y',t1,t2,t3,t4,t5,_,_,_⟩:=ot r J a1
 have a6:=mq t1
 have a7:=(jV _ _ t3).1
 obtain⟨za,M⟩:∃z,X[n.a.toNat]? =some z:=⟨_,bB (by omega)⟩
 obtain⟨p,N⟩:∃z,X[e]? =some z:=⟨_,bB (by omega)⟩
 have a3:X.getD e false=p:=by rw[List.getD_eq_getElem?_getD,N];rfl
 rw[if_pos J,a3]at i
 obtain⟨z2,L⟩:∃z,(X.set n.a.toNat p)[e]? =some z:=⟨_,bB (by rw[List.length_set];omega)⟩
 obtain⟨z3,w⟩:∃z,(X.set n.a.toNat p)[n.b.toNat]? =some z:=⟨_,bB (by rw[List.length_set];omega)⟩
 have a4:(X.set n.a.toNat p).getD e false=z2:=by rw[List.getD_eq_getElem?_getD,L];rfl
 rw[a4]at i
 refine .seq ?_
 refine .dF 8 mixed (by kernel_rfl) ?_
 conv=>arg 6;dsimp only[List.take]
 refine .mo rfl<|.fa rfl<|.lo rfl<|.mo rfl<|.mo rfl ?_
 refine .bo e g N (λb1=>?_)
 refine .lo rfl ?_
 refine .bo n.a.toNat g M (λb2=>?_) rfl rfl (by omega)
 refine .nil ?_
 refine .kP n.a.toNat g M p (λT1 o=>?_)
 refine .zn ?_
 refine bp.cP [(0,_),(3,_),(4,_)] kE.c.c.c (X:=aA) (λT=>OS 4 1 nI (.slice (some ⟨A,0,none⟩) l.length l.length) (fV l X e) T) (λ_ E=>E) (λT=>[T]) ?_ ?_
 refine .dF 13 mixed (by kernel_rfl) ?_
 conv=>arg 6;dsimp only[List.take]
 refine .mo rfl<|.fa rfl<|.lo rfl<|.mo rfl<|.mo rfl ?_
 refine .bo e o L (λb3=>?_)
 refine .lo rfl<|.mo rfl ?_
 refine .split (t:=38) rfl (λf=>?_) (λf=>?_)
 refine .gF f<|.gF f<|.gF f<|.q (.aO f) ?_
 refine .bo n.b.toNat o w (λa5=>?_) rfl rfl (by omega)
 refine .nil ?_
 refine .kP n.b.toNat o w _ (λx B=>?_)
 refine .nil ?_
 ·exact aE x (by rw[i];simpa only[j,k,f,Bool.true_or,Bool.false_or]using B) kE.c.c.c (aY [1])
 refine .gT f<|.fa rfl<|.gT f<|.lo rfl<|.gT f<|.q .bO<|.q (.aK f) ?_
 refine .bo n.b.toNat o w (λa5=>?_) rfl rfl (by omega)
 refine .nil ?_
 refine .kP n.b.toNat o w _ (λx B=>?_)
 refine .nil ?_
 ·exact aE x (by rw[i];simpa only[j,k,f,Bool.true_or,Bool.false_or]using B) kE.c.c.c (aY [1])
 intro y hy
 have Q:OS 4 1 nI (.slice (some ⟨A,0,none⟩) l.length l.length) (fV l X e) y:=hy
 refine ba<|aw<|.region<|.mo rfl ?_
 refine .q (.i64 ((e:Int)-1) .sub ⟨rfl,by omega,by omega⟩) ?_
 refine .ag rfl<|.nil ?_
 ·exact bi (e,y) ⟨by simp only;omega,by simp only;rw[H];exact Q⟩ (by simp only;omega) kE.c.c.c rH
 have Z:¬n.op=true:=by rw[<-I,k];simp
 rw[if_neg Z]at i
 refine .skip<|ba<|aw<|.region<|.mo rfl ?_
 refine .q (.i64 ((e:Int)-1) .sub ⟨rfl,by omega,by omega⟩) ?_
 refine .ag rfl<|.nil ?_
 ·exact bi (e,D) ⟨by simp only;omega,by simp only;rw[H,i];exact g⟩ (by simp only;omega) kE.c.c.c (aY [1])
 refine .exit<|bq<|bz<|br<|aw<|.sr<|.mo rfl<|.az rfl ?_
 refine .ret (bj _ (.one (.tmp rfl)) (.one [0] _) ?_)
 ·refine⟨D,by simp[take],?_⟩
  have Y:m=0:=by have:=bC j;omega
  subst Y
  unfold lK
  rw[K]
  exact g
def NA(c:bE)(ok:Bool)(S:List fx)(o:Option (List Nat)):Prop:=match o with
 |none=>ok=false
 |some ts=>ok=true/\S.map c.ix=ts/\∀p∈S,c.valid p
def TN(l:List (ByteArray×Rl))(sp:ByteArray)(r:Rl)(n:Nd)(tys:List Ty):Prop:=targets l sp r.types n=findAll l tys/\tys.length<=8
theorem uw{a:List Ty}{n:Nat}(h:a.length<=n):(dN a).length<=n:=Nat.le_trans (List.length_filter_le _ _) h
theorem w8(l:List (ByteArray×Rl)):∀(a:List Ty) (t:Ty),findAll l (a++[t])=(findAll l a).bind λx=>(bM l t).map λi=>x++[i]
 |[],t=>by
  rw[List.nil_append,findAll,findAll]
  cases bM l t<;>rfl
 |x::a,t=>by
  rw[List.cons_append,findAll,findAll,w8 l a t]
  cases bM l x with
  |none=>rfl
  |some i=>
   cases findAll l a with
   |none=>rfl
   |some u=>cases bM l t<;>rfl
theorem w9{l:List (ByteArray×Rl)}{t:Ty}{a:List Ty}(h:t∈a)(c:bM l t=none):findAll l a=none:=by
 cases hf:findAll l a with
 |none=>rfl
 |some o=>obtain⟨i,b,_⟩:=oO hf h;rw[c]at b;cases b
theorem mU{c:bE}{p:fx}{s:bT}{r:bQ}(b:c.aR[p.1]? =some s)(a:s.bI[p.2]? =some r):c.plain.all[c.ix p]? =some (s.name,r.r):=by
 have:=vi (mX b) (yF a)
 unfold bE.ix Cf.all
 exact this
def bE.oM(c:bE):Prop:=∀s∈c.aR,∀r∈s.bI,r.r.types.length<=8/\r.r.nodes.length<=64/\fM isWord r.r.nodes≠0
theorem KZ{R:aB}{xb:Nat}{vm:Value}{c:bE}(h:IX R xb vm c)(I:c.oM)(p:fx)(s:bT)(r:bQ)(J:c.aR[p.1]? =some s)(hr:s.bI[p.2]? =some r)(n:Nd):
  Spec prog 232 [pT xb,.agg (kg p).toArray,.agg n.enc.toArray] R [] λu H'=>∃T,H'=[T]/\∃w S ok,u=.tuple [w,.bool ok].toArray/\OS 321 2 kg w S T/\S.length<=8/\
   NA c ok S (targets c.plain.all s.name r.r.types n):=by
 have b3:=ud h p s r J hr
 have a2:=h
 have b8:=(I s (aX J) r (aX hr)).1
 have b2:=looked c
 obtain⟨i,k⟩:=p
 have pc:=h.pc
 have om:=h.om
 have a7:=h.ci.ss
 have i1:=a7.ap
 have i2:One c.vc:=RS.ap h.ci.sc
 have b7:=h.ci.all _ (aX J)
 have a6:=b7.all _ (aX hr)
 have e0:One s.v:=RS.ap b7.rs
 have d8:bW (bQ.enc r):=⟨a6.cH⟩
 simp only at J hr
 have e5:=a7.pc J
 generalize Y:c.plain.all=A at *
 refine Spec.body Tryz.func232 rfl Tryz.results232 Tryz.ntmps232 rfl ?_
 refine .sr ?_
 refine .bX rfl (λb4=>?_)
 refine .bX rfl (λb5=>?_)
 refine .ag rfl<|.ag rfl<|.zs ?_
 refine bp.cP [(0,_),(5,_)] kE.c.c (X:=Nat) (λ_=>True) (λy E=>(9,pT y)::(8,.string s.name)::E) (λy=>[bl y r.enc 167,bl b5 n.enc 199,bl b4 (kg (i,k)) 321]) ?_ ?_
 refine .dt [15] mixed ?_
 refine .tO 0 rfl .move<|.tO 1 rfl (.nilCheck rfl)<|.tO 2 rfl (.fieldAddr rfl)<|.tO 3 rfl (.fieldAddr rfl)<|.tO 4 rfl (.cI rfl)<|.tO 5 rfl (.fieldAddr rfl)<|.tO 6 rfl (.cI rfl) ?_
 refine .tO 7 rfl (.bA i a7 J rfl rfl rfl) ?_
 refine .tO 8 rfl (.fieldAddr rfl)<|.tO 9 rfl (.cI rfl)<|.tO 10 rfl .move<|.tO 11 rfl (.aI rfl) ?_
 refine RA.jS 12 13 rfl rfl (by kernel_rfl) rfl ?_ ?_
 refine .bd (b3.weaken cQ) (λu B=>?_)
 subst B
 refine .nil (Next.sub ?_)
 refine .sT 13 rfl ?_
 refine .bN (λb9=>?_)
 refine .nil (Next.sub ?_)
 refine .tO 14 rfl .assign ?_
 refine .sT 15 rfl ?_
 refine .bG rfl rfl ?_
 refine .nil (Next.mod rfl ?_)
 refine RA.nil (by kernel_rfl) ?_
 ·exact aE b9 trivial kE.c.c.c.c rH
 refine .bN (λb9=>?_)
 refine .nil (Next.sub ?_)
 refine .sT 12 rfl ?_
 refine .bd (b3.weaken cQ) (λu B=>?_)
 subst B
 refine .nil (Next.sub ?_)
 refine .tO 14 rfl .assign ?_
 refine .sT 15 rfl ?_
 refine .bG rfl rfl ?_
 refine .nil (Next.mod rfl ?_)
 refine RA.nil (by kernel_rfl) ?_
 ·exact aE b9 trivial kE.c.c.c.c rH
 intro y hy
 obtain⟨vt,vn,r⟩:=r
 have b6:RS R 2 Ty.enc vt r.types:=a6.t
 have e1:One vt:=b6.ap
 have d9:One vn:=RS.ap a6.d
 refine aw<|.sr<|.ag rfl<|.zs<|.sr<|.fa rfl<|.lo rfl<|.zn<|.block<|.sr<|.q .bO<|.az rfl ?_
 refine bp.cP [(0,_)] kE.c (X:=Value×List Ty×aA) (λy=>OS 249 2 Ty.enc y.1 y.2.1 y.2.2/\TN A s.name r n y.2.1) (λy E=>(10,y.1)::E) (λy=>[y.2.2]) ?_ ?_
 refine .cond rfl (λD=>?_) λD=>?_
 refine .region<|.fa rfl<|.lo rfl ?_
 refine .da (ux vt r.types _ b6.rx (by simp only at b8;omega)) (λu L B=>?_)
 have iu:=B.ap
 refine .ag rfl<|.nil ?_
 ·exact aE (u,dN r.types,L) ⟨B,by unfold targets;rw[if_pos (by simpa using D)],uw b8⟩ kE.c.c (aY [0])
 refine .sr<|.q .bO<|.az rfl ?_
 refine .cond rfl (λH=>?_) λH=>?_
 refine .region<|.mo rfl<|.fa rfl<|.lo rfl ?_
 refine .q .cO ?_
 refine .dA (λd6=>?_)
 refine .ag rfl<|.nil ?_
 ·exact aE (_,[(⟨s.name,n.rel⟩:Ty)],_) ⟨OS.lits (xs:=[(⟨s.name,n.rel⟩:Ty)]) rfl (by simp[Ty.enc]) (by simp[Ty.enc,ap]),by unfold targets;rw[if_neg (by simpa using D),if_pos (by simpa using H)],by simp⟩ ((kE.d rfl).d rfl) (aY [0])
 refine .sr<|.q .bO<|.az rfl ?_
 refine .cond rfl (λM=>?_) λM=>?_
 obtain⟨C,ok,a5,a⟩:=b2 (⟨s.name,n.rel⟩:Ty)
 refine .seq<|.dt [13] mixed ?_
 refine .tO 0 rfl .move<|.tO 1 rfl (.nilCheck rfl)<|.tO 2 rfl (.fieldAddr rfl)<|.tO 3 rfl (.cI rfl)<|.tO 4 rfl .move<|.tO 5 rfl (.fieldAddr rfl)<|.tO 6 rfl (.cI rfl) ?_
 refine .tO 7 rfl .cO ?_
 refine .gM 8 rfl (.cast (.nL (a2.rm.nO λb o hb=>.inl hb) rfl rfl) (congrArg (λl:List Value=>Value.tuple l.toArray) a5)) (by kernel_rfl) ?_
 refine .tO 9 rfl .move<|.tO 10 rfl .extract<|.tK 11 rfl .extract ?_
 refine .sT 12 rfl ?_
 refine .bN (λd2=>?_)
 refine .nil (Next.sub ?_)
 refine .sT 13 rfl ?_
 refine .bG rfl rfl ?_
 refine .nil (Next.mod rfl ?_)
 refine .tK 14 rfl .assign ?_
 refine RA.nil (by kernel_rfl) ?_
 refine aw<|.seq<|.sr<|.mo rfl<|.q .not<|.zn ?_
 refine .cond rfl (λh4=>?_) λh4=>?_
 refine .sr<|.ag rfl<|.az rfl ?_
 refine .ret (aF (ib (bg (aF (bj _ (.two (.tmp rfl) (.tmp rfl)) bf.ja ?_)))))
 ·refine⟨[],rfl,_,[],false,rfl,OS.nil,by simp,?_⟩
  have O:ok=false:=by simpa using h4
  have m:bM A ⟨s.name,n.rel⟩=none:=by
   unfold mA at a
   rw[Y]at a
   cases hf:bM A ⟨s.name,n.rel⟩with
   |none=>rfl
   |some j=>rw[hf]at a;rw[a.1]at O;cases O
  unfold targets
  rw[if_neg (by simpa using D),if_neg (by simpa using H),if_pos (by simpa using M),m]
  rfl
 have a4:ok=true:=by simpa using h4
 subst a4
 obtain⟨j,m,a3,s2,f,a1,a0⟩:∃j,bM A ⟨s.name,n.rel⟩=some j/\c.ix C=j/\c.valid C:=by
  unfold mA at a
  rw[Y]at a
  cases hf:bM A ⟨s.name,n.rel⟩with
  |none=>rw[hf]at a;cases a
  |some j=>rw[hf]at a;exact⟨j,rfl,a.2.1,a.2.2⟩
 have c4:=ud a2 C s2 f a1 a0
 obtain⟨c0,e6,f⟩:=f
 have c5:=(h.ci.all _ (aX a1)).all _ (aX a0)
 have c6:RS R 2 Ty.enc c0 f.types:=c5.t
 have c7:f.types.length<=8:=(I _ (aX a1) _ (aX a0)).1
 have a9:(A.map (·.2.types)).getD j []=f.types:=by
  have:=mU a1 a0
  rw[Y,a3]at this
  rw[List.getD_eq_getElem?_getD,List.getElem?_map,this]
  rfl
 refine .kn<|.seq<|.sr<|.mo rfl<|.q (.aI rfl) ?_
 refine .bd (c4.weaken cQ) (λu B=>?_)
 subst B
 refine .q (.J1 Tryz.underlying167 rfl rfl wz rfl) ?_
 refine .da (ux c0 f.types _ c6.rx (by omega)) (λu T2 a8=>?_)
 have e2:=a8.ap
 have c9:=uw c7
 refine .q (.ej a8) ?_
 refine .mo rfl<|.zn<|.block ?_
 refine .cq [(0,_),(5,_),(67,_),(68,_)] (X:=Nat×Value×aA) (λy=>y.1<=(dN f.types).length/\OS 249 2 Ty.enc y.2.1 (((dN f.types).take y.1).map λt=>(⟨t.space,n.dw⟩:Ty)) y.2.2) (λy E=>(69,iN y.1)::(10,y.2.1)::E) (λy G=>y.2.2::G) (λy=>(dN f.types).length-y.1) (0,sZ,[]) ⟨Nat.zero_le _,OS.nil⟩ kE.c.c.c.c.c.c bf.gw ?_
 rintro⟨q,vo,To⟩ ⟨hq,g⟩
 simp only at hq g⊢
 have io:=g.ap
 refine .sr<|.q .lss<|.zs ?_
 refine .cond rfl (λh5=>?_) λh5=>?_
 have Q:q<(dN f.types).length:=by have:=cv h5;omega
 obtain⟨t,K⟩:=bU Q
 refine .kn<|.seq<|.block<|.sr ?_
 refine .bo q a8 K (λe3=>?_)
 refine .q (.aI rfl) ?_
 refine .bN (λd3=>?_)
 refine .bG rfl rfl<|.zn<|.region<|.mo rfl<|.fa rfl<|.lo rfl<|.fa rfl<|.lo rfl ?_
 refine .q .cO ?_
 refine .dA (λd7=>?_)
 refine .append g (RS.lits (xs:=[(⟨t.space,n.dw⟩:Ty)]) rfl (by simp[Ty.enc]) (by simp[Ty.enc,ap])) (by simp only[List.length_map,List.length_take,List.length_singleton];omega) (λv1 L U=>?_)
 have d0:=U.ap
 refine .ag rfl<|.nil<|ba<|aw<|.region ?_
 refine .ia (q+1) .add ?_
 refine .mo rfl<|.nil ?_
 ·exact bi (q+1,v1,L) ⟨Q,by simp only;rw[dS K,List.map_append];exact U⟩ (by simp only;omega) kE.c.c.c.c.c.c (aY [2,2,2,2,2,2])
 rw[dD (gV h5)]at g
 refine .exit<|bq<|bz<|br<|aw<|.sr<|.mo rfl<|.q (.ej g) ?_
 refine .q .bO<|.zn ?_
 refine .cond rfl (λW=>?_) λW=>?_
 have c3:dN f.types=[]:=by have N:=eq_of_beq W;rw[List.length_map]at N;exact List.eq_nil_of_length_eq_zero (by omega)
 refine .sr<|.ag rfl<|.az rfl ?_
 refine .ret (ib (bg (aF (bj _ (.two (.tmp rfl) (.tmp rfl)) bf.ja ?_))))
 ·refine⟨[],rfl,_,[],false,rfl,OS.nil,by simp,?_⟩
  unfold targets
  rw[if_neg (by simpa using D),if_neg (by simpa using H),if_pos (by simpa using M),m]
  simp only
  rw[a9,c3]
  rfl
 have c2:dN f.types≠[]:=by intro e;rw[e]at W;simp at W
 refine .skip ?_
 ·exact aE (vo,(dN f.types).map λt=>(⟨t.space,n.dw⟩:Ty),To) ⟨g,by
   unfold targets
   rw[if_neg (by simpa using D),if_neg (by simpa using H),if_pos (by simpa using M),m]
   simp only
   rw[a9]
   cases hz:dN f.types with
   |nil=>exact absurd hz c2
   |cons z zs=>rfl,by rw[List.length_map];exact c9⟩ kE.c.c (aY [0])
 refine .skip ?_
 ·exact aE (sZ,[],[]) ⟨OS.nil,by unfold targets;rw[if_neg (by simpa using D),if_neg (by simpa using H),if_neg (by simpa using M)];rfl,by simp⟩ kE.c.c bf.ja
 intro x hx
 obtain⟨w,V,Tt⟩:=x
 obtain⟨Z,b1,c1⟩:=hx
 simp only at Z b1 c1⊢
 have iw:=Z.ap
 rw[b1]
 refine ba<|aw<|.sr<|.ag rfl<|.zs<|.sr<|.mo rfl<|.q (.ej Z) ?_
 refine .mo rfl<|.zn<|.block ?_
 refine .cq [(0,_),(85,_),(86,_)] (X:=Nat×Value×List fx×aA) (λy=>y.1<=V.length/\OS 321 2 kg y.2.1 y.2.2.1 y.2.2.2/\y.2.2.1.length=y.1/\NA c true y.2.2.1 (findAll A (V.take y.1))) (λy E=>(87,iN y.1)::(15,y.2.1)::E) (λy G=>y.2.2.2::G) (λy=>V.length-y.1) (0,sZ,[],[]) ⟨Nat.zero_le _,OS.nil,rfl,⟨rfl,rfl,λp hp=>(by cases hp)⟩⟩ kE.c.c.c.c.c bf.gw ?_
 rintro⟨q,vo,S,To⟩ ⟨hq,g,b0,F⟩
 simp only at hq g b0 F⊢
 have io:=g.ap
 refine .sr<|.q .lss<|.zs ?_
 refine .cond rfl (λN=>?_) λN=>?_
 have Q:q<V.length:=cg N
 obtain⟨t,K⟩:=bU Q
 obtain⟨C,ok,a5,a⟩:=b2 t
 unfold mA at a
 rw[Y]at a
 refine .kn<|.seq<|.block<|.sr ?_
 refine .bo q Z K (λe4=>?_)
 refine .q (.aI rfl) ?_
 refine .bN (λd4=>?_)
 refine .bG rfl rfl<|.zs<|.dt [10] mixed ?_
 refine .tO 0 rfl .move<|.tO 1 rfl (.nilCheck rfl)<|.tO 2 rfl (.fieldAddr rfl)<|.tO 3 rfl (.cI rfl)<|.tO 4 rfl (.aI rfl) ?_
 refine .gM 5 rfl (.cast (.nL (a2.rm.nO λb o hb=>.inl hb) rfl rfl) (congrArg (λl:List Value=>Value.tuple l.toArray) a5)) (by kernel_rfl) ?_
 refine .tO 6 rfl .move<|.tO 7 rfl .extract<|.tK 8 rfl .extract ?_
 refine .sT 9 rfl ?_
 refine .bN (λd5=>?_)
 refine .nil (Next.sub ?_)
 refine .sT 10 rfl ?_
 refine .bG rfl rfl ?_
 refine .nil (Next.mod rfl ?_)
 refine .tK 11 rfl .assign ?_
 refine RA.nil (by kernel_rfl) ?_
 refine aw<|.seq<|.sr<|.mo rfl<|.q .not<|.zn ?_
 refine .cond rfl (λI=>?_) λI=>?_
 refine .sr<|.ag rfl<|.az rfl ?_
 refine .ret (aF (bg (aF (cz (bg (aF (bj _ (.two (.tmp rfl) (.tmp rfl)) bf.ja ?_)))))))
 ·refine⟨[],rfl,_,[],false,rfl,OS.nil,by simp,?_⟩
  have O:ok=false:=by simpa using I
  have m:bM A t=none:=by
   cases hf:bM A t with
   |none=>rfl
   |some j=>rw[hf]at a;rw[a.1]at O;cases O
  rw[w9 (aX K) m]
  rfl
 have a4:ok=true:=by simpa using I
 subst a4
 obtain⟨j,m,a3,c8⟩:∃j,bM A t=some j/\c.ix C=j/\c.valid C:=by
  cases hf:bM A t with
  |none=>rw[hf]at a;cases a
  |some j=>rw[hf]at a;exact⟨j,rfl,a.2.1,a.2.2⟩
 refine .kn<|.region<|.mo rfl<|.q (.aI rfl) ?_
 refine .dA (λd1=>?_)
 refine .append g (RS.lits (xs:=[C]) rfl (by simp[kg]) (by simp[kg,ap])) (by simp only[List.length_singleton];omega) (λv1 L U=>?_)
 have d0:=U.ap
 refine .ag rfl<|.nil<|ba<|aw<|.region ?_
 refine .ia (q+1) .add ?_
 refine .mo rfl<|.nil ?_
 ·exact bi (q+1,v1,S++[C],L) ⟨Q,U,by simp[b0],by
   simp only
   rw[dS K,w8,m]
   cases hf:findAll A (V.take q)with
   |none=>rw[hf]at F;cases F
   |some o=>
    rw[hf]at F
    obtain⟨_,n1,n2⟩:=F
    refine⟨rfl,by rw[List.map_append,n1];simp[a3],λp hp=>?_⟩
    rcases List.mem_append.1 hp with hp|hp
    ·exact n2 p hp
    ·rw[List.mem_singleton]at hp;subst hp;exact c8⟩ (by simp only;omega) kE.c.c.c.c.c (aY [3,3])
 rw[dD (gV N)]at F
 refine .exit<|bq<|bz<|br<|aw<|.sr<|.mo rfl<|.ag rfl<|.az rfl ?_
 refine .ret (bj _ (.two (.tmp rfl) (.tmp rfl)) (.one [0] _) ?_)
 ·exact⟨To,by simp[take],vo,S,true,rfl,g,by omega,F⟩
end Go.Proofs.YtdljmchhecoakaaGreat

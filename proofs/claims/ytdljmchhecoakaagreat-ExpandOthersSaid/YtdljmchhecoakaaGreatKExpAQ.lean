/- What the law 'ExpA' uses. No condition. -/
import Derived.Test.YtdljmchhecoakaaGreatKExpAA
import Derived.Test.YtdljmchhecoakaaGreatKExpAB
import Derived.Test.YtdljmchhecoakaaGreatKExpAD
import Derived.Test.YtdljmchhecoakaaGreatKExpAE
import Derived.Test.YtdljmchhecoakaaGreatKExpAH
import Derived.Test.YtdljmchhecoakaaGreatKExpAI
import Derived.Test.YtdljmchhecoakaaGreatKExpAL
import Derived.Test.YtdljmchhecoakaaGreatKExpAM
import Derived.Test.YtdljmchhecoakaaGreatKExpAN
import Derived.Test.YtdljmchhecoakaaGreatKExpAP
namespace Go.Proofs.YtdljmchhecoakaaGreat
open Tryz (prog)
set_option linter.unusedVariables false
set_option linter.unusedSimpArgs false
set_option maxRecDepth 4000
def oS(t:aE):ByteArray:=if t.us=⟨#[]⟩then⟨#[49]⟩else⟨#[48]⟩
def gB(t:aE):List ByteArray:=[t.os,t.oi,t.rel,oS t,t.us,t.ss,t.si,t.sr]
theorem Qm(a b:aE):eO (oS a) (oS b)=kx (kK a.us) (kK b.us):=by
 unfold oS kK
 split<;>split<;>decide
theorem RI(a b:aE):kN a b=gI (List.zipWith eO (gB a) (gB b)):=by
 unfold kN gB
 simp only[List.zipWith_cons_cons,List.zipWith_nil_left]
 rw[Qm]
theorem AI:∀{X Y:List ByteArray} {i:Nat} {x y:ByteArray},X.take i=Y.take i->X[i]? =some x->Y[i]? =some y->x≠y->gI (List.zipWith eO X Y)=eO x y
 |x0::X,y0::Y,0,x,y,_,hx,hy,hn=>by
  simp only[List.getElem?_cons_zero,Option.some.injEq]at hx hy
  subst hx hy
  rw[List.zipWith_cons_cons,nz,if_neg λe=>hn (pY.1 e)]
 |x0::X,y0::Y,i+1,x,y,ht,hx,hy,hn=>by
  simp only[List.take_succ_cons,List.cons.injEq]at ht
  simp only[List.getElem?_cons_succ]at hx hy
  rw[List.zipWith_cons_cons,nz,if_pos (pY.2 ht.1)]
  exact AI ht.2 hx hy hn
 |[],_,i,x,y,_,hx,_,_=>by simp at hx
 |_::_,[],i,x,y,_,_,hy,_=>by simp at hy
theorem RD{a b:aE}{i:Nat}{x y:ByteArray}(d:(gB a).take i=(gB b).take i)(e:(gB a)[i]? =some x)(f:(gB b)[i]? =some y)(c:x≠y):gC a b=dR x y:=by
 unfold gC
 rw[RI,AI d e f c,Bool.eq_iff_iff,decide_eq_true_eq,mQ]
theorem Rs{a b:aE}(h:gB a=gB b):a=b:=by
 obtain⟨k,l,m,n,o,p,q⟩:=a
 obtain⟨r,s,t,u,v,w,x⟩:=b
 simp only[gB,List.cons.injEq]at h
 obtain⟨c,d,e,y,f,g,i,j,_⟩:=h
 simp only[aE.mk.injEq]
 exact⟨c,d,e,f,g,i,j⟩
theorem yV(t:aE)(R:aB):Spec prog 256 [.agg t.enc.toArray] R [] λu H'=>∃T,H'=[T]/\OS 9 1 cg u (gB t) T:=by
 refine Spec.gu (H':=[]) (by simp) ?_
 refine Spec.body Tryz.func256 rfl Tryz.results256 Tryz.ntmps256 rfl ?_
 refine .sr ?_
 refine .bY rfl (λb=>?_)
 refine .ag rfl<|.z<|.ag rfl<|.zs<|.sr<|.fa rfl<|.fa rfl<|.lo rfl<|.q .fU<|.zn ?_
 refine bz.cut (X:=ByteArray) (λk=>k=oS t) (λk=>[(1,pT b),(3,.string k)]) (λk=>[bl b t.enc 119]) ?_ ?_
 refine .cond rfl (λa=>?_) λa=>?_
 refine .region<|.ag rfl<|.nil ?_
 ·exact aF ⟨#[48]⟩ (by unfold oS;rw[if_neg (by simpa using a)]) kE.c.c rH
 refine .skip ?_
 ·exact aF ⟨#[49]⟩ (by unfold oS;rw[if_pos (by simpa using a)]) kE.c.c rH
 intro x d
 subst d
 refine av<|.sr<|.fa rfl<|.fa rfl<|.lo rfl<|.fa rfl<|.fa rfl<|.lo rfl<|.fa rfl<|.lo rfl<|.mo rfl<|.fa rfl<|.fa rfl<|.lo rfl<|.fa rfl<|.fa rfl<|.fa rfl<|.lo rfl<|.fa rfl<|.fa rfl<|.fa rfl<|.lo rfl<|.fa rfl<|.fa rfl<|.lo rfl ?_
 refine .xU [_,_,_,_,_,_,_,_] (λe=>?_)
 refine .az rfl ?_
 refine .ret (bp _ (.one (.tmp rfl)) (.one [0] _) ?_)
 ·refine⟨_,by simp[take];rfl,?_⟩
  exact OS.lits (E:=9) (xs:=gB t) (enc:=cg) rfl (by simp[gB,cg]) (by simp[gB,cg,ap])
theorem PB(a b:aE)(R:aB):Spec prog 222 [.agg a.enc.toArray,.agg b.enc.toArray] R [] λv H'=>v=.bool (gC a b)/\H'=[]:=by
 refine Spec.body Tryz.func222 rfl Tryz.results222 Tryz.ntmps222 rfl<|.sr ?_
 refine .bY rfl (λs=>?_)
 refine .bY rfl (λt=>?_)
 refine .ag rfl<|.zs<|.cL [] mixed<|.tO 0 rfl (.aM rfl)<|.tO 2 rfl (.aM rfl)<|.sT 1 rfl<|.cO (yV a _) (λu n d=>?_)
 have A:=d.ap
 refine .nil<|Next.sub<|.sT 3 rfl<|.cO (yV b _) (λw o k=>?_)
 have B:=k.ap
 refine .nil<|Next.sub<|.tO 4 rfl .assign<|.tO 5 rfl .assign<|RA.nil (by kernel_rfl)<|av<|.seq<|.sr<|.az rfl<|.block<|.loop (X:=Nat) (λi=>i<=8/\(gB a).take i=(gB b).take i) (λi=>[(5,u),(6,w),(7,iN i)]) (λ_=>[n,o]) (λi=>8-i) 0 ⟨by omega,by simp⟩ kE.c.c.c (aQ [1,0]) ?_
 rintro i ⟨x,m⟩
 refine .seq<|.sr<|.mo rfl<|.mo rfl<|.q (.dK d)<|.q .lss<|.zn<|.cond rfl (λh=>?_) λh=>?_
 have l:i<8:=by have:=bS h;simp only[gB,List.length_cons,List.length_nil]at this;omega
 obtain⟨z,g⟩:∃z,(gB a)[i]? =some z:=⟨_,aX (by simpa[gB]using l)⟩
 obtain⟨y,f⟩:∃y,(gB b)[i]? =some y:=⟨_,aX (by simpa[gB]using l)⟩
 refine .kn<|.seq<|.block<|.seq<|.gn mixed (by kernel_rfl)<|.mo rfl<|.mo rfl ?_
 refine .aL i d g (λC=>?_)
 refine .lo rfl<|.mo rfl<|.mo rfl ?_
 refine .aL i k f (λD=>?_)
 refine .lo rfl<|.q .fU<|.zn<|.cond rfl (λj=>?_) λj=>?_
 refine .seq<|.gn mixed (by kernel_rfl)<|.mo rfl<|.mo rfl ?_
 refine .aL i d g (λE=>?_)
 refine .lo rfl<|.mo rfl<|.mo rfl ?_
 refine .aL i k f (λF=>?_)
 refine .lo rfl<|.q .vj<|.az rfl<|.ret (bh (aH (cB (bh (aH (aP rfl ?_))))))
 ·have r:z≠y:=by simpa using j
  exact⟨by rw[RD m g f r],rfl⟩
 refine .skip<|aV<|av<|.region<|.mo rfl<|.ia (i+1) .add<|.ag rfl<|.nil ?_
 ·exact aW (i+1) ⟨l,by
   have e:z=y:=by simpa using j
   rw[List.take_add_one,List.take_add_one,m,g,f,e]⟩ (by omega) kE.c.c.c rH
 refine .exit<|bm<|bs<|bo<|av<|.sr<|.az rfl<|.ret (aP rfl ?_)
 ·have p:i=8:=by have:=bA h;simp only[gB,List.length_cons,List.length_nil]at this;omega
  subst p
  have:a=b:=Rs (by simpa[gB]using m)
  exact⟨by rw[this,tG],rfl⟩
structure DV(R:aB)(b:Nat)(S:cW)(vL:Value)(L:List bC):Prop where
 pc:PC R (pT b) [vL,.int .u64 S.head,.int .u64 S.dT]
 rs:RS R 9 bC.enc vL L
theorem DV.mono{R R':aB}{b:Nat}{S:cW}{c:Value}{L:List bC}(h:DV R b S c L)(a:∀b o,R b o->R' b o):DV R' b S c L:=⟨h.pc.mono a,h.rs.mono a⟩
theorem PW(x:bC)(r:Int)(R:aB):Spec prog 107 [.agg x.enc.toArray,.int .u64 r] R [] λv H'=>v=.bool (x.there r)/\H'=[]:=by
 obtain⟨⟨c,d,e,f,g,h,i⟩,k,l⟩:=x
 refine Spec.body Tryz.func107 rfl Tryz.results107 Tryz.ntmps107 rfl<|.sr ?_
 refine .bY rfl (λj=>?_)
 refine .ag rfl<|.z<|.fa rfl<|.lo rfl<|.mo rfl<|.q .leq<|.mo rfl<|.split (t:=9) rfl (λa=>?_) (λa=>?_)
 refine .gT a<|.fa rfl<|.gT a<|.lo rfl<|.gT a<|.q .bQ<|.gT a<|.mo rfl<|.split (t:=13) rfl (λb=>?_) (λb=>?_)
 refine .gF b<|.gF b<|.gF b<|.gF b<|.gT a<|.q (.aT b)<|.q (.aT a)<|.az rfl<|.ret (aP rfl ?_)
 ·refine⟨congrArg _ ?_,rfl⟩
  unfold bC.there
  simp_all
  try omega
 refine .gT b<|.mo rfl<|.gT b<|.fa rfl<|.gT b<|.lo rfl<|.gT b<|.q .lss<|.gT a<|.q (.aS b)<|.q (.aT a)<|.az rfl<|.ret (aP rfl ?_)
 ·refine⟨congrArg _ ?_,rfl⟩
  unfold bC.there
  simp_all
  try omega
 refine .gF a<|.gF a<|.gF a<|.gF a<|.dm rfl<|.dm rfl<|.dm rfl<|.dm rfl<|.gF a<|.q (.aS a)<|.az rfl<|.ret (aP rfl ?_)
 ·refine⟨congrArg _ ?_,rfl⟩
  unfold bC.there
  simp_all
  try omega
section
variable{R:aB}{b:Nat}{S:cW}{vL:Value}{L:List bC}
theorem DV.can(h:DV R b S vL L)(r:Int):Spec prog 86 [pT b,.int .u64 r] R [] λv H'=>v=.bool (scan S r)/\H'=[]:=by
 have d:=h.pc
 have c:=h.rs.ap
 refine Spec.body Tryz.func86 rfl Tryz.results86 Tryz.ntmps86 rfl<|.sr<|.ag rfl<|.z<|.mo rfl<|.nc rfl<|.fa rfl<|.lo rfl<|.mo rfl<|.q .leq<|.mo rfl<|.split (t:=11) rfl (λa=>?_) (λa=>?_)
 refine .gT a<|.mo rfl<|.gT a<|.mo rfl<|.gT a<|.nc rfl<|.gT a<|.fa rfl<|.gT a<|.lo rfl<|.gT a<|.q .leq<|.q (.aT a)<|.az rfl<|.ret (aP rfl ?_)
 ·refine⟨congrArg _ ?_,rfl⟩
  unfold scan
  simp_all
  try omega
 refine .gF a<|.gF a<|.gF a<|.gF a<|.gF a<|.gF a<|.q (.aS a)<|.az rfl<|.ret (aP rfl ?_)
 ·refine⟨congrArg _ ?_,rfl⟩
  unfold scan
  simp_all
  try omega
theorem DV.Q9(h:DV R b S vL L)(Z:L.length<=5000)(k:bc)(r:Int):Spec prog 147 [pT b,.agg [.string k.os,.string k.oi].toArray,.string k.rel,.int .u64 r] R [] λu H'=>∃T,H'=[T]/\OS 117 4 Sub.enc u (if scan S r then(L.filter λx=>x.there r&&decide (x.t.cJ=k)).map (·.t.sub)else []) T:=by
 obtain⟨l,m,w⟩:=k
 have pc:=h.pc
 have a1:=h.rs.ap
 obtain⟨pv,a2,rfl⟩:=h.rs.val
 have F:=h.rs
 have V:∀x:bC,decide (x.t.cJ=(⟨l,m,w⟩:bc))=(decide (x.t.os=l/\x.t.oi=m)&&decide (x.t.rel=w)):=λx=>by
  rw[Bool.eq_iff_iff]
  simp[aE.cJ,and_assoc]
 refine Spec.gu (H':=[[]]) (by simp) ?_
 refine Spec.body Tryz.func147 rfl Tryz.results147 Tryz.ntmps147 rfl ?_
 refine .sr ?_
 refine .bY rfl (λC=>?_)
 refine .ag rfl<|.z<|.ag rfl<|.zs<|.sr<|.az rfl<|.block ?_
 refine .loop (X:=Nat×Value×ay) (λy=>(y.1<=L.length/\(scan S r=false->y.1=0))/\OS 117 4 Sub.enc y.2.1 (((L.take y.1).filter λx=>x.there r&&decide (x.t.cJ=(⟨l,m,w⟩:bc))).map (·.t.sub)) y.2.2) (λy=>[(0,pT b),(2,.string w),(3,.int .u64 r),(5,pT C),(9,y.2.1),(10,iN y.1)]) (λy=>[bl C [.string l,.string m] 44,y.2.2]) (λy=>L.length-y.1) (0,sZ,[]) ⟨⟨Nat.zero_le _,λ_=>rfl⟩,OS.nil⟩ kE.c.c.c.c.c.c rH ?_
 rintro⟨i,I,n⟩ ⟨⟨Q,E⟩,g⟩
 simp only at Q E g⊢
 have io:=g.ap
 have a0:(((L.take i).filter λx=>x.there r&&decide (x.t.cJ=(⟨l,m,w⟩:bc))).map (·.t.sub)).length<=5000:=by
  rw[List.length_map]
  exact Nat.le_trans (List.length_filter_le _ _) (by rw[List.length_take];omega)
 refine .seq<|.sr<|.mo rfl<|.mo rfl<|.nc rfl<|.fa rfl<|.lo rfl<|.q (.bH F) ?_
 refine .q .lss<|.mo rfl ?_
 refine .split (t:=19) rfl (λe=>?_) (λe=>?_)
 have p:i<L.length:=by have:=bS e;omega
 obtain⟨x,H⟩:=bL p
 have B:L.take (i+1)=L.take i++[x]:=by rw[List.take_add_one,H];rfl
 have A:=V x
 refine .gT e<|.mo rfl<|.gT e<|.mo rfl<|.gT e ?_
 refine .aY ((h.mono λb o O=>.inl O).can r) (λv G=>?_)
 subst G
 refine .q (.aT e) ?_
 refine .zn ?_
 refine .cond rfl (λf=>?_) λf=>?_
 refine .kn<|.seq<|.block<|.sr<|.mo rfl<|.nc rfl<|.fa rfl<|.lo rfl<|.mo rfl ?_
 refine .bx i F H (λa3=>?_)
 refine .fa rfl<|.q (.loadT rfl) ?_
 refine .bX (λM=>?_)
 refine .bP rfl rfl<|.z<|.sub (H':=[bl M x.t.enc 119,bl C [.string l,.string m] 44,n]) rH ?_
 refine .mo rfl<|.nc rfl<|.fa rfl<|.lo rfl<|.mo rfl ?_
 refine .bx i F H (λa4=>?_)
 refine .q (.aM rfl)<|.mo rfl ?_
 refine .aY (PW x r _) (λv G=>?_)
 subst G
 refine .mo rfl ?_
 refine .split (t:=43) rfl (λd=>?_) (λd=>?_)
 refine .gT d<|.fa rfl<|.gT d<|.q (.loadT rfl) ?_
 refine .gT d<|.q (.aM rfl)<|.gT d<|.q (.mE rfl rfl (show eE [.s,.s] (List.take 2 (List.drop 0 x.t.enc))from⟨trivial,trivial,trivial⟩) (show eE [.s,.s] [.string l,.string m]from⟨trivial,trivial,trivial⟩)) ?_
 rw[show eA (List.take 2 (List.drop 0 x.t.enc)) [.string l,.string m]=decide (x.t.os=l/\x.t.oi=m)from by rw[Bool.eq_iff_iff];simp[aE.enc,eA,mB]]
 refine .q (.aT d) ?_
 refine .mo rfl ?_
 refine .split (t:=49) rfl (λa=>?_) (λa=>?_)
 refine .gT a<|.fa rfl<|.gT a<|.lo rfl<|.gT a<|.mo rfl<|.gT a<|.q .dP<|.q (.aT a) ?_
 refine .zn ?_
 refine .cond rfl (λJ=>?_) λJ=>?_
 refine .region<|.mo rfl<|.fa rfl<|.q (.loadT rfl) ?_
 refine .ej (λY=>?_)
 refine .append g (RS.lits (xs:=[x.t.sub]) rfl (by simp[Sub.enc]) (by simp[Sub.enc,ap])) (by simp only[List.length_singleton];omega) (λW K N=>?_)
 refine .ag rfl<|.nil<|aV<|av<|.region<|.mo rfl ?_
 refine .ia (i+1) .add ?_
 refine .ag rfl<|.nil ?_
 ·exact aW (i+1,W,K) ⟨⟨p,λj=>by rw[j]at f;cases f⟩,by simp only;rw[B,List.filter_append,List.map_append,List.filter_cons,if_pos (by rw[A,d,a,J];rfl)];exact N⟩ (by simp only;omega) kE.c.c.c.c.c.c (aQ [2,2])
 refine .skip<|aV<|av<|.region<|.mo rfl ?_
 refine .ia (i+1) .add ?_
 refine .ag rfl<|.nil ?_
 ·exact aW (i+1,I,n) ⟨⟨p,λj=>by rw[j]at f;cases f⟩,by simp only;rw[B,List.filter_append,List.map_append,List.filter_cons,if_neg (by rw[A];simp_all)];simpa using g⟩ (by simp only;omega) kE.c.c.c.c.c.c (aQ [1,1])
 refine .gF a<|.gF a<|.gF a<|.gF a<|.q (.aS a) ?_
 refine .zn<|.cP<|.skip<|aV<|av<|.region<|.mo rfl ?_
 refine .ia (i+1) .add ?_
 refine .ag rfl<|.nil ?_
 ·exact aW (i+1,I,n) ⟨⟨p,λj=>by rw[j]at f;cases f⟩,by simp only;rw[B,List.filter_append,List.map_append,List.filter_cons,if_neg (by rw[A];simp_all)];simpa using g⟩ (by simp only;omega) kE.c.c.c.c.c.c (aQ [1,1])
 refine .gF d<|.gF d<|.gF d<|.gF d<|.q (.aS d) ?_
 refine .mo rfl<|.gX<|.gX<|.gX<|.gX<|.q .db<|.zn<|.cP<|.skip<|aV<|av<|.region<|.mo rfl ?_
 refine .ia (i+1) .add ?_
 refine .ag rfl<|.nil ?_
 ·exact aW (i+1,I,n) ⟨⟨p,λj=>by rw[j]at f;cases f⟩,by simp only;rw[B,List.filter_append,List.map_append,List.filter_cons,if_neg (by rw[A];simp_all)];simpa using g⟩ (by simp only;omega) kE.c.c.c.c.c.c (aQ [1,1])
 refine .exit<|bm<|bs<|bo<|av<|.sr<|.mo rfl<|.az rfl ?_
 refine .ret (bp _ (.one (.tmp rfl)) ((aQ [1])) ?_)
 ·have D:=E f
  subst D
  exact⟨n,by simp[take,bJ],by rw[f];exact g⟩
 have U:i=L.length:=by have:=bA e;omega
 subst U
 rw[List.take_length]at g
 refine .gF e<|.gF e<|.gF e<|.q (.aS e) ?_
 refine .zn<|.cP<|.exit<|bm<|bs<|bo<|av<|.sr<|.mo rfl<|.az rfl ?_
 refine .ret (bp _ (.one (.tmp rfl)) ((aQ [1])) ?_)
 ·refine⟨n,by simp[take,bJ],?_⟩
  split
  ·exact g
  ·rename_i j
   have D:=E (by simpa using j)
   rw[List.eq_nil_of_length_eq_zero D]at g
   exact g
end
theorem wA(s i:ByteArray)(d:s.size<=9223372036854775807)(c:i.size<=9223372036854775807)(R:aB):Spec prog 139 [.agg [.string s,.string i].toArray] R [] λv H'=>v=.bool (dj s i)/\H'=[]:=by
 refine Spec.body Tryz.func139 rfl Tryz.results139 Tryz.ntmps139 rfl<|.sr ?_
 refine .bY rfl (λe=>?_)
 refine .ag rfl<|.z<|.fa rfl<|.lo rfl<|.aY (ki s d _) (λv b=>?_)
 subst b
 refine .mo rfl<|.split (t:=6) rfl (λa=>?_) (λa=>?_)
 refine .gT a<|.fa rfl<|.gT a<|.lo rfl<|.gT a<|.aY (wz i c _) (λv b=>?_)
 subst b
 refine .q (.aT a)<|.az rfl<|.ret (aP rfl ?_)
 ·exact⟨by unfold dj;simp_all,rfl⟩
 refine .gF a<|.gF a<|.gF a<|.q (.aS a)<|.az rfl<|.ret (aP rfl ?_)
 ·exact⟨by unfold dj;simp_all,rfl⟩
theorem Pt(s:Sub)(g:s.us.size<=9223372036854775807)(h:s.ss.size<=9223372036854775807)(i:s.si.size<=9223372036854775807)(j:s.sr.size<=9223372036854775807)(R:aB):Spec prog 221 [.agg s.enc.toArray] R [] λv H'=>v=.bool (ik s)/\H'=[]:=by
 obtain⟨us,ss,si,sr⟩:=s
 simp only at g h i j
 refine Spec.body Tryz.func221 rfl Tryz.results221 Tryz.ntmps221 rfl<|.sr ?_
 refine .bY rfl (λl=>?_)
 refine .ag rfl<|.zs<|.sr<|.fa rfl<|.lo rfl<|.q .dP<|.zn<|.cond rfl (λk=>?_) λk=>?_
 refine .sr<|.fa rfl<|.q (.loadT rfl)<|.aY (wA ss si h i _) (λv f=>?_)
 subst f
 refine .mo rfl<|.split (t:=9) rfl (λd=>?_) (λd=>?_)
 refine .gT d<|.fa rfl<|.gT d<|.lo rfl<|.gT d<|.aY (ki sr j _) (λv f=>?_)
 subst f
 refine .q (.aT d)<|.az rfl<|.ret (aH (aP rfl ?_))
 ·refine⟨congrArg _ ?_,rfl⟩
  unfold ik
  by_cases a:us=⟨#[]⟩
  ·simp only[a,if_true]
   simp_all
  ·simp only[a,if_false]
   simp_all
 refine .gF d<|.gF d<|.gF d<|.q (.aS d)<|.az rfl<|.ret (aH (aP rfl ?_))
 ·refine⟨congrArg _ ?_,rfl⟩
  unfold ik
  by_cases a:us=⟨#[]⟩
  ·simp only[a,if_true]
   simp_all
  ·simp only[a,if_false]
   simp_all
 refine .kn<|.sr<|.fa rfl<|.lo rfl<|.aY (wz us g _) (λv f=>?_)
 subst f
 refine .mo rfl<|.split (t:=17) rfl (λb=>?_) (λb=>?_)
 refine .gT b<|.fa rfl<|.gT b<|.fa rfl<|.gT b<|.lo rfl<|.gT b<|.q .dP<|.q (.aT b)<|.mo rfl<|.split (t:=23) rfl (λc=>?_) (λc=>?_)
 refine .gT c<|.fa rfl<|.gT c<|.fa rfl<|.gT c<|.lo rfl<|.gT c<|.q .dP<|.q (.aT c)<|.mo rfl<|.split (t:=29) rfl (λe=>?_) (λe=>?_)
 refine .gT e<|.fa rfl<|.gT e<|.lo rfl<|.gT e<|.q .dP<|.q (.aT e)<|.az rfl<|.ret (aP rfl ?_)
 ·refine⟨congrArg _ ?_,rfl⟩
  unfold ik
  by_cases a:us=⟨#[]⟩
  ·simp only[a,if_true]
   simp_all
  ·simp only[a,if_false]
   simp_all
 refine .gF e<|.gF e<|.gF e<|.q (.aS e)<|.az rfl<|.ret (aP rfl ?_)
 ·refine⟨congrArg _ ?_,rfl⟩
  unfold ik
  by_cases a:us=⟨#[]⟩
  ·simp only[a,if_true]
   simp_all
  ·simp only[a,if_false]
   simp_all
 refine .gF c<|.gF c<|.gF c<|.gF c<|.q (.aS c)<|.mo rfl<|.gX<|.gX<|.gX<|.q .db<|.az rfl<|.ret (aP rfl ?_)
 ·refine⟨congrArg _ ?_,rfl⟩
  unfold ik
  by_cases a:us=⟨#[]⟩
  ·simp only[a,if_true]
   simp_all
  ·simp only[a,if_false]
   simp_all
 refine .gF b<|.gF b<|.gF b<|.gF b<|.q (.aS b)<|.mo rfl<|.gX<|.gX<|.gX<|.gX<|.q .db<|.mo rfl<|.gX<|.gX<|.gX<|.q .db<|.az rfl<|.ret (aP rfl ?_)
 ·refine⟨congrArg _ ?_,rfl⟩
  unfold ik
  by_cases a:us=⟨#[]⟩
  ·simp only[a,if_true]
   simp_all
  ·simp only[a,if_false]
   simp_all
theorem wB(t:aE)(k:t.fits)(R:aB):Spec prog 168 [.agg t.enc.toArray] R [] λv H'=>v=.bool (eB t)/\H'=[]:=by
 obtain⟨d,e,f,g,h,i,j⟩:=k
 refine Spec.body Tryz.func168 rfl Tryz.results168 Tryz.ntmps168 rfl<|.sr ?_
 refine .bY rfl (λl=>?_)
 refine .ag rfl<|.z<|.fa rfl<|.q (.loadT rfl)<|.aY (wA t.os t.oi d e _) (λv c=>?_)
 subst c
 refine .mo rfl<|.split (t:=6) rfl (λa=>?_) (λa=>?_)
 refine .gT a<|.fa rfl<|.gT a<|.lo rfl<|.gT a<|.aY (ki t.rel f _) (λv c=>?_)
 subst c
 refine .q (.aT a)<|.mo rfl<|.split (t:=11) rfl (λb=>?_) (λb=>?_)
 refine .gT b<|.fa rfl<|.gT b<|.q (.loadT rfl)<|.gT b<|.aY (Pt t.sub g h i j _) (λv c=>?_)
 subst c
 refine .q (.aT b)<|.az rfl<|.ret (aP rfl ?_)
 ·exact⟨by unfold eB;simp_all,rfl⟩
 refine .gF b<|.gF b<|.gF b<|.q (.aS b)<|.az rfl<|.ret (aP rfl ?_)
 ·exact⟨by unfold eB;simp_all,rfl⟩
 refine .gF a<|.gF a<|.gF a<|.q (.aS a)<|.mo rfl<|.gX<|.gX<|.gX<|.q .db<|.az rfl<|.ret (aP rfl ?_)
 ·exact⟨by unfold eB;simp_all,rfl⟩
theorem SV.Ra{R:aB}{g:Nat}{S:cW}{ps:List RB}{vf vr:Value}{B:List (bc×(Value×ay))}{C:List (Sub×(Value×ay))}(h:SV R g S ps vf vr B C)(s:S.rows.length<=4096)(k:bc)(r:Int){L:List bC}(J:RL S L):
  Spec prog 188 [pT g,.agg [.string k.os,.string k.oi].toArray,.string k.rel,.int .u64 r] R [] λu H'=>∃T,H'=[T]/\OS 117 4 Sub.enc u (if scan S r then(L.filter λx=>x.there r&&decide (x.t.cJ=k)).map (·.t.sub)else []) T:=by
 have pc:=h.pc
 have a5:=h.of
 have a6:=h.or
 have U:ps.length<=4096:=by rw[<-h.eq,List.length_map]at s;exact s
 obtain⟨pf,G,O,V⟩:=h.lf k
 have H:RS R 1 uj (.slice pf (ids (λx=>x.t.cJ) k ps).length G) (kV (λx=>x.t.cJ) k ps):=RS.of_map (enc:=jV) (f:=λp:RB=>p.1) V
 have I:(kV (λx=>x.t.cJ) k ps).length<=4096:=Nat.le_trans (List.length_filter_le _ _) U
 refine Spec.gu (H':=[[]]) (by simp)<|Spec.body Tryz.func188 rfl Tryz.results188 Tryz.ntmps188 rfl<|.sr ?_
 refine .bY rfl (λb5=>?_)
 refine .ag rfl<|.zs<|.sr<|.mo rfl<|.mo rfl<|.aY ((h.mono λb o e=>.inl e).can r) (λv Z=>?_)
 subst Z
 refine .q .not<|.zn<|.cond rfl (λj=>?_) λj=>?_
 have n:scan S r=false:=by simpa using j
 refine .sr<|.az rfl<|.ret (aH (bp _ (.one (.tmp rfl)) ((aQ [1])) ?_))
 ·exact⟨_,by simp[take];rfl,by rw[n];exact OS.nil⟩
 have n:scan S r=true:=by simpa using j
 refine .kn<|.sr<|.ag rfl<|.zs<|.seq<|.cL [] mixed<|.tO 0 rfl .move<|.tO 1 rfl (.nilCheck rfl)<|.tO 2 rfl (.fieldAddr rfl)<|.tO 3 rfl (.bZ rfl)<|.tO 4 rfl (.aM rfl)<|.tO 5 rfl .move<|.tO 6 rfl .cR<|.tO 7 rfl (.ou (h.mono λb o e=>.inl e).mf rfl rfl (key:=k) O)<|.tO 8 rfl .move<|.tO 11 rfl .move<|.sT 9 rfl<|.cO (xN _ (kV (λx=>x.t.cJ) k ps) r _ H.rx (λp Q=>(h.pr p (List.mem_filter.1 Q).1).mono λb o e=>.inl e) (by omega)) (λu D Y=>?_)
 obtain⟨a,m,A,a1⟩:=Y
 have iu:=m.ap
 have a4:a.length<=4096:=by
  rw[A.length_eq,List.length_map]
  exact Nat.le_trans (List.length_filter_le _ _) I
 have a0:a=(L.filter λx=>x.there r&&decide (x.t.cJ=k)).map (·.t):=J.at_ (by
  refine A.trans (.of_eq ?_)
  rw[<-h.eq,List.filter_map,List.map_map]
  unfold kV
  rw[List.filter_filter];rfl) a1
 refine .nil<|Next.sub<|.tO 10 rfl (.dK m)<|RA.nil (by kernel_rfl)<|av<|.block<|.loop (X:=Nat×Value×ay) (λy=>y.1<=a.length/\OS 117 4 Sub.enc y.2.1 ((a.take y.1).map aE.sub) y.2.2) (λy=>[(9,y.2.1),(25,u),(26,iN a.length),(27,iN y.1)]) (λy=>[D,y.2.2]) (λy=>a.length-y.1) (0,sZ,[]) ⟨Nat.zero_le _,OS.nil⟩ kE.c.c.c.c (aQ [0,1]) ?_
 rintro⟨i,vo,F⟩ ⟨M,d⟩
 simp only at M d⊢
 have io:=d.ap
 refine .sr<|.q .lss<|.zs<|.cond rfl (λl=>?_) λl=>?_
 have w:i<a.length:=cb l
 obtain⟨x,z⟩:=bL w
 have W:a.take (i+1)=a.take i++[x]:=by rw[List.take_add_one,z];rfl
 refine .kn<|.seq<|.block<|.sr ?_
 refine .aL i m z (λa7=>?_)
 refine .q (.aM rfl) ?_
 refine .bX (λa2=>?_)
 refine .bP rfl rfl<|.zn<|.region<|.mo rfl<|.fa rfl<|.q (.loadT rfl) ?_
 refine .ej (λa3=>?_)
 refine .append d (RS.lits (xs:=[x.sub]) rfl (by simp[Sub.enc]) (by simp[Sub.enc,ap])) (by simp only[List.length_singleton,List.length_map,List.length_take];omega) (λv5 E K=>?_)
 refine .ag rfl<|.nil<|aV<|av<|.region<|.ia (i+1) .add<|.mo rfl<|.nil ?_
 ·exact aW (i+1,v5,E) ⟨w,by simp only;rw[W,List.map_append];exact K⟩ (by simp only;omega) kE.c.c.c.c (aQ [2,2])
 refine .exit<|bm<|bs<|bo<|av<|.sr<|.mo rfl<|.az rfl<|.ret (bp _ (.one (.tmp rfl)) ((aQ [1])) ?_)
 ·have N:i=a.length:=by have:=bA l;omega
  subst N
  rw[List.take_length,a0,List.map_map]at d
  exact⟨F,by simp[take,bJ],by rw[n];exact d⟩
def iz(s:cy):Bool:=decide (16<s.bR.length)||s.bR.any λr=>iK isWord r.r
theorem qL(c:bN):c.plain.lH isWord=(decide (16<c.bg.length)||decide (16<c.scopes.length)||c.bg.any iz):=by
 unfold Cf.lH bN.plain
 simp only[List.length_map,List.any_map]
 congr 1
 congr 1
 funext s
 simp[iz,cy.plain,List.any_map,Function.comp_def]
def mO(r:cv):Bool:=r.r.types.all (ir isWord)
def jB(r:cv):Bool:=isWord r.r.name&&fC isWord r.r.nodes !=0&&mO r
def gZ(s:cy):Bool:=isWord s.name&&s.bR.all jB
theorem A2(c:bN):c.plain.right isWord dj=(c.bg.all gZ&&c.scopes.all (kJ isWord dj)&& !c.plain.lH isWord):=by
 unfold Cf.right
 congr 1
 congr 1
 unfold bN.plain
 simp only[List.all_map]
 congr 1
 funext s
 simp only[gZ,ml,cy.plain,List.all_map,Function.comp_def]
 rfl
theorem PJ(c:bN)(R:aB)(h:c.is R):Spec prog 140 [.agg c.enc.toArray] R [] λu H'=>u=.bool (c.plain.lH isWord)/\H'=[]:=by
 rw[qL]
 obtain⟨Q,O,j,N⟩:=c
 have g:=h.ss
 have C:=h.sc
 have Z:=g.ap
 have i2:=C.ap
 simp only at g C Z i2⊢
 have a1:=g.le
 refine Spec.body Tryz.func140 rfl Tryz.results140 Tryz.ntmps140 rfl<|.sr ?_
 refine .bY rfl (λF=>?_)
 refine .ag rfl<|.zs<|.seq ?_
 refine bz.cS [(1,_)] kE.c (X:=Unit) (λ_=>True) (λ_ E=>(15,.bool (decide (16<j.length)||decide (16<N.length)))::E) (λ_=>[bl F [Q,O] 25]) ?_ ?_
 refine .region<|.fa rfl<|.lo rfl<|.q (.bH g)<|.q .gtr<|.mo rfl<|.split (t:=10) rfl (λe=>?_) (λe=>?_)
 refine .gF e<|.gF e<|.gF e<|.gF e<|.q (.aT e)<|.nil ?_
 ·exact aF () trivial (kE.c.bU rfl (by grind)) rH
 refine .gT e<|.fa rfl<|.gT e<|.lo rfl<|.gT e<|.q (.bH C)<|.gT e<|.q .gtr<|.q (.aS e)<|.nil ?_
 ·exact aF () trivial (kE.c.bU rfl (by grind)) rH
 intro y Y
 refine av<|.cond rfl (λw=>?_) λw=>?_
 refine .sr<|.az rfl<|.ret (aH (aP rfl ?_))
 ·exact⟨by rw[w];rfl,rfl⟩
 refine .kn<|.seq<|.sr<|.az rfl<|.block<|.cz [(1,_)] (X:=Nat) (λi=>i<=j.length/\(j.take i).any iz=false) (λi E=>(3,iN i)::E) (λ_ G=>G) (λi=>j.length-i) 0 ⟨Nat.zero_le _,rfl⟩ kE.c.c rH ?_
 rintro i ⟨hi,J⟩
 refine .seq<|.sr<|.mo rfl<|.fa rfl<|.lo rfl<|.q (.bH g)<|.q .lss<|.zn<|.cond rfl (λx=>?_) λx=>?_
 have I:i<j.length:=cb x
 obtain⟨s,m⟩:=bL I
 have M:=h.all s (aO m)
 have o:=M.rs
 have a5:=o.ap
 have a2:=o.le
 refine .kn<|.seq<|.block<|.seq<|.sr<|.fa rfl<|.lo rfl<|.mo rfl ?_
 refine .bx i g m (λa7=>?_)
 refine .fa rfl<|.lo rfl<|.q (.bH o)<|.q .gtr<|.zn<|.cond rfl (λz=>?_) λz=>?_
 refine .sr<|.az rfl<|.ret (aH (bh (aH (cB (bh (aH (aP rfl ?_)))))))
 ·refine⟨?_,rfl⟩
  rw[nV m (f:=iz) (by unfold iz;have:=bS z;rw[decide_eq_true (by omega)];rfl),Bool.or_true]
 refine .kn<|.sr<|.az rfl<|.block<|.cz [(1,_),(3,_)] (X:=Nat) (λk=>k<=s.bR.length/\((s.bR.take k).any λr=>iK isWord r.r)=false) (λk E=>(4,iN k)::E) (λ_ G=>G) (λk=>s.bR.length-k) 0 ⟨Nat.zero_le _,rfl⟩ kE.c.c.c rH ?_
 rintro k ⟨hk,K⟩
 refine .seq<|.sr<|.mo rfl<|.fa rfl<|.lo rfl<|.mo rfl ?_
 refine .bx i g m (λa8=>?_)
 refine .fa rfl<|.lo rfl<|.q (.bH o)<|.q .lss<|.zn<|.cond rfl (λA=>?_) λA=>?_
 have H:k<s.bR.length:=cb A
 obtain⟨⟨S,D,r⟩,p⟩:=bL H
 have v:=M.all _ (aO p)
 have L:RS R 2 Ty.enc S r.types:=v.t
 have B:RS R 5 Nd.enc D r.nodes:=v.d
 have a6:=L.ap
 have a4:=B.ap
 have a3:ca (cv.enc ⟨S,D,r⟩):=⟨v.cT⟩
 refine .kn<|.seq<|.block<|.sr<|.fa rfl<|.lo rfl<|.mo rfl ?_
 refine .bx i g m (λa9=>?_)
 refine .fa rfl<|.lo rfl<|.mo rfl ?_
 refine .bx k o p (λb0=>?_)
 refine .q (.aM rfl) ?_
 refine .bX (λb5=>?_)
 refine .bP rfl rfl<|.zs ?_
 refine bz.cS [(1,_),(3,_),(4,_)] kE.c.c.c (X:=Unit) (λ_=>True) (λ_ E=>(66,.bool (iK isWord r))::E) (λ_=>[bl F [Q,O] 25]) ?_ ?_
 refine .region<|.fa rfl<|.lo rfl<|.q (.bH L)<|.q .gtr<|.mo rfl<|.split (t:=55) rfl (λb=>?_) (λb=>?_)
 refine .gF b<|.gF b<|.gF b<|.gF b<|.q (.aT b)<|.mo rfl<|.gX<|.gX<|.gX<|.gX<|.q .cU<|.nil ?_
 ·exact aF () trivial (kE.c.c.c.bU rfl (by grind[iK])) (aQ [1])
 refine .gT b<|.fa rfl<|.gT b<|.lo rfl<|.gT b<|.q (.bH B)<|.gT b<|.q .gtr<|.q (.aS b)<|.mo rfl<|.split (t:=61) rfl (λa=>?_) (λa=>?_)
 refine .gF a<|.gF a<|.gF a<|.gF a<|.q (.aT a)<|.nil ?_
 ·exact aF () trivial (kE.c.c.c.bU rfl (by grind[iK])) (aQ [1])
 refine .gT a<|.fa rfl<|.gT a<|.lo rfl<|.gT a<|.aY ((AZ D r.nodes R B v.fd).weaken cZ) (λu W=>?_)
 subst W
 refine .gT a<|.q .gtr<|.q (.aS a)<|.nil ?_
 ·exact aF () trivial (kE.c.c.c.bU rfl (by grind[iK])) (aQ [1])
 intro y Y
 refine av<|.cond rfl (λn=>?_) λn=>?_
 refine .sr<|.az rfl<|.ret (bh (aH (cB (bh (bh (aH (cB (bh (aH (aP rfl ?_))))))))))
 ·refine⟨?_,rfl⟩
  rw[nV m (f:=iz) (by unfold iz;rw[nV p n,Bool.or_true]),Bool.or_true]
 refine .skip<|aV<|av<|.region<|.mo rfl<|.ia (k+1) .add<|.ag rfl<|.nil ?_
 ·exact aW (k+1) ⟨H,qm p K n⟩ (by omega) kE.c.c.c rH
 have V:iz s=false:=by
  have n:(s.bR.any λr=>iK isWord r.r)=false:=by rw[<-dw (l:=s.bR) (i:=k) (by have:=bA A;omega)];exact K
  have a0:=bA z
  unfold iz
  rw[n,Bool.or_false]
  exact decide_eq_false (by omega)
 refine .exit<|bm<|bs<|bo<|aV<|av<|.region<|.mo rfl<|.ia (i+1) .add<|.ag rfl<|.nil ?_
 ·exact aW (i+1) ⟨I,qm m J V⟩ (by omega) kE.c.c rH
 have U:j.any iz=false:=by rw[<-dw (l:=j) (i:=i) (by have:=bA x;omega)];exact J
 refine .exit<|bm<|bs<|bo<|av<|.sr<|.az rfl<|.ret (aP rfl ?_)
 ·refine⟨?_,rfl⟩
  have T:(decide (16<j.length)||decide (16<N.length))=false:=w
  rw[T,U]
  rfl
theorem PT(c:bN)(R:aB)(h:c.is R):Spec prog 76 [.agg c.enc.toArray] R [] λu H'=>u=.bool (c.plain.right isWord dj)/\H'=[]:=by
 rw[A2]
 obtain⟨V,U,A,z⟩:=c
 have K:=h.ss
 have J:=h.sc
 have i1:=K.ap
 have i2:=J.ap
 simp only at K J i1 i2⊢
 have b7:=K.le
 have b5:=J.le
 refine Spec.body Tryz.func76 rfl Tryz.results76 Tryz.ntmps76 rfl<|.sr ?_
 refine .bY rfl (λW=>?_)
 refine .ag rfl<|.zs<|.sr<|.az rfl<|.block<|.cz [(1,_)] (X:=Nat) (λi=>i<=A.length/\(A.take i).all gZ=true) (λi E=>(3,iN i)::E) (λ_ G=>G) (λi=>A.length-i) 0 ⟨Nat.zero_le _,rfl⟩ kE.c.c rH ?_
 rintro i ⟨hi,hq⟩
 refine .seq<|.sr<|.mo rfl<|.fa rfl<|.lo rfl<|.q (.bH K)<|.q .lss<|.zn<|.cond rfl (λY=>?_) λY=>?_
 have a2:i<A.length:=cb Y
 obtain⟨⟨C,L,w⟩,v⟩:=bL a2
 have Q:=h.all _ (aO v)
 have N:RS R 3 cv.enc L w:=Q.rs
 have c3:=N.ap
 have b9:=N.le
 have c5:ca (cy.enc ⟨C,L,w⟩):=⟨Q.cT⟩
 refine .kn<|.seq<|.block<|.sr<|.fa rfl<|.lo rfl<|.mo rfl ?_
 refine .bx i K v (λc6=>?_)
 refine .q (.aM rfl) ?_
 refine .bX (λb4=>?_)
 refine .bP rfl rfl<|.zs<|.sr<|.fa rfl<|.lo rfl<|.aY (ki C Q.n _) (λu a=>?_)
 subst a
 refine .q .not<|.zn<|.cond rfl (λZ=>?_) λZ=>?_
 refine .sr<|.az rfl<|.ret (aH (bh (aH (cB (bh (aH (aP rfl ?_)))))))
 ·refine⟨?_,rfl⟩
  rw[lA v (f:=gZ) (by unfold gZ;simp only;rw[show isWord C=false by simpa using Z];rfl)]
  rfl
 refine .kn<|.sr<|.az rfl<|.block<|.cz [(1,_),(3,_),(4,_)] (X:=Nat) (λk=>k<=w.length/\(w.take k).all jB=true) (λk E=>(5,iN k)::E) (λ_ G=>G) (λk=>w.length-k) 0 ⟨Nat.zero_le _,rfl⟩ kE.c.c.c.c rH ?_
 rintro k ⟨hk,a5⟩
 refine .seq<|.sr<|.mo rfl<|.fa rfl<|.lo rfl<|.q (.bH N)<|.q .lss<|.zn<|.cond rfl (λh3=>?_) λh3=>?_
 have a1:k<w.length:=cb h3
 obtain⟨⟨M,D,r⟩,I⟩:=bL a1
 have B:=Q.all _ (aO I)
 have O:RS R 2 Ty.enc M r.types:=B.t
 have a7:RS R 5 Nd.enc D r.nodes:=B.d
 have c4:=O.ap
 have c2:=a7.ap
 have c0:=O.le
 have c1:ca (cv.enc ⟨M,D,r⟩):=⟨B.cT⟩
 refine .kn<|.seq<|.block<|.sr<|.fa rfl<|.lo rfl<|.mo rfl ?_
 refine .bx k N I (λc7=>?_)
 refine .q (.aM rfl) ?_
 refine .bX (λb6=>?_)
 refine .bP rfl rfl<|.zs<|.seq ?_
 refine bz.cS [(1,_),(3,_),(4,_),(5,_),(6,_)] kE.c.c.c.c.c (X:=Unit) (λ_=>True) (λ_ E=>(48,.bool (!(isWord r.name&&fC isWord r.nodes !=0)))::E) (λ_=>[bl b6 (cv.enc ⟨M,D,r⟩) 167,bl b4 (cy.enc ⟨C,L,w⟩) 164,bl W [V,U] 25]) ?_ ?_
 refine .region<|.fa rfl<|.lo rfl<|.aY (ki r.name B.n _) (λu a=>?_)
 subst a
 refine .q .not<|.mo rfl<|.split (t:=43) rfl (λg=>?_) (λg=>?_)
 refine .gF g<|.gF g<|.gF g<|.gF g<|.q (.aT g)<|.nil ?_
 ·exact aF () trivial (kE.c.c.c.c.c.bU rfl (by grind)) rH
 refine .gT g<|.fa rfl<|.gT g<|.lo rfl<|.gT g<|.aY ((AZ D r.nodes R a7 B.fd).weaken cZ) (λu a=>?_)
 subst a
 refine .gT g<|.q .bQ<|.q (.aS g)<|.nil ?_
 ·exact aF () trivial (kE.c.c.c.c.c.bU rfl (by grind)) rH
 intro y hy
 refine av<|.cond rfl (λh4=>?_) λh4=>?_
 refine .sr<|.az rfl<|.ret (aH (bh (aH (cB (bh (bh (aH (cB (bh (aH (aP rfl ?_)))))))))))
 ·refine⟨?_,rfl⟩
  rw[lA v (f:=gZ) (by unfold gZ;simp only;rw[lA I (f:=jB) (by unfold jB;rw[show(isWord r.name&&fC isWord r.nodes !=0)=false by grind];rfl),Bool.and_false])]
  rfl
 refine .kn<|.sr<|.az rfl<|.block<|.cz [(1,_),(3,_),(4,_),(5,_),(6,_)] (X:=Nat) (λm=>m<=r.types.length/\(r.types.take m).all (ir isWord)=true) (λm E=>(7,iN m)::E) (λ_ G=>G) (λm=>r.types.length-m) 0 ⟨Nat.zero_le _,rfl⟩ kE.c.c.c.c.c.c rH ?_
 rintro m ⟨hm,a6⟩
 refine .seq<|.sr<|.mo rfl<|.fa rfl<|.lo rfl<|.q (.bH O)<|.q .lss<|.zn<|.cond rfl (λF=>?_) λF=>?_
 have a3:m<r.types.length:=cb F
 obtain⟨t,S⟩:=bL a3
 have T:=B.ft t (aO S)
 refine .kn<|.seq<|.block<|.sr<|.fa rfl<|.lo rfl<|.mo rfl ?_
 refine .bx m O S (λc8=>?_)
 refine .q (.aM rfl) ?_
 refine .bX (λb8=>?_)
 refine .bP rfl rfl<|.zs ?_
 refine bz.cS [(1,_),(3,_),(4,_),(5,_),(6,_),(7,_)] kE.c.c.c.c.c.c (X:=Unit) (λ_=>True) (λ_ E=>(79,.bool (!ir isWord t))::E) (λ_=>[bl b6 (cv.enc ⟨M,D,r⟩) 167,bl b4 (cy.enc ⟨C,L,w⟩) 164,bl W [V,U] 25]) ?_ ?_
 refine .region<|.fa rfl<|.lo rfl<|.q .dP<|.mo rfl<|.split (t:=64) rfl (λx=>?_) (λx=>?_)
 refine .gT x<|.fa rfl<|.gT x<|.lo rfl<|.gT x<|.q .dP<|.q (.aT x)<|.mo rfl<|.split (t:=69) rfl (λe=>?_) (λe=>?_)
 refine .gF e<|.gF e<|.gF e<|.gF e<|.dm rfl<|.dm rfl<|.dm rfl<|.gF e<|.q (.aT e)<|.q .not<|.nil ?_
 ·exact aF () trivial (kE.c.c.c.c.c.c.bU rfl (by grind[ir])) (aQ [1,1,1])
 refine .gT e<|.fa rfl<|.gT e<|.lo rfl<|.gT e<|.aY (ki t.space T.1 _) (λu a=>?_)
 subst a
 refine .gT e<|.mo rfl<|.split (t:=73) rfl (λb=>?_) (λb=>?_)
 refine .gT b<|.fa rfl<|.gT b<|.lo rfl<|.gT b<|.aY (ki t.rel T.2 _) (λu a=>?_)
 subst a
 refine .gT e<|.q (.aT b)<|.q (.aS e)<|.q .not<|.nil ?_
 ·exact aF () trivial (kE.c.c.c.c.c.c.bU rfl (by grind[ir])) (aQ [1,1,1])
 refine .gF b<|.gF b<|.gF b<|.gT e<|.q (.aS b)<|.q (.aS e)<|.q .not<|.nil ?_
 ·exact aF () trivial (kE.c.c.c.c.c.c.bU rfl (by grind[ir])) (aQ [1,1,1])
 refine .gF x<|.gF x<|.gF x<|.q (.aS x)<|.mo rfl<|.gt rfl<|.fa rfl<|.gt rfl<|.lo rfl<|.gt rfl<|.aY (ki t.space T.1 _) (λu a=>?_)
 subst a
 refine .gt rfl<|.mo rfl<|.split (t:=73) rfl (λb=>?_) (λb=>?_)
 refine .gT b<|.fa rfl<|.gT b<|.lo rfl<|.gT b<|.aY (ki t.rel T.2 _) (λu a=>?_)
 subst a
 refine .gt rfl<|.q (.aT b)<|.q .db<|.q .not<|.nil ?_
 ·exact aF () trivial (kE.c.c.c.c.c.c.bU rfl (by grind[ir])) (aQ [1,1,1])
 refine .gF b<|.gF b<|.gF b<|.gt rfl<|.q (.aS b)<|.q .db<|.q .not<|.nil ?_
 ·exact aF () trivial (kE.c.c.c.c.c.c.bU rfl (by grind[ir])) (aQ [1,1,1])
 intro y hy
 refine av<|.cond rfl (λH=>?_) λH=>?_
 refine .sr<|.az rfl<|.ret (bh (aH (cB (bh (bh (aH (cB (bh (bh (aH (cB (bh (aH (aP rfl ?_))))))))))))))
 ·refine⟨?_,rfl⟩
  rw[lA v (f:=gZ) (by unfold gZ;simp only;rw[lA I (f:=jB) (by unfold jB mO;rw[lA S (by simpa using H),Bool.and_false]),Bool.and_false])]
  rfl
 refine .skip<|aV<|av<|.region<|.mo rfl<|.ia (m+1) .add<|.ag rfl<|.nil ?_
 ·exact aW (m+1) ⟨a3,nh S a6 (by simpa using H)⟩ (by omega) kE.c.c.c.c.c.c rH
 have b0:jB ⟨M,D,r⟩=true:=by
  have H:r.types.all (ir isWord)=true:=by rw[<-dw (l:=r.types) (i:=m) (by have:=bA F;omega)];exact a6
  have a8:(!(isWord r.name&&fC isWord r.nodes !=0))=false:=h4
  unfold jB mO
  simp only[H,Bool.and_true]
  simpa using a8
 refine .exit<|bm<|bs<|bo<|aV<|av<|.region<|.mo rfl<|.ia (k+1) .add<|.ag rfl<|.nil ?_
 ·exact aW (k+1) ⟨a1,nh I a5 b0⟩ (by omega) kE.c.c.c.c (aQ [1,1])
 have hm:gZ ⟨C,L,w⟩=true:=by
  have F:w.all jB=true:=by rw[<-dw (l:=w) (i:=k) (by have:=bA h3;omega)];exact a5
  unfold gZ
  simp only[F,Bool.and_true]
  simpa using Z
 refine .exit<|bm<|bs<|bo<|aV<|av<|.region<|.mo rfl<|.ia (i+1) .add<|.ag rfl<|.nil ?_
 ·exact aW (i+1) ⟨a2,nh v hq hm⟩ (by omega) kE.c.c (aQ [1])
 have a9:A.all gZ=true:=by rw[<-dw (l:=A) (i:=i) (by have:=bA Y;omega)];exact hq
 refine .exit<|bm<|bs<|bo<|av<|.seq<|.sr<|.az rfl<|.block<|.cz [(1,_)] (X:=Nat) (λj=>j<=z.length/\(z.take j).all (kJ isWord dj)=true) (λj E=>(9,iN j)::E) (λ_ G=>G) (λj=>z.length-j) 0 ⟨Nat.zero_le _,rfl⟩ kE.c.c rH ?_
 rintro j ⟨hj,a4⟩
 refine .seq<|.sr<|.mo rfl<|.fa rfl<|.lo rfl<|.q (.bH J)<|.q .lss<|.zn<|.cond rfl (λh7=>?_) λh7=>?_
 have a0:j<z.length:=cb h7
 obtain⟨s,v⟩:=bL a0
 have b2:=h.fc s (aO v)
 obtain⟨f1,f2,f3,f4⟩:=b2
 refine .kn<|.seq<|.block<|.sr<|.fa rfl<|.lo rfl<|.mo rfl ?_
 refine .bx j J v (λc9=>?_)
 refine .q (.aM rfl) ?_
 refine .bX (λb3=>?_)
 refine .bP rfl rfl<|.zs ?_
 refine bz.cS [(1,_),(9,_)] kE.c.c (X:=Unit) (λ_=>True) (λ_ E=>(107,.bool (!kJ isWord dj s))::E) (λ_=>[bl W [V,U] 25]) ?_ ?_
 refine .region<|.fa rfl<|.lo rfl<|.aY (ki s.name f1 _) (λu a=>?_)
 subst a
 refine .q .not<|.mo rfl<|.split (t:=96) rfl (λp=>?_) (λp=>?_)
 refine .gF p<|.gF p<|.gF p<|.gF p<|.q (.aT p)<|.mo rfl<|.gX<|.gX<|.gX<|.gX<|.q .cU<|.nil ?_
 ·exact aF () trivial (kE.c.c.bU rfl (by grind[kJ])) (aQ [1])
 refine .gT p<|.fa rfl<|.gT p<|.q (.loadT rfl)<|.gT p<|.aY (wA s.kg s.sS f2 f3 _) (λu a=>?_)
 subst a
 refine .gT p<|.q .not<|.q (.aS p)<|.mo rfl<|.split (t:=102) rfl (λo=>?_) (λo=>?_)
 refine .gF o<|.gF o<|.gF o<|.gF o<|.q (.aT o)<|.nil ?_
 ·exact aF () trivial (kE.c.c.bU rfl (by grind[kJ])) (aQ [1])
 refine .gT o<|.fa rfl<|.gT o<|.lo rfl<|.gT o<|.aY (ki s.rel f4 _) (λu a=>?_)
 subst a
 refine .gT o<|.q .not<|.q (.aS o)<|.nil ?_
 ·exact aF () trivial (kE.c.c.bU rfl (by grind[kJ])) (aQ [1])
 intro y hy
 refine av<|.cond rfl (λh8=>?_) λh8=>?_
 refine .sr<|.az rfl<|.ret (bh (aH (cB (bh (aH (aP rfl ?_))))))
 ·refine⟨?_,rfl⟩
  rw[lA v (by simpa using h8),Bool.and_false]
  rfl
 refine .skip<|aV<|av<|.region<|.mo rfl<|.ia (j+1) .add<|.ag rfl<|.nil ?_
 ·exact aW (j+1) ⟨a0,nh v a4 (by simpa using h8)⟩ (by omega) kE.c.c rH
 refine .exit<|bm<|bs<|bo<|av<|.sr<|.q (.aM rfl)<|.aY ((PJ ⟨V,U,A,z⟩ R h).weaken cZ) (λu a=>?_)
 subst a
 refine .q .not<|.az rfl<|.ret (aP rfl ?_)
 ·refine⟨?_,rfl⟩
  have h9:z.all (kJ isWord dj)=true:=by rw[<-dw (l:=z) (i:=j) (by have:=bA h7;omega)];exact a4
  rw[a9,h9]
  rfl
abbrev Nm:=ByteArray×cv
def nr(x:Nm):List Value:=.string x.1::x.2.enc
def Nm.p(x:Nm):ByteArray×Rl:=(x.1,x.2.r)
def bN.fO(c:bN):List Nm:=c.bg.flatMap λs=>s.bR.map λr=>(s.name,r)
theorem oA(c:bN):c.fO.map Nm.p=c.plain.all:=by
 unfold bN.fO Cf.all bN.plain
 simp[List.map_flatMap,List.flatMap_map,cy.plain,Nm.p,Function.comp_def]
def bN.iI(c:bN):Prop:=c.bg.length<=16/\∀s∈c.bg,s.bR.length<=16
theorem uK{α β:Type}{f:α->List β}{n:Nat}:∀{l:List α},(∀x∈l,(f x).length<=n)->(l.flatMap f).length<=l.length*n
 |[],_=>by simp
 |x::l,h=>by
  have b:=h x List.mem_cons_self
  have c:=uK λy a=>h y (List.mem_cons_of_mem _ a)
  rw[List.flatMap_cons,List.length_append,List.length_cons,Nat.succ_mul]
  omega
theorem bN.iI.fO{c:bN}(h:c.iI):c.fO.length<=256:=by
 have:=uK (f:=λs:cy=>s.bR.map λr=>(s.name,r)) (n:=16) (l:=c.bg) λs a=>by rw[List.length_map];exact h.2 s a
 have b:=h.1
 unfold bN.fO
 omega
structure qh(R:aB)(v:Value)(L:List Nm):Prop where
 rs:RS R 4 nr v L
 all:∀x∈L,x.2.is R
theorem Oj{R:aB}{x:Nm}(h:x.2.is R):∀u∈nr x,ap u=true:=by
 intro u hu
 rcases List.mem_cons.1 hu with rfl|hu
 ·rfl
 ·exact h.cT u hu
theorem vG{c:bN}{R:aB}(h:c.is R):∀x∈c.fO,x.2.is R:=by
 intro x a
 obtain⟨s,d,a⟩:=List.mem_flatMap.1 a
 obtain⟨r,b,rfl⟩:=List.mem_map.1 a
 exact(h.all s d).all r b
theorem s8(c:bN)(R:aB)(h:c.is R)(v:c.iI):Spec prog 79 [.agg c.enc.toArray] R [] λu H'=>∃T,H'=[T]/\OS 263 4 nr u c.fO T:=by
 have hN:=v.fO
 obtain⟨vs,vc,b,a7⟩:=c
 have e:=h.ss
 have U:=e.ap
 have V:=h.sc.ap
 simp only at e U V⊢
 have a1:=e.le
 have S:∀i s k,b[i]? =some s->((b.take i).flatMap (λs=>s.bR.map λr=>((s.name,r):Nm))++(s.bR.take k).map λr=>((s.name,r):Nm)).length<=512:=λi s k a=>by
  rw[List.length_append,List.length_map]
  have o:=uK (f:=λs:cy=>s.bR.map λr=>((s.name,r):Nm)) (n:=16) (l:=b.take i) λs a=>by rw[List.length_map];exact v.2 s (List.mem_of_mem_take a)
  have p:(b.take i).length<=16:=by rw[List.length_take];have:=v.1;simp only at this;omega
  have h3:=v.2 s (aO a)
  have h4:(s.bR.take k).length<=16:=by rw[List.length_take];omega
  omega
 refine Spec.body Tryz.func79 rfl Tryz.results79 Tryz.ntmps79 rfl<|.sr ?_
 refine .bY rfl (λb1=>?_)
 refine .ag rfl<|.z<|.ag rfl<|.zs<|.sr<|.az rfl<|.block<|.cz [(1,_)] (X:=Nat×Value×ay) (λy=>y.1<=b.length/\OS 263 4 nr y.2.1 ((b.take y.1).flatMap λs=>s.bR.map λr=>((s.name,r):Nm)) y.2.2) (λy E=>(4,iN y.1)::(3,y.2.1)::E) (λy G=>y.2.2::G) (λy=>b.length-y.1) (0,sZ,[]) ⟨Nat.zero_le _,OS.nil⟩ kE.c.c.c bf.eL ?_
 rintro⟨i,Z,B⟩ ⟨N,g⟩
 simp only at N g⊢
 have io:=g.ap
 refine .seq<|.sr<|.mo rfl<|.fa rfl<|.lo rfl<|.q (.bH e)<|.q .lss<|.zn<|.cond rfl (λo=>?_) λo=>?_
 have F:i<b.length:=cb o
 obtain⟨s,a⟩:=bL F
 have H:=h.all _ (aO a)
 have m:=H.rs
 have a4:=m.ap
 have a2:=m.le
 refine .kn<|.seq<|.block<|.sr<|.az rfl<|.block<|.cz [(1,_),(4,_)] (X:=Nat×Value×ay) (λy=>y.1<=s.bR.length/\OS 263 4 nr y.2.1 (((b.take i).flatMap λs=>s.bR.map λr=>((s.name,r):Nm))++(s.bR.take y.1).map λr=>((s.name,r):Nm)) y.2.2) (λy E=>(5,iN y.1)::(3,y.2.1)::E) (λy G=>y.2.2::G) (λy=>s.bR.length-y.1) (0,Z,B) ⟨Nat.zero_le _,by simpa using g⟩ kE.c.c.c.c rH ?_
 rintro⟨k,W,L⟩ ⟨O,j⟩
 simp only at O j⊢
 have i3:=j.ap
 refine .seq<|.sr<|.mo rfl<|.fa rfl<|.lo rfl<|.mo rfl ?_
 refine .bx i e a (λa6=>?_)
 refine .fa rfl<|.lo rfl<|.q (.bH m)<|.q .lss<|.zn<|.cond rfl (λp=>?_) λp=>?_
 have D:k<s.bR.length:=cb p
 obtain⟨⟨K,J,r⟩,w⟩:=bL D
 have A:=H.all _ (aO w)
 have a5:One K:=RS.ap A.t
 have a3:One J:=RS.ap A.d
 have p1:=e.pc a
 have p2:=m.pc w
 refine .kn<|.seq<|.block<|.cL [18] mixed<|.tO 0 rfl .move<|.tO 1 rfl (.fieldAddr rfl)<|.tO 2 rfl (.bZ rfl)<|.tO 3 rfl .move<|.tO 4 rfl (.bx i e a rfl rfl rfl)<|.tO 5 rfl (.fieldAddr rfl)<|.tO 6 rfl (.bZ rfl)<|.tO 7 rfl (.fieldAddr rfl)<|.tO 8 rfl (.bZ rfl)<|.tO 9 rfl .move<|.tO 10 rfl (.bx i e a rfl rfl rfl)<|.tO 11 rfl (.fieldAddr rfl)<|.tO 12 rfl (.bZ rfl)<|.tO 13 rfl .move<|.tO 14 rfl (.bx k m w rfl rfl rfl)<|.tO 15 rfl (.aM rfl)<|.tO 16 rfl .cR<|.sT 17 rfl ?_
 refine .ej (λa0=>?_)
 refine .nil<|Next.sub<|.sT 18 rfl<|.append j (RS.lits (xs:=[((s.name,⟨K,J,r⟩):Nm)]) rfl (by simp[nr,cv.enc]) (by intro x I;rw[List.mem_singleton]at I;subst I;exact Oj A)) (by have:=S i s k a;simp only[List.length_singleton];omega) (λY M C=>?_)
 have i5:=C.ap
 refine .nil<|Next.mod rfl<|.tK 19 rfl .assign<|RA.nil (by kernel_rfl)<|aV<|av<|.region<|.mo rfl<|.ia (k+1) .add<|.ag rfl<|.nil ?_
 ·exact aW (k+1,Y,M) ⟨D,by simp only;rw[dG w,List.map_append, <-List.append_assoc];exact C⟩ (by simp only;omega) kE.c.c.c.c (aQ [1,1])
 have Q:s.bR.length<=k:=by have:=bA p;omega
 rw[dw Q]at j
 refine .exit<|bm<|bs<|bo<|aV<|av<|.region<|.mo rfl<|.ia (i+1) .add<|.ag rfl<|.nil ?_
 ·exact aW (i+1,W,L) ⟨F,by simp only;rw[dG a,List.flatMap_append];simpa using j⟩ (by simp only;omega) kE.c.c.c rH
 refine .exit<|bm<|bs<|bo<|av<|.sr<|.mo rfl<|.az rfl<|.ret (bp _ (.one (.tmp rfl)) (.one [0] _) ?_)
 ·refine⟨B,by simp[take],?_⟩
  rw[dw (gd o)]at g
  exact g
def fI(o:Option Nat):Int:=match o with|none=> -1|some i=>i
theorem oG(v:Value)(L:List Nm)(R:aB)(h:qh R v L)(f b:ByteArray):
  Spec prog 141 [v,.string f,.string b] R [] λu H'=>u=.int .i64 (fI (bW (L.map Nm.p) ⟨f,b⟩))/\H'=[]:=by
 have k:=h.rs
 have M:=k.le
 have Q:=k.ap
 refine Spec.body Tryz.func141 rfl Tryz.results141 Tryz.ntmps141 rfl<|.sr<|.ag rfl<|.zs<|.sr<|.az rfl<|.block<|.cz [(0,_),(1,_),(2,_)] (X:=Nat) (λi=>i<=L.length/\∀j x,j<i->L[j]? =some x->dY x.p≠⟨f,b⟩) (λi E=>(7,iN i)::E) (λ_ G=>G) (λi=>L.length-i) 0 ⟨Nat.zero_le _,λj x g=>absurd g (by omega)⟩ kE.c.c.c.c rH ?_
 rintro i ⟨K,z⟩
 refine .seq<|.sr<|.mo rfl<|.mo rfl<|.q (.bH k)<|.q .lss<|.zn<|.cond rfl (λo=>?_) λo=>?_
 have w:i<L.length:=cb o
 obtain⟨⟨n,J,I,r⟩,l⟩:=bL w
 have B:=h.all _ (aO l)
 have O:One J:=RS.ap B.t
 have N:One I:=RS.ap B.d
 refine .kn<|.seq<|.block<|.seq ?_
 refine bz.cS [(0,_),(1,_),(2,_),(7,_)] kE.c.c.c.c (X:=Unit) (λ_=>True) (λ_ E=>(30,.bool (decide (n=f)&&decide (r.name=b)))::E) (λ_=>[]) ?_ ?_
 refine .region<|.mo rfl<|.mo rfl ?_
 refine .bx i k l (λS=>?_)
 refine .fa rfl<|.lo rfl<|.mo rfl<|.q .dP<|.mo rfl<|.split (t:=21) rfl (λa=>?_) (λa=>?_)
 refine .gT a<|.mo rfl<|.gT a<|.mo rfl<|.gT a ?_
 refine .bx i k l (λT=>?_)
 refine .gT a<|.fa rfl<|.gT a<|.fa rfl<|.gT a<|.lo rfl<|.gT a<|.mo rfl<|.gT a<|.q .dP<|.q (.aT a)<|.nil ?_
 ·exact aF () trivial (kE.c.c.c.c.bU rfl (by grind)) rH
 refine .gF a<|.gF a<|.gF a<|.gF a<|.gF a<|.gF a<|.gF a<|.gF a<|.q (.aS a)<|.nil ?_
 ·exact aF () trivial (kE.c.c.c.c.bU rfl (by grind)) rH
 intro y C
 refine av<|.cond rfl (λs=>?_) λs=>?_
 refine .sr<|.mo rfl<|.az rfl<|.ret (bh (aH (cB (bh (aH (aP rfl ?_))))))
 ·refine⟨?_,rfl⟩
  have A:n=f/\r.name=b:=by simpa using s
  have:bW (L.map Nm.p) ⟨f,b⟩=some i:=by
   unfold bW
   rw[List.findIdx?_eq_some_iff_getElem]
   refine⟨by rw[List.length_map];exact w,?_,λj g=>?_⟩
   ·have e:=(List.getElem?_eq_some_iff.1 l).2
    rw[List.getElem_map,e]
    exact decide_eq_true (by show(⟨n,r.name⟩:Ty)=_;rw[A.1,A.2])
   ·rw[List.getElem_map]
    have:=z j _ g (aX (by omega))
    simpa using this
  rw[this]
  rfl
 refine .skip<|aV<|av<|.region<|.mo rfl<|.ia (i+1) .add<|.ag rfl<|.nil ?_
 ·exact aW (i+1) ⟨w,λj x g m=>by
   rcases Nat.lt_or_ge j i with hh|hh
   ·exact z j x hh m
   ·obtain rfl:j=i:=by omega
    rw[l]at m
    cases m
    intro D
    injection D with k1 k2
    have F:n=f:=k1
    have H:r.name=b:=k2
    subst F;subst H
    simp at s⟩ (by omega) kE.c.c.c.c rH
 refine .exit<|bm<|bs<|bo<|av<|.sr<|.az rfl<|.ret (aP rfl ?_)
 ·refine⟨?_,rfl⟩
  have:bW (L.map Nm.p) ⟨f,b⟩=none:=by
   unfold bW
   rw[List.findIdx?_eq_none_iff]
   intro x m
   obtain⟨y,C,rfl⟩:=List.mem_map.1 m
   obtain⟨j,g,e⟩:=List.mem_iff_getElem.1 C
   have:=z j y (by have:=bA o;omega) (by rw[aX g,e])
   simpa using this
  rw[this]
  rfl
theorem vJ{α:Type}{l:List α}{i:Nat}{x:α}(j:l[i]? =some x)(h:(l.take i).Nodup)(g:∀k y,k<i->l[k]? =some y->y≠x):(l.take (i+1)).Nodup:=by
 rw[dG j,List.nodup_append]
 refine⟨h,by simp,λa d b c=>?_⟩
 rw[List.mem_singleton]at c
 subst c
 obtain⟨k,f,e⟩:=List.mem_iff_getElem.1 d
 rw[List.length_take]at f
 exact g k a (by omega) (by rw[List.getElem_take]at e;rw[aX (by omega),e])
theorem mM{α:Type}{l:List α}{i k:Nat}{x y:α}(f:k<i)(g:l[i]? =some x)(j:l[k]? =some y)(e:x=y):¬l.Nodup:=by
 intro h
 obtain⟨a,b⟩:=List.getElem?_eq_some_iff.1 g
 obtain⟨c,d⟩:=List.getElem?_eq_some_iff.1 j
 have:=(List.nodup_iff_pairwise_ne.1 h)
 rw[List.pairwise_iff_getElem]at this
 exact this k i c a f (by rw[d,b,e])
theorem A0{L:List (ByteArray×Rl)}{i:Nat}{x:ByteArray×Rl}(a:L[i]? =some x):∃j,bW L (dY x)=some j/\j<=i/\∃y,L[j]? =some y/\dY y=dY x:=by
 cases h:bW L (dY x)with
 |none=>
  unfold bW at h
  rw[List.findIdx?_eq_none_iff]at h
  have:=h x (aO a)
  simp at this
 |some j=>
  unfold bW at h
  rw[List.findIdx?_eq_some_iff_getElem]at h
  obtain⟨b,c,d⟩:=h
  refine⟨j,rfl,?_,_,aX b,bS c⟩
  rcases Nat.lt_or_ge i j with h4|h4
  ·have:=d i h4
   rw[(List.getElem?_eq_some_iff.1 a).2]at this
   simp at this
  ·exact h4
theorem PY(c:bN)(R:aB)(h:c.is R)(hf:c.iI):Spec prog 77 [.agg c.enc.toArray] R [] λu H'=>u=.bool (!decide c.plain.dU)/\H'=[]:=by
 have a8:=oA c
 have a4:=vG h
 have a9:=s8 c R h hf
 have U:c.plain.dU↔(c.bg.map (·.name)).Nodup/\((c.fO.map Nm.p).map dY).Nodup/\(c.scopes.map (·.name)).Nodup:=by
  unfold Cf.dU
  rw[<-a8]
  simp only[bN.plain,List.map_map]
  exact Iff.rfl
 generalize hL:c.fO=L at *
 obtain⟨vs,vc,l,g⟩:=c
 have H:=h.ss
 have F:=h.sc
 have i1:=H.ap
 have a:=F.ap
 simp only at H F i1 a U⊢
 have c3:=H.le
 have c2:=F.le
 refine Spec.body Tryz.func77 rfl Tryz.results77 Tryz.ntmps77 rfl<|.sr ?_
 refine .bY rfl (λb1=>?_)
 refine .ag rfl<|.zs<|.sr<|.az rfl<|.block<|.cz [(1,_)] (X:=Nat) (λi=>i<=l.length/\((l.map (·.name)).take i).Nodup) (λi E=>(3,iN i)::E) (λ_ G=>G) (λi=>l.length-i) 0 ⟨Nat.zero_le _,by simp⟩ kE.c.c rH ?_
 rintro i ⟨hi,w⟩
 refine .seq<|.sr<|.mo rfl<|.fa rfl<|.lo rfl<|.q (.bH H)<|.q .lss<|.zn<|.cond rfl (λW=>?_) λW=>?_
 have M:i<l.length:=cb W
 obtain⟨s,N⟩:=bL M
 have O:(l.map (·.name))[i]? =some s.name:=by rw[List.getElem?_map,N];rfl
 refine .kn<|.seq<|.block<|.sr<|.az rfl<|.block<|.cz [(1,_),(3,_)] (X:=Nat) (λk=>k<=i/\∀j y,j<k->(l.map (·.name))[j]? =some y->y≠s.name) (λk E=>(4,iN k)::E) (λ_ G=>G) (λk=>i-k) 0 ⟨Nat.zero_le _,λj y J=>absurd J (by omega)⟩ kE.c.c.c rH ?_
 rintro k ⟨hk,A⟩
 refine .seq<|.sr<|.mo rfl<|.mo rfl<|.q .lss<|.zn<|.cond rfl (λY=>?_) λY=>?_
 have K:k<i:=cb Y
 obtain⟨t,S⟩:∃t,l[k]? =some t:=⟨_,aX (by omega)⟩
 have T:(l.map (·.name))[k]? =some t.name:=by rw[List.getElem?_map,S];rfl
 refine .kn<|.seq<|.block<|.seq<|.gn mixed (by kernel_rfl)<|.fa rfl<|.lo rfl<|.mo rfl ?_
 refine .bx i H N (λc8=>?_)
 refine .fa rfl<|.lo rfl<|.fa rfl<|.lo rfl<|.mo rfl ?_
 refine .bx k H S (λc9=>?_)
 refine .fa rfl<|.lo rfl<|.q .dP<|.zn<|.cond rfl (λV=>?_) λV=>?_
 refine .sr<|.az rfl<|.ret (bh (aH (cB (bh (bh (aH (cB (bh (aH (aP rfl ?_))))))))))
 ·refine⟨?_,rfl⟩
  rw[decide_eq_false λhh=>mM K O T (by simpa using V) (U.1 hh).1]
  rfl
 refine .skip<|aV<|av<|.region<|.mo rfl<|.ia (k+1) .add<|.ag rfl<|.nil ?_
 ·exact aW (k+1) ⟨K,λj y J f=>by
   rcases Nat.lt_or_ge j k with hh|hh
   ·exact A j y hh f
   ·obtain rfl:j=k:=by omega
    rw[T]at f
    cases f
    intro e
    rw[e]at V
    simp at V⟩ (by omega) kE.c.c.c rH
 have a0:k=i:=by have:=bA Y;omega
 rw[a0]at A
 refine .exit<|bm<|bs<|bo<|aV<|av<|.region<|.mo rfl<|.ia (i+1) .add<|.ag rfl<|.nil ?_
 ·exact aW (i+1) ⟨M,vJ O w A⟩ (by omega) kE.c.c rH
 have b0:(l.map (·.name)).Nodup:=by rw[dw (by rw[List.length_map];have:=bA W;omega)]at w;exact w
 refine .exit<|bm<|bs<|bo<|av<|.sr<|.q (.aM rfl)<|.cO (a9.weaken cZ) (λu T5 B=>?_)
 have i5:=B.ap
 have c4:=B.le
 refine .ag rfl<|.zs<|.sr<|.az rfl<|.block<|.cz [(1,_),(5,_)] (X:=Nat) (λi=>i<=L.length/\(((L.map Nm.p).map dY).take i).Nodup) (λi E=>(6,iN i)::E) (λ_ G=>G) (λi=>L.length-i) 0 ⟨Nat.zero_le _,by simp⟩ kE.c.c.c rH ?_
 rintro a ⟨c0,a1⟩
 refine .seq<|.sr<|.mo rfl<|.mo rfl<|.q (.dK B)<|.q .lss<|.zn<|.cond rfl (λZ=>?_) λZ=>?_
 have a3:a<L.length:=cb Z
 obtain⟨⟨C,vt,vn,r⟩,Q⟩:=bL a3
 have a7:=a4 _ (aO Q)
 have c7:One vt:=RS.ap a7.t
 have c6:One vn:=RS.ap a7.d
 have a5:(L.map Nm.p)[a]? =some (C,r):=by rw[List.getElem?_map,Q];rfl
 have a6:((L.map Nm.p).map dY)[a]? =some ⟨C,r.name⟩:=by rw[List.getElem?_map,a5];rfl
 obtain⟨n,b5,c1,yf,b7,b9⟩:=A0 a5
 have a2:bW (L.map Nm.p) ⟨C,r.name⟩=some n:=b5
 have pq:PS T5 (ei u (a*4)) (nr (C,⟨vt,vn,r⟩)):=⟨B.pc Q⟩
 refine .kn<|.seq<|.block<|.seq<|.cL [12] mixed<|.tO 0 rfl .move<|.tO 1 rfl .move<|.tO 2 rfl .move ?_
 refine RA.aL 3 rfl a B Q rfl rfl rfl (by kernel_rfl) (λd0=>?_)
 refine .tO 4 rfl (.fieldAddr rfl)<|.tO 5 rfl (.bZ rfl)<|.tO 6 rfl .move<|.tO 7 rfl .move ?_
 refine RA.aL 8 rfl a B Q rfl rfl rfl (by kernel_rfl) (λd1=>?_)
 refine .tO 9 rfl (.fieldAddr rfl)<|.tO 10 rfl (.fieldAddr rfl)<|.tO 11 rfl (.bZ rfl)<|.tK 13 rfl .move<|.sT 12 rfl<|.aY (oG u L _ ⟨B.rx,λx hx=>(a4 x hx).mono λb o hb=>.inl hb⟩ C r.name) (λv hv=>?_)
 subst hv
 rw[a2]
 refine .nil<|Next.mod rfl<|.tK 14 rfl .et<|RA.nil (by kernel_rfl)<|av<|.cond rfl (λh5=>?_) λh5=>?_
 refine .sr<|.az rfl<|.ret (bh (aH (cB (bh (aH (aP rfl ?_))))))
 ·refine⟨?_,rfl⟩
  have c5:n≠a:=by
   intro e
   subst e
   simp[fI]at h5
  have b8:((L.map Nm.p).map dY)[n]? =some ⟨C,r.name⟩:=by rw[List.getElem?_map,b7];exact congrArg some b9
  rw[decide_eq_false λhh=>mM (show n<a by omega) a6 b8 rfl (U.1 hh).2.1]
  rfl
 have b4:n=a:=by
  have m:(fI (some n)==(a:Int))=true:=by simpa using h5
  have D:fI (some n)=(a:Int):=by simpa using m
  have I:(n:Int)=(a:Int):=D
  omega
 refine .skip<|aV<|av<|.region<|.mo rfl<|.ia (a+1) .add<|.ag rfl<|.nil ?_
 ·exact aW (a+1) ⟨a3,vJ a6 a1 λk y hk f=>by
   intro e
   subst e
   rw[List.getElem?_map]at f
   cases hz:(L.map Nm.p)[k]? with
   |none=>rw[hz]at f;cases f
   |some z=>
    rw[hz]at f
    have b6:dY z=⟨C,r.name⟩:=by simpa using f
    obtain⟨j2,m,D,_⟩:=A0 hz
    rw[b6,a2,b4]at m
    cases m
    omega⟩ (by omega) kE.c.c.c rH
 have b2:((L.map Nm.p).map dY).Nodup:=by rw[dw (by simp only[List.length_map];have:=bA Z;omega)]at a1;exact a1
 refine .exit<|bm<|bs<|bo<|av<|.seq<|.sr<|.az rfl<|.block<|.cz [(1,_)] (X:=Nat) (λi=>i<=g.length/\((g.map (·.name)).take i).Nodup) (λi E=>(7,iN i)::E) (λ_ G=>G) (λi=>g.length-i) 0 ⟨Nat.zero_le _,by simp⟩ kE.c.c rH ?_
 rintro i ⟨hi,w⟩
 refine .seq<|.sr<|.mo rfl<|.fa rfl<|.lo rfl<|.q (.bH F)<|.q .lss<|.zn<|.cond rfl (λm=>?_) λm=>?_
 have M:i<g.length:=cb m
 obtain⟨s,N⟩:=bL M
 have O:(g.map (·.name))[i]? =some s.name:=by rw[List.getElem?_map,N];rfl
 refine .kn<|.seq<|.block<|.sr<|.az rfl<|.block<|.cz [(1,_),(7,_)] (X:=Nat) (λk=>k<=i/\∀j y,j<k->(g.map (·.name))[j]? =some y->y≠s.name) (λk E=>(8,iN k)::E) (λ_ G=>G) (λk=>i-k) 0 ⟨Nat.zero_le _,λj y J=>absurd J (by omega)⟩ kE.c.c.c rH ?_
 rintro k ⟨hk,A⟩
 refine .seq<|.sr<|.mo rfl<|.mo rfl<|.q .lss<|.zn<|.cond rfl (λD=>?_) λD=>?_
 have K:k<i:=cb D
 obtain⟨t,S⟩:∃t,g[k]? =some t:=⟨_,aX (by omega)⟩
 have T:(g.map (·.name))[k]? =some t.name:=by rw[List.getElem?_map,S];rfl
 refine .kn<|.seq<|.block<|.seq<|.gn mixed (by kernel_rfl)<|.fa rfl<|.lo rfl<|.mo rfl ?_
 refine .bx i F N (λd2=>?_)
 refine .fa rfl<|.lo rfl<|.fa rfl<|.lo rfl<|.mo rfl ?_
 refine .bx k F S (λd3=>?_)
 refine .fa rfl<|.lo rfl<|.q .dP<|.zn<|.cond rfl (λI=>?_) λI=>?_
 refine .sr<|.az rfl<|.ret (bh (aH (cB (bh (bh (aH (cB (bh (aH (aP rfl ?_))))))))))
 ·refine⟨?_,rfl⟩
  rw[decide_eq_false λhh=>mM K O T (by simpa using I) (U.1 hh).2.2]
  rfl
 refine .skip<|aV<|av<|.region<|.mo rfl<|.ia (k+1) .add<|.ag rfl<|.nil ?_
 ·exact aW (k+1) ⟨K,λj y J f=>by
   rcases Nat.lt_or_ge j k with hh|hh
   ·exact A j y hh f
   ·obtain rfl:j=k:=by omega
    rw[T]at f
    cases f
    intro e
    rw[e]at I
    simp at I⟩ (by omega) kE.c.c.c rH
 have a0:k=i:=by have:=bA D;omega
 rw[a0]at A
 refine .exit<|bm<|bs<|bo<|aV<|av<|.region<|.mo rfl<|.ia (i+1) .add<|.ag rfl<|.nil ?_
 ·exact aW (i+1) ⟨M,vJ O w A⟩ (by omega) kE.c.c rH
 have b3:(g.map (·.name)).Nodup:=by rw[dw (by rw[List.length_map];have:=bA m;omega)]at w;exact w
 refine .exit<|bm<|bs<|bo<|av<|.sr<|.az rfl<|.ret (aP rfl ?_)
 ·refine⟨?_,rfl⟩
  rw[decide_eq_true (U.2 ⟨b0,b2,b3⟩)]
  rfl
def cM(n:Nat):List Value:=[iN n]
abbrev lP:=Int×Int×Bool
def jJ(e:lP):List Value:=[.int .i64 e.1,.int .i64 e.2.1,.bool e.2.2]
instance(e:lP):ca (jJ e):=⟨by simp[jJ,ap]⟩
def Ed.m(e:Ed):lP:=(e.f,e.t,e.a)
theorem NM{E:List Ed}{now:List Nat}{n j:Nat}{e:Ed}(a:E[j]? =some e):(E.take (j+1)).foldl (fi now) (List.replicate n 0)=fi now ((E.take j).foldl (fi now) (List.replicate n 0)) e:=by rw[dG a,List.foldl_append];rfl
theorem A4(v:Value)(E:List Ed)(n o:Nat)(R:aB)(h:RS R 3 jJ v (E.map Ed.m))(L:∀e∈E,e.f<n/\e.t<n)(hn:n<=1000000)(hs:o<=1000000):
  Spec prog 80 [v,iN n,iN o] R [] λu H'=>∃T,H'=[T]/\OS 3 1 cM u (level E n o) T:=by
 have a5:=h.le
 have iv:=h.ap
 have Y:∀e∈E,e.f<n:=λe A=>(L e A).1
 rw[List.length_map]at a5
 refine Spec.body Tryz.func80 rfl Tryz.results80 Tryz.ntmps80 rfl ?_
 refine .sr<|.ag rfl<|.z<|.mo rfl ?_
 refine .makeSlice (enc:=cM) n 0 rfl rfl (by decide) (by simp[cM,ap]) rfl rfl (by omega) (by omega) (λb7 p Z=>?_)
 refine .ag rfl<|.zs<|.sr<|.az rfl<|.block ?_
 refine .cz [(0,_),(1,_),(2,_)] (X:=Nat×Value×ay) (λy=>y.1<=o/\OS 3 1 cM y.2.1 (level E n y.1) y.2.2) (λy E=>(8,iN y.1)::(7,y.2.1)::E) (λy G=>y.2.2::G) (λy=>o-y.1) (0,_,p) ⟨Nat.zero_le _,Z⟩ kE.c.c.c.c.c rH ?_
 rintro⟨s,v7,p⟩ ⟨b0,B⟩
 simp only at b0 B⊢
 have i7:=B.ap
 have a6:∀i,(level E n s).getD i 0<=s:=vg Y s
 have b3:(level E n s).length=n:=kX s
 generalize O:level E n s=now at *
 refine .seq<|.sr<|.mo rfl<|.mo rfl<|.q .lss<|.zn ?_
 refine .cond rfl (λF=>?_) λF=>?_
 have b1:s<o:=cb F
 refine .kn<|.seq<|.block<|.sr<|.mo rfl ?_
 refine .makeSlice (enc:=cM) n 0 rfl rfl (by decide) (by simp[cM,ap]) rfl rfl (by omega) (by omega) (λD r g=>?_)
 refine .ag rfl<|.zs<|.sr<|.az rfl<|.block ?_
 refine .cz [(0,_),(1,_),(2,_),(7,_),(8,_),(9,_)] (X:=Nat×ay) (λy=>y.1<=E.length/\OS 3 1 cM (.slice (some ⟨D,0,none⟩) n n) ((E.take y.1).foldl (fi now) (List.replicate n 0)) y.2) (λy E=>(10,iN y.1)::E) (λy G=>y.2::G) (λy=>E.length-y.1) (0,r) ⟨Nat.zero_le _,g⟩ kE.c.c.c.c.c.c.c rH ?_
 rintro⟨j,r⟩ ⟨hj,g⟩
 simp only at hj g⊢
 refine .seq<|.sr<|.mo rfl<|.mo rfl<|.q (.bH h) ?_
 rw[List.length_map]
 refine .q .lss<|.zn ?_
 refine .cond rfl (λH=>?_) λH=>?_
 have N:j<E.length:=cb H
 obtain⟨e,A⟩:=bL N
 have a1:(E.map Ed.m)[j]? =some e.m:=by rw[List.getElem?_map,A];rfl
 obtain⟨a2,a3⟩:=L e (aO A)
 obtain⟨b,l,k⟩:=e
 simp only at a2 a3
 have b4:((E.take j).foldl (fi now) (List.replicate n 0)).length=n:=by rw[uX,List.length_replicate]
 generalize a8:(E.take j).foldl (fi now) (List.replicate n 0)=nx at *
 have a7:(E.take (j+1)).foldl (fi now) (List.replicate n 0)=fi now nx ⟨b,l,k⟩:=by rw[NM A,a8]
 obtain⟨a,M⟩:∃a,now[l]? =some a:=⟨_,aX (by omega)⟩
 obtain⟨z,C⟩:∃z,nx[b]? =some z:=⟨_,aX (by omega)⟩
 have K:now.getD l 0=a:=by rw[List.getD_eq_getElem?_getD,M];rfl
 have S:nx.getD b 0=z:=by rw[List.getD_eq_getElem?_getD,C];rfl
 have a0:=a6 l
 rw[K]at a0
 refine .kn<|.seq<|.block<|.sr<|.mo rfl<|.mo rfl ?_
 refine .bx j h a1 (λb5=>?_)
 refine .q (.aM rfl) ?_
 refine .bX (λV=>?_)
 refine .bP rfl rfl<|.z<|.mo rfl<|.fa rfl<|.lo rfl ?_
 refine .aL l B M (λb6=>?_)
 refine .lo rfl<|.ag rfl<|.zs<|.sr<|.fa rfl<|.lo rfl<|.zn ?_
 refine bz.cS [(0,_),(1,_),(2,_),(7,_),(8,_),(9,_),(10,_),(11,_)] kE.c.c.c.c.c.c.c.c (X:=Unit) (λ_=>True) (λ_ E=>(12,.int .i64 ((a+(if k then 1 else 0):Nat):Int))::E) (λ_=>[bl V (jJ (Ed.m ⟨b,l,k⟩)) 266,r,p]) ?_ ?_
 refine .cond rfl (λI=>?_) λI=>?_
 refine .region<|.mo rfl ?_
 refine .ia (a+1) .add ?_
 refine .ag rfl<|.nil ?_
 ·exact aF () trivial (kE.c.c.c.c.c.c.c.c.kT rfl (by have h:k=_:=I;simp[h])) rH
 refine .skip ?_
 ·exact aF () trivial (kE.c.c.c.c.c.c.c.c.kT rfl (by have h:k=_:=I;simp[h])) rH
 intro x Q
 refine av<|.sr<|.mo rfl<|.mo rfl<|.fa rfl<|.lo rfl ?_
 refine .aL b g C (λb8=>?_)
 refine .lo rfl<|.q .gtr<|.zn ?_
 refine bz.cS [(0,_),(1,_),(2,_),(7,_),(8,_),(9,_),(10,_)] kE.c.c.c.c.c.c.c (X:=ay) (λT=>OS 3 1 cM (.slice (some ⟨D,0,none⟩) n n) (fi now nx ⟨b,l,k⟩) T) (λ_ E=>E) (λT=>[T,p]) ?_ ?_
 refine .cond rfl (λJ=>?_) λJ=>?_
 refine .region<|.mo rfl<|.fa rfl<|.lo rfl<|.mo rfl ?_
 refine .aL b g C (λc0=>?_)
 refine .dv b g C (a+(if k then 1 else 0)) (λU W=>?_)
 refine .nil ?_
 ·exact aF U (by unfold fi Ed.w;simp only;rw[K,S,if_pos (by have:=bS J;omega)];exact W) kE.c.c.c.c.c.c.c (aQ [1,1])
 refine .skip ?_
 ·exact aF r (by unfold fi Ed.w;simp only;rw[K,S,if_neg (by have:=bA J;omega)];exact g) kE.c.c.c.c.c.c.c (aQ [1,1])
 intro x Q
 have b2:OS 3 1 cM (.slice (some ⟨D,0,none⟩) n n) (fi now nx ⟨b,l,k⟩) x:=Q
 refine aV<|av<|.region<|.mo rfl ?_
 refine .ia (j+1) .add ?_
 refine .ag rfl<|.nil ?_
 ·exact aW (j+1,x) ⟨N,by simp only;rw[a7];exact b2⟩ (by simp only;omega) kE.c.c.c.c.c.c.c rH
 have a4:E.length<=j:=by have:=bA H;omega
 rw[dw a4]at g
 refine .exit<|bm<|bs<|bo<|av<|.region<|.mo rfl<|.ag rfl<|.nil<|aV<|av<|.region<|.mo rfl ?_
 refine .ia (s+1) .add ?_
 refine .ag rfl<|.nil ?_
 ·exact aW (s+1,_,r) ⟨b1,by simp only;unfold level;rw[O];exact g⟩ (by simp only;omega) (((((kE.d rfl).d rfl).d rfl).d rfl).d rfl) (aQ [0])
 have a9:s=o:=by have:=bA F;omega
 refine .exit<|bm<|bs<|bo<|av<|.sr<|.mo rfl<|.az rfl ?_
 refine .ret (bp _ (.one (.tmp rfl)) (.one [0] _) ?_)
 ·refine⟨p,by simp[take],?_⟩
  rw[<-a9,O]
  exact B
def WE(ok:Bool)(E:List lP)(o:Option (List Ed)):Prop:=match o with
 |some E'=>ok=true/\E=E'.map Ed.m
 |none=>ok=false
def ju(dz:ByteArray)(t:Ty):Ty:=⟨t.space,if dz=⟨#[]⟩then t.rel else dz⟩
theorem rY(l:List (ByteArray×Rl)):∀ks:List Ty,match findAll l ks with
  |some o=>(ks.all λt=>(bW l t).isSome)=true/\(o.map λk:Nat=>(k:Int))=ks.map λt=>fI (bW l t)
  |none=>(ks.all λt=>(bW l t).isSome)=false
 |[]=>⟨rfl,rfl⟩
 |t::ks=>by
  have a:=rY l ks
  unfold findAll
  cases h:bW l t with
  |none=>simp[h]
  |some i=>
   simp only[Option.bind_some,List.all_cons,h,Option.isSome_some,Bool.true_and,List.map_cons]
   cases h2:findAll l ks with
   |none=>rw[h2]at a;exact a
   |some o=>rw[h2]at a;exact⟨a.1,by rw[<-a.2];rfl⟩
def TG(l:List (ByteArray×Rl))(sp:ByteArray)(r:Rl)(n:Nd)(tys:List Ty)(dz:ByteArray):Prop:=
 (n.kind=1/\tys=r.types/\dz=⟨#[]⟩)\/(n.kind=3/\dz=n.dz/\∃k,bW l ⟨sp,n.rel⟩=some k/\tys=(l.map (·.2.types)).getD k [])
def outs(l:List (ByteArray×Rl))(i:Nat)(ab:Bool)(dz:ByteArray)(ts:List Ty):List lP:=(ee ts).map λt=>((i:Int),fI (bW l (ju dz t)),ab)
def ny(l:List (ByteArray×Rl))(dz:ByteArray)(ts:List Ty):Bool:=(ee ts).all λt=>(bW l (ju dz t)).isSome
theorem Bq{a:List Ty}{j:Nat}{t:Ty}(h:a[j]? =some t):ee (a.take (j+1))=ee (a.take j)++if t.space=⟨#[]⟩then []else [t]:=by
 unfold ee
 rw[dG h,List.filter_append]
 congr 1
 by_cases e:t.space=⟨#[]⟩
 ·simp[e]
 ·simp[e]
theorem WE.all{l:List (ByteArray×Rl)}{i:Nat}{ab:Bool}(ks:List Ty):WE (ks.all λt=>(bW l t).isSome) (ks.map λt=>((i:Int),fI (bW l t),ab)) ((findAll l ks).map λts=>ts.map λt=>(⟨i,t,ab⟩:Ed)):=by
 have h:=rY l ks
 cases h2:findAll l ks with
 |none=>rw[h2]at h;exact h
 |some o=>
  rw[h2]at h
  refine⟨h.1,?_⟩
  have:(ks.map λt=>((i:Int),fI (bW l t),ab))=(ks.map λt=>fI (bW l t)).map λz=>((i:Int),z,ab):=by rw[List.map_map];rfl
  rw[this, <-h.2]
  simp[Ed.m,Function.comp_def]
theorem Oq{l:List (ByteArray×Rl)}{i:Nat}{g:ByteArray}{r:Rl}{ab:Bool}{n:Nd}{c:List Ty}{a:ByteArray}(h:TG l g r n c a)(m:n.kind=3->n.dz≠⟨#[]⟩):
  WE (ny l a c&&(decide (a=⟨#[]⟩)||decide (0<(outs l i ab a c).length))) (outs l i ab a c) (fp l i g r ab n):=by
 rcases h with⟨b,rfl,rfl⟩|⟨b,rfl,k,j,rfl⟩
 ·have e:∀t:Ty,ju ⟨#[]⟩ t=t:=λt=>by unfold ju;rw[if_pos rfl]
  have:=WE.all (l:=l) (i:=i) (ab:=ab) (ee r.types)
  unfold fp targets ny outs
  simp only[e,b,if_true,decide_true,Bool.true_or,Bool.and_true]
  exact this
 ·have d:=m b
  have e:∀t:Ty,ju n.dz t=⟨t.space,n.dz⟩:=λt=>by unfold ju;rw[if_neg d]
  unfold fp targets ny outs
  simp only[e,b,j,decide_eq_false d,Bool.false_or,if_neg (show ¬(3:Int)=1 by decide),if_neg (show ¬(3:Int)=2 by decide),if_true,List.length_map]
  generalize o:ee ((l.map (·.2.types)).getD k [])=zs
  have f:=WE.all (l:=l) (i:=i) (ab:=ab) (zs.map λt=>(⟨t.space,n.dz⟩:Ty))
  rw[List.all_map,List.map_map]at f
  cases zs with
  |nil=>rfl
  |cons z zs=>
   simp only[List.length_cons,Nat.zero_lt_succ,decide_true,Bool.and_true]
   exact f
theorem B6{l:List (ByteArray×Rl)}{i:Nat}{c:ByteArray}{r:Rl}{A B:List (Nat×Bool)}{f g:Bool}{h j:List lP}
  (d:WE f h (cat (λp:Nat×Bool=>(r.nodes[p.1]?).bind λn=>fp l i c r p.2 n) A))(e:WE g j (cat (λp:Nat×Bool=>(r.nodes[p.1]?).bind λn=>fp l i c r p.2 n) B)):
  WE (f&&g) (h++j) (cat (λp:Nat×Bool=>(r.nodes[p.1]?).bind λn=>fp l i c r p.2 n) (A++B)):=by
 rw[qo]
 revert d e
 generalize cat (λp:Nat×Bool=>(r.nodes[p.1]?).bind λn=>fp l i c r p.2 n) A=a
 generalize cat (λp:Nat×Bool=>(r.nodes[p.1]?).bind λn=>fp l i c r p.2 n) B=b
 intro d e
 cases a with
 |none=>have k:f=false:=d;subst k;exact Bool.false_and _
 |some a=>
  cases b with
  |none=>have m:g=false:=e;subst m;exact Bool.and_false _
  |some b=>obtain⟨rfl,rfl⟩:=d;obtain⟨rfl,rfl⟩:=e;exact⟨rfl,by simp⟩
theorem Ot{l:List (ByteArray×Rl)}{i:Nat}{a:ByteArray}{r:Rl}{ab:Bool}{n:Nd}(b:n.kind=2):
  WE (decide (0<=fI (bW l ⟨a,n.rel⟩))) [((i:Int),fI (bW l ⟨a,n.rel⟩),ab)] (fp l i a r ab n):=by
 have h:=WE.all (l:=l) (i:=i) (ab:=ab) [(⟨a,n.rel⟩:Ty)]
 unfold fp targets
 rw[if_neg (by omega),if_pos b]
 have e:decide (0<=fI (bW l ⟨a,n.rel⟩))=([(⟨a,n.rel⟩:Ty)].all λt=>(bW l t).isSome):=by
  simp only[List.all_cons,List.all_nil,Bool.and_true]
  cases bW l ⟨a,n.rel⟩with
  |none=>rfl
  |some k=>simp[fI]
 rw[e]
 exact h
theorem Oo{l:List (ByteArray×Rl)}{i:Nat}{a:ByteArray}{r:Rl}{ab:Bool}{n:Nd}(b:n.kind=3)(h:fI (bW l ⟨a,n.rel⟩)<0):WE false [] (fp l i a r ab n):=by
 cases hr:bW l ⟨a,n.rel⟩with
 |none=>
  unfold fp targets
  rw[if_neg (by omega),if_neg (by omega),if_pos b,hr]
  rfl
 |some k=>rw[hr]at h;simp only[fI]at h;omega
def rz(L:List Nm):Prop:=∀x∈L,x.2.r.types.length<=8/\x.2.r.nodes.length<=64/\fC isWord x.2.r.nodes≠0
theorem R2{s:ByteArray}(h:isWord s=true):s≠⟨#[]⟩:=by
 intro e
 subst e
 revert h
 decide+kernel
theorem Ok{L:List Nm}{k:Nat}{y:Nm}(h:L[k]? =some y):((L.map Nm.p).map (·.2.types)).getD k []=y.2.r.types:=by
 rw[List.getD_eq_getElem?_getD,List.getElem?_map,List.getElem?_map,h]
 rfl
theorem Qb(v:Value)(L:List Nm)(R:aB)(h:qh R v L)(hL:rz L)(i:Nat)(l:ByteArray)(vt vn:Value)(r:Rl)(a0:L[i]? =some (l,⟨vt,vn,r⟩)):
  ∀(m b d:Nat),tree isWord r.nodes m=some (b,d)->∀(ab:Bool) (j:Int),j=(m:Int)-1->
  Spec prog 142 [v,iN i,.int .i64 j,.bool ab] R [] λu H'=>∃T,H'=[T]/\∃w E ok,u=.tuple [w,.bool ok].toArray/\OS 266 3 jJ w E T/\E.length<=8*(m-b)/\
   WE ok E (cat (λp:Nat×Bool=>(r.nodes[p.1]?).bind λn=>fp (L.map Nm.p) i l r p.2 n) (fx r.nodes m ab)):=by
 intro m
 induction m using Nat.strongRecOn with
 |_ m ih=>
 intro b d Y ab j hj
 have U:=h.rs
 have iv:=U.ap
 have c1:=h.all _ (aO a0)
 have c0:RS R 2 Ty.enc vt r.types:=c1.t
 have b9:RS R 5 Nd.enc vn r.nodes:=c1.d
 have e5:=c0.ap
 have e4:=b9.ap
 obtain⟨b3,c5,c7⟩:=hL _ (aO a0)
 simp only at b3 c5 c7
 have d9:=nM Y
 obtain⟨e,rfl⟩:∃e,m=e+1:=⟨m-1,by omega⟩
 have c8:j=(e:Int):=by omega
 subst c8
 obtain⟨n,W⟩:∃n,r.nodes[e]? =some n:=⟨_,aX (by omega)⟩
 have a8:∀ab,n.op=false->cat (λp:Nat×Bool=>(r.nodes[p.1]?).bind λn=>fp (L.map Nm.p) i l r p.2 n) (fx r.nodes (e+1) ab)=fp (L.map Nm.p) i l r ab n:=λab ho=>by
  rw[tI W ho]
  unfold cat
  simp only[W,Option.bind_some,cat]
  cases fp (L.map Nm.p) i l r ab n<;>simp
 have a4:n.op=false->n.leaf isWord=true/\b=e:=λho=>by
  rw[kO W ho]at Y
  split at Y
  ·rename_i hl;cases Y;exact⟨hl,rfl⟩
  ·cases Y
 refine Spec.gu (H':=[[]]) (by simp) ?_
 refine Spec.body Tryz.func142 rfl Tryz.results142 Tryz.ntmps142 rfl ?_
 refine .sr<|.ag rfl<|.ag rfl<|.z<|.ag rfl<|.z<|.mo rfl<|.mo rfl ?_
 refine .bx i U a0 (λf4=>?_)
 refine .fa rfl<|.fa rfl<|.lo rfl<|.mo rfl ?_
 refine .bx e b9 W (λf5=>?_)
 refine .q (.aM rfl) ?_
 refine .bX (λa1=>?_)
 refine .bP rfl rfl<|.zs<|.seq ?_
 refine bz.cS [(0,_),(1,_),(3,_),(10,_),(11,_)] kE.c.c.c.c.c (X:=Unit) (λ_=>True) (λ_ E=>(45,.bool n.op)::E) (λ_=>[bl a1 n.enc 199,[]]) ?_ ?_
 refine .region<|.fa rfl<|.lo rfl<|.q .bQ<|.mo rfl ?_
 refine .split (t:=36) rfl (λH=>?_) (λH=>?_)
 refine .gF H<|.gF H<|.gF H<|.q (.aT H) ?_
 refine .mo rfl<|.gX<|.gX<|.gX<|.q .cU<|.nil ?_
 ·exact aF () trivial (kE.c.c.c.c.c.bU rfl (by clear ih;grind[Nd.op])) rH
 refine .gT H<|.fa rfl<|.gT H<|.lo rfl<|.gT H<|.q .bQ<|.q (.aS H) ?_
 refine .mo rfl ?_
 refine .split (t:=41) rfl (λI=>?_) (λI=>?_)
 refine .gF I<|.gF I<|.gF I<|.q (.aT I) ?_
 refine .nil ?_
 ·exact aF () trivial (kE.c.c.c.c.c.bU rfl (by clear ih;grind[Nd.op])) rH
 refine .gT I<|.fa rfl<|.gT I<|.lo rfl<|.gT I<|.q .bQ<|.q (.aS I) ?_
 refine .nil ?_
 ·exact aF () trivial (kE.c.c.c.c.c.bU rfl (by clear ih;grind[Nd.op])) rH
 intro y hy
 refine av ?_
 refine .cond rfl (λA=>?_) λA=>?_
 have b8:n.op=true:=A
 obtain⟨b',x,y,V,h3,K,M,N,h7,h8,h9⟩:=mU W b8 Y
 have d8:=nM V
 have c6:=nM K
 simp only at K c6 h9
 have b1:=tJ W b8 ⟨by omega,by omega⟩ ab
 rw[show n.a.toNat+1=b' by omega,show n.b.toNat+1=e by omega]at b1
 refine .sr<|.mo rfl<|.mo rfl<|.fa rfl<|.lo rfl<|.mo rfl ?_
 refine .cO ((ih b' (by omega) b y K ab _ M).weaken cZ) (λu Ta B=>?_)
 obtain⟨wa,Ea,e8,rfl,b2,e1,b5⟩:=B
 have e7:=b2.ap
 refine .mo rfl<|.q .extract<|.q .extract<|.ag rfl<|.ag rfl<|.zs ?_
 refine bz.cS [(10,_),(12,_),(13,_)] kE.c.c.c (X:=Value×List lP×Bool×ay) (λy=>OS 266 3 jJ y.1 y.2.1 y.2.2.2/\y.2.1.length<=8*(e-b')/\WE y.2.2.1 y.2.1 (cat (λp:Nat×Bool=>(r.nodes[p.1]?).bind λn=>fp (L.map Nm.p) i l r p.2 n) (fx r.nodes e (ab||n.kind==6)))) (λy E=>(14,y.1)::(15,.bool y.2.2.1)::E) (λy=>[bl a1 n.enc 199,[],Ta,y.2.2.2]) ?_ ?_
 refine .region<|.mo rfl<|.mo rfl<|.fa rfl<|.lo rfl<|.mo rfl<|.mo rfl ?_
 refine .split (t:=61) rfl (λs=>?_) (λs=>?_)
 refine .gF s<|.gF s<|.gF s<|.q (.aT s) ?_
 refine .cO ((ih e (by omega) b' x V _ _ N).weaken cZ) (λu Tb B=>?_)
 obtain⟨wb,Eb,a7,rfl,J,a2,S⟩:=B
 have c3:=J.ap
 refine .mo rfl<|.q .extract<|.q .extract<|.ag rfl<|.ag rfl<|.nil ?_
 ·exact aF (wb,Eb,a7,Tb) ⟨J,a2,by simpa only[A,s,Bool.true_or,Bool.false_or]using S⟩ kE.c.c.c.c.c (aQ [2,2,1,0])
 refine .gT s<|.fa rfl<|.gT s<|.lo rfl<|.gT s<|.q .bQ<|.q (.aS s) ?_
 refine .cO ((ih e (by omega) b' x V _ _ N).weaken cZ) (λu Tb B=>?_)
 obtain⟨wb,Eb,a7,rfl,J,a2,S⟩:=B
 have c3:=J.ap
 refine .mo rfl<|.q .extract<|.q .extract<|.ag rfl<|.ag rfl<|.nil ?_
 ·exact aF (wb,Eb,a7,Tb) ⟨J,a2,by simpa only[A,s,Bool.true_or,Bool.false_or]using S⟩ kE.c.c.c.c.c (aQ [2,2,1,0])
 intro y hy
 obtain⟨wb,Eb,a7,Tb⟩:=y
 obtain⟨J,a2,S⟩:=hy
 simp only at J a2 S⊢
 have c3:=J.ap
 refine av<|.sr<|.mo rfl<|.mo rfl ?_
 refine .append (OS.nil (enc:=jJ) (sz:=3)) b2.rx (by simp only[List.length_nil];omega) (λv1 T1 C=>?_)
 rw[List.nil_append]at C
 have c2:=C.ap
 refine .ag rfl<|.z<|.mo rfl<|.mo rfl ?_
 refine .append C J.rx (by omega) (λv2 T2 b0=>?_)
 have e6:=b0.ap
 refine .mo rfl<|.mo rfl ?_
 refine .split (t:=76) rfl (λO=>?_) (λO=>?_)
 refine .gT O<|.mo rfl<|.q (.aT O) ?_
 refine .ag rfl<|.az rfl ?_
 refine .ret (aH (bp _ (.two (.tmp rfl) (.tmp rfl)) (.one [1] _) ?_))
 ·refine⟨T2,by simp[take,bJ],v2,_,_,rfl,b0,?_,?_⟩
  ·rw[List.length_append];omega
  ·rw[b1];have hh:=B6 b5 S;simpa only[O,Bool.true_and,Bool.false_and]using hh
 refine .gF O<|.q (.aS O) ?_
 refine .ag rfl<|.az rfl ?_
 refine .ret (aH (bp _ (.two (.tmp rfl) (.tmp rfl)) (.one [1] _) ?_))
 ·refine⟨T2,by simp[take,bJ],v2,_,_,rfl,b0,?_,?_⟩
  ·rw[List.length_append];omega
  ·rw[b1];have hh:=B6 b5 S;simpa only[O,Bool.true_and,Bool.false_and]using hh
 refine .kn<|.seq<|.sr<|.fa rfl<|.lo rfl<|.q .bQ<|.zn ?_
 refine .cond rfl (λV=>?_) λV=>?_
 refine .seq ?_
 refine .dt 8 mixed (by kernel_rfl) ?_
 conv=>arg 6;dsimp only[List.take]
 refine .mo rfl<|.mo rfl<|.mo rfl ?_
 refine .bx i U a0 (λf6=>?_)
 refine .fa rfl<|.lo rfl<|.fa rfl<|.lo rfl<|.nil ?_
 refine .aY ((oG v L R h l n.rel).weaken cZ) (λu B=>?_)
 subst B
 refine .ag rfl<|.z<|.mo rfl<|.mo rfl<|.mo rfl<|.mo rfl ?_
 refine .q .cR ?_
 refine .ej (λd7=>?_)
 refine .append (OS.nil (enc:=jJ) (sz:=3)) (RS.lits (xs:=[((i:Int),fI (bW (L.map Nm.p) ⟨l,n.rel⟩),ab)]) rfl (by simp[jJ]) (by simp[jJ,ap])) (by simp) (λv1 T1 C=>?_)
 rw[List.nil_append]at C
 have c2:=C.ap
 refine .mo rfl<|.q .geq<|.ag rfl<|.az rfl ?_
 refine .ret (aH (bp _ (.two (.tmp rfl) (.tmp rfl)) (.one [2] _) ?_))
 ·refine⟨T1,by simp[take,bJ],v1,_,_,rfl,C,?_,?_⟩
  ·have:=(a4 A).2;simp only[List.length_singleton];omega
  ·rw[a8 ab A];exact Ot (by simpa using V)
 have e0:n.kind=1\/n.kind=3:=by have hl:=(a4 A).1;grind[Nd.leaf]
 refine .kn<|.sr<|.mo rfl<|.mo rfl ?_
 refine .bx i U a0 (λe9=>?_)
 refine .fa rfl<|.fa rfl<|.lo rfl<|.ag rfl<|.ag rfl<|.zs<|.sr<|.fa rfl<|.lo rfl<|.q .bQ<|.zn ?_
 refine bz.cS [(0,_),(1,_),(3,_),(10,_)] kE.c.c.c.c (X:=Value×List Ty×ByteArray) (λy=>RS R 2 Ty.enc y.1 y.2.1/\y.2.1.length<=8/\TG (L.map Nm.p) l r n y.2.1 y.2.2) (λy E=>(17,y.1)::(18,.string y.2.2)::E) (λy=>[bl a1 n.enc 199,[]]) ?_ ?_
 refine .cond rfl (λh3=>?_) λh3=>?_
 refine .seq ?_
 refine .dt 8 mixed (by kernel_rfl) ?_
 conv=>arg 6;dsimp only[List.take]
 refine .mo rfl<|.mo rfl<|.mo rfl ?_
 refine .bx i U a0 (λf0=>?_)
 refine .fa rfl<|.lo rfl<|.fa rfl<|.lo rfl<|.nil ?_
 refine .aY ((oG v L R h l n.rel).weaken cZ) (λu B=>?_)
 subst B
 refine .ag rfl<|.zs<|.sr<|.mo rfl<|.q .lss<|.zn ?_
 refine .cond rfl (λK=>?_) λK=>?_
 refine .sr<|.ag rfl<|.az rfl ?_
 refine .ret (aH (iZ (aH (bp _ (.two (.tmp rfl) (.tmp rfl)) (.one [1] _) ?_))))
 ·refine⟨[],by simp[take,bJ],_,[],_,rfl,OS.nil,by simp,?_⟩
  rw[a8 ab A]
  exact Oo (by simpa using h3) (by simpa using K)
 obtain⟨k,hk⟩:∃k,bW (L.map Nm.p) ⟨l,n.rel⟩=some k:=by
  cases hr:bW (L.map Nm.p) ⟨l,n.rel⟩with
  |none=>rw[hr]at K;simp[fI]at K
  |some k=>exact⟨k,rfl⟩
 have d1:k<L.length:=by have:=wy hk;rwa [List.length_map]at this
 obtain⟨⟨sk,c4,d5,rk⟩,a3⟩:=bL d1
 have b6:=h.all _ (aO a3)
 have b7:RS R 2 Ty.enc c4 rk.types:=b6.t
 have e3:=b7.ap
 have e2:One d5:=RS.ap b6.d
 have c9:=(hL _ (aO a3)).1
 have pk:=U.pc a3
 have d0:fI (bW (L.map Nm.p) ⟨l,n.rel⟩)=(k:Int):=by rw[hk];rfl
 refine .kn ?_
 refine .gn mixed (by kernel_rfl) ?_
 refine .mo rfl<|.mo rfl<|.q (.bx k U a3 rfl rfl d0) ?_
 refine .fa rfl<|.fa rfl<|.lo rfl<|.fa rfl<|.lo rfl<|.ag rfl<|.ag rfl<|.nil ?_
 ·exact aF (c4,rk.types,n.dz) ⟨b7,c9,.inr ⟨by simpa using h3,rfl,k,hk,(Ok a3).symm⟩⟩ kE.c.c.c.c.c.c rH
 refine .skip ?_
 ·exact aF (vt,r.types,⟨#[]⟩) ⟨c0,b3,.inl ⟨by grind,rfl,rfl⟩⟩ kE.c.c.c.c.c.c rH
 intro x hx
 obtain⟨vy,D,g⟩:=x
 obtain⟨Z,d4,b4⟩:=hx
 simp only at Z d4 b4⊢
 have iy:=Z.ap
 refine av<|.sr<|.ag rfl<|.zs<|.sr<|.az rfl<|.block ?_
 refine .cz [(0,_),(1,_),(3,_),(17,_),(18,_)] (X:=Nat×Value×ay) (λy=>y.1<=D.length/\OS 266 3 jJ y.2.1 (outs (L.map Nm.p) i ab g (D.take y.1)) y.2.2) (λy E=>(21,iN y.1)::(10,y.2.1)::(20,.bool (ny (L.map Nm.p) g (D.take y.1)))::E) (λy G=>y.2.2::G) (λy=>D.length-y.1) (0,sZ,[]) ⟨Nat.zero_le _,OS.nil⟩ kE.c.c.c.c.c.c.c.c (aQ [1,0]) ?_
 rintro⟨q,vo,To⟩ ⟨hq,Q⟩
 simp only at hq Q⊢
 have io:=Q.ap
 have d2:(outs (L.map Nm.p) i ab g (D.take q)).length<=8:=by
  unfold outs ee
  rw[List.length_map]
  exact Nat.le_trans (List.length_filter_le _ _) (by rw[List.length_take];omega)
 refine .seq<|.sr<|.mo rfl<|.mo rfl<|.q (.bH Z) ?_
 refine .q .lss<|.zn ?_
 refine .cond rfl (λM=>?_) λM=>?_
 have a9:q<D.length:=cb M
 obtain⟨t,a6⟩:=bL a9
 have a5:=Bq a6
 refine .kn<|.seq<|.block<|.seq<|.sr<|.mo rfl<|.mo rfl ?_
 refine .bx q Z a6 (λf1=>?_)
 refine .fa rfl<|.lo rfl<|.q .dP<|.zn ?_
 refine .cond rfl (λN=>?_) λN=>?_
 refine .exit<|bm<|bo<|av<|.region<|.mo rfl ?_
 refine .ia (q+1) .add ?_
 refine .ag rfl<|.nil ?_
 ·exact aW (q+1,vo,To) ⟨a9,by simp only;unfold outs;rw[a5,if_pos (by simpa using N),List.append_nil];exact Q⟩ (by simp only;omega) (((kE.c.c.c.c.c.bU rfl (by simp only;unfold ny;rw[a5,if_pos (by simpa using N),List.append_nil])).cons rfl).cons rfl) rH
 refine .kn<|.sr<|.mo rfl<|.mo rfl ?_
 refine .bx q Z a6 (λf2=>?_)
 refine .fa rfl<|.lo rfl<|.ag rfl<|.zs<|.sr<|.mo rfl<|.q .fU<|.zn ?_
 refine bz.cS [(0,_),(1,_),(3,_),(10,_),(17,_),(18,_),(20,_),(21,_)] kE.c.c.c.c.c.c.c.c (X:=Unit) (λ_=>True) (λ_ E=>(22,.string (ju g t).rel)::E) (λ_=>[To,bl a1 n.enc 199]) ?_ ?_
 refine .cond rfl (λh7=>?_) λh7=>?_
 refine .region<|.mo rfl<|.ag rfl<|.nil ?_
 ·exact aF () trivial (kE.c.c.c.c.c.c.c.c.ye rfl (by unfold ju;grind)) rH
 refine .skip ?_
 ·exact aF () trivial (kE.c.c.c.c.c.c.c.c.ye rfl (by unfold ju;grind)) rH
 intro x hx
 refine av<|.sr<|.mo rfl<|.mo rfl<|.mo rfl ?_
 refine .bx q Z a6 (λf3=>?_)
 refine .fa rfl<|.lo rfl<|.mo rfl ?_
 refine .aY ((oG v L R h t.space (ju g t).rel).weaken cZ) (λu B=>?_)
 subst B
 rw[show(⟨t.space,(ju g t).rel⟩:Ty)=ju g t from rfl]
 refine .ag rfl<|.zs ?_
 refine bz.cS [(0,_),(1,_),(3,_),(10,_),(17,_),(18,_),(21,_),(23,_)] kE.c.c.c.c.c.c.c.c (X:=Unit) (λ_=>True) (λ_ E=>(20,.bool (ny (L.map Nm.p) g (D.take q)&&(bW (L.map Nm.p) (ju g t)).isSome))::E) (λ_=>[To,bl a1 n.enc 199]) ?_ ?_
 refine .region<|.mo rfl<|.mo rfl ?_
 refine .split (t:=157) rfl (λF=>?_) (λF=>?_)
 refine .gT F<|.mo rfl<|.gT F<|.q .geq<|.q (.aT F) ?_
 refine .ag rfl<|.nil ?_
 ·exact aF () trivial (kE.c.c.c.c.c.c.c.c.bU rfl (by simp only[F,Bool.true_and,Bool.false_and]<;>cases bW (L.map Nm.p) (ju g t)<;>simp[fI])) rH
 refine .gF F<|.gF F<|.q (.aS F) ?_
 refine .ag rfl<|.nil ?_
 ·exact aF () trivial (kE.c.c.c.c.c.c.c.c.bU rfl (by simp only[F,Bool.true_and,Bool.false_and]<;>cases bW (L.map Nm.p) (ju g t)<;>simp[fI])) rH
 intro y hy
 refine av<|.region<|.mo rfl<|.mo rfl<|.mo rfl<|.mo rfl ?_
 refine .q .cR ?_
 refine .ej (λd6=>?_)
 refine .append Q (RS.lits (xs:=[((i:Int),fI (bW (L.map Nm.p) (ju g t)),ab)]) rfl (by simp[jJ]) (by simp[jJ,ap])) (by simp only[List.length_singleton];omega) (λv1 T1 C=>?_)
 have c2:=C.ap
 refine .ag rfl<|.nil<|aV<|av<|.region<|.mo rfl ?_
 refine .ia (q+1) .add ?_
 refine .ag rfl<|.nil ?_
 ·exact aW (q+1,v1,T1) ⟨a9,by simp only;unfold outs;rw[a5,if_neg (by simpa using N),List.map_append];exact C⟩ (by simp only;omega) (((kE.c.c.c.c.c.bU rfl (by simp only;unfold ny;rw[a5,if_neg (by simpa using N),List.all_append];simp)).cons rfl).cons rfl) (aQ [1,1])
 have d3:D.length<=q:=by have:=bA M;omega
 rw[dw d3]at Q d2⊢
 refine .exit<|bm<|bs<|bo<|av<|.seq ?_
 refine bz.cS [] (dM.nil _) (X:=Unit) (λ_=>True) (λ_ E=>(8,vo)::(9,.bool (ny (L.map Nm.p) g D&&(decide (g=⟨#[]⟩)||decide (0<(outs (L.map Nm.p) i ab g D).length))))::E) (λ_=>[To]) ?_ ?_
 refine .region<|.mo rfl<|.mo rfl<|.mo rfl ?_
 refine .split (t:=170) rfl (λf=>?_) (λf=>?_)
 refine .gT f<|.mo rfl<|.gT f<|.q .dP<|.gT f<|.mo rfl ?_
 refine .split (t:=173) rfl (λo=>?_) (λo=>?_)
 refine .gF o<|.gF o<|.gF o<|.gT f<|.q (.aT o) ?_
 refine .q (.aT f) ?_
 refine .ag rfl<|.ag rfl<|.nil ?_
 ·exact aF () trivial (((dM.nil _).bU rfl (by simp[M,f,o])).cons rfl) (aQ [0])
 refine .gT o<|.mo rfl<|.gT o<|.q (.dK Q) ?_
 refine .gT o<|.q .gtr<|.gT f<|.q (.aS o) ?_
 refine .q (.aT f) ?_
 refine .ag rfl<|.ag rfl<|.nil ?_
 ·exact aF () trivial (((dM.nil _).bU rfl (by simp[M,f,o])).cons rfl) (aQ [0])
 refine .gF f<|.gF f<|.gF f<|.dm rfl ?_
 refine .dm rfl ?_
 refine .dm rfl ?_
 refine .gF f<|.q (.aS f) ?_
 refine .ag rfl<|.ag rfl<|.nil ?_
 ·exact aF () trivial (((dM.nil _).bU rfl (by simp[M,f])).cons rfl) (aQ [0])
 intro y hy
 refine av ?_
 refine .ret (bp _ (.two (.tmp rfl) (.tmp rfl)) (.one [0] _) ?_)
 ·refine⟨To,by simp[take,bJ],vo,_,_,rfl,Q,?_,?_⟩
  ·have:=(a4 A).2;omega
  ·rw[a8 ab A]
   refine Oq b4 λhk=>?_
   have hl:=(a4 A).1
   exact R2 (by grind[Nd.leaf])
theorem WE.nW{c d:Bool}{e f:List lP}{a b:Option (List Ed)}(g:WE c e a)(h:WE d f b):WE (c&&d) (e++f) (a.bind λx=>b.map (x++ ·)):=by
 cases a with
 |none=>have i:c=false:=g;subst i;exact Bool.false_and _
 |some a=>
  cases b with
  |none=>have j:d=false:=h;subst j;exact Bool.and_false _
  |some b=>obtain⟨rfl,rfl⟩:=g;obtain⟨rfl,rfl⟩:=h;exact⟨rfl,by simp⟩
theorem uk{α:Type}{x:α}:∀{l:List α} {i b:Nat},l[i]? =some x->jW b (l.take (i+1))=jW b (l.take i)++[(b+i,x)]
 |[],i,b,h=>by simp at h
 |y::l,0,b,h=>by simp only[List.getElem?_cons_zero,Option.some.injEq]at h;subst h;rfl
 |y::l,i+1,b,h=>by
  rw[List.take_succ_cons,List.take_succ_cons,jW,jW,uk (l:=l) (i:=i) (b:=b+1) (by simpa using h),show b+1+i=b+(i+1) by omega]
  rfl
def lN(l:List (ByteArray×Rl))(t:Ty):Bool:=decide (t.space=⟨#[]⟩)||(bW l t).isSome
theorem Qu{l:List (ByteArray×Rl)}{a:List Ty}:(findAll l (ee a)).isSome=a.all (lN l):=by
 have h:=rY l (ee a)
 have e:((ee a).all λt=>(bW l t).isSome)=a.all (lN l):=by
  unfold ee
  rw[List.all_filter]
  congr 1
  funext t
  unfold lN
  cases decide (t.space=⟨#[]⟩)<;>simp
 rw[<-e]
 cases hf:findAll l (ee a)with
 |none=>rw[hf]at h;exact h.symm
 |some o=>rw[hf]at h;exact h.1.symm
theorem WE.rel{l:List (ByteArray×Rl)}{i:Nat}{a:ByteArray}{r:Rl}{ok:Bool}{E:List lP}(h:WE ok E (cat (λp:Nat×Bool=>(r.nodes[p.1]?).bind λn=>fp l i a r p.2 n) (fx r.nodes r.nodes.length false))):
  WE (r.types.all (lN l)&&ok) E (lK l i a r):=by
 unfold lK
 rw[<-Qu]
 cases (findAll l (ee r.types)).isSome with
 |true=>simpa using h
 |false=>exact Bool.false_and _
def pW(l:List (ByteArray×Rl))(s:Sc):Bool:=(bW l ⟨s.kg,s.rel⟩).isSome
theorem yo{l:List Nd}(h:fC isWord l≠0):∃d,tree isWord l l.length=some (0,d):=by
 unfold fC at h
 cases ht:tree isWord l l.length with
 |none=>rw[ht]at h;exact absurd rfl h
 |some r=>
  obtain⟨b,d⟩:=r
  rw[ht]at h
  simp only at h
  split at h
  ·rename_i a;subst a;exact⟨d,rfl⟩
  ·exact absurd rfl h
theorem qx(o:Option Nat):decide (0<=fI o)=o.isSome:=by cases o<;>simp[fI]
theorem Ph(c:bN)(R:aB)(h:c.is R)(hf:c.iI)(hr:rz c.fO):Spec prog 78 [.agg c.enc.toArray] R [] λu H'=>∃T,H'=[T]/\∃w E ok,u=.tuple [w,.bool ok].toArray/\OS 266 3 jJ w E T/\WE ok E c.plain.gO:=by
 have b4:=s8 c R h hf
 have a0:=vG h
 have c0:=hf.fO
 have a3:c.plain.gO=if c.scopes.all (pW (c.fO.map Nm.p))=true then cat (λp:Nat×(ByteArray×Rl)=>lK (c.fO.map Nm.p) p.1 p.2.1 p.2.2) (jW 0 (c.fO.map Nm.p))else none:=by
  rw[oA];rfl
 rw[a3]
 clear a3
 generalize b7:c.fO=L at *
 obtain⟨vs,Z,d4,j⟩:=c
 have i1:One vs:=RS.ap h.ss
 have F:RS R 4 Sc.enc Z j:=h.sc
 have i2:=F.ap
 have b9:=F.le
 refine Spec.gu (H':=[[]]) (by simp)<|Spec.body Tryz.func78 rfl Tryz.results78 Tryz.ntmps78 rfl<|.sr ?_
 refine .bY rfl (λb1=>?_)
 refine .ag rfl<|.ag rfl<|.z<|.q (.aM rfl)<|.cO (b4.weaken cZ) (λu v H=>?_)
 have i4:=H.ap
 refine .ag rfl<|.z<|.ag rfl<|.z<|.ag rfl<|.zs<|.sr<|.az rfl<|.block<|.cz [(1,_),(4,_)] (X:=Nat×Value×List lP×Bool×ay) (λy=>y.1<=L.length/\OS 266 3 jJ y.2.1 y.2.2.1 y.2.2.2.2/\y.2.2.1.length<=512*y.1/\WE y.2.2.2.1 y.2.2.1 (cat (λp:Nat×(ByteArray×Rl)=>lK (L.map Nm.p) p.1 p.2.1 p.2.2) (jW 0 ((L.map Nm.p).take y.1)))) (λy E=>(7,iN y.1)::(5,y.2.1)::(6,.bool y.2.2.2.1)::E) (λy G=>y.2.2.2.2::G) (λy=>L.length-y.1) (0,sZ,[],true,[]) ⟨Nat.zero_le _,OS.nil,by simp,⟨rfl,rfl⟩⟩ kE.c.c.c.c.c bf.eL ?_
 rintro⟨i,v5,E5,ok,N⟩ ⟨hi,Q,a9,S⟩
 simp only at hi Q a9 S⊢
 have i5:=Q.ap
 refine .seq<|.sr<|.mo rfl<|.mo rfl<|.q (.dK H)<|.q .lss<|.zn<|.cond rfl (λh1=>?_) λh1=>?_
 have a4:i<L.length:=cb h1
 obtain⟨⟨Y,M,K,r⟩,J⟩:=bL a4
 have W:=a0 _ (aO J)
 have D:RS R 2 Ty.enc M r.types:=W.t
 have a5:RS R 5 Nd.enc K r.nodes:=W.d
 have c6:=D.ap
 have c5:=a5.ap
 have c3:ca (cv.enc ⟨M,K,r⟩):=⟨W.cT⟩
 have c4:ca (List.take 3 (List.drop 1 (nr (Y,(⟨M,K,r⟩:cv))))):=⟨W.cT⟩
 obtain⟨b2,b0,a2⟩:=hr _ (aO J)
 simp only at b2 b0 a2
 obtain⟨d,a6⟩:=yo a2
 have b6:(L.map Nm.p)[i]? =some (Y,r):=by rw[List.getElem?_map,J];rfl
 have O:qh (λb o=>R b o\/(b,o)∈v) u L:=⟨H.rs λp hp=>.inr hp,λx hx=>(a0 x hx).mono λb o g=>.inl g⟩
 have c2:1<=r.nodes.length:=by have:=(nM a6).1;omega
 refine .kn<|.seq<|.block<|.sr<|.mo rfl<|.mo rfl ?_
 refine .aL i H J (λc8=>?_)
 refine .fa rfl<|.q (.loadT rfl) ?_
 refine .bX (λb8=>?_)
 refine .bP rfl rfl<|.zs<|.sr<|.az rfl<|.block<|.cz [(1,_),(4,_),(5,_),(7,_),(8,_)] (X:=Nat) (λk=>k<=r.types.length) (λk E=>(9,iN k)::(6,.bool (ok&&(r.types.take k).all (lN (L.map Nm.p))))::E) (λ_ G=>G) (λk=>r.types.length-k) 0 (Nat.zero_le _) ((kE.c.c.c.c.c.bU rfl (by simp)).cons rfl) rH ?_
 rintro k hk
 refine .seq<|.sr<|.mo rfl<|.fa rfl<|.lo rfl<|.q (.bH D)<|.q .lss<|.zn<|.cond rfl (λm=>?_) λm=>?_
 have C:k<r.types.length:=cb m
 obtain⟨t,n⟩:=bL C
 refine .kn<|.seq<|.block ?_
 refine bz.cS [(1,_),(4,_),(5,_),(7,_),(8,_),(9,_)] kE.c.c.c.c.c.c (X:=Unit) (λ_=>True) (λ_ E=>(6,.bool (ok&&(r.types.take (k+1)).all (lN (L.map Nm.p))))::E) (λ_=>[bl b8 (cv.enc ⟨M,K,r⟩) 167,N,v,bl b1 [vs,Z] 25]) ?_ ?_
 refine .dt 23 mixed (by kernel_rfl) ?_
 conv=>arg 6;dsimp only[List.take]
 refine .mo rfl<|.mo rfl<|.split (t:=34) rfl (λf=>?_) (λf=>?_)
 refine .gT f<|.fa rfl<|.gT f<|.lo rfl<|.gT f<|.mo rfl<|.gT f ?_
 refine .bx k D n (λc9=>?_)
 refine .gT f<|.fa rfl<|.gT f<|.lo rfl<|.gT f<|.q .dP<|.gT f<|.mo rfl<|.split (t:=42) rfl (λe=>?_) (λe=>?_)
 refine .gF e<|.gF e<|.gF e<|.gF e<|.gF e<|.gF e<|.gF e<|.gF e<|.gF e<|.gF e<|.gF e<|.gF e<|.gF e<|.nil<|.gF e<|.gF e<|.gT f<|.q (.aT e)<|.q (.aT f)<|.ag rfl<|.nil ?_
 ·exact aF () trivial (kE.c.c.c.c.c.c.bU rfl (by rw[dG n,List.all_append];simp only[List.all_cons,List.all_nil,Bool.and_true,lN,m,f,e,qx];grind)) rH
 refine .gT e<|.mo rfl<|.gT e<|.fa rfl<|.gT e<|.lo rfl<|.gT e<|.mo rfl<|.gT e ?_
 refine .bx k D n (λd0=>?_)
 refine .gT e<|.fa rfl<|.gT e<|.lo rfl<|.gT e<|.fa rfl<|.gT e<|.lo rfl<|.gT e<|.mo rfl<|.gT e ?_
 refine .bx k D n (λd1=>?_)
 refine .gT e<|.fa rfl<|.gT e<|.lo rfl<|.nil<|.gT e<|.aY ((oG u L _ O t.space t.rel).weaken λb o g=>g.elim .inl λg=>.inr (by simp[g])) (λw I=>?_)
 subst I
 rw[show(⟨t.space,t.rel⟩:Ty)=t from rfl]
 refine .gT e<|.q .geq<|.gT f<|.q (.aS e)<|.q (.aT f)<|.ag rfl<|.nil ?_
 ·exact aF () trivial (kE.c.c.c.c.c.c.bU rfl (by rw[dG n,List.all_append];simp only[List.all_cons,List.all_nil,Bool.and_true,lN,m,f,e,qx];grind)) rH
 refine .gF f<|.gF f<|.gF f<|.gF f<|.gF f<|.gF f<|.gF f<|.gF f<|.dm rfl<|.dm rfl<|.dm rfl<|.dm rfl<|.dm rfl<|.dm rfl<|.dm rfl<|.dm rfl<|.dm rfl<|.dm rfl<|.dm rfl<|.dm rfl<|.dm rfl<|.nil<|.dm rfl<|.dm rfl<|.gF f<|.q (.aS f)<|.ag rfl<|.nil ?_
 ·exact aF () trivial (kE.c.c.c.c.c.c.bU rfl (by rw[dG n,List.all_append];simp only[List.all_cons,List.all_nil,Bool.and_true,lN,m,f,qx];grind)) rH
 intro y hy
 refine aV<|av<|.region<|.mo rfl<|.ia (k+1) .add<|.ag rfl<|.nil ?_
 ·exact aW (k+1) C (by omega) kE.c.c.c.c.c.c.c rH
 rw[dw (l:=r.types) (i:=k) (by have:=bA m;omega)]
 refine .exit<|bm<|bs<|bo<|av<|.sr<|.mo rfl<|.mo rfl<|.fa rfl<|.lo rfl<|.q (.bH a5)<|.q (.i64 ((r.nodes.length:Int)-1) .sub ⟨rfl,by omega,by omega⟩)<|.cO ((Qb u L _ O hr i Y M K r J _ _ _ a6 false _ rfl).weaken λb o g=>g.elim .inl λg=>.inr (by simp[g])) (λw Tw I=>?_)
 obtain⟨w,Ew,a8,rfl,a1,c1,b3⟩:=I
 have iw:=a1.ap
 refine .mo rfl<|.q .extract<|.q .extract<|.ag rfl<|.ag rfl<|.zs ?_
 refine bz.cS [(1,_),(4,_),(5,_),(7,_),(10,_)] kE.c.c.c.c.c (X:=Unit) (λ_=>True) (λ_ E=>(6,.bool (ok&&(r.types.all (lN (L.map Nm.p))&&a8)))::E) (λ_=>[Tw,N,v,bl b1 [vs,Z] 25]) ?_ ?_
 refine .region<|.mo rfl<|.mo rfl<|.split (t:=71) rfl (λA=>?_) (λA=>?_)
 refine .gT A<|.mo rfl<|.q (.aT A)<|.ag rfl<|.nil ?_
 ·exact aF () trivial (kE.c.c.c.c.c.bU rfl (by grind)) (aQ [0,1,1,1])
 refine .gF A<|.q (.aS A)<|.ag rfl<|.nil ?_
 ·exact aF () trivial (kE.c.c.c.c.c.bU rfl (by grind)) (aQ [0,1,1,1])
 intro y hy
 refine av<|.region<|.mo rfl<|.mo rfl<|.append Q a1.rx (by omega) (λv1 T1 a7=>?_)
 have c7:=a7.ap
 refine .ag rfl<|.nil<|aV<|av<|.region<|.mo rfl<|.ia (i+1) .add<|.ag rfl<|.nil ?_
 ·exact aW (i+1,v1,E5++Ew,ok&&(r.types.all (lN (L.map Nm.p))&&a8),T1) ⟨a4,a7,by simp only[List.length_append];omega,by
   simp only
   rw[uk b6,qo]
   refine S.nW ?_
   have U:=WE.rel b3
   simp only[Nat.zero_add,cat]
   revert U
   generalize lK (L.map Nm.p) i Y r=o
   intro U
   cases o with
   |none=>exact U
   |some o=>simpa using U⟩ (by simp only;omega) kE.c.c.c.c.c (aQ [1,1,1])
 have b5:L.length<=i:=by have:=bA h1;omega
 rw[dw (by rw[List.length_map];exact b5)]at S
 have O:qh (λb o=>R b o\/(b,o)∈v) u L:=⟨H.rs λp hp=>.inr hp,λx hx=>(a0 x hx).mono λb o g=>.inl g⟩
 refine .exit<|bm<|bs<|bo<|av<|.seq<|.sr<|.az rfl<|.block<|.cz [(1,_),(4,_),(5,_)] (X:=Nat) (λk=>k<=j.length) (λk E=>(12,iN k)::(6,.bool (ok&&(j.take k).all (pW (L.map Nm.p))))::E) (λ_ G=>G) (λk=>j.length-k) 0 (Nat.zero_le _) ((kE.c.c.c.bU rfl (by simp)).cons rfl) rH ?_
 rintro k hk
 refine .seq<|.sr<|.mo rfl<|.fa rfl<|.lo rfl<|.q (.bH F)<|.q .lss<|.zn<|.cond rfl (λB=>?_) λB=>?_
 have C:k<j.length:=cb B
 obtain⟨s,V⟩:=bL C
 refine .kn<|.seq<|.block ?_
 refine bz.cS [(1,_),(4,_),(5,_),(12,_)] kE.c.c.c.c (X:=Unit) (λ_=>True) (λ_ E=>(6,.bool (ok&&(j.take (k+1)).all (pW (L.map Nm.p))))::E) (λ_=>[N,v,bl b1 [vs,Z] 25]) ?_ ?_
 refine .dt 16 mixed (by kernel_rfl) ?_
 conv=>arg 6;dsimp only[List.take]
 refine .mo rfl<|.mo rfl<|.split (t:=85) rfl (λa=>?_) (λa=>?_)
 refine .gT a<|.mo rfl<|.gT a<|.fa rfl<|.gT a<|.lo rfl<|.gT a<|.mo rfl<|.gT a ?_
 refine .bx k F V (λd2=>?_)
 refine .gT a<|.fa rfl<|.gT a<|.fa rfl<|.gT a<|.lo rfl<|.gT a<|.fa rfl<|.gT a<|.lo rfl<|.gT a<|.mo rfl<|.gT a ?_
 refine .bx k F V (λd3=>?_)
 refine .gT a<|.fa rfl<|.gT a<|.lo rfl<|.nil<|.gT a<|.aY ((oG u L _ O s.kg s.rel).weaken λb o g=>g.elim .inl λg=>.inr (by simp[g])) (λw I=>?_)
 subst I
 refine .gT a<|.q .geq<|.q (.aT a)<|.ag rfl<|.nil ?_
 ·exact aF () trivial (kE.c.c.c.c.bU rfl (by rw[dG V,List.all_append];simp only[List.all_cons,List.all_nil,Bool.and_true,pW,B,a,qx];grind)) rH
 refine .gF a<|.gF a<|.gF a<|.gF a<|.gF a<|.gF a<|.gF a<|.gF a<|.gF a<|.gF a<|.gF a<|.gF a<|.gF a<|.gF a<|.nil<|.gF a<|.gF a<|.q (.aS a)<|.ag rfl<|.nil ?_
 ·exact aF () trivial (kE.c.c.c.c.bU rfl (by rw[dG V,List.all_append];simp only[List.all_cons,List.all_nil,Bool.and_true,pW,B,a,qx];grind)) rH
 intro y hy
 refine aV<|av<|.region<|.mo rfl<|.ia (k+1) .add<|.ag rfl<|.nil ?_
 ·exact aW (k+1) C (by omega) kE.c.c.c.c.c rH
 rw[dw (l:=j) (i:=k) (by have:=bA B;omega)]
 refine .exit<|bm<|bs<|bo<|av<|.sr<|.mo rfl<|.mo rfl<|.ag rfl<|.az rfl<|.ret (bp _ (.two (.tmp rfl) (.tmp rfl)) (.one [0] _) ?_)
 ·refine⟨N,by simp[take,bJ],v5,E5,_,rfl,Q,?_⟩
  cases j.all (pW (L.map Nm.p))with
  |true=>simpa using S
  |false=>exact Bool.and_false _
theorem RS.fk{α:Type}{R:aB}{sz:Nat}{enc:α->List Value}:RS R sz enc (sZ) ([]:List α):=(OS.nil (E:=0) (sz:=sz) (enc:=enc)).rs λp a=>(by cases a)
abbrev fA:=Value×List Nat
def dW(q:fA):List Value:=[q.1]
structure NN(R:aB)(w:Value)(ll:List fA):Prop where
 rs:RS R 1 dW w ll
 all:∀q∈ll,RS R 1 cM q.1 q.2
theorem NN.mono{R R':aB}{w:Value}{c:List fA}(h:NN R w c)(a:∀b o,R b o->R' b o):NN R' w c:=⟨h.rs.mono a,λq d=>(h.all q d).mono a⟩
theorem NN.nil{R:aB}:NN R (sZ) []:=⟨RS.fk,λq a=>(by cases a)⟩
theorem oD:∀{l:List Sp} {i:Nat} {s:Sp},l[i]? =some s->cG l (i+1)=cG l i+s.bR.length
 |[],i,s,h=>by simp at h
 |x::l,0,s,h=>by
  simp only[List.getElem?_cons_zero,Option.some.injEq]at h
  subst h
  cases l<;>simp[cG]
 |x::l,i+1,s,h=>by
  have:=oD (l:=l) (i:=i) (by simpa using h)
  rw[cG,cG,this]
  omega
theorem rX{c:bN}(h:c.plain.right isWord dj=true):c.iI/\rz c.fO:=by
 have e:=mP h
 have d:c.plain.lH isWord=false:=by
  unfold Cf.right at h
  simp only[Bool.and_eq_true,Bool.not_eq_true']at h
  exact h.2
 rw[qL]at d
 simp only[Bool.or_eq_false_iff,decide_eq_false_iff_not,List.any_eq_false,Nat.not_lt]at d
 refine⟨⟨by omega,λs f=>?_⟩,λx g=>?_⟩
 ·have:=d.2 s f
  unfold iz at this
  simp only[Bool.or_eq_true,decide_eq_true_eq,not_or,Nat.not_lt]at this
  exact this.1
 ·have i:x.p∈c.plain.all:=by rw[<-oA];exact List.mem_map.2 ⟨x,g,rfl⟩
  obtain⟨b,a⟩:=e _ i
  unfold ml at b
  unfold iK at a
  simp only[Bool.and_eq_true,bne_iff_ne,ne_eq]at b
  simp only[Bool.or_eq_false_iff,decide_eq_false_iff_not,Nat.not_lt]at a
  exact⟨a.1.1,a.1.2,b.1.2⟩
theorem A6(c:bN)(R:aB)(h:c.is R):Spec prog 32 [.agg c.enc.toArray] R [] λu H'=>∃T,H'=[T]/\∃w ll,u=.tuple [w,.int .i64 (c.plain.numbers isWord dj).1].toArray/\NN (sg T) w ll/\ll.map (·.2)=(c.plain.numbers isWord dj).2:=by
 have a1:=PT c R h
 have a2:=PY c R h
 have a3:=Ph c R h
 have a4:=s8 c R h
 have c9:=oA c
 have a7:=rX (c:=c)
 have Z:∀(i:Nat) s,c.bg[i]? =some s->c.plain.bg[i]? =some s.plain:=λi s B=>by unfold bN.plain;simp only;rw[List.getElem?_map,B];rfl
 have c0:c.plain.bg.length=c.bg.length:=by unfold bN.plain;simp
 have d:c.plain.numbers isWord dj=if c.plain.right isWord dj=false then((4:Int),([]:List (List Nat)))else if ¬c.plain.dU then(10,[])else match c.plain.gO with|none=>(14,[])|some E=>if kr E c.plain.all.length=true then(0,rows c.plain.bg (level E c.plain.all.length (c.plain.all.length+1)))else(15,[]):=rfl
 have b3:c.plain.all.length=c.fO.length:=by rw[<-c9,List.length_map]
 have d5:=λhh=>bN.iI.fO (c:=c) hh
 have c1:=oT c.plain
 generalize f2:c.plain.numbers isWord dj=nn at *
 generalize f3:c.plain=pl at *
 generalize e4:c.fO=L at *
 rw[b3]at d c1
 obtain⟨vs,vc,a9,g3⟩:=c
 have J:=h.ss
 have i1:=J.ap
 have i2:One vc:=RS.ap h.sc
 simp only at J i1 i2 Z c0⊢
 have e9:=J.le
 refine Spec.gu (H':=[[]]) (by simp)<|Spec.body Tryz.func32 rfl Tryz.results32 Tryz.ntmps32 rfl<|.sr ?_
 refine .bY rfl (λb1=>?_)
 refine .ag rfl<|.ag rfl<|.zs<|.sr<|.q (.aM rfl)<|.aY (a1.weaken cZ) (λu K=>?_)
 subst K
 refine .q .not<|.zn<|.cond rfl (λM=>?_) λM=>?_
 refine .sr<|.ag rfl<|.az rfl<|.ret (aH (bp _ (.two (.tmp rfl) (.tmp rfl)) (.one [1] _) ?_))
 ·refine⟨[],by simp[take,bJ],sZ,[],?_,.nil,?_⟩
  ·rw[d,if_pos (by simpa using M)]
  ·rw[d,if_pos (by simpa using M)];rfl
 have b7:pl.right isWord dj=true:=by simpa using M
 obtain⟨v,c8⟩:=a7 b7
 have f1:=d5 v
 rw[if_neg (by rw[b7];simp)]at d
 refine .kn<|.seq<|.sr<|.q (.aM rfl)<|.aY ((a2 v).weaken cZ) (λu K=>?_)
 subst K
 refine .zn<|.cond rfl (λN=>?_) λN=>?_
 refine .sr<|.ag rfl<|.az rfl<|.ret (aH (bp _ (.two (.tmp rfl) (.tmp rfl)) (.one [1] _) ?_))
 ·refine⟨[],by simp[take,bJ],sZ,[],?_,.nil,?_⟩
  ·rw[d,if_pos (by simpa using N)]
  ·rw[d,if_pos (by simpa using N)];rfl
 have d8:pl.dU:=by simpa using N
 rw[if_neg (λhh=>hh d8)]at d
 refine .kn<|.sr<|.q (.aM rfl)<|.cO ((a3 v c8).weaken cZ) (λu T4 K=>?_)
 obtain⟨w4,E4,ok,rfl,a5,r⟩:=K
 have i4:=a5.ap
 refine .mo rfl<|.q .extract<|.q .extract<|.ag rfl<|.ag rfl<|.zs<|.sr<|.mo rfl<|.q .not<|.zn<|.cond rfl (λh3=>?_) λh3=>?_
 have I:ok=false:=by simpa using h3
 have U:pl.gO=none:=by
  cases he:pl.gO with
  |none=>rfl
  |some E=>rw[he]at r;rw[r.1]at I;cases I
 rw[U]at d
 simp only at d
 refine .sr<|.ag rfl<|.az rfl<|.ret (aH (bp _ (.two (.tmp rfl) (.tmp rfl)) (.one [2] _) ?_))
 ·refine⟨[],by simp[take,bJ],sZ,[],?_,.nil,?_⟩
  ·rw[d]
  ·rw[d];rfl
 have I:ok=true:=by simpa using h3
 obtain⟨E,U,c7⟩:∃E,pl.gO=some E/\E4=E.map Ed.m:=by
  cases he:pl.gO with
  |none=>rw[he]at r;rw[show ok=false from r]at I;cases I
  |some E=>rw[he]at r;exact⟨E,rfl,r.2⟩
 subst c7
 rw[U]at d
 simp only at d
 have b0:∀e∈E,e.f<L.length/\e.t<L.length:=by
  have:=qt U
  rw[b3]at this
  exact this
 have f6:(L.length+1)*(L.length+1)<=1000000:=Nat.le_trans (Nat.mul_le_mul (by omega:L.length+1<=257) (by omega:L.length+1<=257)) (by decide)
 refine .kn<|.sr<|.q (.aM rfl)<|.cO ((a4 v).weaken cZ) (λu T6 c2=>?_)
 have i6:=c2.ap
 refine .q (.dK c2)<|.ag rfl<|.z<|.mo rfl<|.mo rfl<|.mo rfl<|.ia (L.length+1) .add<|.cO (A4 w4 E L.length (L.length+1) _ a5.rx b0 (by omega) (by omega)) (λu T7 a0=>?_)
 have i7:=a0.ap
 refine .ag rfl<|.z<|.mo rfl<|.mo rfl<|.mo rfl<|.ia (L.length+1) .add<|.mo rfl<|.ia (L.length+1) .add<|.q (.i64 (((L.length+1)*(L.length+1):Nat):Int) .mul ⟨by rw[Int.natCast_mul],by omega,by omega⟩)<|.cO (A4 w4 E L.length ((L.length+1)*(L.length+1)) _ a5.rx b0 (by omega) (by omega)) (λu8 T8 c3=>?_)
 have i8:=c3.ap
 have e7:(level E L.length (L.length+1)).length=L.length:=kX _
 have e8:(level E L.length ((L.length+1)*(L.length+1))).length=L.length:=kX _
 refine .ag rfl<|.zs<|.sr<|.az rfl<|.block<|.cz [(1,_),(6,_),(7,_),(8,_)] (X:=Nat) (λi=>i<=L.length/\∀j,j<i->(level E L.length (L.length+1))[j]? =(level E L.length ((L.length+1)*(L.length+1)))[j]? /\(level E L.length (L.length+1)).getD j 0<L.length) (λi E=>(9,iN i)::E) (λ_ G=>G) (λi=>L.length-i) 0 ⟨Nat.zero_le _,λj V=>absurd V (by omega)⟩ kE.c.c.c.c.c rH ?_
 rintro i ⟨hi,hq⟩
 refine .seq<|.sr<|.mo rfl<|.mo rfl<|.q .lss<|.zn<|.cond rfl (λh4=>?_) λh4=>?_
 have Y:i<L.length:=cb h4
 obtain⟨a,p⟩:∃a,(level E L.length (L.length+1))[i]? =some a:=⟨_,aX (by omega)⟩
 obtain⟨b,l⟩:∃b,(level E L.length ((L.length+1)*(L.length+1)))[i]? =some b:=⟨_,aX (by omega)⟩
 refine .kn<|.seq<|.block<|.seq ?_
 refine bz.cS [(1,_),(6,_),(7,_),(8,_),(9,_)] kE.c.c.c.c.c (X:=Unit) (λ_=>True) (λ_ E=>(64,.bool (decide (a≠b\/L.length<=a)))::E) (λ_=>[T8,T7,T6,T4,bl b1 [vs,vc] 25,[]]) ?_ ?_
 refine .gn mixed (by kernel_rfl)<|.mo rfl<|.mo rfl ?_
 refine .aL i a0 p (λf8=>?_)
 refine .lo rfl<|.mo rfl<|.mo rfl ?_
 refine .aL i c3 l (λf9=>?_)
 refine .lo rfl<|.q .et<|.mo rfl<|.split (t:=57) rfl (λg=>?_) (λg=>?_)
 refine .gF g<|.gF g<|.gF g<|.gF g<|.gF g<|.gF g<|.q (.aT g)<|.nil ?_
 ·exact aF () trivial (kE.c.c.c.c.c.bU rfl (by clear a1 a2 a3 a4 a7 Z hq;grind)) rH
 refine .gT g<|.mo rfl<|.gT g<|.mo rfl<|.gT g ?_
 refine .aL i a0 p (λg0=>?_)
 refine .gT g<|.lo rfl<|.gT g<|.mo rfl<|.gT g<|.q .geq<|.q (.aS g)<|.nil ?_
 ·exact aF () trivial (kE.c.c.c.c.c.bU rfl (by clear a1 a2 a3 a4 a7 Z hq;grind)) rH
 intro y hy
 refine av<|.cond rfl (λD=>?_) λD=>?_
 refine .sr<|.ag rfl<|.az rfl<|.ret (bh (aH (cB (bh (aH (bp _ (.two (.tmp rfl) (.tmp rfl)) (.one [5] _) ?_))))))
 ·have b4:¬kr E L.length=true:=by
   intro S
   unfold kr at S
   rw[Bool.and_eq_true,List.all_eq_true]at S
   have H:=bS S.1
   have h8:=S.2 a (aO p)
   rw[H,l]at p
   cases p
   have h5':=bS D
   have h9:=bS h8
   rcases h5' with h5'|h5'
   ·exact h5' rfl
   ·omega
  refine⟨[],by simp[take,bJ],sZ,[],?_,.nil,?_⟩
  ·rw[d,if_neg b4]
  ·rw[d,if_neg b4];rfl
 refine .skip<|aV<|av<|.region<|.mo rfl<|.ia (i+1) .add<|.ag rfl<|.nil ?_
 ·exact aW (i+1) ⟨Y,λj V=>by
   rcases Nat.lt_or_ge j i with hh|hh
   ·exact hq j hh
   ·obtain rfl:j=i:=by omega
    have h5':=bA D
    simp only[ne_eq,not_or,Decidable.not_not,Nat.not_le]at h5'
    exact⟨by rw[p,l,h5'.1],by rw[List.getD_eq_getElem?_getD,p];exact h5'.2⟩⟩ (by omega) kE.c.c.c.c.c rH
 have e5:i=L.length:=by have:=bA h4;omega
 have d1:kr E L.length=true:=by
  unfold kr
  rw[Bool.and_eq_true]
  refine⟨decide_eq_true (List.ext_getElem? λj=>?_),?_⟩
  ·rcases Nat.lt_or_ge j i with hh|hh
   ·exact(hq j hh).1
   ·rw[List.getElem?_eq_none (by omega),List.getElem?_eq_none (by omega)]
  ·rw[List.all_eq_true]
   intro x hx
   obtain⟨j,V,e⟩:=List.mem_iff_getElem.1 hx
   have:=(hq j (by omega)).2
   rw[List.getD_eq_getElem?_getD,aX V,e]at this
   exact decide_eq_true this
 rw[if_pos d1]at d
 generalize f0:level E L.length (L.length+1)=A at *
 refine .exit<|bm<|bs<|bo<|av<|.sr<|.ag rfl<|.z<|.ag rfl<|.zs<|.sr<|.az rfl<|.block<|.cz [(1,_),(7,_)] (X:=Nat×Value×List fA×ay×ay) (λy=>y.1<=a9.length/\OS 182 1 dW y.2.1 y.2.2.1 y.2.2.2.1/\(∀q∈y.2.2.1,RS (sg y.2.2.2.2) 1 cM q.1 q.2)/\y.2.2.1.map (·.2)=(rows pl.bg A).take y.1) (λy E=>(12,iN y.1)::(11,.int .i64 (cG pl.bg y.1:Nat))::(10,y.2.1)::E) (λy G=>y.2.2.2.1::y.2.2.2.2::G) (λy=>a9.length-y.1) (0,sZ,[],[],[]) ⟨Nat.zero_le _,OS.nil,λq hq=>(by cases hq),by simp⟩ ((kE.c.c.c.kT rfl (by cases pl.bg<;>rfl)).cons rfl) bf.jy ?_
 rintro⟨i,e1,ll,c5,Tp⟩ ⟨d2,O,a6,W⟩
 simp only at d2 O a6 W⊢
 have f7:=O.ap
 have e6:ll.length<=16:=by
  have D:=congrArg List.length W
  rw[List.length_map,List.length_take,pQ]at D
  have F:=v.1
  simp only at F
  omega
 refine .seq<|.sr<|.mo rfl<|.fa rfl<|.lo rfl<|.q (.bH J)<|.q .lss<|.zn<|.cond rfl (λF=>?_) λF=>?_
 have Y:i<a9.length:=cb F
 obtain⟨s,B⟩:=bL Y
 have d7:=h.all _ (aO B)
 have b9:=d7.rs
 have f4:=b9.le
 have f5:s.bR.length<=16:=v.2 s (aO B)
 have a8:=Z i s B
 have b8:=pP (n:=A) a8
 have b5:=oD a8
 have b6:=sR a8
 have d6:s.plain.bR.length=s.bR.length:=by simp[cy.plain]
 rw[d6]at b8 b5 b6
 rw[c1]at b6
 refine .kn<|.seq<|.block<|.sr<|.ag rfl<|.zs<|.sr<|.az rfl<|.block<|.cz [(1,_),(7,_),(10,_),(12,_)] (X:=Nat×Value×ay) (λy=>y.1<=s.bR.length/\OS 3 1 cM y.2.1 ((A.drop (cG pl.bg i)).take y.1) y.2.2) (λy E=>(14,iN y.1)::(11,.int .i64 (cG pl.bg i+y.1:Nat))::(13,y.2.1)::E) (λy G=>y.2.2::G) (λy=>s.bR.length-y.1) (0,sZ,[]) ⟨Nat.zero_le _,OS.nil⟩ kE.c.c.c.c.c.c.c bf.eL ?_
 rintro⟨k,c4,c6⟩ ⟨hk,Q⟩
 simp only at hk Q⊢
 have d9:=Q.ap
 refine .seq<|.sr<|.mo rfl<|.fa rfl<|.lo rfl<|.mo rfl ?_
 refine .bx i J B (λg1=>?_)
 refine .fa rfl<|.lo rfl<|.q (.bH b9)<|.q .lss<|.zn<|.cond rfl (λH=>?_) λH=>?_
 have d4:k<s.bR.length:=cb H
 obtain⟨a,p⟩:∃a,A[cG pl.bg i+k]? =some a:=⟨_,aX (by omega)⟩
 have d0:(A.drop (cG pl.bg i)).take (k+1)=(A.drop (cG pl.bg i)).take k++[a]:=dG (by rw[List.getElem?_drop,p])
 refine .kn<|.seq<|.block<|.sr<|.mo rfl<|.mo rfl<|.mo rfl ?_
 refine .aL (cG pl.bg i+k) a0 p (λg2=>?_)
 refine .lo rfl ?_
 refine .gM (λe2=>?_)
 refine .append Q (RS.lits (xs:=[a]) rfl (by simp[cM]) (by simp[cM,ap])) (by simp only[List.length_take,List.length_singleton];omega) (λv1 T1 C=>?_)
 rw[<-d0]at C
 have e0:=C.ap
 refine .az rfl<|.region<|.mo rfl<|.ia (cG pl.bg i+(k+1)) .add<|.ag rfl<|.nil<|aV<|av<|.region<|.mo rfl<|.ia (k+1) .add<|.ag rfl<|.nil ?_
 ·exact aW (k+1,v1,T1) ⟨d4,C⟩ (by simp only;omega) kE.c.c.c.c.c.c.c (aQ [1,1,1,1,1,1,1,1,1])
 have b2:k=s.bR.length:=by have:=bA H;omega
 refine .exit<|bm<|bs<|bo<|av<|.region<|.mo rfl<|.mo rfl ?_
 refine .gM (λe3=>?_)
 refine .append O (RS.lits (xs:=[((c4,(A.drop (cG pl.bg i)).take k):fA)]) rfl (by simp[dW]) (by simp[dW,d9.h])) (by simp only[List.length_singleton];omega) (λv1 T1 C=>?_)
 have e0:=C.ap
 refine .ag rfl<|.nil<|aV<|av<|.region<|.mo rfl<|.ia (i+1) .add<|.ag rfl<|.nil ?_
 ·exact aW (i+1,v1,ll++[(c4,(A.drop (cG pl.bg i)).take k)],T1,c6++Tp) ⟨Y,C,λq hq=>by
   rcases List.mem_append.1 hq with hq|hq
   ·exact(a6 q hq).mono λb o l=>iM l
   ·rw[List.mem_singleton]at hq
    subst hq
    exact Q.sg.mono λb o l=>jO l,by simp only;rw[List.map_append,W,dG b8,b2];rfl⟩ (by simp only;omega) ((kE.c.c.c.kT rfl (by simp only;rw[b5,b2])).cons rfl) ((aQ [2,1,1,1,1,1,1,1]).trans (bf.fq (by simp[take,bJ])))
 refine .exit<|bm<|bs<|bo<|av<|.sr<|.mo rfl<|.ag rfl<|.az rfl<|.ret (bp _ (.two (.tmp rfl) (.tmp rfl)) (.one [0,0] _) ?_)
 ·have d3:pl.bg.length<=i:=by rw[c0];have:=bA F;omega
  refine⟨c5++Tp,by simp[take,bJ],e1,ll,?_,⟨O.sg.mono λb o l=>jO l,λq hq=>(a6 q hq).mono λb o l=>iM l⟩,?_⟩
  ·rw[d]
  ·rw[d,W]
   exact dw (by rw[pQ];exact d3)
def BU(t:ry):Prop:=t.kind≠0/\t.text.size<=9223372036854775807/\(t.kind=2\/(t.text≠Rg/\t.text≠Ri/\t.text≠Rb/\t.text≠Rf/\t.text≠Rh/\t.text≠Re/\t.text≠Rj))
instance(t:ry):Decidable (BU t):=by unfold BU;infer_instance
theorem NL(n:Nd)(w:n.fits)(R:aB):Spec prog 226 [.agg n.enc.toArray] R [] λu H'=>u=.bool (n.leaf isWord)/\H'=[]:=by
 obtain⟨k,j,m,a,b⟩:=n
 obtain⟨i,l⟩:=w
 simp only at i l
 refine Spec.body Tryz.func226 rfl Tryz.results226 Tryz.ntmps226 rfl<|.sr ?_
 refine .bY rfl (λo=>?_)
 refine .ag rfl<|.zs<|.seq ?_
 refine bz.cS [(1,_)] kE.c (X:=Unit) (λ_=>True) (λ_ E=>(10,.bool (!(a==0&&b==0)))::E) (λ_=>[bl o (Nd.enc ⟨k,j,m,a,b⟩) 199]) ?_ ?_
 refine .region<|.fa rfl<|.lo rfl<|.q .et<|.mo rfl<|.split (t:=6) rfl (λd=>?_) (λd=>?_)
 refine .gF d<|.gF d<|.gF d<|.q (.aT d)<|.nil ?_
 ·exact aF () trivial (kE.c.bU rfl (by grind)) rH
 refine .gT d<|.fa rfl<|.gT d<|.lo rfl<|.gT d<|.q .et<|.q (.aS d)<|.nil ?_
 ·exact aF () trivial (kE.c.bU rfl (by grind)) rH
 intro y x
 refine av<|.cond rfl (λp=>?_) λp=>?_
 refine .sr<|.az rfl<|.ret (aH (aP rfl ?_))
 ·refine⟨congrArg _ ?_,rfl⟩
  simp only[Nd.leaf]
  grind
 refine .kn<|.seq<|.sr<|.fa rfl<|.lo rfl<|.zn<|.block<|.sr<|.q .bQ<|.az rfl<|.cond rfl (λr=>?_) λr=>?_
 refine .sr<|.fa rfl<|.lo rfl<|.q .dP<|.mo rfl<|.split (t:=18) rfl (λe=>?_) (λe=>?_)
 refine .gT e<|.fa rfl<|.gT e<|.lo rfl<|.gT e<|.q .dP<|.q (.aT e)<|.az rfl<|.ret (bh (aH (aP rfl ?_)))
 ·refine⟨congrArg _ ?_,rfl⟩
  simp only[Nd.leaf]
  grind
 refine .gF e<|.gF e<|.gF e<|.q (.aS e)<|.az rfl<|.ret (bh (aH (aP rfl ?_)))
 ·refine⟨congrArg _ ?_,rfl⟩
  simp only[Nd.leaf]
  grind
 refine .sr<|.q .bQ<|.az rfl<|.cond rfl (λs=>?_) λs=>?_
 refine .sr<|.fa rfl<|.lo rfl<|.aY (lp j i _) (λu h=>?_)
 subst h
 refine .mo rfl<|.split (t:=28) rfl (λf=>?_) (λf=>?_)
 refine .gT f<|.fa rfl<|.gT f<|.lo rfl<|.gT f<|.q .dP<|.q (.aT f)<|.az rfl<|.ret (bh (aH (aP rfl ?_)))
 ·refine⟨congrArg _ ?_,rfl⟩
  simp only[Nd.leaf]
  grind
 refine .gF f<|.gF f<|.gF f<|.q (.aS f)<|.az rfl<|.ret (bh (aH (aP rfl ?_)))
 ·refine⟨congrArg _ ?_,rfl⟩
  simp only[Nd.leaf]
  grind
 refine .sr<|.q .bQ<|.az rfl<|.cond rfl (λv=>?_) λv=>?_
 refine .sr<|.fa rfl<|.lo rfl<|.aY (lp j i _) (λu h=>?_)
 subst h
 refine .mo rfl<|.split (t:=38) rfl (λg=>?_) (λg=>?_)
 refine .gT g<|.fa rfl<|.gT g<|.lo rfl<|.gT g<|.aY (lp m l _) (λu h=>?_)
 subst h
 refine .q (.aT g)<|.az rfl<|.ret (bh (aH (aP rfl ?_)))
 ·refine⟨congrArg _ ?_,rfl⟩
  simp only[Nd.leaf]
  grind
 refine .gF g<|.gF g<|.gF g<|.q (.aS g)<|.az rfl<|.ret (bh (aH (aP rfl ?_)))
 ·refine⟨congrArg _ ?_,rfl⟩
  simp only[Nd.leaf]
  grind
 refine .skip<|aV<|av<|.sr<|.az rfl<|.ret (aP rfl ?_)
 ·refine⟨congrArg _ ?_,rfl⟩
  simp only[Nd.leaf]
  grind
theorem uh(W:ByteArray->Bool):∀(a b:List Nd) (S:List (Nat×Nat)),jr W (a++b) S=(jr W a S).bind (jr W b)
 |[],b,S=>rfl
 |n::a,b,S=>by
  rw[List.cons_append,jr,jr]
  cases hU W S n with
  |none=>rfl
  |some S'=>exact uh W a b S'
theorem jN{α:Type}{A:List α}{i k:Nat}{x z:α}(a:A.length=i):(A++List.replicate (k+1) z).set i x=(A++[x])++List.replicate k z:=by
 subst a
 rw[List.set_append_right _ _ (Nat.le_refl _),Nat.sub_self,List.replicate_succ,List.set_cons_zero]
 simp
theorem qF{A:List Nat}{j k:Nat}{a:Nat}(h:A[j]? =some a):(A++List.replicate k 0)[j]? =some a:=by
 rw[List.getElem?_append_left (List.getElem?_eq_some_iff.1 h).1]
 exact h
def mC(S:List (Nat×Nat))(n:Nd):Prop:=n.rel≠⟨#[]⟩\/n.dz≠⟨#[]⟩\/n.b≠(S.length:Int)-1\/n.b<0\/n.a≠(S.length:Int)-1-(S.getD (S.length-1) (0,0)).1\/n.a<0
instance(S:List (Nat×Nat))(n:Nd):Decidable (mC S n):=by unfold mC;infer_instance
theorem Ds{S:List (Nat×Nat)}{n:Nd}(ho:n.op=true)(h:mC S n):hU isWord S n=none:=by
 unfold hU
 rw[if_pos ho]
 exact if_pos h
theorem Dt{S:List (Nat×Nat)}{n:Nd}(ho:n.op=true)(h:¬mC S n):hU isWord S n=some (S++[((S.getD n.a.toNat (0,0)).1+(S.getD n.b.toNat (0,0)).1+1,max (S.getD n.a.toNat (0,0)).2 (S.getD n.b.toNat (0,0)).2+1)]):=by
 unfold hU
 rw[if_pos ho]
 exact if_neg h
theorem ym{l:List Nd}{i:Nat}{n:Nd}{S:List (Nat×Nat)}(c:l[i]? =some n)(a:jr isWord (l.take i) []=some S)(h:hU isWord S n=none):py isWord l=0:=by
 have b:l=l.take i++n::l.drop (i+1):=by
  rw[<-List.take_append_drop i l]
  congr 1
  ·rw[List.take_append_drop]
  ·rw[List.take_append_drop];exact yt c
 have:jr isWord l []=none:=by
  rw[b,uh,a,Option.bind_some,jr,h]
  rfl
 unfold py
 rw[this]
theorem yn(v:Value)(l:List Nd)(R:aB)(h:RS R 5 Nd.enc v l)(s:∀x∈l,x.fits)(c7:l.length<=1000000):
    Spec prog 174 [v] R [] λu H'=>u=.int .i64 (fC isWord l:Nat)/\H'=[]:=by
  rw[<-Di]
  have iv:=h.ap
  refine Spec.body Tryz.func174 rfl Tryz.results174 Tryz.ntmps174 rfl ?_
  refine .sr<|.ag rfl<|.zs ?_
  refine bz.cS [(0,_)] kE.c (X:=(Nat×ay)×(Nat×ay)) (λy=>OS 3 1 cM (.slice (some ⟨y.1.1,0,none⟩) l.length l.length) (List.replicate l.length 0) y.1.2/\OS 3 1 cM (.slice (some ⟨y.2.1,0,none⟩) l.length l.length) (List.replicate l.length 0) y.2.2) (λy E=>(3,.slice (some ⟨y.1.1,0,none⟩) l.length l.length)::(4,.slice (some ⟨y.2.1,0,none⟩) l.length l.length)::E) (λy=>[y.1.2,y.2.2]) ?_ ?_
  refine .cL [2,5] mixed ?_
  refine .tK 0 rfl .move ?_
  refine .tK 1 rfl (.bH h) ?_
  refine .tK 3 rfl .move ?_
  refine .tK 4 rfl (.bH h) ?_
  refine RA.kL 2 5 rfl rfl (by kernel_rfl) rfl ?_ ?_
  refine .makeSlice (enc:=cM) l.length 0 rfl rfl (by decide) (by simp[cM,ap]) rfl rfl (by omega) (by omega) (λL w d=>?_)
  refine .nil (Next.mod rfl ?_)
  refine .tK 6 rfl .assign ?_
  refine .sT 5 rfl ?_
  refine .makeSlice (enc:=cM) l.length 0 rfl rfl (by decide) (by simp[cM,ap]) rfl rfl (by omega) (by omega) (λM A e=>?_)
  refine .nil (Next.mod rfl ?_)
  refine .tK 7 rfl .assign ?_
  refine RA.nil (by kernel_rfl) ?_
  ·first
      |exact aF ((L,w),(M,A)) ⟨d,e⟩ kE.c.c.c (aQ [0,0])
      |exact aF ((L,w),(M,A)) ⟨d,e⟩ kE.c.c.c (aQ [1,0])
  refine .makeSlice (enc:=cM) l.length 0 rfl rfl (by decide) (by simp[cM,ap]) rfl rfl (by omega) (by omega) (λM A e=>?_)
  refine .nil (Next.mod rfl ?_)
  refine .sT 2 rfl ?_
  refine .makeSlice (enc:=cM) l.length 0 rfl rfl (by decide) (by simp[cM,ap]) rfl rfl (by omega) (by omega) (λL w d=>?_)
  refine .nil (Next.mod rfl ?_)
  refine .tK 6 rfl .assign<|.tK 7 rfl .assign ?_
  refine RA.nil (by kernel_rfl) ?_
  ·first
      |exact aF ((L,w),(M,A)) ⟨d,e⟩ kE.c.c.c (aQ [0,0])
      |exact aF ((L,w),(M,A)) ⟨d,e⟩ kE.c.c.c (aQ [1,0])
  intro y hy
  obtain⟨⟨L,w⟩,⟨M,A⟩⟩:=y
  obtain⟨d,e⟩:=hy
  simp only at d e⊢
  refine av<|.seq<|.sr<|.mo rfl<|.q (.bH h) ?_
  refine .mo rfl<|.zn<|.block ?_
  refine .cz [(0,_),(3,_),(4,_),(13,_),(14,_)] (X:=Nat×List (Nat×Nat)×ay×ay) (λy=>y.1<=l.length/\y.2.1.length=y.1/\jr isWord (l.take y.1) []=some y.2.1/\DI isWord l y.2.1/\OS 3 1 cM (.slice (some ⟨L,0,none⟩) l.length l.length) (y.2.1.map (·.1)++List.replicate (l.length-y.1) 0) y.2.2.1/\OS 3 1 cM (.slice (some ⟨M,0,none⟩) l.length l.length) (y.2.1.map (·.2)++List.replicate (l.length-y.1) 0) y.2.2.2) (λy E=>(15,iN y.1)::E) (λy _=>[y.2.2.1,y.2.2.2]) (λy=>l.length-y.1) (0,[],w,A) ⟨Nat.zero_le _,rfl,rfl,⟨Nat.zero_le _,λj hj=>absurd hj (by simp)⟩,by simpa using d,by simpa using e⟩ kE.c.c.c.c.c.c rH (G:=[]) ?_
  rintro⟨i,S,w,A⟩ ⟨hi,o,Q,m,d,e⟩
  simp only at hi o Q m d e⊢
  refine .sr<|.q .lss<|.zs ?_
  refine .cond rfl (λh1=>?_) λh1=>?_
  have W:i<l.length:=cb h1
  obtain⟨n,J⟩:=bL W
  obtain⟨k,hk⟩:∃k,l.length-i=k+1:=⟨l.length-i-1,by omega⟩
  have K:l.length-(i+1)=k:=by omega
  rw[hk]at d e
  have Y:jr isWord (l.take (i+1)) []=hU isWord S n:=by
    rw[dG J,uh,Q,Option.bind_some,jr]
    cases hU isWord S n<;>rfl
  have a3:(S.map (·.1)).length=i:=by rw[List.length_map,o]
  have a4:(S.map (·.2)).length=i:=by rw[List.length_map,o]
  have r:∀j,j<i->(S.map (·.1))[j]? =some (S.getD j (0,0)).1/\(S.map (·.2))[j]? =some (S.getD j (0,0)).2/\(S.getD j (0,0)).1<=j+1/\(S.getD j (0,0)).2<=j+1/\1<=(S.getD j (0,0)).1:=λj hj=>by
    obtain⟨d1,d2,d3⟩:=m.t j (by omega)
    have d4:=wY _ _ _ d3
    refine⟨?_,?_,d2,d4,d1⟩
    ·rw[List.getElem?_map,aX (by omega),List.getD_eq_getElem?_getD,aX (by omega)];rfl
    ·rw[List.getElem?_map,aX (by omega),List.getD_eq_getElem?_getD,aX (by omega)];rfl
  obtain⟨z1,a0⟩:∃z,(S.map (·.1)++List.replicate (k+1) 0)[i]? =some z:=⟨_,aX (by rw[List.length_append,a3,List.length_replicate];omega)⟩
  obtain⟨z2,a1⟩:∃z,(S.map (·.2)++List.replicate (k+1) 0)[i]? =some z:=⟨_,aX (by rw[List.length_append,a4,List.length_replicate];omega)⟩
  have b4:=h.le
  refine .kn<|.seq<|.block<|.sr<|.mo rfl ?_
  refine .bx i h J (λd7=>?_)
  refine .q (.aM rfl) ?_
  refine .bX (λb6=>?_)
  refine .ag rfl<|.bP rfl rfl<|.zs<|.seq ?_
  refine bz.cS [(0,_),(3,_),(4,_),(5,_),(6,_),(13,_),(14,_),(15,_)] kE.c.c.c.c.c.c.c.c (X:=Unit) (λ_=>True) (λ_ E=>(32,.bool (!n.op))::E) (λ_=>[bl b6 n.enc 199,w,A]) ?_ ?_
  refine .region<|.fa rfl<|.lo rfl<|.q .et<|.mo rfl ?_
  refine .split (t:=23) rfl (λB=>?_) (λB=>?_)
  refine .gT B<|.fa rfl<|.gT B<|.lo rfl<|.gT B<|.q .et<|.q (.aT B) ?_
  refine .mo rfl ?_
  refine .split (t:=28) rfl (λC=>?_) (λC=>?_)
  refine .gT C<|.fa rfl<|.gT C<|.lo rfl<|.gT C<|.q .et<|.q (.aT C) ?_
  refine .nil ?_
  ·exact aF () trivial (kE.c.c.c.c.c.c.c.c.bU rfl (by clear r m d e s;grind[Nd.op])) rH
  refine .gF C<|.gF C<|.gF C<|.q (.aS C) ?_
  refine .nil ?_
  ·exact aF () trivial (kE.c.c.c.c.c.c.c.c.bU rfl (by clear r m d e s;grind[Nd.op])) rH
  refine .gF B<|.gF B<|.gF B<|.q (.aS B) ?_
  refine .mo rfl<|.gX<|.gX<|.gX<|.q .db<|.nil ?_
  ·exact aF () trivial (kE.c.c.c.c.c.c.c.c.bU rfl (by clear r m d e s;grind[Nd.op])) rH
  intro y hy
  refine av ?_
  refine .cond rfl (λV=>?_) λV=>?_
  refine .seq<|.sr<|.q (.aM rfl) ?_
  refine .aY (NL n (s n (aO J)) _) (λu hu=>?_)
  subst hu
  refine .q .not<|.zn ?_
  refine .cond rfl (λh3=>?_) λh3=>?_
  refine .sr<|.az rfl ?_
  refine .ret (aH (aH (bh (aH (cB (bh (aH (aP rfl ?_))))))))
  ·refine⟨?_,rfl⟩
   rw[ym J Q (by unfold hU;rw[if_neg (by have a5:n.op=false:=by simpa using V
                                         rw[a5];simp),if_neg (by simpa using h3)])]
   rfl
  have a5:n.op=false:=by simpa using V
  have b5:n.leaf isWord=true:=by simpa using h3
  have I:hU isWord S n=some (S++[(1,1)]):=by unfold hU;rw[if_neg (by rw[a5];simp),if_pos b5]
  refine .kn<|.sr<|.mo rfl<|.mo rfl<|.mo rfl<|.mo rfl ?_
  refine .aL i d a0 (λd8=>?_)
  refine .dv i d a0 1 (λT N=>?_)
  rw[jN a3]at N
  refine .aL i e a1 (λd9=>?_)
  refine .dv i e a1 1 (λU O=>?_)
  rw[jN a4]at O
  refine .zn<|.exit<|bm<|bo<|av<|.region ?_
  refine .ia (i+1) .add ?_
  refine .mo rfl<|.nil ?_
  ·first
      |exact aW (i+1,S++[(1,1)],T,U) ⟨W,by simp[o],by simp only;rw[Y,I],m.step (by rw[o];exact J) I,by simp only;rw[K,List.map_append];exact N,by simp only;rw[K,List.map_append];exact O⟩ (by simp only;omega) kE.c.c.c.c.c.c (aQ [1,1])
      |exact aW (i+1,S++[((S.getD n.a.toNat (0,0)).1+(S.getD (i-1) (0,0)).1+1,max (S.getD n.a.toNat (0,0)).2 (S.getD (i-1) (0,0)).2+1)],T,U) ⟨W,by simp[o],by simp only;rw[Y,I],m.step (by rw[o];exact J) I,by simp only;rw[K,List.map_append];exact N,by simp only;rw[K,List.map_append];exact O⟩ (by simp only;omega) kE.c.c.c.c.c.c (aQ [1,1])
  refine .kn<|.seq<|.seq ?_
  refine bz.cS [(0,_),(3,_),(4,_),(5,_),(6,_),(13,_),(14,_),(15,_)] kE.c.c.c.c.c.c.c.c (X:=Unit) (λ_=>True) (λ_ E=>(79,.bool (decide (n.rel≠⟨#[]⟩\/n.dz≠⟨#[]⟩\/n.b≠(i:Int)-1\/n.b<0\/n.a≠(i:Int)-1-((S.getD (i-1) (0,0)).1:Nat)\/n.a<0)))::E) (λ_=>[bl b6 n.enc 199,w,A]) ?_ ?_
  refine .gn mixed (by kernel_rfl) ?_
  refine .fa rfl<|.lo rfl<|.q .fU<|.mo rfl ?_
  refine .split (t:=45) rfl (λF=>?_) (λF=>?_)
  refine .gF F<|.gF F<|.gF F<|.q (.aT F) ?_
  refine .mo rfl<|.gX<|.gX<|.gX<|.gX<|.gX<|.q .cU<|.mo rfl<|.gX<|.gX<|.gX<|.q .cU<|.mo rfl<|.gX<|.gX<|.gX<|.gX<|.gX<|.gX<|.gX<|.gX<|.gX<|.gX<|.gX<|.q .cU<|.mo rfl<|.gX<|.gX<|.gX<|.q .cU<|.nil ?_
  ·exact aF () trivial (kE.c.c.c.c.c.c.c.c.bU rfl (by clear r m d e s;grind)) rH
  refine .gT F<|.fa rfl<|.gT F<|.lo rfl<|.gT F<|.q .fU<|.q (.aS F) ?_
  refine .mo rfl ?_
  refine .split (t:=50) rfl (λp=>?_) (λp=>?_)
  refine .gF p<|.gF p<|.gF p<|.gF p<|.gF p<|.q (.aT p) ?_
  refine .mo rfl<|.gX<|.gX<|.gX<|.q .cU<|.mo rfl<|.gX<|.gX<|.gX<|.gX<|.gX<|.gX<|.gX<|.gX<|.gX<|.gX<|.gX<|.q .cU<|.mo rfl<|.gX<|.gX<|.gX<|.q .cU<|.nil ?_
  ·exact aF () trivial (kE.c.c.c.c.c.c.c.c.bU rfl (by clear r m d e s;grind)) rH
  refine .gT p<|.fa rfl<|.gT p<|.lo rfl<|.gT p<|.mo rfl<|.gT p ?_
  refine .q (.i64 ((i:Int)-1) .sub ⟨rfl,by omega,by omega⟩) ?_
  refine .gT p<|.q .et<|.q (.aS p) ?_
  refine .mo rfl ?_
  refine .split (t:=57) rfl (λD=>?_) (λD=>?_)
  refine .gF D<|.gF D<|.gF D<|.q (.aT D) ?_
  refine .mo rfl<|.gX<|.gX<|.gX<|.gX<|.gX<|.gX<|.gX<|.gX<|.gX<|.gX<|.gX<|.q .cU<|.mo rfl<|.gX<|.gX<|.gX<|.q .cU<|.nil ?_
  ·exact aF () trivial (kE.c.c.c.c.c.c.c.c.bU rfl (by clear r m d e s;grind)) rH
  refine .gT D<|.fa rfl<|.gT D<|.lo rfl<|.gT D<|.q .lss<|.q (.aS D) ?_
  refine .mo rfl ?_
  refine .split (t:=62) rfl (λf=>?_) (λf=>?_)
  refine .gF f<|.gF f<|.gF f<|.gF f<|.gF f<|.gF f<|.gF f<|.gF f<|.gF f<|.gF f<|.gF f<|.q (.aT f) ?_
  refine .mo rfl<|.gX<|.gX<|.gX<|.q .cU<|.nil ?_
  ·exact aF () trivial (kE.c.c.c.c.c.c.c.c.bU rfl (by clear r m d e s;grind)) rH
  have c6:1<=i:=by clear r m d e;grind
  obtain⟨q1,q2,q3,q4,q5⟩:=r (i-1) (by omega)
  have a7:=qF (k:=k+1) q1
  refine .gT f<|.fa rfl<|.gT f<|.lo rfl<|.gT f<|.mo rfl<|.gT f ?_
  refine .q (.i64 ((i:Int)-1) .sub ⟨rfl,by omega,by omega⟩) ?_
  refine .gT f<|.mo rfl<|.gT f<|.mo rfl<|.gT f ?_
  refine .q (.i64 ((i:Int)-1) .sub ⟨rfl,by omega,by omega⟩) ?_
  refine .gT f ?_
  refine .aL (i-1) d a7 (λe0=>?_) rfl rfl (by omega)
  refine .gT f<|.lo rfl<|.gT f ?_
  refine .q (.i64 ((i:Int)-1-((S.getD (i-1) (0,0)).1:Nat)) .sub ⟨rfl,by omega,by omega⟩) ?_
  refine .gT f<|.q .et<|.q (.aS f) ?_
  refine .mo rfl ?_
  refine .split (t:=75) rfl (λH=>?_) (λH=>?_)
  refine .gF H<|.gF H<|.gF H<|.q (.aT H) ?_
  refine .nil ?_
  ·exact aF () trivial (kE.c.c.c.c.c.c.c.c.bU rfl (by clear r m d e s;grind)) rH
  refine .gT H<|.fa rfl<|.gT H<|.lo rfl<|.gT H<|.q .lss<|.q (.aS H) ?_
  refine .nil ?_
  ·exact aF () trivial (kE.c.c.c.c.c.c.c.c.bU rfl (by clear r m d e s;grind)) rH
  intro y hy
  refine av ?_
  refine .cond rfl (λh4=>?_) λh4=>?_
  have a6:n.op=true:=by simpa using V
  have Z:mC S n:=by unfold mC;rw[o];exact bS h4
  refine .sr<|.az rfl ?_
  refine .ret (aH (bh (aH (cB (bh (aH (aP rfl ?_)))))))
  ·refine⟨?_,rfl⟩
   rw[ym J Q (Ds a6 Z)]
   rfl
  have a6:n.op=true:=by simpa using V
  have Z:¬mC S n:=by unfold mC;rw[o];exact bA h4
  have a2:=Z
  unfold mC at a2
  simp only[not_or,Decidable.not_not,o]at a2
  obtain⟨c0,c1,c2,c3,c4,c5⟩:=a2
  obtain⟨q1,q2,q3,q4,q5⟩:=r (i-1) (by omega)
  obtain⟨r1,r2,r3,r4,r5⟩:=r n.a.toNat (by omega)
  have a9:n.b.toNat=i-1:=by omega
  have a7:=qF (k:=k+1) q1
  have b7:=qF (k:=k+1) q2
  have b8:=qF (k:=k+1) r1
  have b9:=qF (k:=k+1) r2
  have I:hU isWord S n=some (S++[((S.getD n.a.toNat (0,0)).1+(S.getD (i-1) (0,0)).1+1,max (S.getD n.a.toNat (0,0)).2 (S.getD (i-1) (0,0)).2+1)]):=by
    rw[Dt a6 Z,a9]
  refine .kn<|.seq ?_
  refine .dt 15 mixed (by kernel_rfl) ?_
  conv=>arg 6;dsimp only[List.take]
  refine .mo rfl<|.mo rfl<|.mo rfl<|.fa rfl<|.lo rfl ?_
  refine .aL n.a.toNat d b8 (λe1=>?_) rfl rfl (by omega)
  refine .lo rfl<|.mo rfl<|.fa rfl<|.lo rfl ?_
  refine .aL (i-1) d a7 (λe2=>?_) rfl rfl (by omega)
  refine .lo rfl ?_
  refine .q (.i64 (((S.getD n.a.toNat (0,0)).1+(S.getD (i-1) (0,0)).1:Nat):Int) .add ⟨by push_cast;rfl,by omega,by omega⟩) ?_
  refine .q (.i64 (((S.getD n.a.toNat (0,0)).1+(S.getD (i-1) (0,0)).1+1:Nat):Int) .add ⟨by push_cast;rfl,by omega,by omega⟩) ?_
  refine .aL i d a0 (λe3=>?_)
  refine .nil ?_
  refine .dv i d a0 ((S.getD n.a.toNat (0,0)).1+(S.getD (i-1) (0,0)).1+1) (λT N=>?_)
  rw[jN a3]at N
  refine .zn ?_
  refine .dt 15 mixed (by kernel_rfl) ?_
  conv=>arg 6;dsimp only[List.take]
  refine .mo rfl<|.mo rfl<|.mo rfl<|.fa rfl<|.lo rfl ?_
  refine .aL n.a.toNat e b9 (λc8=>?_) rfl rfl (by omega)
  refine .lo rfl<|.mo rfl<|.fa rfl<|.lo rfl ?_
  refine .aL (i-1) e b7 (λc9=>?_) rfl rfl (by omega)
  refine .lo rfl<|.q .NX ?_
  refine .q (.i64 ((max (S.getD n.a.toNat (0,0)).2 (S.getD (i-1) (0,0)).2+1:Nat):Int) .add ⟨by omega,by omega,by omega⟩) ?_
  refine .aL i e a1 (λd0=>?_)
  refine .nil ?_
  refine .dv i e a1 (max (S.getD n.a.toNat (0,0)).2 (S.getD (i-1) (0,0)).2+1) (λU O=>?_)
  rw[jN a4]at O
  refine .nil<|aV<|av<|.region ?_
  refine .ia (i+1) .add ?_
  refine .mo rfl<|.nil ?_
  ·first
      |exact aW (i+1,S++[(1,1)],T,U) ⟨W,by simp[o],by simp only;rw[Y,I],m.step (by rw[o];exact J) I,by simp only;rw[K,List.map_append];exact N,by simp only;rw[K,List.map_append];exact O⟩ (by simp only;omega) kE.c.c.c.c.c.c (aQ [1,1])
      |exact aW (i+1,S++[((S.getD n.a.toNat (0,0)).1+(S.getD (i-1) (0,0)).1+1,max (S.getD n.a.toNat (0,0)).2 (S.getD (i-1) (0,0)).2+1)],T,U) ⟨W,by simp[o],by simp only;rw[Y,I],m.step (by rw[o];exact J) I,by simp only;rw[K,List.map_append];exact N,by simp only;rw[K,List.map_append];exact O⟩ (by simp only;omega) kE.c.c.c.c.c.c (aQ [1,1])
  have b2:i=l.length:=by have:=bA h1;omega
  subst b2
  rw[List.take_length]at Q
  rw[Nat.sub_self]at d e
  simp only[List.replicate_zero,List.append_nil]at d e
  have b4:=h.le
  refine .exit<|bm<|bs<|bo<|av<|.seq<|.seq ?_
  refine bz.cS [(0,_),(4,_)] kE.c.c (X:=Unit) (λ_=>True) (λ_ E=>(124,.bool (decide (l=[]\/(S.getD (l.length-1) (0,0)).1≠l.length)))::E) (λ_=>[w,A]) ?_ ?_
  refine .region<|.mo rfl<|.q (.bH h) ?_
  refine .q .bQ<|.mo rfl ?_
  refine .split (t:=114) rfl (λg=>?_) (λg=>?_)
  refine .gF g<|.gF g<|.gF g<|.gF g<|.gF g<|.gF g<|.gF g<|.gF g<|.gF g<|.q (.aT g) ?_
  refine .nil ?_
  ·exact aF () trivial (kE.c.c.bU rfl (by clear s m d e;rcases l with _|⟨x,l⟩<;>simp at * <;>grind)) rH
  have b3:1<=l.length:=by have:=bA g;omega
  have b0:(S.map (·.1))[l.length-1]? =some (S.getD (l.length-1) (0,0)).1:=by rw[List.getElem?_map,aX (by omega),List.getD_eq_getElem?_getD,aX (by omega)];rfl
  refine .gT g<|.mo rfl<|.gT g<|.mo rfl<|.gT g<|.q (.bH h) ?_
  refine .gT g ?_
  refine .q (.i64 ((l.length:Int)-1) .sub ⟨rfl,by omega,by omega⟩) ?_
  refine .gT g ?_
  refine .aL (l.length-1) d b0 (λd5=>?_) rfl rfl (by omega)
  refine .gT g<|.lo rfl<|.gT g<|.mo rfl<|.gT g<|.q (.bH h) ?_
  refine .gT g<|.q .et<|.q (.aS g) ?_
  refine .nil ?_
  ·exact aF () trivial (kE.c.c.bU rfl (by clear s m d e;rcases l with _|⟨x,l⟩<;>simp at * <;>grind)) rH
  intro y hy
  refine av ?_
  refine .cond rfl (λh5=>?_) λh5=>?_
  refine .sr<|.az rfl ?_
  refine .ret (aH (aP rfl ?_))
  ·refine⟨?_,rfl⟩
   unfold py
   rw[Q]
   simp only
   rw[if_pos (bS h5)]
   rfl
  have a8:=bA h5
  have b3:1<=l.length:=by rcases l with _|⟨x,l⟩<;>simp at a8⊢
  have b1:(S.map (·.2))[l.length-1]? =some (S.getD (l.length-1) (0,0)).2:=by rw[List.getElem?_map,aX (by omega),List.getD_eq_getElem?_getD,aX (by omega)];rfl
  refine .kn<|.sr<|.mo rfl<|.mo rfl<|.q (.bH h) ?_
  refine .q (.i64 ((l.length:Int)-1) .sub ⟨rfl,by omega,by omega⟩) ?_
  refine .aL (l.length-1) e b1 (λd6=>?_) rfl rfl (by omega)
  refine .lo rfl<|.az rfl ?_
  refine .ret (aP rfl ?_)
  ·refine⟨?_,rfl⟩
   unfold py
   rw[Q]
   simp only
   rw[if_neg a8]
theorem Ty.kinds(t:Ty):eE [.s,.s] t.enc:=⟨trivial,trivial,trivial⟩
theorem Ty.eq(a b:Ty):eA a.enc b.enc=decide (a=b):=by
 obtain⟨c,d⟩:=a
 obtain⟨e,f⟩:=b
 rw[Bool.eq_iff_iff]
 simp[Ty.enc,eA,mB]
theorem NH(t:Ty)(f:t.fits)(R:aB):Spec prog 177 [.agg t.enc.toArray] R [] λu H'=>u=.bool (ir isWord t)/\H'=[]:=by
 obtain⟨s,r⟩:=t
 obtain⟨d,e⟩:=f
 simp only at d e
 refine Spec.body Tryz.func177 rfl Tryz.results177 Tryz.ntmps177 rfl<|.sr ?_
 refine .bY rfl (λg=>?_)
 refine .ag rfl<|.z<|.q (.aM rfl)<|.q .cR<|.q (.cast (.mE (xs:=Ty.enc ⟨s,r⟩) (ys:=Ty.enc ⟨⟨#[]⟩,⟨#[]⟩⟩) rfl rfl (Ty.kinds _) (Ty.kinds _)) (congrArg Value.bool (Ty.eq _ _)))<|.mo rfl<|.split (t:=6) rfl (λa=>?_) (λa=>?_)
 refine .gF a<|.gF a<|.gF a<|.gF a<|.dm rfl<|.dm rfl<|.dm rfl<|.gF a<|.q (.aT a)<|.az rfl<|.ret (aP rfl ?_)
 ·refine⟨congrArg _ ?_,rfl⟩
  simp only[ir]
  grind
 refine .gT a<|.fa rfl<|.gT a<|.lo rfl<|.gT a<|.aY (lp s d _) (λu c=>?_)
 subst c
 refine .gT a<|.mo rfl<|.split (t:=10) rfl (λb=>?_) (λb=>?_)
 refine .gT b<|.fa rfl<|.gT b<|.lo rfl<|.gT b<|.aY (lp r e _) (λu c=>?_)
 subst c
 refine .gT a<|.q (.aT b)<|.q (.aS a)<|.az rfl<|.ret (aP rfl ?_)
 ·refine⟨congrArg _ ?_,rfl⟩
  simp only[ir]
  grind
 refine .gF b<|.gF b<|.gF b<|.gT a<|.q (.aS b)<|.q (.aS a)<|.az rfl<|.ret (aP rfl ?_)
 ·refine⟨congrArg _ ?_,rfl⟩
  simp only[ir]
  grind
theorem Pp(t:Ty)(a:t.fits)(R:aB):Spec prog 176 [.agg t.enc.toArray] R [] λu H'=>u=.bool (!ir isWord t)/\H'=[]:=by
 refine Spec.body Tryz.func176 rfl Tryz.results176 Tryz.ntmps176 rfl<|.sr ?_
 refine .bY rfl (λc=>?_)
 refine .ag rfl<|.z<|.q (.aM rfl)<|.aY (NH t a _) (λu b=>?_)
 subst b
 refine .q .not<|.az rfl<|.ret (aP rfl ?_)
 ·exact⟨rfl,rfl⟩
theorem Pq(s:Sc)(h:s.fits)(R:aB):Spec prog 179 [.agg s.enc.toArray] R [] λu H'=>u=.bool (!kJ isWord dj s)/\H'=[]:=by
 obtain⟨n,j,i,r⟩:=s
 obtain⟨d,e,f,g⟩:=h
 simp only at d e f g
 refine Spec.body Tryz.func179 rfl Tryz.results179 Tryz.ntmps179 rfl<|.sr ?_
 refine .bY rfl (λk=>?_)
 refine .ag rfl<|.z<|.fa rfl<|.lo rfl<|.aY (lp n d _) (λu c=>?_)
 subst c
 refine .q .not<|.mo rfl<|.split (t:=7) rfl (λb=>?_) (λb=>?_)
 refine .gF b<|.gF b<|.gF b<|.gF b<|.q (.aT b)<|.mo rfl<|.gX<|.gX<|.gX<|.gX<|.q .cU<|.az rfl<|.ret (aP rfl ?_)
 ·refine⟨congrArg _ ?_,rfl⟩
  simp only[kJ]
  grind
 refine .gT b<|.fa rfl<|.gT b<|.q (.loadT rfl)<|.gT b<|.aY (tZ j i e f _) (λu c=>?_)
 subst c
 refine .gT b<|.q .et<|.q (.aS b)<|.mo rfl<|.split (t:=13) rfl (λa=>?_) (λa=>?_)
 refine .gF a<|.gF a<|.gF a<|.gF a<|.q (.aT a)<|.az rfl<|.ret (aP rfl ?_)
 ·refine⟨congrArg _ ?_,rfl⟩
  simp only[kJ]
  grind
 refine .gT a<|.fa rfl<|.gT a<|.lo rfl<|.gT a<|.aY (lp r g _) (λu c=>?_)
 subst c
 refine .gT a<|.q .not<|.q (.aS a)<|.az rfl<|.ret (aP rfl ?_)
 ·refine⟨congrArg _ ?_,rfl⟩
  simp only[kJ]
  grind
theorem N4(p:cv)(R:aB)(h:p.is R)(R':aB)(i:∀b o,R b o->R' b o):Spec prog 161 [.agg p.enc.toArray] R' [] λu H'=>u=.bool (iK isWord p.r)/\H'=[]:=by
 obtain⟨l,g,r⟩:=p
 have f:RS R 2 Ty.enc l r.types:=h.t
 have e:RS R 5 Nd.enc g r.nodes:=h.d
 have v:=f.ap
 have s:=e.ap
 refine Spec.body Tryz.func161 rfl Tryz.results161 Tryz.ntmps161 rfl<|.sr ?_
 refine .bY rfl (λm=>?_)
 refine .ag rfl<|.z<|.fa rfl<|.lo rfl<|.q (.bH f)<|.q .gtr<|.mo rfl<|.split (t:=7) rfl (λc=>?_) (λc=>?_)
 refine .gF c<|.gF c<|.gF c<|.gF c<|.q (.aT c)<|.mo rfl<|.gX<|.gX<|.gX<|.gX<|.q .cU<|.az rfl<|.ret (aP rfl ?_)
 ·refine⟨congrArg _ ?_,rfl⟩
  simp only[iK]
  grind
 refine .gT c<|.fa rfl<|.gT c<|.lo rfl<|.gT c<|.q (.bH e)<|.gT c<|.q .gtr<|.q (.aS c)<|.mo rfl<|.split (t:=13) rfl (λa=>?_) (λa=>?_)
 refine .gF a<|.gF a<|.gF a<|.gF a<|.q (.aT a)<|.az rfl<|.ret (aP rfl ?_)
 ·refine⟨congrArg _ ?_,rfl⟩
  simp only[iK]
  grind
 have n:r.nodes.length<=64:=by grind
 refine .gT a<|.fa rfl<|.gT a<|.lo rfl<|.gT a<|.aY ((yn g r.nodes R e h.fd (by omega)).weaken λb o j=>.inl (i b o j)) (λu k=>?_)
 subst k
 refine .gT a<|.q .gtr<|.q (.aS a)<|.az rfl<|.ret (aP rfl ?_)
 ·refine⟨congrArg _ ?_,rfl⟩
  simp only[iK]
  grind
theorem R0(c:bN)(R:aB)(h:c.is R):Spec prog 100 [.agg c.enc.toArray] R [] λu H'=>u=.bool (!c.plain.lH isWord)/\H'=[]:=by
 rw[qL]
 obtain⟨H,F,e,C⟩:=c
 have g:=h.ss
 have w:=h.sc
 have S:=g.ap
 have T:=w.ap
 simp only at g w S T⊢
 have W:=g.le
 refine Spec.body Tryz.func100 rfl Tryz.results100 Tryz.ntmps100 rfl<|.sr ?_
 refine .bY rfl (λz=>?_)
 refine .ag rfl<|.zs<|.seq ?_
 refine bz.cS [(1,_)] kE.c (X:=Unit) (λ_=>True) (λ_ E=>(14,.bool (decide (16<e.length)||decide (16<C.length)))::E) (λ_=>[bl z [H,F] 25]) ?_ ?_
 refine .region<|.fa rfl<|.lo rfl<|.q (.bH g)<|.q .gtr<|.mo rfl<|.split (t:=9) rfl (λa=>?_) (λa=>?_)
 refine .gF a<|.gF a<|.gF a<|.gF a<|.q (.aT a)<|.nil ?_
 ·exact aF () trivial (kE.c.bU rfl (by grind)) rH
 refine .gT a<|.fa rfl<|.gT a<|.lo rfl<|.gT a<|.q (.bH w)<|.gT a<|.q .gtr<|.q (.aS a)<|.nil ?_
 ·exact aF () trivial (kE.c.bU rfl (by grind)) rH
 intro y Q
 refine av<|.cond rfl (λn=>?_) λn=>?_
 refine .sr<|.az rfl<|.ret (aH (aP rfl ?_))
 ·exact⟨by rw[n];rfl,rfl⟩
 refine .kn<|.seq<|.sr<|.fa rfl<|.lo rfl<|.q (.bH g)<|.mo rfl<|.zn<|.block<|.cz [(16,_),(17,_)] (X:=Nat) (λi=>i<=e.length/\(e.take i).any iz=false) (λi E=>(18,iN i)::E) (λ_ G=>G) (λi=>e.length-i) 0 ⟨Nat.zero_le _,rfl⟩ kE.c.c.c rH ?_
 rintro i ⟨V,B⟩
 refine .sr<|.q .lss<|.zs<|.cond rfl (λp=>?_) λp=>?_
 have A:i<e.length:=cb p
 obtain⟨⟨D,m,k⟩,j⟩:=bL A
 have x:=h.all _ (aO j)
 have v:RS R 3 cv.enc m k:=x.rs
 have Y:=v.ap
 have Z:ca (cy.enc ⟨D,m,k⟩):=⟨x.cT⟩
 refine .kn<|.seq<|.block<|.sr ?_
 refine .bx i g j (λa0=>?_)
 refine .q (.aM rfl) ?_
 refine .bX (λU=>?_)
 refine .bP rfl rfl<|.zs ?_
 refine bz.cS [(16,_),(17,_),(18,_)] kE.c.c.c (X:=Unit) (λ_=>True) (λ_ E=>(30,.bool (iz ⟨D,m,k⟩))::E) (λ_=>[bl z [H,F] 25]) ?_ ?_
 refine .region<|.fa rfl<|.lo rfl<|.q (.bH v)<|.q .gtr<|.mo rfl<|.split (t:=26) rfl (λd=>?_) (λd=>?_)
 refine .gF d<|.gF d<|.gF d<|.q (.aT d)<|.nil ?_
 ·exact aF () trivial (kE.c.c.c.bU rfl (by unfold iz;simp only;grind)) (aQ [1])
 refine .gT d<|.fa rfl<|.gT d<|.lo rfl<|.gT d<|.aY (LRE.jS 161 [] (λr=>iK isWord r.r) m k _ v.rx (λr N I K=>N4 r R (x.all r N) I λb o L=>K b o (.inl L))) (λu O=>?_)
 subst O
 refine .q (.aS d)<|.nil ?_
 ·exact aF () trivial (kE.c.c.c.bU rfl (by unfold iz;simp only;grind)) (aQ [1])
 intro y Q
 refine av<|.cond rfl (λs=>?_) λs=>?_
 refine .sr<|.az rfl<|.ret (bh (aH (cB (bh (aH (aP rfl ?_))))))
 ·refine⟨?_,rfl⟩
  rw[nV j (f:=iz) s,Bool.or_true]
  rfl
 refine .skip<|aV<|av<|.region<|.ia (i+1) .add<|.mo rfl<|.nil ?_
 ·exact aW (i+1) ⟨A,qm j B s⟩ (by omega) kE.c.c.c rH
 refine .exit<|bm<|bs<|bo<|av<|.sr<|.az rfl<|.ret (aP rfl ?_)
 ·refine⟨?_,rfl⟩
  have J:(decide (16<e.length)||decide (16<C.length))=false:=n
  have M:e.any iz=false:=by rw[<-dw (l:=e) (i:=i) (by have:=bA p;omega)];exact B
  rw[J,M]
  rfl
theorem Pr(c:bN)(R:aB)(h:c.is R):Spec prog 120 [.agg c.enc.toArray] R [] λu H'=>u=.bool (c.plain.right isWord dj)/\H'=[]:=by
 have hw:=R0 c R h
 have o:c.plain.lH isWord=false->c.iI/\∀s∈c.bg,∀r∈s.bR,r.r.nodes.length<=64:=λx=>by
  rw[qL]at x
  simp only[Bool.or_eq_false_iff,decide_eq_false_iff_not,List.any_eq_false,Nat.not_lt]at x
  refine⟨⟨by omega,λs a=>?_⟩,λs a r o=>?_⟩
  ·have:=x.2 s a
   unfold iz at this
   simp only[Bool.or_eq_true,decide_eq_true_eq,not_or,Nat.not_lt]at this
   exact this.1
  ·have:=x.2 s a
   unfold iz at this
   simp only[Bool.or_eq_true,decide_eq_true_eq,not_or,Nat.not_lt,List.any_eq_true,not_exists,not_and]at this
   have p:=this.2 r o
   unfold iK at p
   simp only[Bool.or_eq_true,decide_eq_true_eq,not_or,Nat.not_lt]at p
   exact p.1.2
 rw[A2]
 generalize a7:c.plain.lH isWord=mu at *
 obtain⟨vs,Z,A,a3⟩:=c
 have C:=h.ss
 have N:=h.sc
 have i1:=C.ap
 have i2:=N.ap
 simp only at C N i1 i2⊢
 have a5:=C.le
 refine Spec.body Tryz.func120 rfl Tryz.results120 Tryz.ntmps120 rfl<|.sr ?_
 refine .bY rfl (λb1=>?_)
 refine .ag rfl<|.zs<|.sr<|.q (.aM rfl)<|.aY (hw.weaken cZ) (λu g=>?_)
 subst g
 refine .q .not<|.zn<|.cond rfl (λK=>?_) λK=>?_
 have a2:mu=true:=by simpa using K
 refine .sr<|.az rfl<|.ret (aH (aP rfl ?_))
 ·refine⟨?_,rfl⟩
  rw[a2]
  simp
 have S:mu=false:=by simpa using K
 obtain⟨a4,T⟩:=o S
 simp only at T
 refine .kn<|.seq<|.sr<|.fa rfl<|.lo rfl<|.q (.bH C)<|.mo rfl<|.zn<|.block<|.cz [(1,_),(11,_),(12,_)] (X:=Nat) (λi=>i<=A.length/\(A.take i).all gZ=true) (λi E=>(13,iN i)::E) (λ_ G=>G) (λi=>A.length-i) 0 ⟨Nat.zero_le _,rfl⟩ kE.c.c.c.c rH ?_
 rintro i ⟨hi,U⟩
 refine .sr<|.q .lss<|.zs<|.cond rfl (λp=>?_) λp=>?_
 have Q:i<A.length:=cb p
 obtain⟨⟨D,I,j⟩,a⟩:=bL Q
 have H:=h.all _ (aO a)
 have F:RS R 3 cv.enc I j:=H.rs
 have b2:=F.ap
 have a6:=F.le
 have b5:ca (cy.enc ⟨D,I,j⟩):=⟨H.cT⟩
 refine .kn<|.seq<|.block<|.sr ?_
 refine .bx i C a (λb7=>?_)
 refine .q (.aM rfl) ?_
 refine .bX (λb4=>?_)
 refine .bP rfl rfl<|.zs<|.sr<|.fa rfl<|.lo rfl<|.aY (lp D H.n _) (λu g=>?_)
 subst g
 refine .q .not<|.zn<|.cond rfl (λL=>?_) λL=>?_
 refine .sr<|.az rfl<|.ret (aH (bh (aH (cB (bh (aH (aP rfl ?_)))))))
 ·refine⟨?_,rfl⟩
  rw[lA a (f:=gZ) (by unfold gZ;simp only;rw[show isWord D=false by simpa using L];rfl)]
  rfl
 refine .kn<|.sr<|.fa rfl<|.lo rfl<|.q (.bH F)<|.mo rfl<|.zn<|.block<|.cz [(1,_),(11,_),(12,_),(13,_),(22,_),(23,_)] (X:=Nat) (λk=>k<=j.length/\(j.take k).all jB=true) (λk E=>(24,iN k)::E) (λ_ G=>G) (λk=>j.length-k) 0 ⟨Nat.zero_le _,rfl⟩ kE.c.c.c.c.c.c.c rH ?_
 rintro k ⟨hk,V⟩
 refine .sr<|.q .lss<|.zs<|.cond rfl (λM=>?_) λM=>?_
 have O:k<j.length:=cb M
 obtain⟨⟨w,v,r⟩,o⟩:=bL O
 have z:=H.all _ (aO o)
 have Y:RS R 2 Ty.enc w r.types:=z.t
 have W:RS R 5 Nd.enc v r.nodes:=z.d
 have b3:=Y.ap
 have b0:=W.ap
 have a8:ca (cv.enc ⟨w,v,r⟩):=⟨z.cT⟩
 have a9:r.nodes.length<=64:=T _ (aO a) _ (aO o)
 refine .kn<|.seq<|.block<|.sr ?_
 refine .bx k F o (λb8=>?_)
 refine .q (.aM rfl) ?_
 refine .bX (λb6=>?_)
 refine .bP rfl rfl<|.zs ?_
 refine bz.cS [(1,_),(11,_),(12,_),(13,_),(22,_),(23,_),(24,_)] kE.c.c.c.c.c.c.c (X:=Unit) (λ_=>True) (λ_ E=>(42,.bool (!jB ⟨w,v,r⟩))::E) (λ_=>[bl b4 (cy.enc ⟨D,I,j⟩) 164,bl b1 [vs,Z] 25]) ?_ ?_
 refine .region<|.fa rfl<|.lo rfl<|.aY (lp r.name z.n _) (λu g=>?_)
 subst g
 refine .q .not<|.mo rfl<|.split (t:=32) rfl (λb=>?_) (λb=>?_)
 refine .gF b<|.gF b<|.gF b<|.gF b<|.q (.aT b)<|.mo rfl<|.gX<|.gX<|.gX<|.q .cU<|.nil ?_
 ·exact aF () trivial (kE.c.c.c.c.c.c.c.bU rfl (by
   have e:(r.types.any λt=> !ir isWord t)= !mO ⟨w,v,r⟩:=by unfold mO;simp[List.not_all_eq_any_not]
   unfold jB
   simp only[e]at *
   grind)) (aQ [1,1])
 refine .gT b<|.fa rfl<|.gT b<|.lo rfl<|.gT b<|.aY ((yn v r.nodes R W z.fd (by omega)).weaken cZ) (λu g=>?_)
 subst g
 refine .gT b<|.q .bQ<|.q (.aS b)<|.mo rfl<|.split (t:=38) rfl (λm=>?_) (λm=>?_)
 refine .gF m<|.gF m<|.gF m<|.q (.aT m)<|.nil ?_
 ·exact aF () trivial (kE.c.c.c.c.c.c.c.bU rfl (by
   have e:(r.types.any λt=> !ir isWord t)= !mO ⟨w,v,r⟩:=by unfold mO;simp[List.not_all_eq_any_not]
   unfold jB
   simp only[e]at *
   grind)) (aQ [1,1])
 refine .gT m<|.fa rfl<|.gT m<|.lo rfl<|.gT m<|.aY (LTY.jS 176 [] (λt=> !ir isWord t) w r.types _ Y.rx (λt ht J a0=>Pp t (z.ft t ht) J)) (λu g=>?_)
 subst g
 refine .q (.aS m)<|.nil ?_
 ·exact aF () trivial (kE.c.c.c.c.c.c.c.bU rfl (by
   have e:(r.types.any λt=> !ir isWord t)= !mO ⟨w,v,r⟩:=by unfold mO;simp[List.not_all_eq_any_not]
   unfold jB
   simp only[e]at *
   grind)) (aQ [1,1])
 intro y hy
 refine av<|.cond rfl (λB=>?_) λB=>?_
 refine .sr<|.az rfl<|.ret (bh (aH (cB (bh (bh (aH (cB (bh (aH (aP rfl ?_))))))))))
 ·refine⟨?_,rfl⟩
  rw[lA a (f:=gZ) (by unfold gZ;simp only;rw[lA o (f:=jB) (by simpa using B),Bool.and_false])]
  rfl
 refine .skip<|aV<|av<|.region<|.ia (k+1) .add<|.mo rfl<|.nil ?_
 ·exact aW (k+1) ⟨O,nh o V (by simpa using B)⟩ (by omega) kE.c.c.c.c.c.c.c rH
 have x:gZ ⟨D,I,j⟩=true:=by
  have B:j.all jB=true:=by rw[<-dw (l:=j) (i:=k) (by have:=bA M;omega)];exact V
  unfold gZ
  simp only[B,Bool.and_true]
  simpa using L
 refine .exit<|bm<|bs<|bo<|aV<|av<|.region<|.ia (i+1) .add<|.mo rfl<|.nil ?_
 ·exact aW (i+1) ⟨Q,nh a U x⟩ (by omega) kE.c.c.c.c (aQ [1])
 have a1:A.all gZ=true:=by rw[<-dw (l:=A) (i:=i) (by have:=bA p;omega)];exact U
 refine .exit<|bm<|bs<|bo<|av<|.sr<|.fa rfl<|.lo rfl<|.aY (LSC.jS 179 [] (λs=> !kJ isWord dj s) Z a3 _ N.rx (λs a J a0=>Pq s (h.fc s a) J)) (λu g=>?_)
 subst g
 refine .q .not<|.az rfl<|.ret (aP rfl ?_)
 ·refine⟨?_,rfl⟩
  rw[a1,S]
  simp[List.not_all_eq_any_not]
instance Ty.u7:fz prog 249 (λk:Ty=>.agg k.enc.toArray):=fz.agg yK Tryz.underlying249 rfl Ty.kinds Ty.eq
abbrev gl:=Nat×Nat
def lD(p:gl):List Value:=[iN p.1,iN p.2]
instance(p:gl):ca (lD p):=⟨by simp[lD,ap]⟩
abbrev mg(k:Ty):Value:=.agg k.enc.toArray
abbrev lO(p:gl):Value:=.agg (lD p).toArray
theorem Bz(i:Nat)(a:ByteArray):∀{rs:List Rl} {b k:Nat} {r:Rl},rs[k]? =some r->(lL i a b rs)[k]? =some ((⟨a,r.name⟩:Ty),(i,b+k))
 |[],b,k,r,h=>by simp at h
 |x::rs,b,0,r,h=>by simp only[List.getElem?_cons_zero,Option.some.injEq]at h;subst h;rfl
 |x::rs,b,k+1,r,h=>by
  rw[lL,List.getElem?_cons_succ,Bz i a (rs:=rs) (b:=b+1) (k:=k) (r:=r) (by simpa using h)]
  rw[show b+1+k=b+(k+1) by omega]
theorem BB:∀{l:List Sp} {b i k:Nat} {s:Sp} {r:Rl},l[i]? =some s->s.bR[k]? =some r->(gR b l)[cG l i+k]? =some ((⟨s.name,r.name⟩:Ty),(b+i,k))
 |[],b,i,k,s,r,h,_=>by simp at h
 |x::l,b,0,k,s,r,h,hr=>by
  simp only[List.getElem?_cons_zero,Option.some.injEq]at h
  subst h
  have a:=(List.getElem?_eq_some_iff.1 hr).1
  rw[gR,List.getElem?_append_left (by rw[oM];simpa[cG]using a)]
  simpa[cG]using Bz b x.name (b:=0) hr
 |x::l,b,i+1,k,s,r,h,hr=>by
  rw[gR,cG,List.getElem?_append_right (by rw[oM];omega),oM,show x.bR.length+cG l i+k-x.bR.length=cG l i+k by omega,BB (l:=l) (b:=b+1) (by simpa using h) hr,show b+1+i=b+(i+1) by omega]
theorem wS:∀(l:List Sp) (b:Nat),(gR b l).length=total l
 |[],b=>rfl
 |s::l,b=>by
  have:=wS l (b+1)
  unfold total at this⊢
  rw[gR,List.length_append,oM,this,List.length_cons,cG]
theorem Ae(t:Ty):∀M:List (Ty×gl),di t M=look t M
 |[]=>rfl
 |(k,x)::M=>by
  have a:=Ae t M
  unfold look at a⊢
  rw[di,List.find?_cons]
  by_cases e:t=k
  ·subst e;simp
  ·rw[if_neg e,a]
   have:decide (k=t)=false:=decide_eq_false λh=>e h.symm
   simp only[this]
def mv(M:List (ByteArray×Bool))(l:List ByteArray):Prop:=∀k,di k M=if k∈l then some true else none
theorem mv.nil:mv [] []:=λk=>by simp[di]
theorem mv.add{M:List (ByteArray×Bool)}{l:List ByteArray}(h:mv M l)(t:ByteArray):mv (dL t true M) (l++[t]):=λk=>by
 rw[pI,h k]
 by_cases e:k=t
 ·simp[e]
 ·simp[e]
def qf(xb:Nat)(c:bN)(T:ay):Prop:=∃vm Tm,T=(xb,.cells [c.vs,c.vc,vm].toArray 318 (0,0))::Tm/\MS mg lO vm (gR 0 c.plain.bg) Tm
theorem Of(c:bN)(R:aB)(h:c.is R):Spec prog 121 [.agg c.enc.toArray] R [] λu H'=>∃T,H'=[T]/\((c.plain.dU/\∃xb,u=.tuple [pT xb,.bool true].toArray/\qf xb c T)\/(¬c.plain.dU/\u=.tuple [.pointer none,.bool false].toArray)):=by
 have c2:∀(i:Nat) s,c.bg[i]? =some s->c.plain.bg[i]? =some s.plain:=λi s o=>by unfold bN.plain;simp only;rw[List.getElem?_map,o];rfl
 have c3:c.plain.bg.length=c.bg.length:=by unfold bN.plain;simp
 have N:c.plain.dU↔(c.bg.map (·.name)).Nodup/\((gR 0 c.plain.bg).map (·.1)).Nodup/\(c.scopes.map (·.name)).Nodup:=by
  unfold Cf.dU
  rw[wR]
  simp only[bN.plain,List.map_map]
  exact Iff.rfl
 have b2:∀xb T,qf xb c T↔∃vm Tm,T=(xb,.cells [c.vs,c.vc,vm].toArray 318 (0,0))::Tm/\MS mg lO vm (gR 0 c.plain.bg) Tm:=λ_ _=>Iff.rfl
 have d6:=wS c.plain.bg 0
 generalize e5:c.plain=pl at *
 generalize hS:gR 0 pl.bg=S at *
 have d5:∀i k s (r:Rl),pl.bg[i]? =some s->s.bR[k]? =some r->S[cG pl.bg i+k]? =some ((⟨s.name,r.name⟩:Ty),(i,k)):=λi k s r C D=>by
  have:=BB (b:=0) C D
  rw[hS,Nat.zero_add]at this
  exact this
 obtain⟨vs,Z,g,v⟩:=c
 have L:=h.ss
 have K:=h.sc
 have i1:=L.ap
 have i2:=K.ap
 simp only at L K i1 i2 c2 c3 N b2⊢
 have e2:=L.le
 have e1:=K.le
 refine Spec.body Tryz.func121 rfl Tryz.results121 Tryz.ntmps121 rfl ?_
 refine .sr ?_
 refine .bY rfl (λb1=>?_)
 refine .ag rfl<|.ag rfl<|.z<|.q (.aM rfl) ?_
 refine .makeMap (λB=>?_)
 refine .q .cR ?_
 refine .bY rfl (λa0=>?_)
 refine .ag rfl<|.z ?_
 refine .makeMap (λa9=>?_)
 refine .ag rfl<|.zs<|.sr<|.fa rfl<|.lo rfl<|.q (.bH L) ?_
 refine .mo rfl<|.zn<|.block ?_
 refine .cz [(1,_),(4,_),(5,_),(22,_),(23,_)] (G:=[bl a0 [vs,Z,.map (some B)] 318,bl b1 [vs,Z] 25]) (X:=Nat×List (ByteArray×Bool)×ay×ay) (λy=>y.1<=g.length/\((g.map (·.name)).take y.1).Nodup/\mv y.2.1 ((g.map (·.name)).take y.1)/\MS mg lO (.map (some B)) (S.take (cG pl.bg y.1)) y.2.2.1/\MS (λs:ByteArray=>.string s) (λb:Bool=>.bool b) (.map (some a9)) y.2.1 y.2.2.2) (λy E=>(24,iN y.1)::E) (λy G=>y.2.2.1::y.2.2.2::G) (λy=>g.length-y.1) (0,[],[(B,.map #[] 0)],[(a9,.map #[] 0)]) ⟨Nat.zero_le _,by simp,by simpa using mv.nil,by rw[show cG pl.bg 0=0 by cases pl.bg<;>rfl];exact MS.nil,MS.nil⟩ kE.c.c.c.c.c.c (aQ [2,0,0,0]) ?_
 rintro⟨i,M,U,Tb⟩ ⟨hi,V,a6,m,a1⟩
 simp only at hi V a6 m a1⊢
 refine .sr<|.q .lss<|.zs ?_
 refine .cond rfl (λC=>?_) λC=>?_
 have b8:i<g.length:=cb C
 obtain⟨⟨f,Q,n⟩,o⟩:=bL b8
 have a5:=h.all _ (aO o)
 have Y:RS R 3 cv.enc Q n:=a5.rs
 have e7:=Y.ap
 have e3:=Y.le
 have e9:ca (cy.enc ⟨f,Q,n⟩):=⟨a5.cT⟩
 have A:(g.map (·.name))[i]? =some f:=by rw[List.getElem?_map,o];rfl
 have c1:=c2 i _ o
 have c0:=oD c1
 rw[show(cy.plain ⟨f,Q,n⟩).bR.length=n.length by simp[cy.plain]]at c0
 refine .kn<|.seq<|.block<|.sr<|.mo rfl ?_
 refine .bx i L o (λf0=>?_)
 refine .q (.aM rfl) ?_
 refine .bX (λb7=>?_)
 refine .ag rfl<|.bP rfl rfl<|.zs<|.sr<|.mo rfl<|.fa rfl<|.lo rfl ?_
 refine .q (.ou a1.rx rfl (key:=f) rfl (show _=Value.bool (decide (f∈(g.map (·.name)).take i))from by rw[a6 f];split<;>simp_all)) ?_
 refine .zn ?_
 refine .cond rfl (λD=>?_) λD=>?_
 refine .sr<|.ag rfl<|.az rfl ?_
 refine .ret (aH (bh (aH (cB (bh (aH (bp _ (.two (.tmp rfl) (.tmp rfl)) (.one [0] _) ?_)))))))
 ·refine⟨_,rfl,.inr ⟨λH=>?_,rfl⟩⟩
  have x:f∈(g.map (·.name)).take i:=by simpa using D
  obtain⟨q,J,e⟩:=List.mem_iff_getElem.1 x
  rw[List.length_take]at J
  rw[List.getElem_take]at e
  exact mM (show q<i by omega) A (aX (by omega)) e.symm (N.1 H).1
 have a3:f∉(g.map (·.name)).take i:=by simpa using D
 have d1:((g.map (·.name)).take (i+1)).Nodup:=by rw[dG A,List.nodup_append];exact⟨V,by simp,λa ha b F=>by rw[List.mem_singleton]at F;subst F;intro e;subst e;exact a3 ha⟩
 have d7:mv (dL f true M) ((g.map (·.name)).take (i+1)):=by rw[dG A];exact a6.add f
 refine .kn<|.sr<|.mo rfl<|.fa rfl<|.lo rfl ?_
 refine .update (key:=f) (u:=true) a1 rfl rfl rfl (λa8 c6 _=>?_)
 refine .z<|.fa rfl<|.lo rfl<|.q (.bH Y) ?_
 refine .mo rfl<|.zn<|.block ?_
 refine .cz [(1,_),(4,_),(5,_),(6,_),(7,_),(22,_),(23,_),(24,_),(37,_),(38,_)] (G:=[a8,bl b7 (cy.enc ⟨f,Q,n⟩) 164,bl a0 [vs,Z,.map (some B)] 318,bl b1 [vs,Z] 25]) (X:=Nat×ay) (λy=>y.1<=n.length/\MS mg lO (.map (some B)) (S.take (cG pl.bg i+y.1)) y.2) (λy E=>(39,iN y.1)::E) (λy G=>y.2::G) (λy=>n.length-y.1) (0,U) ⟨Nat.zero_le _,m⟩ kE.c.c.c.c.c.c.c.c.c.c.c (aQ [1,1,0,0,0]) ?_
 rintro⟨k,U⟩ ⟨hk,m⟩
 simp only at hk m⊢
 refine .sr<|.q .lss<|.zs ?_
 refine .cond rfl (λh3=>?_) λh3=>?_
 have b6:k<n.length:=cb h3
 obtain⟨⟨vt,vn,r⟩,hr⟩:=bL b6
 have a4:=a5.all _ (aO hr)
 have e8:One vt:=RS.ap a4.t
 have e6:One vn:=RS.ap a4.d
 have e4:ca (cv.enc ⟨vt,vn,r⟩):=⟨a4.cT⟩
 have d4:(cy.plain ⟨f,Q,n⟩).bR[k]? =some r:=by unfold cy.plain;simp only;rw[List.getElem?_map,hr];rfl
 have b4:S[cG pl.bg i+k]? =some ((⟨f,r.name⟩:Ty),(i,k)):=d5 i k _ r c1 d4
 obtain⟨ps,O,d2,I⟩:∃(ps:gl) (O:Bool),[((di (⟨f,r.name⟩:Ty) (S.take (cG pl.bg i+k))).map lO).getD (lO (0,0)),Value.bool (di (⟨f,r.name⟩:Ty) (S.take (cG pl.bg i+k))).isSome]=[lO ps,.bool O]/\(di (⟨f,r.name⟩:Ty) (S.take (cG pl.bg i+k))).isSome=O:=by
  cases di (⟨f,r.name⟩:Ty) (S.take (cG pl.bg i+k))with
  |none=>exact⟨(0,0),false,rfl,rfl⟩
  |some p=>exact⟨p,true,rfl,rfl⟩
 refine .kn<|.seq<|.block<|.sr<|.mo rfl ?_
 refine .bx k Y hr (λf1=>?_)
 refine .q (.aM rfl) ?_
 refine .bX (λb9=>?_)
 refine .ag rfl<|.bP rfl rfl<|.z<|.fa rfl<|.lo rfl<|.fa rfl<|.lo rfl ?_
 refine .q .cR ?_
 refine .bX (λd8=>?_)
 refine .bP rfl rfl<|.zs<|.seq<|.cL [10] mixed ?_
 refine .tO 0 rfl .move<|.tO 1 rfl (.nilCheck rfl)<|.tO 2 rfl (.fieldAddr rfl)<|.tO 3 rfl (.bZ rfl)<|.tO 4 rfl (.aM rfl) ?_
 refine .fw 5 rfl (.cast (.pH m.rx rfl rfl) (congrArg (λl:List Value=>Value.tuple l.toArray) d2)) (by kernel_rfl) ?_
 refine .tO 6 rfl .move<|.tO 7 rfl .extract<|.tK 8 rfl .extract ?_
 refine .sT 9 rfl ?_
 refine .bX (λd9=>?_)
 refine .nil (Next.sub ?_)
 refine .sT 10 rfl ?_
 refine .bP rfl rfl ?_
 refine .nil (Next.mod rfl ?_)
 refine .tK 11 rfl .assign ?_
 refine RA.nil (by kernel_rfl) ?_
 refine av<|.sr<|.mo rfl<|.zn ?_
 refine .cond rfl (λh4=>?_) λh4=>?_
 refine .sr<|.ag rfl<|.az rfl ?_
 refine .ret (aH (bh (aH (cB (bh (bh (aH (cB (bh (aH (bp _ (.two (.tmp rfl) (.tmp rfl)) (.one [0] _) ?_)))))))))))
 ·refine⟨_,rfl,.inr ⟨λH=>?_,rfl⟩⟩
  have w:O=true:=h4
  rw[w]at I
  obtain⟨p,hp⟩:=Option.isSome_iff_exists.1 I
  have x:=vD hp
  obtain⟨q,J,e⟩:=List.mem_iff_getElem.1 x
  rw[List.length_take]at J
  rw[List.getElem_take]at e
  have c8:(S.map (·.1))[cG pl.bg i+k]? =some ⟨f,r.name⟩:=by rw[List.getElem?_map,b4];rfl
  have d3:(S.map (·.1))[q]? =some ⟨f,r.name⟩:=by rw[List.getElem?_map,aX (by omega),e];rfl
  exact mM (show q<cG pl.bg i+k by omega) c8 d3 rfl (N.1 H).2.1
 refine .kn ?_
 refine .dt 8 mixed (by kernel_rfl) ?_
 conv=>arg 6;dsimp only[List.take]
 refine .mo rfl<|.nc rfl<|.fa rfl<|.lo rfl<|.q (.aM rfl)<|.mo rfl<|.mo rfl ?_
 refine .q .cR ?_
 refine .nil ?_
 refine .update (key:=(⟨f,r.name⟩:Ty)) (u:=((i,k):gl)) m rfl rfl rfl (λc4 b3 _=>?_)
 rw[mK (by
  have w:O=false:=h4
  rw[w]at I
  intro x
  rw[Option.isSome_eq_false_iff,Option.isNone_iff_eq_none]at I
  exact vB.1 I x), <-dG b4]at b3
 refine .nil<|aV<|av<|.region ?_
 refine .ia (k+1) .add ?_
 refine .mo rfl<|.nil ?_
 ·exact aW (k+1,c4) ⟨b6,b3⟩ (by simp only;omega) kE.c.c.c.c.c.c.c.c.c.c.c (aQ [3,3,3,3,3])
 have d0:k=n.length:=by have:=bA h3;omega
 rw[d0, <-c0]at m
 refine .exit<|bm<|bs<|bo<|aV<|av<|.region ?_
 refine .ia (i+1) .add ?_
 refine .mo rfl<|.nil ?_
 ·exact aW (i+1,dL f true M,U,a8) ⟨b8,d1,d7,m,c6⟩ (by simp only;omega) kE.c.c.c.c.c.c (aQ [0,0,1,1])
 have c9:i=g.length:=by have:=bA C;omega
 subst c9
 rw[show cG pl.bg g.length=S.length by rw[<-c3,d6];rfl,List.take_length]at m
 rw[show g.length=(g.map (·.name)).length by rw[List.length_map],List.take_length]at V
 refine .exit<|bm<|bs<|bo<|av<|.sr ?_
 refine .makeMap (λb0=>?_)
 refine .ag rfl<|.zs<|.sr<|.fa rfl<|.lo rfl<|.q (.bH K) ?_
 refine .mo rfl<|.zn<|.block ?_
 refine .cz [(4,_),(13,_),(71,_),(72,_)] (X:=Nat×List (ByteArray×Bool)×ay) (λy=>y.1<=v.length/\((v.map (·.name)).take y.1).Nodup/\mv y.2.1 ((v.map (·.name)).take y.1)/\MS (λs:ByteArray=>.string s) (λb:Bool=>.bool b) (.map (some b0)) y.2.1 y.2.2) (λy E=>(73,iN y.1)::E) (λy G=>y.2.2::G) (λy=>v.length-y.1) (0,[],[(b0,.map #[] 0)]) ⟨Nat.zero_le _,by simp,by simpa using mv.nil,MS.nil⟩ kE.c.c.c.c.c rH ?_
 rintro⟨j,M3,Tc⟩ ⟨hj,W,a7,a2⟩
 simp only at hj W a7 a2⊢
 refine .sr<|.q .lss<|.zs ?_
 refine .cond rfl (λw=>?_) λw=>?_
 have b5:j<v.length:=cb w
 obtain⟨s,o⟩:=bL b5
 have A:(v.map (·.name))[j]? =some s.name:=by rw[List.getElem?_map,o];rfl
 refine .kn<|.seq<|.block<|.sr ?_
 refine .bx j K o (λf2=>?_)
 refine .q (.aM rfl) ?_
 refine .bX (λe0=>?_)
 refine .bP rfl rfl<|.zs<|.sr<|.mo rfl<|.fa rfl<|.lo rfl ?_
 refine .q (.ou a2.rx rfl (key:=s.name) rfl (show _=Value.bool (decide (s.name∈(v.map (·.name)).take j))from by rw[a7 s.name];split<;>simp_all)) ?_
 refine .zn ?_
 refine .cond rfl (λh6=>?_) λh6=>?_
 refine .sr<|.ag rfl<|.az rfl ?_
 refine .ret (aH (bh (aH (cB (bh (aH (bp _ (.two (.tmp rfl) (.tmp rfl)) (.one [0] _) ?_)))))))
 ·refine⟨_,rfl,.inr ⟨λH=>?_,rfl⟩⟩
  have x:s.name∈(v.map (·.name)).take j:=by simpa using h6
  obtain⟨q,J,e⟩:=List.mem_iff_getElem.1 x
  rw[List.length_take]at J
  rw[List.getElem_take]at e
  exact mM (show q<j by omega) A (aX (by omega)) e.symm (N.1 H).2.2
 have a3:s.name∉(v.map (·.name)).take j:=by simpa using h6
 refine .kn<|.region<|.mo rfl<|.fa rfl<|.lo rfl ?_
 refine .update (key:=s.name) (u:=true) a2 rfl rfl rfl (λc5 c7 _=>?_)
 refine .nil<|aV<|av<|.region ?_
 refine .ia (j+1) .add ?_
 refine .mo rfl<|.nil ?_
 ·exact aW (j+1,dL s.name true M3,c5) ⟨b5,by rw[dG A,List.nodup_append];exact⟨W,by simp,λa ha b F=>by rw[List.mem_singleton]at F;subst F;intro e;subst e;exact a3 ha⟩,by simp only;rw[dG A];exact a7.add s.name,c7⟩ (by simp only;omega) kE.c.c.c.c.c (aQ [1,1,1,1,1])
 refine .exit<|bm<|bs<|bo<|av<|.sr<|.mo rfl<|.ag rfl<|.az rfl ?_
 refine .ret (bp _ (.two (.tmp rfl) (.tmp rfl)) (.one [3,1] _) ?_)
 ·refine⟨_,rfl,.inl ⟨N.2 ⟨V,m.nd,?_⟩,a0,rfl,(b2 _ _).2 ⟨_,U,by simp[take,bJ],m⟩⟩⟩
  rw[dw (by rw[List.length_map];have:=bA w;omega)]at W
  exact W
theorem bf.ke{H:aR}:bf H [[]]:=⟨H.flatten,by simp⟩
structure IX(R:aB)(xb:Nat)(vm:Value)(c:bN):Prop where
 pc:PC R (pT xb) [c.vs,c.vc,vm]
 om:One vm
 ci:c.is R
 rm:RM R mg lO vm (gR 0 c.plain.bg)
theorem RM.pJ{κ β:Type} [DecidableEq κ]{R R':aB}{encK:κ->Value}{a:β->Value}{m:Value}{M:List (κ×β)}(h:RM R encK a m M)(i:∀b o,R b o->R' b o):RM R' encK a m M:=by
 obtain⟨b,d,c,e,f,g⟩:=h
 exact⟨b,d,c,e,i _ _ f,g⟩
theorem IX.mono{R R':aB}{xb:Nat}{vm:Value}{c:bN}(h:IX R xb vm c)(a:∀b o,R b o->R' b o):IX R' xb vm c:=⟨h.pc.mono a,h.om,h.ci.mono a,h.rm.pJ a⟩
theorem qf.view{R:aB}{xb:Nat}{c:bN}{T:ay}(h:qf xb c T)(e:c.is R):∃vm,IX (λb o=>R b o\/(b,o)∈T) xb vm c:=by
 obtain⟨vm,g,rfl,a⟩:=h
 refine⟨vm,⟨PC.of (E:=318) (fr:=(0,0)) ?_,a.one,e.mono λb o d=>.inl d,a.rm λp f=>.inr (by simp[f])⟩⟩
 exact .inr (by simp)
def bN.valid(c:bN)(p:gl):Prop:=∃s r,c.bg[p.1]? =some s/\s.bR[p.2]? =some r
def bN.ix(c:bN)(p:gl):Nat:=cG c.plain.bg p.1+p.2
theorem OY{c:bN}{i:Nat}{a:Sp}(h:c.plain.bg[i]? =some a):∃s,c.bg[i]? =some s/\a=s.plain:=by
 unfold bN.plain at h
 simp only at h
 rw[List.getElem?_map]at h
 cases hs:c.bg[i]? with
 |none=>rw[hs]at h;cases h
 |some s=>rw[hs]at h;exact⟨s,rfl,by simpa using h.symm⟩
theorem oF{c:bN}{i:Nat}{s:cy}(h:c.bg[i]? =some s):c.plain.bg[i]? =some s.plain:=by unfold bN.plain;simp only;rw[List.getElem?_map,h];rfl
theorem AR{s:cy}{k:Nat}{r:cv}(h:s.bR[k]? =some r):s.plain.bR[k]? =some r.r:=by unfold cy.plain;simp only;rw[List.getElem?_map,h];rfl
theorem Pk{s:cy}{k:Nat}{a:Rl}(h:s.plain.bR[k]? =some a):∃r,s.bR[k]? =some r/\a=r.r:=by
 unfold cy.plain at h
 simp only at h
 rw[List.getElem?_map]at h
 cases hs:s.bR[k]? with
 |none=>rw[hs]at h;cases h
 |some s=>rw[hs]at h;exact⟨s,rfl,by simpa using h.symm⟩
def nR(c:bN)(t:Ty)(ps:gl)(ok:Bool):Prop:=match bW c.plain.all t with
 |none=>ok=false
 |some j=>ok=true/\c.ix ps=j/\c.valid ps
theorem looked(c:bN)(t:Ty):∃(ps:gl) (ok:Bool),[((di t (gR 0 c.plain.bg)).map lO).getD (lO (0,0)),Value.bool (di t (gR 0 c.plain.bg)).isSome]=[lO ps,.bool ok]/\nR c t ps ok:=by
 have h:=NQ c.plain t
 rw[Ae]
 unfold nR
 cases hl:look t (gR 0 c.plain.bg)with
 |none=>rw[hl]at h;exact⟨(0,0),false,rfl,by rw[h]⟩
 |some p=>
  obtain⟨i,k⟩:=p
  rw[hl]at h
  obtain⟨a,s,r,b,d,_⟩:=h
  obtain⟨j,e,rfl⟩:=OY b
  obtain⟨g,f,rfl⟩:=Pk d
  exact⟨(i,k),true,rfl,by rw[a];exact⟨rfl,rfl,j,g,e,f⟩⟩
theorem wv{R:aB}{xb:Nat}{vm:Value}{c:bN}(h:IX R xb vm c)(p:gl)(s:cy)(r:cv)(e:c.bg[p.1]? =some s)(a:s.bR[p.2]? =some r):
  Spec prog 229 [pT xb,.agg (lD p).toArray] R [] λu H'=>u=.agg r.enc.toArray/\H'=[]:=by
 obtain⟨i,k⟩:=p
 obtain⟨I,w,H,G⟩:=c
 obtain⟨l,j,r⟩:=r
 have o:=h.pc
 have D:=h.om
 have g:=h.ci.ss
 have m:=g.ap
 have n:One w:=RS.ap h.ci.sc
 simp only at g m n e a o⊢
 have f:=h.ci.all _ (aO e)
 have b:=f.all _ (aO a)
 have B:One s.v:=RS.ap f.rs
 have z:ca (cv.enc ⟨l,j,r⟩):=⟨b.cT⟩
 have C:One l:=RS.ap b.t
 have A:One j:=RS.ap b.d
 refine Spec.body Tryz.func229 rfl Tryz.results229 Tryz.ntmps229 rfl<|.sr ?_
 refine .bY rfl (λx=>?_)
 refine .bX (λy=>?_)
 refine .zs<|.dt 14 mixed (by kernel_rfl) ?_
 conv=>arg 6;dsimp only[List.take]
 refine .mo rfl<|.nc rfl<|.fa rfl<|.fa rfl<|.lo rfl<|.fa rfl<|.lo rfl ?_
 refine .bx i g e (λE=>?_)
 refine .fa rfl<|.lo rfl<|.fa rfl<|.lo rfl ?_
 refine .bx k f.rs a (λF=>?_)
 refine .q (.aM rfl)<|.nil<|.bP rfl rfl<|.zn ?_
 refine .ret (bp _ (.one (.fB rfl rfl)) (.none _) ?_)
 ·exact⟨rfl,rfl⟩
theorem wM(v:Value)(l:List Ty)(R:aB)(h:RS R 2 Ty.enc v l)(w:l.length<=100000):Spec prog 230 [v] R [] λu H'=>∃T,H'=[T]/\OS 249 2 Ty.enc u (ee l) T:=by
 have C:=h.ap
 have x:=h.le
 refine Spec.body Tryz.func230 rfl Tryz.results230 Tryz.ntmps230 rfl ?_
 refine .sr<|.ag rfl<|.z<|.ag rfl<|.zs<|.sr<|.mo rfl<|.q (.bH h) ?_
 refine .mo rfl<|.zn<|.block ?_
 refine .cz [(6,_),(7,_)] (X:=Nat×Value×ay) (λy=>y.1<=l.length/\OS 249 2 Ty.enc y.2.1 (ee (l.take y.1)) y.2.2) (λy E=>(8,iN y.1)::(3,y.2.1)::E) (λy G=>y.2.2::G) (λy=>l.length-y.1) (0,sZ,[]) ⟨Nat.zero_le _,OS.nil⟩ kE.c.c.c.c bf.eL ?_
 rintro⟨i,p,f⟩ ⟨n,a⟩
 simp only at n a⊢
 have B:=a.ap
 have A:(ee (l.take i)).length<=100000:=Nat.le_trans (List.length_filter_le _ _) (by rw[List.length_take];omega)
 refine .sr<|.q .lss<|.zs ?_
 refine .cond rfl (λb=>?_) λb=>?_
 have e:i<l.length:=cb b
 obtain⟨t,j⟩:=bL e
 have g:=Bq j
 refine .kn<|.seq<|.block<|.sr ?_
 refine .bx i h j (λF=>?_)
 refine .q (.aM rfl) ?_
 refine .bX (λs=>?_)
 refine .bP rfl rfl<|.z<|.fa rfl<|.lo rfl<|.q .fU<|.zn ?_
 refine .cond rfl (λd=>?_) λd=>?_
 refine .region<|.mo rfl<|.q (.aM rfl) ?_
 refine .ej (λr=>?_)
 refine .append a (RS.lits (xs:=[t]) rfl (by simp[Ty.enc]) (by simp[Ty.enc,ap])) (by simp only[List.length_singleton];omega) (λo m k=>?_)
 have D:=k.ap
 refine .ag rfl<|.nil<|aV<|av<|.region ?_
 refine .ia (i+1) .add ?_
 refine .mo rfl<|.nil ?_
 ·exact aW (i+1,o,m) ⟨e,by simp only;rw[g,if_neg (by simpa using d)];exact k⟩ (by simp only;omega) kE.c.c.c.c (aQ [2])
 refine .skip<|aV<|av<|.region ?_
 refine .ia (i+1) .add ?_
 refine .mo rfl<|.nil ?_
 ·exact aW (i+1,p,f) ⟨e,by simp only;rw[g,if_pos (by simpa using d),List.append_nil];exact a⟩ (by simp only;omega) kE.c.c.c.c (aQ [1])
 refine .exit<|bm<|bs<|bo<|av<|.sr<|.mo rfl<|.az rfl ?_
 refine .ret (bp _ (.one (.tmp rfl)) (.one [0] _) ?_)
 ·refine⟨f,by simp[take],?_⟩
  rw[dw (gd b)]at a
  exact a
def pA(b:Bool):List Value:=[.bool b]
theorem Cn(v:Value)(l:List Nd)(R:aB)(h:RS R 5 Nd.enc v l)(U:fC isWord l≠0)(hl:l.length<=100000):Spec prog 231 [v] R [] λu H'=>∃T,H'=[T]/\OS 4 1 pA u (ng l) T:=by
 have iv:=h.ap
 have a9:=h.le
 obtain⟨d,a2⟩:=yo U
 obtain⟨_,_,_,S⟩:=iB _ _ a2
 have a0:(List.replicate l.length false).length=l.length:=List.length_replicate
 generalize K:List.replicate l.length false=out0 at *
 refine Spec.body Tryz.func231 rfl Tryz.results231 Tryz.ntmps231 rfl ?_
 refine .sr<|.ag rfl<|.z<|.mo rfl<|.q (.bH h) ?_
 refine .makeSlice (enc:=pA) l.length false rfl rfl (by decide) (by simp[pA,ap]) rfl rfl (by omega) (by omega) (λA O F=>?_)
 rw[K]at F
 refine .ag rfl<|.zs<|.sr<|.mo rfl<|.q (.bH h) ?_
 refine .q (.i64 ((l.length:Int)-1) .sub ⟨rfl,by omega,by omega⟩) ?_
 refine .az rfl<|.block ?_
 refine .cz [(0,_),(3,_)] (X:=Nat×ay) (λy=>y.1<=l.length/\OS 4 1 pA (.slice (some ⟨A,0,none⟩) l.length l.length) (down l y.1 (l.length-y.1) out0) y.2) (λy E=>(4,.int .i64 ((y.1:Int)-1))::E) (λy G=>y.2::G) (λy=>y.1) (l.length,O) ⟨Nat.le_refl _,by simp only;rw[Nat.sub_self];exact F⟩ kE.c.c.c rH ?_
 rintro⟨m,D⟩ ⟨W,g⟩
 simp only at W g⊢
 refine .seq<|.sr<|.mo rfl<|.q .geq<|.zn ?_
 refine .cond rfl (λj=>?_) λj=>?_
 obtain⟨e,rfl⟩:∃e,m=e+1:=⟨m-1,by have:=bS j;omega⟩
 obtain⟨n,r⟩:∃n,l[e]? =some n:=⟨_,aX (by omega)⟩
 have V:((e+1:Nat):Int)-1=(e:Int):=by omega
 have s:=S e (Nat.zero_le _) (by omega)
 have H:down l e (l.length-e) out0=gV l (down l (e+1) (l.length-(e+1)) out0) e:=by
  rw[show l.length-e=1+(l.length-(e+1)) by omega,ug]
  rfl
 have a8:(down l (e+1) (l.length-(e+1)) out0).length=l.length:=by rw[rR,a0]
 generalize hX:down l (e+1) (l.length-(e+1)) out0=X at *
 have i:gV l X e=if n.op then(X.set n.a.toNat (X.getD e false)).set n.b.toNat ((X.set n.a.toNat (X.getD e false)).getD e false||n.kind==6)else X:=by unfold gV;rw[r]
 have I:decide (4<=n.kind)=n.op:=by
  cases ho:n.op with
  |true=>unfold Nd.op at ho;simp only[Bool.or_eq_true,beq_iff_eq]at ho;exact decide_eq_true (by omega)
  |false=>
   rw[kO r ho]at s
   split at s
   ·rename_i C
    unfold Nd.leaf at C
    refine decide_eq_false λh4=>?_
    rw[if_neg (by omega),if_neg (by omega),if_neg (by omega),Bool.and_false]at C
    cases C
   ·cases s
 rw[V]
 refine .kn<|.seq<|.block<|.sr<|.mo rfl<|.mo rfl ?_
 refine .bx e h r (λb0=>?_)
 refine .q (.aM rfl) ?_
 refine .bX (λb5=>?_)
 refine .bP rfl rfl<|.z<|.fa rfl<|.lo rfl<|.q .geq<|.zn ?_
 refine .cond rfl (λk=>?_) λk=>?_
 have J:n.op=true:=by rw[<-I];exact k
 obtain⟨rr,a1⟩:=Option.isSome_iff_exists.1 s
 obtain⟨b',x',y',t1,t2,t3,t4,t5,_,_,_⟩:=mU r J a1
 have a6:=nM t1
 have a7:=(iB _ _ t3).1
 obtain⟨za,M⟩:∃z,X[n.a.toNat]? =some z:=⟨_,aX (by omega)⟩
 obtain⟨p,N⟩:∃z,X[e]? =some z:=⟨_,aX (by omega)⟩
 have a3:X.getD e false=p:=by rw[List.getD_eq_getElem?_getD,N];rfl
 rw[if_pos J,a3]at i
 obtain⟨z2,L⟩:∃z,(X.set n.a.toNat p)[e]? =some z:=⟨_,aX (by rw[List.length_set];omega)⟩
 obtain⟨z3,w⟩:∃z,(X.set n.a.toNat p)[n.b.toNat]? =some z:=⟨_,aX (by rw[List.length_set];omega)⟩
 have a4:(X.set n.a.toNat p).getD e false=z2:=by rw[List.getD_eq_getElem?_getD,L];rfl
 rw[a4]at i
 refine .seq ?_
 refine .dt 8 mixed (by kernel_rfl) ?_
 conv=>arg 6;dsimp only[List.take]
 refine .mo rfl<|.fa rfl<|.lo rfl<|.mo rfl<|.mo rfl ?_
 refine .aL e g N (λb1=>?_)
 refine .lo rfl ?_
 refine .aL n.a.toNat g M (λb2=>?_) rfl rfl (by omega)
 refine .nil ?_
 refine .dv n.a.toNat g M p (λT1 o=>?_)
 refine .zn ?_
 refine bz.cS [(0,_),(3,_),(4,_)] kE.c.c.c (X:=ay) (λT=>OS 4 1 pA (.slice (some ⟨A,0,none⟩) l.length l.length) (gV l X e) T) (λ_ E=>E) (λT=>[T]) ?_ ?_
 refine .dt 13 mixed (by kernel_rfl) ?_
 conv=>arg 6;dsimp only[List.take]
 refine .mo rfl<|.fa rfl<|.lo rfl<|.mo rfl<|.mo rfl ?_
 refine .aL e o L (λb3=>?_)
 refine .lo rfl<|.mo rfl ?_
 refine .split (t:=38) rfl (λf=>?_) (λf=>?_)
 refine .gF f<|.gF f<|.gF f<|.q (.aT f) ?_
 refine .aL n.b.toNat o w (λa5=>?_) rfl rfl (by omega)
 refine .nil ?_
 refine .dv n.b.toNat o w _ (λx B=>?_)
 refine .nil ?_
 ·exact aF x (by rw[i];simpa only[j,k,f,Bool.true_or,Bool.false_or]using B) kE.c.c.c (aQ [1])
 refine .gT f<|.fa rfl<|.gT f<|.lo rfl<|.gT f<|.q .bQ<|.q (.aS f) ?_
 refine .aL n.b.toNat o w (λa5=>?_) rfl rfl (by omega)
 refine .nil ?_
 refine .dv n.b.toNat o w _ (λx B=>?_)
 refine .nil ?_
 ·exact aF x (by rw[i];simpa only[j,k,f,Bool.true_or,Bool.false_or]using B) kE.c.c.c (aQ [1])
 intro y hy
 have Q:OS 4 1 pA (.slice (some ⟨A,0,none⟩) l.length l.length) (gV l X e) y:=hy
 refine aV<|av<|.region<|.mo rfl ?_
 refine .q (.i64 ((e:Int)-1) .sub ⟨rfl,by omega,by omega⟩) ?_
 refine .ag rfl<|.nil ?_
 ·exact aW (e,y) ⟨by simp only;omega,by simp only;rw[H];exact Q⟩ (by simp only;omega) kE.c.c.c rH
 have Z:¬n.op=true:=by rw[<-I,k];simp
 rw[if_neg Z]at i
 refine .skip<|aV<|av<|.region<|.mo rfl ?_
 refine .q (.i64 ((e:Int)-1) .sub ⟨rfl,by omega,by omega⟩) ?_
 refine .ag rfl<|.nil ?_
 ·exact aW (e,D) ⟨by simp only;omega,by simp only;rw[H,i];exact g⟩ (by simp only;omega) kE.c.c.c (aQ [1])
 refine .exit<|bm<|bs<|bo<|av<|.sr<|.mo rfl<|.az rfl ?_
 refine .ret (bp _ (.one (.tmp rfl)) (.one [0] _) ?_)
 ·refine⟨D,by simp[take],?_⟩
  have Y:m=0:=by have:=bA j;omega
  subst Y
  unfold ng
  rw[K]
  exact g
def NA(c:bN)(ok:Bool)(S:List gl)(o:Option (List Nat)):Prop:=match o with
 |none=>ok=false
 |some ts=>ok=true/\S.map c.ix=ts/\∀p∈S,c.valid p
def TN(l:List (ByteArray×Rl))(sp:ByteArray)(r:Rl)(n:Nd)(tys:List Ty):Prop:=targets l sp r.types n=findAll l tys/\tys.length<=8
theorem wL{a:List Ty}{n:Nat}(h:a.length<=n):(ee a).length<=n:=Nat.le_trans (List.length_filter_le _ _) h
theorem zb(l:List (ByteArray×Rl)):∀(a:List Ty) (t:Ty),findAll l (a++[t])=(findAll l a).bind λx=>(bW l t).map λi=>x++[i]
 |[],t=>by
  rw[List.nil_append,findAll,findAll]
  cases bW l t<;>rfl
 |x::a,t=>by
  rw[List.cons_append,findAll,findAll,zb l a t]
  cases bW l x with
  |none=>rfl
  |some i=>
   cases findAll l a with
   |none=>rfl
   |some u=>cases bW l t<;>rfl
theorem zc{l:List (ByteArray×Rl)}{t:Ty}{a:List Ty}(h:t∈a)(c:bW l t=none):findAll l a=none:=by
 cases hf:findAll l a with
 |none=>rfl
 |some o=>obtain⟨i,b,_⟩:=qB hf h;rw[c]at b;cases b
theorem oB{c:bN}{p:gl}{s:cy}{r:cv}(b:c.bg[p.1]? =some s)(a:s.bR[p.2]? =some r):c.plain.all[c.ix p]? =some (s.name,r.r):=by
 have:=xG (oF b) (AR a)
 unfold bN.ix Cf.all
 exact this
def bN.qz(c:bN):Prop:=∀s∈c.bg,∀r∈s.bR,r.r.types.length<=8/\r.r.nodes.length<=64/\fC isWord r.r.nodes≠0
theorem N6{R:aB}{xb:Nat}{vm:Value}{c:bN}(h:IX R xb vm c)(I:c.qz)(p:gl)(s:cy)(r:cv)(J:c.bg[p.1]? =some s)(hr:s.bR[p.2]? =some r)(n:Nd):
  Spec prog 232 [pT xb,.agg (lD p).toArray,.agg n.enc.toArray] R [] λu H'=>∃T,H'=[T]/\∃w S ok,u=.tuple [w,.bool ok].toArray/\OS 321 2 lD w S T/\S.length<=8/\
   NA c ok S (targets c.plain.all s.name r.r.types n):=by
 have b3:=wv h p s r J hr
 have a2:=h
 have b8:=(I s (aO J) r (aO hr)).1
 have b2:=looked c
 obtain⟨i,k⟩:=p
 have pc:=h.pc
 have om:=h.om
 have a7:=h.ci.ss
 have i1:=a7.ap
 have i2:One c.vc:=RS.ap h.ci.sc
 have b7:=h.ci.all _ (aO J)
 have a6:=b7.all _ (aO hr)
 have e0:One s.v:=RS.ap b7.rs
 have d8:ca (cv.enc r):=⟨a6.cT⟩
 simp only at J hr
 have e5:=a7.pc J
 generalize Y:c.plain.all=A at *
 refine Spec.body Tryz.func232 rfl Tryz.results232 Tryz.ntmps232 rfl ?_
 refine .sr ?_
 refine .bY rfl (λb4=>?_)
 refine .bY rfl (λb5=>?_)
 refine .ag rfl<|.ag rfl<|.zs ?_
 refine bz.cS [(0,_),(5,_)] kE.c.c (X:=Nat) (λ_=>True) (λy E=>(9,pT y)::(8,.string s.name)::E) (λy=>[bl y r.enc 167,bl b5 n.enc 199,bl b4 (lD (i,k)) 321]) ?_ ?_
 refine .cL [15] mixed ?_
 refine .tO 0 rfl .move<|.tO 1 rfl (.nilCheck rfl)<|.tO 2 rfl (.fieldAddr rfl)<|.tO 3 rfl (.fieldAddr rfl)<|.tO 4 rfl (.bZ rfl)<|.tO 5 rfl (.fieldAddr rfl)<|.tO 6 rfl (.bZ rfl) ?_
 refine .tO 7 rfl (.bx i a7 J rfl rfl rfl) ?_
 refine .tO 8 rfl (.fieldAddr rfl)<|.tO 9 rfl (.bZ rfl)<|.tO 10 rfl .move<|.tO 11 rfl (.aM rfl) ?_
 refine RA.kL 12 13 rfl rfl (by kernel_rfl) rfl ?_ ?_
 refine .aY (b3.weaken cZ) (λu B=>?_)
 subst B
 refine .nil (Next.sub ?_)
 refine .sT 13 rfl ?_
 refine .bX (λb9=>?_)
 refine .nil (Next.sub ?_)
 refine .tO 14 rfl .assign ?_
 refine .sT 15 rfl ?_
 refine .bP rfl rfl ?_
 refine .nil (Next.mod rfl ?_)
 refine RA.nil (by kernel_rfl) ?_
 ·exact aF b9 trivial kE.c.c.c.c rH
 refine .bX (λb9=>?_)
 refine .nil (Next.sub ?_)
 refine .sT 12 rfl ?_
 refine .aY (b3.weaken cZ) (λu B=>?_)
 subst B
 refine .nil (Next.sub ?_)
 refine .tO 14 rfl .assign ?_
 refine .sT 15 rfl ?_
 refine .bP rfl rfl ?_
 refine .nil (Next.mod rfl ?_)
 refine RA.nil (by kernel_rfl) ?_
 ·exact aF b9 trivial kE.c.c.c.c rH
 intro y hy
 obtain⟨vt,vn,r⟩:=r
 have b6:RS R 2 Ty.enc vt r.types:=a6.t
 have e1:One vt:=b6.ap
 have d9:One vn:=RS.ap a6.d
 refine av<|.sr<|.ag rfl<|.zs<|.sr<|.fa rfl<|.lo rfl<|.zn<|.block<|.sr<|.q .bQ<|.az rfl ?_
 refine bz.cS [(0,_)] kE.c (X:=Value×List Ty×ay) (λy=>OS 249 2 Ty.enc y.1 y.2.1 y.2.2/\TN A s.name r n y.2.1) (λy E=>(10,y.1)::E) (λy=>[y.2.2]) ?_ ?_
 refine .cond rfl (λD=>?_) λD=>?_
 refine .region<|.fa rfl<|.lo rfl ?_
 refine .cO (wM vt r.types _ b6.rx (by simp only at b8;omega)) (λu L B=>?_)
 have iu:=B.ap
 refine .ag rfl<|.nil ?_
 ·exact aF (u,ee r.types,L) ⟨B,by unfold targets;rw[if_pos (by simpa using D)],wL b8⟩ kE.c.c (aQ [0])
 refine .sr<|.q .bQ<|.az rfl ?_
 refine .cond rfl (λH=>?_) λH=>?_
 refine .region<|.mo rfl<|.fa rfl<|.lo rfl ?_
 refine .q .cR ?_
 refine .ej (λd6=>?_)
 refine .ag rfl<|.nil ?_
 ·exact aF (_,[(⟨s.name,n.rel⟩:Ty)],_) ⟨OS.lits (xs:=[(⟨s.name,n.rel⟩:Ty)]) rfl (by simp[Ty.enc]) (by simp[Ty.enc,ap]),by unfold targets;rw[if_neg (by simpa using D),if_pos (by simpa using H)],by simp⟩ ((kE.d rfl).d rfl) (aQ [0])
 refine .sr<|.q .bQ<|.az rfl ?_
 refine .cond rfl (λM=>?_) λM=>?_
 obtain⟨C,ok,a5,a⟩:=b2 (⟨s.name,n.rel⟩:Ty)
 refine .seq<|.cL [13] mixed ?_
 refine .tO 0 rfl .move<|.tO 1 rfl (.nilCheck rfl)<|.tO 2 rfl (.fieldAddr rfl)<|.tO 3 rfl (.bZ rfl)<|.tO 4 rfl .move<|.tO 5 rfl (.fieldAddr rfl)<|.tO 6 rfl (.bZ rfl) ?_
 refine .tO 7 rfl .cR ?_
 refine .fw 8 rfl (.cast (.pH (a2.rm.pJ λb o hb=>.inl hb) rfl rfl) (congrArg (λl:List Value=>Value.tuple l.toArray) a5)) (by kernel_rfl) ?_
 refine .tO 9 rfl .move<|.tO 10 rfl .extract<|.tK 11 rfl .extract ?_
 refine .sT 12 rfl ?_
 refine .bX (λd2=>?_)
 refine .nil (Next.sub ?_)
 refine .sT 13 rfl ?_
 refine .bP rfl rfl ?_
 refine .nil (Next.mod rfl ?_)
 refine .tK 14 rfl .assign ?_
 refine RA.nil (by kernel_rfl) ?_
 refine av<|.seq<|.sr<|.mo rfl<|.q .not<|.zn ?_
 refine .cond rfl (λh4=>?_) λh4=>?_
 refine .sr<|.ag rfl<|.az rfl ?_
 refine .ret (aH (iZ (bh (aH (bp _ (.two (.tmp rfl) (.tmp rfl)) bf.ke ?_)))))
 ·refine⟨[],rfl,_,[],false,rfl,OS.nil,by simp,?_⟩
  have O:ok=false:=by simpa using h4
  have m:bW A ⟨s.name,n.rel⟩=none:=by
   unfold nR at a
   rw[Y]at a
   cases hf:bW A ⟨s.name,n.rel⟩with
   |none=>rfl
   |some j=>rw[hf]at a;rw[a.1]at O;cases O
  unfold targets
  rw[if_neg (by simpa using D),if_neg (by simpa using H),if_pos (by simpa using M),m]
  rfl
 have a4:ok=true:=by simpa using h4
 subst a4
 obtain⟨j,m,a3,s2,f,a1,a0⟩:∃j,bW A ⟨s.name,n.rel⟩=some j/\c.ix C=j/\c.valid C:=by
  unfold nR at a
  rw[Y]at a
  cases hf:bW A ⟨s.name,n.rel⟩with
  |none=>rw[hf]at a;cases a
  |some j=>rw[hf]at a;exact⟨j,rfl,a.2.1,a.2.2⟩
 have c4:=wv a2 C s2 f a1 a0
 obtain⟨c0,e6,f⟩:=f
 have c5:=(h.ci.all _ (aO a1)).all _ (aO a0)
 have c6:RS R 2 Ty.enc c0 f.types:=c5.t
 have c7:f.types.length<=8:=(I _ (aO a1) _ (aO a0)).1
 have a9:(A.map (·.2.types)).getD j []=f.types:=by
  have:=oB a1 a0
  rw[Y,a3]at this
  rw[List.getD_eq_getElem?_getD,List.getElem?_map,this]
  rfl
 refine .kn<|.seq<|.sr<|.mo rfl<|.q (.aM rfl) ?_
 refine .aY (c4.weaken cZ) (λu B=>?_)
 subst B
 refine .q (.MX Tryz.underlying167 rfl rfl yC rfl) ?_
 refine .cO (wM c0 f.types _ c6.rx (by omega)) (λu T2 a8=>?_)
 have e2:=a8.ap
 have c9:=wL c7
 refine .q (.dK a8) ?_
 refine .mo rfl<|.zn<|.block ?_
 refine .cz [(0,_),(5,_),(67,_),(68,_)] (X:=Nat×Value×ay) (λy=>y.1<=(ee f.types).length/\OS 249 2 Ty.enc y.2.1 (((ee f.types).take y.1).map λt=>(⟨t.space,n.dz⟩:Ty)) y.2.2) (λy E=>(69,iN y.1)::(10,y.2.1)::E) (λy G=>y.2.2::G) (λy=>(ee f.types).length-y.1) (0,sZ,[]) ⟨Nat.zero_le _,OS.nil⟩ kE.c.c.c.c.c.c bf.eL ?_
 rintro⟨q,vo,To⟩ ⟨hq,g⟩
 simp only at hq g⊢
 have io:=g.ap
 refine .sr<|.q .lss<|.zs ?_
 refine .cond rfl (λh5=>?_) λh5=>?_
 have Q:q<(ee f.types).length:=by have:=bS h5;omega
 obtain⟨t,K⟩:=bL Q
 refine .kn<|.seq<|.block<|.sr ?_
 refine .aL q a8 K (λe3=>?_)
 refine .q (.aM rfl) ?_
 refine .bX (λd3=>?_)
 refine .bP rfl rfl<|.zn<|.region<|.mo rfl<|.fa rfl<|.lo rfl<|.fa rfl<|.lo rfl ?_
 refine .q .cR ?_
 refine .ej (λd7=>?_)
 refine .append g (RS.lits (xs:=[(⟨t.space,n.dz⟩:Ty)]) rfl (by simp[Ty.enc]) (by simp[Ty.enc,ap])) (by simp only[List.length_map,List.length_take,List.length_singleton];omega) (λv1 L U=>?_)
 have d0:=U.ap
 refine .ag rfl<|.nil<|aV<|av<|.region ?_
 refine .ia (q+1) .add ?_
 refine .mo rfl<|.nil ?_
 ·exact aW (q+1,v1,L) ⟨Q,by simp only;rw[dG K,List.map_append];exact U⟩ (by simp only;omega) kE.c.c.c.c.c.c (aQ [2,2,2,2,2,2])
 rw[dw (gd h5)]at g
 refine .exit<|bm<|bs<|bo<|av<|.sr<|.mo rfl<|.q (.dK g) ?_
 refine .q .bQ<|.zn ?_
 refine .cond rfl (λW=>?_) λW=>?_
 have c3:ee f.types=[]:=by have N:=eq_of_beq W;rw[List.length_map]at N;exact List.eq_nil_of_length_eq_zero (by omega)
 refine .sr<|.ag rfl<|.az rfl ?_
 refine .ret (iZ (bh (aH (bp _ (.two (.tmp rfl) (.tmp rfl)) bf.ke ?_))))
 ·refine⟨[],rfl,_,[],false,rfl,OS.nil,by simp,?_⟩
  unfold targets
  rw[if_neg (by simpa using D),if_neg (by simpa using H),if_pos (by simpa using M),m]
  simp only
  rw[a9,c3]
  rfl
 have c2:ee f.types≠[]:=by intro e;rw[e]at W;simp at W
 refine .skip ?_
 ·exact aF (vo,(ee f.types).map λt=>(⟨t.space,n.dz⟩:Ty),To) ⟨g,by
   unfold targets
   rw[if_neg (by simpa using D),if_neg (by simpa using H),if_pos (by simpa using M),m]
   simp only
   rw[a9]
   cases hz:ee f.types with
   |nil=>exact absurd hz c2
   |cons z zs=>rfl,by rw[List.length_map];exact c9⟩ kE.c.c (aQ [0])
 refine .skip ?_
 ·exact aF (sZ,[],[]) ⟨OS.nil,by unfold targets;rw[if_neg (by simpa using D),if_neg (by simpa using H),if_neg (by simpa using M)];rfl,by simp⟩ kE.c.c bf.ke
 intro x hx
 obtain⟨w,V,Tt⟩:=x
 obtain⟨Z,b1,c1⟩:=hx
 simp only at Z b1 c1⊢
 have iw:=Z.ap
 rw[b1]
 refine aV<|av<|.sr<|.ag rfl<|.zs<|.sr<|.mo rfl<|.q (.dK Z) ?_
 refine .mo rfl<|.zn<|.block ?_
 refine .cz [(0,_),(85,_),(86,_)] (X:=Nat×Value×List gl×ay) (λy=>y.1<=V.length/\OS 321 2 lD y.2.1 y.2.2.1 y.2.2.2/\y.2.2.1.length=y.1/\NA c true y.2.2.1 (findAll A (V.take y.1))) (λy E=>(87,iN y.1)::(15,y.2.1)::E) (λy G=>y.2.2.2::G) (λy=>V.length-y.1) (0,sZ,[],[]) ⟨Nat.zero_le _,OS.nil,rfl,⟨rfl,rfl,λp hp=>(by cases hp)⟩⟩ kE.c.c.c.c.c bf.eL ?_
 rintro⟨q,vo,S,To⟩ ⟨hq,g,b0,F⟩
 simp only at hq g b0 F⊢
 have io:=g.ap
 refine .sr<|.q .lss<|.zs ?_
 refine .cond rfl (λN=>?_) λN=>?_
 have Q:q<V.length:=cb N
 obtain⟨t,K⟩:=bL Q
 obtain⟨C,ok,a5,a⟩:=b2 t
 unfold nR at a
 rw[Y]at a
 refine .kn<|.seq<|.block<|.sr ?_
 refine .aL q Z K (λe4=>?_)
 refine .q (.aM rfl) ?_
 refine .bX (λd4=>?_)
 refine .bP rfl rfl<|.zs<|.cL [10] mixed ?_
 refine .tO 0 rfl .move<|.tO 1 rfl (.nilCheck rfl)<|.tO 2 rfl (.fieldAddr rfl)<|.tO 3 rfl (.bZ rfl)<|.tO 4 rfl (.aM rfl) ?_
 refine .fw 5 rfl (.cast (.pH (a2.rm.pJ λb o hb=>.inl hb) rfl rfl) (congrArg (λl:List Value=>Value.tuple l.toArray) a5)) (by kernel_rfl) ?_
 refine .tO 6 rfl .move<|.tO 7 rfl .extract<|.tK 8 rfl .extract ?_
 refine .sT 9 rfl ?_
 refine .bX (λd5=>?_)
 refine .nil (Next.sub ?_)
 refine .sT 10 rfl ?_
 refine .bP rfl rfl ?_
 refine .nil (Next.mod rfl ?_)
 refine .tK 11 rfl .assign ?_
 refine RA.nil (by kernel_rfl) ?_
 refine av<|.seq<|.sr<|.mo rfl<|.q .not<|.zn ?_
 refine .cond rfl (λI=>?_) λI=>?_
 refine .sr<|.ag rfl<|.az rfl ?_
 refine .ret (aH (bh (aH (cB (bh (aH (bp _ (.two (.tmp rfl) (.tmp rfl)) bf.ke ?_)))))))
 ·refine⟨[],rfl,_,[],false,rfl,OS.nil,by simp,?_⟩
  have O:ok=false:=by simpa using I
  have m:bW A t=none:=by
   cases hf:bW A t with
   |none=>rfl
   |some j=>rw[hf]at a;rw[a.1]at O;cases O
  rw[zc (aO K) m]
  rfl
 have a4:ok=true:=by simpa using I
 subst a4
 obtain⟨j,m,a3,c8⟩:∃j,bW A t=some j/\c.ix C=j/\c.valid C:=by
  cases hf:bW A t with
  |none=>rw[hf]at a;cases a
  |some j=>rw[hf]at a;exact⟨j,rfl,a.2.1,a.2.2⟩
 refine .kn<|.region<|.mo rfl<|.q (.aM rfl) ?_
 refine .ej (λd1=>?_)
 refine .append g (RS.lits (xs:=[C]) rfl (by simp[lD]) (by simp[lD,ap])) (by simp only[List.length_singleton];omega) (λv1 L U=>?_)
 have d0:=U.ap
 refine .ag rfl<|.nil<|aV<|av<|.region ?_
 refine .ia (q+1) .add ?_
 refine .mo rfl<|.nil ?_
 ·exact aW (q+1,v1,S++[C],L) ⟨Q,U,by simp[b0],by
   simp only
   rw[dG K,zb,m]
   cases hf:findAll A (V.take q)with
   |none=>rw[hf]at F;cases F
   |some o=>
    rw[hf]at F
    obtain⟨_,n1,n2⟩:=F
    refine⟨rfl,by rw[List.map_append,n1];simp[a3],λp hp=>?_⟩
    rcases List.mem_append.1 hp with hp|hp
    ·exact n2 p hp
    ·rw[List.mem_singleton]at hp;subst hp;exact c8⟩ (by simp only;omega) kE.c.c.c.c.c (aQ [3,3])
 rw[dw (gd N)]at F
 refine .exit<|bm<|bs<|bo<|av<|.sr<|.mo rfl<|.ag rfl<|.az rfl ?_
 refine .ret (bp _ (.two (.tmp rfl) (.tmp rfl)) (.one [0] _) ?_)
 ·exact⟨To,by simp[take],vo,S,true,rfl,g,by omega,F⟩
abbrev jP:=gl×gl×Bool
def jK(e:jP):List Value:=[iN e.1.1,iN e.1.2,iN e.2.1.1,iN e.2.1.2,.bool e.2.2]
instance(e:jP):ca (jK e):=⟨by simp[jK,ap]⟩
def bN.ed(c:bN)(e:jP):Ed:=⟨c.ix e.1,c.ix e.2.1,e.2.2⟩
def EA(c:bN)(ok:Bool)(Es:List jP)(o:Option (List Ed)):Prop:=match o with
 |none=>ok=false
 |some E=>ok=true/\Es.map c.ed=E/\∀e∈Es,c.valid e.1/\c.valid e.2.1
theorem tY{α β:Type}{f:α->Option (List β)}{x:α}:∀{l:List α},x∈l->f x=none->cat f l=none
 |[],hx,_=>by cases hx
 |y::l,hx,h=>by
  rw[cat]
  rcases List.mem_cons.1 hx with rfl|hx
  ·rw[h];rfl
  ·rw[tY hx h]
   cases f y<;>rfl
theorem EA.nW{c:bN}{d f:List jP}{a b:Option (List Ed)}(g:EA c true d a)(h:EA c true f b):EA c true (d++f) (a.bind λx=>b.map (x++ ·)):=by
 cases a with
 |none=>cases g
 |some a=>
  cases b with
  |none=>cases h
  |some b=>
   obtain⟨_,i,j⟩:=g
   obtain⟨_,k,l⟩:=h
   refine⟨rfl,by rw[List.map_append,i,k],λe he=>?_⟩
   rcases List.mem_append.1 he with he|he
   ·exact j e he
   ·exact l e he
theorem EA.nil{c:bN}:EA c true [] (some []):=⟨rfl,rfl,λe a=>(by cases a)⟩
theorem Dv{R:aB}{xb:Nat}{vm:Value}{c:bN}(h:IX R xb vm c)(h8:c.qz)(p:gl)(s:cy)(r:cv)(I:c.bg[p.1]? =some s)(H:s.bR[p.2]? =some r):
  Spec prog 181 [pT xb,.agg (lD p).toArray] R [] λu H'=>∃T,H'=[T]/\∃w Es ok,u=.tuple [w,.bool ok].toArray/\OS 325 5 jK w Es T/\Es.length<=512/\
   EA c ok Es (la c.plain.all (c.ix p) s.name r.r):=by
 have d3:=wv h p s r I H
 have a8:=λn=>N6 h h8 p s r I H n
 have c6:=h
 obtain⟨b5,d0,a5⟩:=h8 s (aO I) r (aO H)
 have c8:=looked c
 have d7:c.valid p:=⟨s,r,I,H⟩
 have pc:=h.pc
 have om:=h.om
 have a1:=(h.ci.all _ (aO I)).all _ (aO H)
 generalize hA:c.plain.all=A at *
 generalize c7:c.ix p=j0 at *
 have N:la A j0 s.name r.r=if(findAll A (ee r.r.types)).isSome then cat (λk:Nat=>(r.r.nodes[k]?).bind λn=>fp A j0 s.name r.r ((ng r.r.nodes).getD k false) n) (List.range' 0 r.r.nodes.length)else none:=rfl
 obtain⟨U,Q,r⟩:=r
 have b4:RS R 2 Ty.enc U r.types:=a1.t
 have O:RS R 5 Nd.enc Q r.nodes:=a1.d
 have e7:One U:=b4.ap
 have e6:One Q:=O.ap
 have e4:ca (cv.enc ⟨U,Q,r⟩):=⟨a1.cT⟩
 have d8:=wL b5
 simp only at b5 d0 a5 N a8 d8⊢
 have e3:(ng r.nodes).length=r.nodes.length:=by unfold ng;rw[rR,List.length_replicate]
 refine Spec.body Tryz.func181 rfl Tryz.results181 Tryz.ntmps181 rfl<|.sr ?_
 refine .bY rfl (λb3=>?_)
 refine .ag rfl<|.ag rfl<|.z<|.mo rfl<|.q (.aM rfl)<|.aY (d3.weaken cZ) (λu hu=>?_)
 subst hu
 refine .bX (λb6=>?_)
 refine .bP rfl rfl<|.zs<|.sr<|.fa rfl<|.lo rfl<|.cO (wM U r.types _ b4.rx (by omega)) (λu T2 a3=>?_)
 have e8:=a3.ap
 refine .q (.dK a3)<|.mo rfl<|.zn<|.block<|.cz [(0,_),(3,_),(6,_),(24,_),(25,_)] (X:=Nat) (λq=>q<=(ee r.types).length/\((ee r.types).take q).all (λt=>(bW A t).isSome)=true) (λq E=>(26,iN q)::E) (λ_ G=>G) (λq=>(ee r.types).length-q) 0 ⟨Nat.zero_le _,rfl⟩ kE.c.c.c.c.c.c rH ?_
 rintro q ⟨hq,M⟩
 refine .sr<|.q .lss<|.zs<|.cond rfl (λV=>?_) λV=>?_
 have b1:q<(ee r.types).length:=by have:=bS V;omega
 obtain⟨t,a2⟩:=bL b1
 obtain⟨ps,ok,d1,v⟩:=c8 t
 unfold nR at v
 rw[hA]at v
 refine .kn<|.seq<|.block<|.sr ?_
 refine .aL q a3 a2 (λf1=>?_)
 refine .q (.aM rfl) ?_
 refine .bX (λb8=>?_)
 refine .bP rfl rfl<|.zs<|.cL [10] mixed<|.tO 0 rfl .move<|.tO 1 rfl (.nilCheck rfl)<|.tO 2 rfl (.fieldAddr rfl)<|.tO 3 rfl (.bZ rfl)<|.tO 4 rfl (.aM rfl)<|.fw 5 rfl (.cast (.pH (c6.rm.pJ λb o hb=>.inl hb) rfl rfl) (congrArg (λl:List Value=>Value.tuple l.toArray) d1)) (by kernel_rfl)<|.tO 6 rfl .move<|.tO 7 rfl .extract<|.tK 8 rfl .extract<|.sT 9 rfl ?_
 refine .bX (λb9=>?_)
 refine .nil<|Next.sub<|.sT 10 rfl<|.bP rfl rfl<|.nil<|Next.mod rfl<|.tK 11 rfl .assign<|RA.nil (by kernel_rfl)<|av<|.sr<|.mo rfl<|.q .not<|.zn<|.cond rfl (λW=>?_) λW=>?_
 refine .sr<|.ag rfl<|.az rfl<|.ret (bh (aH (cB (bh (aH (bp _ (.two (.tmp rfl) (.tmp rfl)) bf.ke ?_))))))
 ·refine⟨[],rfl,_,[],false,rfl,OS.nil,by simp,?_⟩
  have F:ok=false:=by simpa using W
  have hj:bW A t=none:=by
   cases f:bW A t with
   |none=>rfl
   |some j=>rw[f]at v;rw[v.1]at F;cases F
  rw[N,zc (aO a2) hj]
  rfl
 have f:(bW A t).isSome=true:=by
  have L:ok=true:=by simpa using W
  cases f:bW A t with
  |none=>rw[f]at v;rw[v]at L;cases L
  |some j=>rfl
 refine .skip<|aV<|av<|.region<|.ia (q+1) .add<|.mo rfl<|.nil ?_
 ·exact aW (q+1) ⟨b1,nh a2 M f⟩ (by omega) kE.c.c.c.c.c.c (aQ [2,2,2,2])
 have c5:(findAll A (ee r.types)).isSome=true:=by
  have i:=rY A (ee r.types)
  rw[dw (gd V)]at M
  cases f:findAll A (ee r.types)with
  |none=>rw[f]at i;rw[show _=false from i]at M;cases M
  |some o=>rfl
 rw[if_pos c5]at N
 rw[N]
 generalize hg:(λk:Nat=>(r.nodes[k]?).bind λn=>fp A j0 s.name r ((ng r.nodes).getD k false) n)=g at *
 refine .exit<|bm<|bs<|bo<|av<|.sr<|.fa rfl<|.lo rfl<|.cO (Cn Q r.nodes _ O.rx a5 (by omega)) (λu T9 b7=>?_)
 have e9:=b7.ap
 refine .ag rfl<|.z<|.ag rfl<|.zs<|.sr<|.fa rfl<|.lo rfl<|.q (.bH O)<|.mo rfl<|.zn<|.block<|.cz [(0,_),(3,_),(11,_),(46,_),(47,_)] (X:=Nat×Value×List jP×ay) (λy=>y.1<=r.nodes.length/\OS 325 5 jK y.2.1 y.2.2.1 y.2.2.2/\y.2.2.1.length<=8*y.1/\EA c true y.2.2.1 (cat g (List.range' 0 y.1))) (λy E=>(48,iN y.1)::(12,y.2.1)::E) (λy G=>y.2.2.2::G) (λy=>r.nodes.length-y.1) (0,sZ,[],[]) ⟨Nat.zero_le _,OS.nil,by simp,EA.nil⟩ kE.c.c.c.c.c.c.c bf.eL ?_
 rintro⟨m,vo,Es,To⟩ ⟨hm,K,c2,hE⟩
 simp only at hm K c2 hE⊢
 have io:=K.ap
 refine .sr<|.q .lss<|.zs<|.cond rfl (λY=>?_) λY=>?_
 have a7:m<r.nodes.length:=cb Y
 obtain⟨n,a9⟩:=bL a7
 obtain⟨J,a4⟩:∃b,(ng r.nodes)[m]? =some b:=⟨_,aX (by omega)⟩
 have a6:g m=fp A j0 s.name r J n:=by
  rw[<-hg]
  simp only[a9,Option.bind_some]
  rw[List.getD_eq_getElem?_getD,a4]
  rfl
 have d4:List.range' 0 (m+1)=List.range' 0 m++[m]:=by rw[List.range'_1_concat];simp
 refine .kn<|.seq<|.block<|.sr<|.mo rfl ?_
 refine .bx m O a9 (λf2=>?_)
 refine .q (.aM rfl) ?_
 refine .bX (λc1=>?_)
 refine .ag rfl<|.bP rfl rfl<|.z<|.mo rfl<|.q (.aM rfl)<|.q (.aM rfl)<|.cO ((a8 n).weaken cZ) (λu T4 d6=>?_)
 obtain⟨w4,S,ok,rfl,a0,e2,a⟩:=d6
 have i4:=a0.ap
 refine .mo rfl<|.q .extract<|.q .extract<|.ag rfl<|.ag rfl<|.zs<|.sr<|.mo rfl<|.q .not<|.zn<|.cond rfl (λZ=>?_) λZ=>?_
 refine .sr<|.ag rfl<|.az rfl<|.ret (aH (bh (aH (cB (bh (aH (bp _ (.two (.tmp rfl) (.tmp rfl)) bf.ke ?_)))))))
 ·refine⟨[],rfl,_,[],false,rfl,OS.nil,by simp,?_⟩
  have F:ok=false:=by simpa using Z
  have B:targets A s.name r.types n=none:=by
   cases B:targets A s.name r.types n with
   |none=>rfl
   |some C=>rw[B]at a;rw[a.1]at F;cases F
  rw[tY (x:=m) (by rw[List.mem_range'_1];omega) (by rw[a6];unfold fp;rw[B];rfl)]
  rfl
 have L:ok=true:=by simpa using Z
 subst L
 obtain⟨C,d5,c3,c4⟩:∃C,targets A s.name r.types n=some C/\S.map c.ix=C/\∀q∈S,c.valid q:=by
  cases B:targets A s.name r.types n with
  |none=>rw[B]at a;cases a
  |some C=>rw[B]at a;exact⟨C,rfl,a.2.1,a.2.2⟩
 refine .kn<|.sr<|.mo rfl<|.q (.dK a0)<|.mo rfl<|.zn<|.block<|.cz [(0,_),(3,_),(11,_),(13,_),(46,_),(47,_),(48,_),(62,_),(63,_)] (X:=Nat×Value×ay) (λy=>y.1<=S.length/\OS 325 5 jK y.2.1 (Es++(S.take y.1).map λq=>((p,q,J):jP)) y.2.2) (λy E=>(64,iN y.1)::(12,y.2.1)::E) (λy G=>T4::bl c1 n.enc 199::y.2.2::G) (λy=>S.length-y.1) (0,vo,To) ⟨Nat.zero_le _,by simpa using K⟩ kE.c.c.c.c.c.c.c.c.c.c.c rH ?_
 rintro⟨q,v3,T3⟩ ⟨d2,D⟩
 simp only at d2 D⊢
 have e5:=D.ap
 refine .sr<|.q .lss<|.zs<|.cond rfl (λi=>?_) λi=>?_
 have b2:q<S.length:=cb i
 obtain⟨d9,b0⟩:=bL b2
 refine .kn<|.seq<|.block<|.sr ?_
 refine .aL q a0 b0 (λf3=>?_)
 refine .q (.aM rfl) ?_
 refine .bX (λe0=>?_)
 refine .bP rfl rfl<|.zn<|.cL [9] mixed<|.tO 0 rfl .move<|.tO 1 rfl (.aM rfl)<|.tO 2 rfl (.aM rfl)<|.tO 3 rfl .move<|.tO 4 rfl .move ?_
 refine RA.aL 5 rfl m b7 a4 rfl rfl rfl (by kernel_rfl) (λf4=>?_)
 refine .tO 6 rfl (.bZ rfl)<|.tO 7 rfl .cR<|.sT 8 rfl ?_
 refine .ej (λe1=>?_)
 refine .nil<|Next.sub<|.sT 9 rfl<|.append D (RS.lits (xs:=[((p,d9,J):jP)]) rfl (by simp[jK]) (by simp[jK,ap])) (by simp only[List.length_append,List.length_map,List.length_take,List.length_singleton];omega) (λv1 T1 c0=>?_)
 have f0:=c0.ap
 refine .nil<|Next.mod rfl<|.tK 10 rfl .assign<|RA.nil (by kernel_rfl)<|aV<|av<|.region<|.ia (q+1) .add<|.mo rfl<|.nil ?_
 ·exact aW (q+1,v1,T1) ⟨b2,by simp only;rw[dG b0,List.map_append, <-List.append_assoc];exact c0⟩ (by simp only;omega) kE.c.c.c.c.c.c.c.c.c.c.c (aQ [2,2,2,2,2,2,2])
 rw[dw (gd i)]at D
 refine .exit<|bm<|bs<|bo<|aV<|av<|.region<|.ia (m+1) .add<|.mo rfl<|.nil ?_
 ·exact aW (m+1,v3,Es++S.map (λq=>((p,q,J):jP)),T3) ⟨a7,D,by simp only[List.length_append,List.length_map];omega,by
   simp only
   rw[d4,qo]
   refine hE.nW ?_
   rw[cat,a6]
   unfold fp
   rw[d5]
   simp only[cat,Option.map_some,Option.bind_some,List.append_nil]
   refine⟨rfl,?_,λe he=>?_⟩
   ·rw[<-c3,List.map_map,List.map_map]
    congr 1
    funext q
    simp only[Function.comp_def,bN.ed,c7]
   ·obtain⟨q,hq,rfl⟩:=List.mem_map.1 he
    exact⟨d7,c4 q hq⟩⟩ (by simp only;omega) kE.c.c.c.c.c.c.c (aQ [2,2,2,2,2])
 have c9:m=r.nodes.length:=by have:=bA Y;omega
 refine .exit<|bm<|bs<|bo<|av<|.sr<|.mo rfl<|.ag rfl<|.az rfl<|.ret (bp _ (.two (.tmp rfl) (.tmp rfl)) (.one [0] _) ?_)
 ·refine⟨To,by simp[take],vo,Es,true,rfl,K,by omega,?_⟩
  rw[<-c9]
  exact hE
theorem yT{c:bN}(h:rz c.fO):c.qz:=λs b r a=>h (s.name,r) (List.mem_flatMap.2 ⟨s,b,List.mem_map.2 ⟨r,a,rfl⟩⟩)
theorem Qd{R:aB}{xb:Nat}{vm:Value}{c:bN}(h:IX R xb vm c)(h8:c.qz)(t:c.iI):
  Spec prog 122 [pT xb] R [] λu H'=>∃T,H'=[T]/\∃w Es ok,u=.tuple [w,.bool ok].toArray/\OS 325 5 jK w Es T/\Es.length<=131072/\EA c ok Es c.plain.lW:=by
 have b4:=λp s r a J=>Dv h h8 p s r a J
 have b7:=h
 have c1:=looked c
 have pc:=h.pc
 have om:=h.om
 have L:=h.ci.ss
 have K:=h.ci.sc
 have i1:=L.ap
 have i2:=K.ap
 have d3:=L.le
 have d2:=K.le
 have b3:=h.ci.all
 have b1:=oT c.plain
 have d6:=t.fO
 have c0:c.plain.all.length=c.fO.length:=by rw[<-oA,List.length_map]
 have c6:c.plain.bg.length=c.bg.length:=by unfold bN.plain;simp
 have c4:∀(i:Nat) (s:cy),c.bg[i]? =some s->c.plain.bg[i]? =some s.plain:=λi s a=>oF a
 have c7:=λ(p:gl) (s:cy) (r:cv)=>oB (c:=c) (p:=p) (s:=s) (r:=r)
 have W:c.plain.lW=if tv c.plain then cat (λp:Nat×(ByteArray×Rl)=>la c.plain.all p.1 p.2.1 p.2.2) (jW 0 c.plain.all)else none:=rfl
 have a9:tv c.plain=c.scopes.all λs:Sc=>(bW c.plain.all ⟨s.kg,s.rel⟩).isSome:=rfl
 have b8:∀i k,c.ix (i,k)=cG c.plain.bg i+k:=λ_ _=>rfl
 generalize hA:c.plain.all=A at *
 generalize V:cG c.plain.bg=of at *
 generalize hg:(λp:Nat×(ByteArray×Rl)=>la A p.1 p.2.1 p.2.2)=g at *
 have c2:of 0=0:=by rw[<-V];cases c.plain.bg<;>rfl
 refine Spec.body Tryz.func122 rfl Tryz.results122 Tryz.ntmps122 rfl<|.sr<|.ag rfl<|.ag rfl<|.z<|.ag rfl<|.zs<|.sr<|.mo rfl<|.nc rfl<|.fa rfl<|.fa rfl<|.lo rfl<|.q (.bH L)<|.mo rfl<|.zn<|.block<|.cz [(0,_),(18,_),(19,_)] (X:=Nat×Value×List jP×ay) (λy=>y.1<=c.bg.length/\OS 325 5 jK y.2.1 y.2.2.1 y.2.2.2/\y.2.2.1.length<=512*of y.1/\EA c true y.2.2.1 (cat g (jW 0 (A.take (of y.1))))) (λy E=>(20,iN y.1)::(4,y.2.1)::E) (λy G=>y.2.2.2::G) (λy=>c.bg.length-y.1) (0,sZ,[],[]) ⟨Nat.zero_le _,OS.nil,by simp,by simp only;rw[c2];exact EA.nil⟩ kE.c.c.c.c.c bf.eL ?_
 rintro⟨i,M,Es,F⟩ ⟨hi,m,n,f⟩
 simp only at hi m n f⊢
 have io:=m.ap
 refine .sr<|.q .lss<|.zs<|.cond rfl (λN=>?_) λN=>?_
 have a5:i<c.bg.length:=cb N
 obtain⟨⟨e,v,d⟩,a⟩:=bL a5
 have b0:=b3 _ (aO a)
 have Z:RS R 3 cv.enc v d:=b0.rs
 have d7:=Z.ap
 have d4:=Z.le
 have d8:ca (cy.enc ⟨e,v,d⟩):=⟨b0.cT⟩
 have a8:=c4 i _ a
 have a7:=oD a8
 have a6:=sR a8
 rw[V,show(cy.plain ⟨e,v,d⟩).bR.length=d.length by simp[cy.plain]]at a7 a6
 rw[b1,c0]at a6
 refine .kn<|.seq<|.block<|.sr<|.mo rfl ?_
 refine .bx i L a (λe0=>?_)
 refine .q (.aM rfl) ?_
 refine .bX (λb6=>?_)
 refine .ag rfl<|.bP rfl rfl<|.z<|.fa rfl<|.lo rfl<|.q (.bH Z)<|.mo rfl<|.zn<|.block<|.cz [(0,_),(5,_),(18,_),(19,_),(20,_),(27,_)] (X:=Nat×Value×List jP×ay) (λy=>y.1<=d.length/\OS 325 5 jK y.2.1 y.2.2.1 y.2.2.2/\y.2.2.1.length<=512*(of i+y.1)/\EA c true y.2.2.1 (cat g (jW 0 (A.take (of i+y.1))))) (λy E=>(28,iN y.1)::(4,y.2.1)::E) (λy G=>bl b6 (cy.enc ⟨e,v,d⟩) 164::y.2.2.2::G) (λy=>d.length-y.1) (0,M,Es,F) ⟨Nat.zero_le _,m,n,f⟩ kE.c.c.c.c.c.c.c.c rH ?_
 rintro⟨k,M,Es,F⟩ ⟨hk,m,n,f⟩
 simp only at hk m n f⊢
 have io:=m.ap
 refine .sr<|.q .lss<|.zs<|.cond rfl (λO=>?_) λO=>?_
 have a4:k<d.length:=cb O
 obtain⟨r,J⟩:=bL a4
 have a1:=b4 (i,k) _ r a J
 have H:=c7 (i,k) _ r a J
 rw[b8]at a1 H
 have a2:g (of i+k,(e,r.r))=la A (of i+k) e r.r:=by rw[<-hg]
 have d5:of i+k<A.length:=(List.getElem?_eq_some_iff.1 H).1
 refine .kn<|.seq<|.block<|.sr<|.mo rfl<|.ag rfl<|.z<|.mo rfl<|.mo rfl<|.mo rfl<|.q .cR<|.cO (a1.weaken cZ) (λu T4 c8=>?_)
 obtain⟨w4,Fs,ok,rfl,a0,d1,B⟩:=c8
 have i4:=a0.ap
 refine .mo rfl<|.q .extract<|.q .extract<|.ag rfl<|.ag rfl<|.zs<|.sr<|.mo rfl<|.q .not<|.zn<|.cond rfl (λQ=>?_) λQ=>?_
 refine .sr<|.ag rfl<|.az rfl<|.ret (aH (bh (aH (cB (bh (bh (aH (cB (bh (aH (bp _ (.two (.tmp rfl) (.tmp rfl)) bf.ke ?_)))))))))))
 ·refine⟨[],rfl,_,[],false,rfl,OS.nil,by simp,?_⟩
  have D:ok=false:=by simpa using Q
  rw[W]
  split
  ·rw[tY (x:=(of i+k,(e,r.r))) (by have:=rT (i:=0) H;rwa [Nat.zero_add]at this) (by
    rw[a2]
    cases hrc:la A (of i+k) e r.r with
    |none=>rfl
    |some o=>rw[show la A (of i+k) (⟨e,v,d⟩:cy).name r.r=some o from hrc]at B;rw[B.1]at D;cases D)]
   rfl
  ·rfl
 have I:ok=true:=by simpa using Q
 subst I
 refine .kn<|.region<|.mo rfl<|.mo rfl<|.append m a0.rx (by omega) (λv1 T1 b2=>?_)
 have d9:=b2.ap
 refine .ag rfl<|.nil<|aV<|av<|.region<|.ia (k+1) .add<|.mo rfl<|.nil ?_
 ·exact aW (k+1,v1,Es++Fs,T1) ⟨a4,b2,by simp only[List.length_append];omega,by
   simp only
   rw[show of i+(k+1)=of i+k+1 by omega,uk H,qo]
   refine f.nW ?_
   rw[cat,Nat.zero_add,show g (of i+k,(⟨e,v,d⟩:cy).name,r.r)=la A (of i+k) e r.r from a2]
   revert B
   generalize la A (of i+k) (⟨e,v,d⟩:cy).name r.r=o
   intro B
   cases o with
   |none=>exact B
   |some o=>simpa[cat]using B⟩ (by simp only;omega) kE.c.c.c.c.c.c.c.c (aQ [1,1,1])
 have b9:k=d.length:=by have:=bA O;omega
 rw[b9, <-a7]at n f
 refine .exit<|bm<|bs<|bo<|aV<|av<|.region<|.ia (i+1) .add<|.mo rfl<|.nil ?_
 ·exact aW (i+1,M,Es,F) ⟨a5,m,n,f⟩ (by simp only;omega) kE.c.c.c.c.c (aQ [1])
 have b5:i=c.bg.length:=by have:=bA N;omega
 have c3:of i=A.length:=by rw[b5, <-c6, <-V, <-b1];rfl
 rw[c3,List.take_length]at f
 refine .exit<|bm<|bs<|bo<|av<|.seq<|.sr<|.mo rfl<|.nc rfl<|.fa rfl<|.fa rfl<|.lo rfl<|.q (.bH K)<|.mo rfl<|.zn<|.block<|.cz [(0,_),(4,_),(50,_),(51,_)] (X:=Nat) (λj=>j<=c.scopes.length/\(c.scopes.take j).all (λs:Sc=>(bW A ⟨s.kg,s.rel⟩).isSome)=true) (λj E=>(52,iN j)::E) (λ_ G=>G) (λj=>c.scopes.length-j) 0 ⟨Nat.zero_le _,rfl⟩ kE.c.c.c.c.c rH ?_
 rintro j ⟨hj,Y⟩
 refine .sr<|.q .lss<|.zs<|.cond rfl (λS=>?_) λS=>?_
 have a3:j<c.scopes.length:=cb S
 obtain⟨s,a⟩:=bL a3
 obtain⟨ps,ok,c5,C⟩:=c1 (⟨s.kg,s.rel⟩:Ty)
 unfold nR at C
 rw[hA]at C
 refine .kn<|.seq<|.block<|.sr ?_
 refine .bx j K a (λe1=>?_)
 refine .q (.aM rfl) ?_
 refine .bX (λc9=>?_)
 refine .bP rfl rfl<|.zs<|.cL [15] mixed<|.tO 0 rfl .move<|.tO 1 rfl (.nilCheck rfl)<|.tO 2 rfl (.fieldAddr rfl)<|.tO 3 rfl (.bZ rfl)<|.tO 4 rfl (.fieldAddr rfl)<|.tO 5 rfl (.fieldAddr rfl)<|.tO 6 rfl (.bZ rfl)<|.tO 7 rfl (.fieldAddr rfl)<|.tO 8 rfl (.bZ rfl)<|.tO 9 rfl .cR<|.fw 10 rfl (.cast (.pH (b7.rm.pJ λb o hb=>.inl hb) rfl rfl) (congrArg (λl:List Value=>Value.tuple l.toArray) c5)) (by kernel_rfl)<|.tO 11 rfl .move<|.tO 12 rfl .extract<|.tK 13 rfl .extract<|.sT 14 rfl ?_
 refine .bX (λd0=>?_)
 refine .nil<|Next.sub<|.sT 15 rfl<|.bP rfl rfl<|.nil<|Next.mod rfl<|.tK 16 rfl .assign<|RA.nil (by kernel_rfl)<|av<|.sr<|.mo rfl<|.q .not<|.zn<|.cond rfl (λU=>?_) λU=>?_
 refine .sr<|.ag rfl<|.az rfl<|.ret (bh (aH (cB (bh (aH (bp _ (.two (.tmp rfl) (.tmp rfl)) bf.ke ?_))))))
 ·refine⟨[],rfl,_,[],false,rfl,OS.nil,by simp,?_⟩
  have D:ok=false:=by simpa using U
  have hj:bW A ⟨s.kg,s.rel⟩=none:=by
   cases t:bW A ⟨s.kg,s.rel⟩with
   |none=>rfl
   |some j=>rw[t]at C;rw[C.1]at D;cases D
  rw[W,a9,lA a (by rw[hj];rfl)]
  rfl
 have t:(bW A ⟨s.kg,s.rel⟩).isSome=true:=by
  have I:ok=true:=by simpa using U
  cases t:bW A ⟨s.kg,s.rel⟩with
  |none=>rw[t]at C;rw[C]at I;cases I
  |some j=>rfl
 refine .skip<|aV<|av<|.region<|.ia (j+1) .add<|.mo rfl<|.nil ?_
 ·exact aW (j+1) ⟨a3,nh a Y t⟩ (by omega) kE.c.c.c.c.c (aQ [2])
 refine .exit<|bm<|bs<|bo<|av<|.sr<|.mo rfl<|.ag rfl<|.az rfl<|.ret (bp _ (.two (.tmp rfl) (.tmp rfl)) (.one [0] _) ?_)
 ·refine⟨F,by simp[take],M,Es,true,rfl,m,Nat.le_trans n (Nat.mul_le_mul_left 512 (show of i<=256 by omega)),?_⟩
  rw[dw (gd S)]at Y
  rw[W,a9,Y,if_pos rfl]
  exact f
abbrev iE:=fA×ay
def oY(w:Value)(LL:List iE)(To:ay):Prop:=OS 182 1 dW w (LL.map (·.1)) To/\∀q∈LL,OS 3 1 cM q.1.1 q.1.2 q.2
def nT(w:Value)(LL:List iE)(T:ay):Prop:=∃To,T=To++LL.flatMap (·.2)/\oY w LL To
theorem z4{α:Type}{l:List α}{i:Nat}{x:α}(h:l[i]? =some x):∃A B,l=A++x::B/\A.length=i/\∀y,l.set i y=A++y::B:=by
 refine⟨l.take i,l.drop (i+1),?_,?_,λy=>?_⟩
 ·have:=yt h
  rw[<-this,List.take_append_drop]
 ·rw[List.length_take];have:=(List.getElem?_eq_some_iff.1 h).1;omega
 ·exact List.set_eq_take_append_cons_drop.trans (if_pos (List.getElem?_eq_some_iff.1 h).1)
theorem Pz(w:Value)(d:List iE)(T:ay)(h:nT w d T)(e:jP)(a b:Nat)(t K:iE)(s:d[e.1.1]? =some t)(B:d[e.2.1.1]? =some K)(r:t.1.2[e.1.2]? =some a)(i:K.1.2[e.2.1.2]? =some b)(a1:b<=1000000000)(R:aB):
  Spec prog 182 [w,.agg (jK e).toArray] R [T] λu H'=>∃T',H'=[T']/\((u=.bool false/\b+(if e.2.2 then 1 else 0)<=a/\nT w d T')\/(u=.bool true/\a<b+(if e.2.2 then 1 else 0)/\∃Tn,nT w (d.set e.1.1 ((t.1.1,t.1.2.set e.1.2 (b+(if e.2.2 then 1 else 0))),Tn)) T')):=by
 obtain⟨f,rfl,g,n⟩:=h
 obtain⟨⟨k,l⟩,⟨v,C⟩,j⟩:=e
 obtain⟨⟨D,S⟩,V⟩:=t
 obtain⟨⟨F,U⟩,Z⟩:=K
 simp only at s B r i⊢
 have m:=n _ (aO s)
 have A:=n _ (aO B)
 simp only at m A
 have iw:=g.ap
 have a4:One D:=m.ap
 have a5:One F:=A.ap
 have I:(d.map (·.1))[k]? =some (D,S):=by rw[List.getElem?_map,s];rfl
 have Q:(d.map (·.1))[v]? =some (F,U):=by rw[List.getElem?_map,B];rfl
 have O:∀(q:iE),q∈d->∀p∈q.2,p∈d.flatMap (·.2):=λq hq p Y=>List.mem_flatMap.2 ⟨q,hq,Y⟩
 obtain⟨L,M,y,a0,J⟩:=z4 s
 have a2:RC R [f,d.flatMap (·.2)] (ei D (l*1)) (cM a):=⟨(m.pc r).mono λb o i=>.inr (by have:=O _ (aO s) _ i;simp[this])⟩
 have a3:RC R [f,d.flatMap (·.2)] (ei F (C*1)) (cM b):=⟨(A.pc i).mono λb o i=>.inr (by have:=O _ (aO B) _ i;simp[this])⟩
 have a6:PS f (ei w (k*1)) (dW (D,S)):=⟨g.pc I⟩
 have a7:PS f (ei w (v*1)) (dW (F,U)):=⟨g.pc Q⟩
 refine Spec.gu (H':=[f,d.flatMap (·.2)]) (by simp)<|Spec.body Tryz.func182 rfl Tryz.results182 Tryz.ntmps182 rfl<|.sr ?_
 refine .bY rfl (λN=>?_)
 refine .ag rfl<|.zs<|.gn mixed (by kernel_rfl)<|.mo rfl<|.fa rfl<|.fa rfl<|.lo rfl<|.q (.bx v g.sg Q rfl rfl rfl)<|.lo rfl<|.fa rfl<|.fa rfl<|.lo rfl<|.q (.bx C A.sg i rfl rfl rfl)<|.lo rfl<|.ag rfl<|.zs<|.sr<|.fa rfl<|.lo rfl<|.zn ?_
 refine bz.cS [(0,_),(3,_)] kE.c.c (X:=Unit) (λ_=>True) (λ_ E=>(5,.int .i64 ((b+(if j then 1 else 0):Nat):Int))::E) (λ_=>[bl N (jK ((k,l),(v,C),j)) 325,f,d.flatMap (·.2)]) ?_ ?_
 refine .cond rfl (λG=>?_) λG=>?_
 refine .region<|.mo rfl<|.ia (b+1) .add<|.ag rfl<|.nil ?_
 ·exact aF () trivial (kE.c.c.kT rfl (by have h:j=_:=G;simp[h])) rH
 refine .skip ?_
 ·exact aF () trivial (kE.c.c.kT rfl (by have h:j=_:=G;simp[h])) rH
 intro x hx
 refine av<|.seq<|.seq<|.gn mixed (by kernel_rfl)<|.mo rfl<|.fa rfl<|.fa rfl<|.lo rfl<|.q (.bx k g.sg I rfl rfl rfl)<|.lo rfl<|.fa rfl<|.fa rfl<|.lo rfl<|.q (.bx l m.sg r rfl rfl rfl)<|.lo rfl<|.mo rfl<|.q .geq<|.zn<|.cond rfl (λH=>?_) λH=>?_
 refine .sr<|.az rfl<|.ret (aH (bp _ (.one (.tmp rfl)) (.one [1,1] _) ?_))
 ·refine⟨_,rfl,.inl ⟨rfl,by have:=bS H;omega,f,by simp[take,bJ],g,n⟩⟩
 refine .kn<|.seq<|.dt 11 mixed (by kernel_rfl) ?_
 conv=>arg 6;dsimp only[List.take]
 refine .mo rfl<|.fa rfl<|.fa rfl<|.lo rfl<|.q (.bx k g.sg I rfl rfl rfl)<|.lo rfl<|.fa rfl<|.fa rfl<|.lo rfl<|.mo rfl<|.q (.bx l m.sg r rfl rfl rfl)<|.nil ?_
 refine .sub (H':=[bl N (jK ((k,l),(v,C),j)) 325,f,V,L.flatMap (·.2)++M.flatMap (·.2)]) (bf.fq (by
  rw[y]
  simp only[List.flatMap_append,List.flatMap_cons,List.flatten_cons,List.flatten_nil,List.append_nil]
  refine .append_left _ (.append_left _ ?_)
  rw[<-List.append_assoc, <-List.append_assoc]
  exact List.perm_append_comm.append_right _)) ?_
 refine .dv l m r (b+(if j then 1 else 0)) (λTn W=>?_)
 refine .z<|.az rfl<|.ret (bp _ (.one (.tmp rfl)) ((aQ [1,1,1]).trans (bf.fq (H':=[f++(L.flatMap (·.2)++(Tn++M.flatMap (·.2)))]) (by simp only[take,bJ,List.getD_cons_zero,List.getD_cons_succ,List.flatten_cons,List.flatten_nil,List.append_nil];refine .append_left _ ?_;rw[<-List.append_assoc, <-List.append_assoc];exact List.perm_append_comm.append_right _))) ?_)
 ·refine⟨_,rfl,.inr ⟨rfl,by have:=bA H;omega,Tn,f,?_,?_,λq hq=>?_⟩⟩
  ·rw[J];simp
  ·refine g.congr ?_
   rw[J,y]
   simp[dW]
  ·rw[J]at hq
   rcases List.mem_append.1 hq with hq|hq
   ·exact n q (by rw[y];exact List.mem_append_left _ hq)
   ·rcases List.mem_cons.1 hq with rfl|hq
    ·exact W
    ·exact n q (by rw[y];exact List.mem_append_right _ (List.mem_cons_of_mem _ hq))
end Go.Proofs.YtdljmchhecoakaaGreat

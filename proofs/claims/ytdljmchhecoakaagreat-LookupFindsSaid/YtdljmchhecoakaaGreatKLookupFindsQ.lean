/- What the law 'LookupFinds' uses. No condition. -/
import Derived.Test.YtdljmchhecoakaaGreatKLookupFindsA
import Derived.Test.YtdljmchhecoakaaGreatKLookupFindsB
import Derived.Test.YtdljmchhecoakaaGreatKLookupFindsD
import Derived.Test.YtdljmchhecoakaaGreatKLookupFindsE
import Derived.Test.YtdljmchhecoakaaGreatKLookupFindsH
import Derived.Test.YtdljmchhecoakaaGreatKLookupFindsI
import Derived.Test.YtdljmchhecoakaaGreatKLookupFindsL
import Derived.Test.YtdljmchhecoakaaGreatKLookupFindsM
import Derived.Test.YtdljmchhecoakaaGreatKLookupFindsN
import Derived.Test.YtdljmchhecoakaaGreatKLookupFindsP
namespace Go.Proofs.YtdljmchhecoakaaGreat
set_option linter.defProp false
def aew:=@trivial
def aex:=@if_neg
def aey:=@Nat.zero_le
def aez:=@congrArg
def aeA:=@if_pos
def aeB:=@List.getElem?_map
def aeC:=@List.length_map
def aeD:=@List.map_append
def aeE:=@List.length_take
def aeF:=@List.length_singleton
def aeG:=@List.getD_eq_getElem?_getD
def aeH:=@Bool.and_true
def aeI:=@Bool.and_false
def aeJ:=@if_true
def aeK:=@List.length_append
def aeL:=@Nat.le_trans
def aeM:=@decide_eq_false
def aeN:=@List.mem_cons_self
def aeO:=@List.all_cons
def aeP:=@Bool.false_and
def aeQ:=@Nat.not_lt
def aeR:=@List.length_filter_le
def aeS:=@if_false
def aeT:=@List.map_map
def aeU:=@decide_eq_true
def aeV:=@List.mem_singleton
def aeW:=@List.getElem?_eq_some_iff
def aeX:=@Nat.lt_or_ge
def aeY:=@List.mem_iff_getElem
def aeZ:=@List.all_nil
def ae0:=@List.all_append
def ae1:=@List.getElem?_cons_zero
def ae2:=@Option.some.injEq
def ae3:=@decide_eq_true_eq
def ae4:=@List.length_cons
def ae5:=@List.filter_append
def ae6:=@List.take_length
def ae7:=@Bool.true_and
def ae8:=@Bool.true_or
def ae9:=@Bool.false_or
def afa:=@List.nil_append
def afb:=@Bool.or_eq_true
def afc:=@Bool.eq_iff_iff
def afd:=@List.take_add_one
def afe:=@List.filter_cons
def aff:=@Function.comp_def
def afg:=@Bool.or_true
def afh:=@List.getElem_take
def afi:=@List.length_replicate
def afj:=@Option.bind_some
def afk:=@List.append_nil
def afl:=@Bool.and_eq_true
def afm:=@Option.isSome_iff_exists
def afn:=@List.cons_append
def afo:=@List.not_all_eq_any_not
def afp:=@List.zipWith_cons_cons
def afq:=@List.take_succ_cons
def afr:=@List.eq_nil_of_length_eq_zero
def afs:=@List.mem_cons_of_mem
def aft:=@List.nodup_append
def afu:=@Bool.or_eq_false_iff
def afv:=@decide_eq_false_iff_not
def afw:=@Option.getD_none
def afx:=@List.take_append_drop
def afy:=@List.findIdx?_eq_some_iff_getElem
open Tryz
set_option linter.unusedVariables false
set_option linter.unusedSimpArgs false
set_option maxRecDepth 4000
def pC(t:aB):ByteArray:=if t.us=⟨#[]⟩then⟨#[49]⟩else⟨#[48]⟩
def gG(t:aB):List ByteArray:=[t.os,t.oi,t.rel,pC t,t.us,t.ss,t.si,t.sr]
theorem Sl(a b:aB):eV (pC a) (pC b)=kG (kQ a.us) (kQ b.us):=by
 unfold pC kQ
 split<;>split<;>decide
theorem Uf(a b:aB):kS a b=gP (List.zipWith eV (gG a) (gG b)):=by
 unfold kS gG
 simp only[afp,List.zipWith_nil_left]
 rw[Sl]
theorem Bn:∀{X Y:List ByteArray} {i:Nat} {x y:ByteArray},X.take i=Y.take i->X[i]? =some x->Y[i]? =some y->x≠y->gP (List.zipWith eV X Y)=eV x y
 |x0::X,y0::Y,0,x,y,_,hx,hy,hn=>by
  simp only[ae1,ae2]at hx hy
  subst hx hy
  rw[afp,nO,aex λe=>hn (qq.1 e)]
 |x0::X,y0::Y,i+1,x,y,ht,hx,hy,hn=>by
  simp only[afq,List.cons.injEq]at ht
  simp only[List.getElem?_cons_succ]at hx hy
  rw[afp,nO,aeA (qq.2 ht.1)]
  exact Bn ht.2 hx hy hn
 |[],_,i,x,y,_,hx,_,_=>by simp at hx
 |_::_,[],i,x,y,_,_,hy,_=>by simp at hy
theorem Ub{a b:aB}{i:Nat}{x y:ByteArray}(d:(gG a).take i=(gG b).take i)(e:(gG a)[i]? =some x)(f:(gG b)[i]? =some y)(c:x≠y):gH a b=dU x y:=by
 unfold gH
 rw[Uf,Bn d e f c,afc,ae3,nj]
theorem TV{a b:aB}(h:gG a=gG b):a=b:=by
 obtain⟨k,l,m,n,o,p,q⟩:=a
 obtain⟨r,s,t,u,v,w,x⟩:=b
 simp only[gG,List.cons.injEq]at h
 obtain⟨c,d,e,y,f,g,i,j,_⟩:=h
 simp only[aB.mk.injEq]
 exact⟨c,d,e,f,g,i,j⟩
theorem zD(t:aB)(R:ay):Spec prog 256 [.agg t.enc.toArray] R [] λu H'=>∃T,H'=[T]/\OS 9 1 cr u (gG t) T:=by
 refine Spec.gQ (H':=[]) (by simp) ?_
 refine Spec.body func256 rfl results256 ntmps256 rfl ?_
 refine .sr ?_
 refine .cb rfl (λb=>?_)
 refine .ag rfl<|.z<|.ag rfl<|.zs<|.sr<|.fa rfl<|.fa rfl<|.lo rfl<|.q .fP<|.zn ?_
 refine bz.cut (X:=ByteArray) (λk=>k=pC t) (λk=>[(1,pT b),(3,.string k)]) (λk=>[bl b t.enc 119]) ?_ ?_
 refine .cond rfl (λa=>?_) λa=>?_
 refine .region<|.ag rfl<|.nil ?_
 ·exact aF ⟨#[48]⟩ (by unfold pC;rw[aex (by simpa using a)]) kE.c.c rH
 refine .skip ?_
 ·exact aF ⟨#[49]⟩ (by unfold pC;rw[aeA (by simpa using a)]) kE.c.c rH
 intro x d
 subst d
 refine au<|.sr<|.fa rfl<|.fa rfl<|.lo rfl<|.fa rfl<|.fa rfl<|.lo rfl<|.fa rfl<|.lo rfl<|.mo rfl<|.fa rfl<|.fa rfl<|.lo rfl<|.fa rfl<|.fa rfl<|.fa rfl<|.lo rfl<|.fa rfl<|.fa rfl<|.fa rfl<|.lo rfl<|.fa rfl<|.fa rfl<|.lo rfl ?_
 refine .yq [_,_,_,_,_,_,_,_] (λe=>?_)
 refine .az rfl ?_
 refine .ret (aY _ (.one (.tmp rfl)) (.one [0] _) ?_)
 ·refine⟨_,by simp[take];rfl,?_⟩
  exact OS.lits (E:=9) (xs:=gG t) (enc:=cr) rfl (by simp[gG,cr]) (by simp[gG,cr,aE])
theorem Ry(a b:aB)(R:ay):Spec prog 222 [.agg a.enc.toArray,.agg b.enc.toArray] R [] λv H'=>v=.bool (gH a b)/\H'=[]:=by
 refine Spec.body func222 rfl results222 ntmps222 rfl<|.sr ?_
 refine .cb rfl (λs=>?_)
 refine .cb rfl (λt=>?_)
 refine .ag rfl<|.zs<|.cY [] mixed<|.tO 0 rfl (.aM rfl)<|.tO 2 rfl (.aM rfl)<|.sT 1 rfl<|.cX (zD a _) (λu n j=>?_)
 refine .nil<|Next.sub<|.sT 3 rfl<|.cX (zD b _) (λw o m=>?_)
 refine .nil<|Next.sub<|.tO 4 rfl .assign<|.tO 5 rfl .assign<|RA.nil (by kernel_rfl)<|au<|.seq<|.sr<|.az rfl<|.block<|.loop (X:=Nat) (λi=>i<=8/\(gG a).take i=(gG b).take i) (λi=>[(5,u),(6,w),(7,iN i)]) (λ_=>[n,o]) (λi=>8-i) 0 ⟨by omega,by simp⟩ kE.c.c.c (aN [1,0]) ?_
 rintro i ⟨x,l⟩
 refine .seq<|.sr<|.mo rfl<|.mo rfl<|.q (.dG j)<|.q .lss<|.zn<|.cond rfl (λg=>?_) λg=>?_
 have k:i<8:=by have:=bT g;simp only[gG,ae4,List.length_nil]at this;omega
 obtain⟨z,f⟩:∃z,(gG a)[i]? =some z:=⟨_,aZ (by simpa[gG]using k)⟩
 obtain⟨y,d⟩:∃y,(gG b)[i]? =some y:=⟨_,aZ (by simpa[gG]using k)⟩
 refine .kn<|.seq<|.block<|.seq<|.fS mixed (by kernel_rfl)<|.mo rfl<|.mo rfl ?_
 refine .aK i j f (λA=>?_)
 refine .lo rfl<|.mo rfl<|.mo rfl ?_
 refine .aK i m d (λB=>?_)
 refine .lo rfl<|.q .fP<|.zn<|.cond rfl (λh=>?_) λh=>?_
 refine .seq<|.fS mixed (by kernel_rfl)<|.mo rfl<|.mo rfl ?_
 refine .aK i j f (λC=>?_)
 refine .lo rfl<|.mo rfl<|.mo rfl ?_
 refine .aK i m d (λD=>?_)
 refine .lo rfl<|.q .we<|.az rfl<|.ret (bw (aJ (cG (bw (aJ (aP rfl ?_))))))
 ·have r:z≠y:=by simpa using h
  exact⟨by rw[Ub l f d r],rfl⟩
 refine .skip<|aS<|au<|.region<|.mo rfl<|.ia (i+1) .add<|.ag rfl<|.nil ?_
 ·exact bd (i+1) ⟨k,by
   have e:z=y:=by simpa using h
   rw[afd,afd,l,f,d,e]⟩ (by omega) kE.c.c.c rH
 refine .exit<|bo<|bq<|bp<|au<|.sr<|.az rfl<|.ret (aP rfl ?_)
 ·have p:i=8:=by have:=bA g;simp only[gG,ae4,List.length_nil]at this;omega
  subst p
  have:a=b:=TV (by simpa[gG]using l)
  exact⟨by rw[this,ux],rfl⟩
structure DV(R:ay)(b:Nat)(S:cT)(vL:Value)(L:List bB):Prop where
 pc:PC R (pT b) [vL,.int .u64 S.head,.int .u64 S.dV]
 rs:RS R 9 bB.enc vL L
theorem DV.mono{R R':ay}{b:Nat}{S:cT}{c:Value}{L:List bB}(h:DV R b S c L)(a:∀b o,R b o->R' b o):DV R' b S c L:=⟨h.pc.mono a,h.rs.mono a⟩
theorem BY(x:bB)(r:Int)(R:ay):Spec prog 107 [.agg x.enc.toArray,.int .u64 r] R [] λv H'=>v=.bool (x.there r)/\H'=[]:=by
 obtain⟨⟨c,d,e,f,g,h,i⟩,k,l⟩:=x
 refine Spec.body func107 rfl results107 ntmps107 rfl<|.sr ?_
 refine .cb rfl (λj=>?_)
 refine .ag rfl<|.z<|.fa rfl<|.lo rfl<|.mo rfl<|.q .leq<|.mo rfl<|.split (t:=9) rfl (λa=>?_) (λa=>?_)
 refine .gT a<|.fa rfl<|.gT a<|.lo rfl<|.gT a<|.q .bU<|.gT a<|.mo rfl<|.split (t:=13) rfl (λb=>?_) (λb=>?_)
 refine .gF b<|.gF b<|.gF b<|.gF b<|.gT a<|.q (.aT b)<|.q (.aT a)<|.az rfl<|.ret (aP rfl ?_)
 ·refine⟨aez _ ?_,rfl⟩
  unfold bB.there
  simp_all
  try omega
 refine .gT b<|.mo rfl<|.gT b<|.fa rfl<|.gT b<|.lo rfl<|.gT b<|.q .lss<|.gT a<|.q (.aQ b)<|.q (.aT a)<|.az rfl<|.ret (aP rfl ?_)
 ·refine⟨aez _ ?_,rfl⟩
  unfold bB.there
  simp_all
  try omega
 refine .gF a<|.gF a<|.gF a<|.gF a<|.dg rfl<|.dg rfl<|.dg rfl<|.dg rfl<|.gF a<|.q (.aQ a)<|.az rfl<|.ret (aP rfl ?_)
 ·refine⟨aez _ ?_,rfl⟩
  unfold bB.there
  simp_all
  try omega
section
variable{R:ay}{b:Nat}{S:cT}{vL:Value}{L:List bB}
theorem DV.can(h:DV R b S vL L)(r:Int):Spec prog 86 [pT b,.int .u64 r] R [] λv H'=>v=.bool (scan S r)/\H'=[]:=by
 have c:=h.pc
 refine Spec.body func86 rfl results86 ntmps86 rfl<|.sr<|.ag rfl<|.z<|.mo rfl<|.nc rfl<|.fa rfl<|.lo rfl<|.mo rfl<|.q .leq<|.mo rfl<|.split (t:=11) rfl (λa=>?_) (λa=>?_)
 refine .gT a<|.mo rfl<|.gT a<|.mo rfl<|.gT a<|.nc rfl<|.gT a<|.fa rfl<|.gT a<|.lo rfl<|.gT a<|.q .leq<|.q (.aT a)<|.az rfl<|.ret (aP rfl ?_)
 ·refine⟨aez _ ?_,rfl⟩
  unfold scan
  simp_all
  try omega
 refine .gF a<|.gF a<|.gF a<|.gF a<|.gF a<|.gF a<|.q (.aQ a)<|.az rfl<|.ret (aP rfl ?_)
 ·refine⟨aez _ ?_,rfl⟩
  unfold scan
  simp_all
  try omega
theorem DV.TE(h:DV R b S vL L)(Z:L.length<=5000)(k:bf)(r:Int):Spec prog 147 [pT b,.agg [.string k.os,.string k.oi].toArray,.string k.rel,.int .u64 r] R [] λu H'=>∃T,H'=[T]/\OS 117 4 Sub.enc u (if scan S r then(L.filter λx=>x.there r&&decide (x.t.cQ=k)).map (·.t.sub)else []) T:=by
 obtain⟨l,m,w⟩:=k
 have pc:=h.pc
 have a1:=h.rs.aE
 obtain⟨pv,a2,rfl⟩:=h.rs.val
 have F:=h.rs
 have V:∀x:bB,decide (x.t.cQ=(⟨l,m,w⟩:bf))=(decide (x.t.os=l/\x.t.oi=m)&&decide (x.t.rel=w)):=λx=>by
  rw[afc]
  simp[aB.cQ,and_assoc]
 refine Spec.gQ (H':=[[]]) (by simp) ?_
 refine Spec.body func147 rfl results147 ntmps147 rfl ?_
 refine .sr ?_
 refine .cb rfl (λC=>?_)
 refine .ag rfl<|.z<|.ag rfl<|.zs<|.sr<|.az rfl<|.block ?_
 refine .loop (X:=Nat×Value×aw) (λy=>(y.1<=L.length/\(scan S r=false->y.1=0))/\OS 117 4 Sub.enc y.2.1 (((L.take y.1).filter λx=>x.there r&&decide (x.t.cQ=(⟨l,m,w⟩:bf))).map (·.t.sub)) y.2.2) (λy=>[(0,pT b),(2,.string w),(3,.int .u64 r),(5,pT C),(9,y.2.1),(10,iN y.1)]) (λy=>[bl C [.string l,.string m] 44,y.2.2]) (λy=>L.length-y.1) (0,sZ,[]) ⟨⟨aey _,λ_=>rfl⟩,OS.nil⟩ kE.c.c.c.c.c.c rH ?_
 rintro⟨i,I,n⟩ ⟨⟨Q,E⟩,g⟩
 simp only at Q E g⊢
 have a0:(((L.take i).filter λx=>x.there r&&decide (x.t.cQ=(⟨l,m,w⟩:bf))).map (·.t.sub)).length<=5000:=by
  rw[aeC]
  exact aeL (aeR _ _) (by rw[aeE];omega)
 refine .seq<|.sr<|.mo rfl<|.mo rfl<|.nc rfl<|.fa rfl<|.lo rfl<|.q (.bI F) ?_
 refine .q .lss<|.mo rfl ?_
 refine .split (t:=19) rfl (λe=>?_) (λe=>?_)
 have p:i<L.length:=by have:=bT e;omega
 obtain⟨x,H⟩:=bQ p
 have B:L.take (i+1)=L.take i++[x]:=by rw[afd,H];rfl
 have A:=V x
 refine .gT e<|.mo rfl<|.gT e<|.mo rfl<|.gT e ?_
 refine .aX ((h.mono λb o O=>.inl O).can r) (λv G=>?_)
 subst G
 refine .q (.aT e) ?_
 refine .zn ?_
 refine .cond rfl (λf=>?_) λf=>?_
 refine .kn<|.seq<|.block<|.sr<|.mo rfl<|.nc rfl<|.fa rfl<|.lo rfl<|.mo rfl ?_
 refine .bC i F H (λa3=>?_)
 refine .fa rfl<|.q (.loadT rfl) ?_
 refine .bX (λM=>?_)
 refine .bN rfl rfl<|.z<|.sub (H':=[bl M x.t.enc 119,bl C [.string l,.string m] 44,n]) rH ?_
 refine .mo rfl<|.nc rfl<|.fa rfl<|.lo rfl<|.mo rfl ?_
 refine .bC i F H (λa4=>?_)
 refine .q (.aM rfl)<|.mo rfl ?_
 refine .aX (BY x r _) (λv G=>?_)
 subst G
 refine .mo rfl ?_
 refine .split (t:=43) rfl (λd=>?_) (λd=>?_)
 refine .gT d<|.fa rfl<|.gT d<|.q (.loadT rfl) ?_
 refine .gT d<|.q (.aM rfl)<|.gT d<|.q (.mJ rfl rfl (show eI [.s,.s] (List.take 2 (List.drop 0 x.t.enc))from⟨aew,aew,aew⟩) (show eI [.s,.s] [.string l,.string m]from⟨aew,aew,aew⟩)) ?_
 rw[show eE (List.take 2 (List.drop 0 x.t.enc)) [.string l,.string m]=decide (x.t.os=l/\x.t.oi=m)from by rw[afc];simp[aB.enc,eE,mG]]
 refine .q (.aT d) ?_
 refine .mo rfl ?_
 refine .split (t:=49) rfl (λa=>?_) (λa=>?_)
 refine .gT a<|.fa rfl<|.gT a<|.lo rfl<|.gT a<|.mo rfl<|.gT a<|.q .dF<|.q (.aT a) ?_
 refine .zn ?_
 refine .cond rfl (λJ=>?_) λJ=>?_
 refine .region<|.mo rfl<|.fa rfl<|.q (.loadT rfl) ?_
 refine .dN (λY=>?_)
 refine .append g (RS.lits (xs:=[x.t.sub]) rfl (by simp[Sub.enc]) (by simp[Sub.enc,aE])) (by simp only[aeF];omega) (λW K N=>?_)
 refine .ag rfl<|.nil<|aS<|au<|.region<|.mo rfl ?_
 refine .ia (i+1) .add ?_
 refine .ag rfl<|.nil ?_
 ·exact bd (i+1,W,K) ⟨⟨p,λj=>by rw[j]at f;cases f⟩,by simp only;rw[B,ae5,aeD,afe,aeA (by rw[A,d,a,J];rfl)];exact N⟩ (by simp only;omega) kE.c.c.c.c.c.c (aN [2,2])
 refine .skip<|aS<|au<|.region<|.mo rfl ?_
 refine .ia (i+1) .add ?_
 refine .ag rfl<|.nil ?_
 ·exact bd (i+1,I,n) ⟨⟨p,λj=>by rw[j]at f;cases f⟩,by simp only;rw[B,ae5,aeD,afe,aex (by rw[A];simp_all)];simpa using g⟩ (by simp only;omega) kE.c.c.c.c.c.c (aN [1,1])
 refine .gF a<|.gF a<|.gF a<|.gF a<|.q (.aQ a) ?_
 refine .zn<|.cU<|.skip<|aS<|au<|.region<|.mo rfl ?_
 refine .ia (i+1) .add ?_
 refine .ag rfl<|.nil ?_
 ·exact bd (i+1,I,n) ⟨⟨p,λj=>by rw[j]at f;cases f⟩,by simp only;rw[B,ae5,aeD,afe,aex (by rw[A];simp_all)];simpa using g⟩ (by simp only;omega) kE.c.c.c.c.c.c (aN [1,1])
 refine .gF d<|.gF d<|.gF d<|.gF d<|.q (.aQ d) ?_
 refine .mo rfl<|.gX<|.gX<|.gX<|.gX<|.q .cR<|.zn<|.cU<|.skip<|aS<|au<|.region<|.mo rfl ?_
 refine .ia (i+1) .add ?_
 refine .ag rfl<|.nil ?_
 ·exact bd (i+1,I,n) ⟨⟨p,λj=>by rw[j]at f;cases f⟩,by simp only;rw[B,ae5,aeD,afe,aex (by rw[A];simp_all)];simpa using g⟩ (by simp only;omega) kE.c.c.c.c.c.c (aN [1,1])
 refine .exit<|bo<|bq<|bp<|au<|.sr<|.mo rfl<|.az rfl ?_
 refine .ret (aY _ (.one (.tmp rfl)) ((aN [1])) ?_)
 ·have D:=E f
  subst D
  exact⟨n,by simp[take,bJ],by rw[f];exact g⟩
 have U:i=L.length:=by have:=bA e;omega
 subst U
 rw[ae6]at g
 refine .gF e<|.gF e<|.gF e<|.q (.aQ e) ?_
 refine .zn<|.cU<|.exit<|bo<|bq<|bp<|au<|.sr<|.mo rfl<|.az rfl ?_
 refine .ret (aY _ (.one (.tmp rfl)) ((aN [1])) ?_)
 ·refine⟨n,by simp[take,bJ],?_⟩
  split
  ·exact g
  ·rename_i j
   have D:=E (by simpa using j)
   rw[afr D]at g
   exact g
end
theorem wX(s i:ByteArray)(d:s.size<=9223372036854775807)(c:i.size<=9223372036854775807)(R:ay):Spec prog 139 [.agg [.string s,.string i].toArray] R [] λv H'=>v=.bool (dh s i)/\H'=[]:=by
 refine Spec.body func139 rfl results139 ntmps139 rfl<|.sr ?_
 refine .cb rfl (λe=>?_)
 refine .ag rfl<|.z<|.fa rfl<|.lo rfl<|.aX (kq s d _) (λv b=>?_)
 subst b
 refine .mo rfl<|.split (t:=6) rfl (λa=>?_) (λa=>?_)
 refine .gT a<|.fa rfl<|.gT a<|.lo rfl<|.gT a<|.aX (wW i c _) (λv b=>?_)
 subst b
 refine .q (.aT a)<|.az rfl<|.ret (aP rfl ?_)
 ·exact⟨by unfold dh;simp_all,rfl⟩
 refine .gF a<|.gF a<|.gF a<|.q (.aQ a)<|.az rfl<|.ret (aP rfl ?_)
 ·exact⟨by unfold dh;simp_all,rfl⟩
theorem Ro(s:Sub)(g:s.us.size<=9223372036854775807)(h:s.ss.size<=9223372036854775807)(i:s.si.size<=9223372036854775807)(j:s.sr.size<=9223372036854775807)(R:ay):Spec prog 221 [.agg s.enc.toArray] R [] λv H'=>v=.bool (iX s)/\H'=[]:=by
 obtain⟨us,ss,si,sr⟩:=s
 simp only at g h i j
 refine Spec.body func221 rfl results221 ntmps221 rfl<|.sr ?_
 refine .cb rfl (λl=>?_)
 refine .ag rfl<|.zs<|.sr<|.fa rfl<|.lo rfl<|.q .dF<|.zn<|.cond rfl (λk=>?_) λk=>?_
 refine .sr<|.fa rfl<|.q (.loadT rfl)<|.aX (wX ss si h i _) (λv f=>?_)
 subst f
 refine .mo rfl<|.split (t:=9) rfl (λd=>?_) (λd=>?_)
 refine .gT d<|.fa rfl<|.gT d<|.lo rfl<|.gT d<|.aX (kq sr j _) (λv f=>?_)
 subst f
 refine .q (.aT d)<|.az rfl<|.ret (aJ (aP rfl ?_))
 ·refine⟨aez _ ?_,rfl⟩
  unfold iX
  by_cases a:us=⟨#[]⟩
  ·simp only[a,aeJ]
   simp_all
  ·simp only[a,aeS]
   simp_all
 refine .gF d<|.gF d<|.gF d<|.q (.aQ d)<|.az rfl<|.ret (aJ (aP rfl ?_))
 ·refine⟨aez _ ?_,rfl⟩
  unfold iX
  by_cases a:us=⟨#[]⟩
  ·simp only[a,aeJ]
   simp_all
  ·simp only[a,aeS]
   simp_all
 refine .kn<|.sr<|.fa rfl<|.lo rfl<|.aX (wW us g _) (λv f=>?_)
 subst f
 refine .mo rfl<|.split (t:=17) rfl (λb=>?_) (λb=>?_)
 refine .gT b<|.fa rfl<|.gT b<|.fa rfl<|.gT b<|.lo rfl<|.gT b<|.q .dF<|.q (.aT b)<|.mo rfl<|.split (t:=23) rfl (λc=>?_) (λc=>?_)
 refine .gT c<|.fa rfl<|.gT c<|.fa rfl<|.gT c<|.lo rfl<|.gT c<|.q .dF<|.q (.aT c)<|.mo rfl<|.split (t:=29) rfl (λe=>?_) (λe=>?_)
 refine .gT e<|.fa rfl<|.gT e<|.lo rfl<|.gT e<|.q .dF<|.q (.aT e)<|.az rfl<|.ret (aP rfl ?_)
 ·refine⟨aez _ ?_,rfl⟩
  unfold iX
  by_cases a:us=⟨#[]⟩
  ·simp only[a,aeJ]
   simp_all
  ·simp only[a,aeS]
   simp_all
 refine .gF e<|.gF e<|.gF e<|.q (.aQ e)<|.az rfl<|.ret (aP rfl ?_)
 ·refine⟨aez _ ?_,rfl⟩
  unfold iX
  by_cases a:us=⟨#[]⟩
  ·simp only[a,aeJ]
   simp_all
  ·simp only[a,aeS]
   simp_all
 refine .gF c<|.gF c<|.gF c<|.gF c<|.q (.aQ c)<|.mo rfl<|.gX<|.gX<|.gX<|.q .cR<|.az rfl<|.ret (aP rfl ?_)
 ·refine⟨aez _ ?_,rfl⟩
  unfold iX
  by_cases a:us=⟨#[]⟩
  ·simp only[a,aeJ]
   simp_all
  ·simp only[a,aeS]
   simp_all
 refine .gF b<|.gF b<|.gF b<|.gF b<|.q (.aQ b)<|.mo rfl<|.gX<|.gX<|.gX<|.gX<|.q .cR<|.mo rfl<|.gX<|.gX<|.gX<|.q .cR<|.az rfl<|.ret (aP rfl ?_)
 ·refine⟨aez _ ?_,rfl⟩
  unfold iX
  by_cases a:us=⟨#[]⟩
  ·simp only[a,aeJ]
   simp_all
  ·simp only[a,aeS]
   simp_all
theorem wY(t:aB)(k:t.fits)(R:ay):Spec prog 168 [.agg t.enc.toArray] R [] λv H'=>v=.bool (eS t)/\H'=[]:=by
 obtain⟨d,e,f,g,h,i,j⟩:=k
 refine Spec.body func168 rfl results168 ntmps168 rfl<|.sr ?_
 refine .cb rfl (λl=>?_)
 refine .ag rfl<|.z<|.fa rfl<|.q (.loadT rfl)<|.aX (wX t.os t.oi d e _) (λv c=>?_)
 subst c
 refine .mo rfl<|.split (t:=6) rfl (λa=>?_) (λa=>?_)
 refine .gT a<|.fa rfl<|.gT a<|.lo rfl<|.gT a<|.aX (kq t.rel f _) (λv c=>?_)
 subst c
 refine .q (.aT a)<|.mo rfl<|.split (t:=11) rfl (λb=>?_) (λb=>?_)
 refine .gT b<|.fa rfl<|.gT b<|.q (.loadT rfl)<|.gT b<|.aX (Ro t.sub g h i j _) (λv c=>?_)
 subst c
 refine .q (.aT b)<|.az rfl<|.ret (aP rfl ?_)
 ·exact⟨by unfold eS;simp_all,rfl⟩
 refine .gF b<|.gF b<|.gF b<|.q (.aQ b)<|.az rfl<|.ret (aP rfl ?_)
 ·exact⟨by unfold eS;simp_all,rfl⟩
 refine .gF a<|.gF a<|.gF a<|.q (.aQ a)<|.mo rfl<|.gX<|.gX<|.gX<|.q .cR<|.az rfl<|.ret (aP rfl ?_)
 ·exact⟨by unfold eS;simp_all,rfl⟩
theorem SV.TF{R:ay}{g:Nat}{S:cT}{ps:List RB}{vf vr:Value}{B:List (bf×(Value×aw))}{C:List (Sub×(Value×aw))}(h:SV R g S ps vf vr B C)(s:S.rows.length<=4096)(k:bf)(r:Int){L:List bB}(J:RL S L):
  Spec prog 188 [pT g,.agg [.string k.os,.string k.oi].toArray,.string k.rel,.int .u64 r] R [] λu H'=>∃T,H'=[T]/\OS 117 4 Sub.enc u (if scan S r then(L.filter λx=>x.there r&&decide (x.t.cQ=k)).map (·.t.sub)else []) T:=by
 have pc:=h.pc
 have U:ps.length<=4096:=by rw[<-h.eq,aeC]at s;exact s
 obtain⟨pf,G,O,V⟩:=h.lf k
 have H:RS R 1 u6 (.slice pf (ids (λx=>x.t.cQ) k ps).length G) (kY (λx=>x.t.cQ) k ps):=RS.of_map (enc:=kg) (f:=λp:RB=>p.1) V
 have I:(kY (λx=>x.t.cQ) k ps).length<=4096:=aeL (aeR _ _) U
 refine Spec.gQ (H':=[[]]) (by simp)<|Spec.body func188 rfl results188 ntmps188 rfl<|.sr ?_
 refine .cb rfl (λb5=>?_)
 refine .ag rfl<|.zs<|.sr<|.mo rfl<|.mo rfl<|.aX ((h.mono λb o d=>.inl d).can r) (λv Z=>?_)
 subst Z
 refine .q .not<|.zn<|.cond rfl (λj=>?_) λj=>?_
 have m:scan S r=false:=by simpa using j
 refine .sr<|.az rfl<|.ret (aJ (aY _ (.one (.tmp rfl)) ((aN [1])) ?_))
 ·exact⟨_,by simp[take];rfl,by rw[m];exact OS.nil⟩
 have m:scan S r=true:=by simpa using j
 refine .kn<|.sr<|.ag rfl<|.zs<|.seq<|.cY [] mixed<|.tO 0 rfl .move<|.tO 1 rfl (.nilCheck rfl)<|.tO 2 rfl (.fieldAddr rfl)<|.tO 3 rfl (.ca rfl)<|.tO 4 rfl (.aM rfl)<|.tO 5 rfl .move<|.tO 6 rfl .cL<|.tO 7 rfl (.oG (h.mono λb o d=>.inl d).mf rfl rfl (key:=k) O)<|.tO 8 rfl .move<|.tO 11 rfl .move<|.sT 9 rfl<|.cX (yj _ (kY (λx=>x.t.cQ) k ps) r _ H.rx (λp Q=>(h.pr p (List.mem_filter.1 Q).1).mono λb o d=>.inl d) (by omega)) (λu D Y=>?_)
 obtain⟨a,n,A,a1⟩:=Y
 have a4:a.length<=4096:=by
  rw[A.length_eq,aeC]
  exact aeL (aeR _ _) I
 have a0:a=(L.filter λx=>x.there r&&decide (x.t.cQ=k)).map (·.t):=J.at_ (by
  refine A.trans (.of_eq ?_)
  rw[<-h.eq,List.filter_map,aeT]
  unfold kY
  rw[List.filter_filter];rfl) a1
 refine .nil<|Next.sub<|.tO 10 rfl (.dG n)<|RA.nil (by kernel_rfl)<|au<|.block<|.loop (X:=Nat×Value×aw) (λy=>y.1<=a.length/\OS 117 4 Sub.enc y.2.1 ((a.take y.1).map aB.sub) y.2.2) (λy=>[(9,y.2.1),(25,u),(26,iN a.length),(27,iN y.1)]) (λy=>[D,y.2.2]) (λy=>a.length-y.1) (0,sZ,[]) ⟨aey _,OS.nil⟩ kE.c.c.c.c (aN [0,1]) ?_
 rintro⟨i,vo,F⟩ ⟨M,e⟩
 simp only at M e⊢
 refine .sr<|.q .lss<|.zs<|.cond rfl (λl=>?_) λl=>?_
 have w:i<a.length:=cg l
 obtain⟨x,z⟩:=bQ w
 have W:a.take (i+1)=a.take i++[x]:=by rw[afd,z];rfl
 refine .kn<|.seq<|.block<|.sr ?_
 refine .aK i n z (λa5=>?_)
 refine .q (.aM rfl) ?_
 refine .bX (λa2=>?_)
 refine .bN rfl rfl<|.zn<|.region<|.mo rfl<|.fa rfl<|.q (.loadT rfl) ?_
 refine .dN (λa3=>?_)
 refine .append e (RS.lits (xs:=[x.sub]) rfl (by simp[Sub.enc]) (by simp[Sub.enc,aE])) (by simp only[aeF,aeC,aeE];omega) (λv5 E K=>?_)
 refine .ag rfl<|.nil<|aS<|au<|.region<|.ia (i+1) .add<|.mo rfl<|.nil ?_
 ·exact bd (i+1,v5,E) ⟨w,by simp only;rw[W,aeD];exact K⟩ (by simp only;omega) kE.c.c.c.c (aN [2,2])
 refine .exit<|bo<|bq<|bp<|au<|.sr<|.mo rfl<|.az rfl<|.ret (aY _ (.one (.tmp rfl)) ((aN [1])) ?_)
 ·have N:i=a.length:=by have:=bA l;omega
  subst N
  rw[ae6,a0,aeT]at e
  exact⟨F,by simp[take,bJ],by rw[m];exact e⟩
def iK(s:cm):Bool:=decide (16<s.bR.length)||s.bR.any λr=>iY isWord r.r
theorem rD(c:bL):c.plain.jG isWord=(decide (16<c.bj.length)||decide (16<c.scopes.length)||c.bj.any iK):=by
 unfold Cf.jG bL.plain
 simp only[aeC,List.any_map]
 congr 1
 congr 1
 funext s
 simp[iK,cm.plain,List.any_map,aff]
def mZ(r:cj):Bool:=r.r.types.all (iJ isWord)
def jI(r:cj):Bool:=isWord r.r.name&&fY isWord r.r.nodes !=0&&mZ r
def iz(s:cm):Bool:=isWord s.name&&s.bR.all jI
theorem BO(c:bL):c.plain.right isWord dh=(c.bj.all iz&&c.scopes.all (kP isWord dh)&& !c.plain.jG isWord):=by
 unfold Cf.right
 congr 1
 congr 1
 unfold bL.plain
 simp only[List.all_map]
 congr 1
 funext s
 simp only[iz,na,cm.plain,List.all_map,aff]
 rfl
theorem RG(c:bL)(R:ay)(h:c.is R):Spec prog 140 [.agg c.enc.toArray] R [] λu H'=>u=.bool (c.plain.jG isWord)/\H'=[]:=by
 rw[rD]
 obtain⟨O,N,j,M⟩:=c
 have g:=h.ss
 have B:=h.sc
 have Z:=g.aE
 have i2:=B.aE
 simp only at g B Z i2⊢
 have a1:=g.le
 refine Spec.body func140 rfl results140 ntmps140 rfl<|.sr ?_
 refine .cb rfl (λD=>?_)
 refine .ag rfl<|.zs<|.seq ?_
 refine bz.cO [(1,_)] kE.c (X:=Unit) (λ_=>True) (λ_ E=>(15,.bool (decide (16<j.length)||decide (16<M.length)))::E) (λ_=>[bl D [O,N] 25]) ?_ ?_
 refine .region<|.fa rfl<|.lo rfl<|.q (.bI g)<|.q .gtr<|.mo rfl<|.split (t:=10) rfl (λe=>?_) (λe=>?_)
 refine .gF e<|.gF e<|.gF e<|.gF e<|.q (.aT e)<|.nil ?_
 ·exact aF () aew (kE.c.bV rfl (by grind)) rH
 refine .gT e<|.fa rfl<|.gT e<|.lo rfl<|.gT e<|.q (.bI B)<|.gT e<|.q .gtr<|.q (.aQ e)<|.nil ?_
 ·exact aF () aew (kE.c.bV rfl (by grind)) rH
 intro y Y
 refine au<|.cond rfl (λw=>?_) λw=>?_
 refine .sr<|.az rfl<|.ret (aJ (aP rfl ?_))
 ·exact⟨by rw[w];rfl,rfl⟩
 refine .kn<|.seq<|.sr<|.az rfl<|.block<|.cy [(1,_)] (X:=Nat) (λi=>i<=j.length/\(j.take i).any iK=false) (λi E=>(3,iN i)::E) (λ_ G=>G) (λi=>j.length-i) 0 ⟨aey _,rfl⟩ kE.c.c rH ?_
 rintro i ⟨hi,I⟩
 refine .seq<|.sr<|.mo rfl<|.fa rfl<|.lo rfl<|.q (.bI g)<|.q .lss<|.zn<|.cond rfl (λx=>?_) λx=>?_
 have H:i<j.length:=cg x
 obtain⟨s,m⟩:=bQ H
 have L:=h.all s (ba m)
 have v:=L.rs
 have a2:=v.le
 refine .kn<|.seq<|.block<|.seq<|.sr<|.fa rfl<|.lo rfl<|.mo rfl ?_
 refine .bC i g m (λa4=>?_)
 refine .fa rfl<|.lo rfl<|.q (.bI v)<|.q .gtr<|.zn<|.cond rfl (λz=>?_) λz=>?_
 refine .sr<|.az rfl<|.ret (aJ (bw (aJ (cG (bw (aJ (aP rfl ?_)))))))
 ·refine⟨?_,rfl⟩
  rw[ot m (f:=iK) (by unfold iK;have:=bT z;rw[aeU (by omega)];rfl),afg]
 refine .kn<|.sr<|.az rfl<|.block<|.cy [(1,_),(3,_)] (X:=Nat) (λk=>k<=s.bR.length/\((s.bR.take k).any λr=>iY isWord r.r)=false) (λk E=>(4,iN k)::E) (λ_ G=>G) (λk=>s.bR.length-k) 0 ⟨aey _,rfl⟩ kE.c.c.c rH ?_
 rintro k ⟨hk,J⟩
 refine .seq<|.sr<|.mo rfl<|.fa rfl<|.lo rfl<|.mo rfl ?_
 refine .bC i g m (λa5=>?_)
 refine .fa rfl<|.lo rfl<|.q (.bI v)<|.q .lss<|.zn<|.cond rfl (λA=>?_) λA=>?_
 have F:k<s.bR.length:=cg A
 obtain⟨⟨Q,C,r⟩,o⟩:=bQ F
 have p:=L.all _ (ba o)
 have V:RS R 2 Ty.enc Q r.types:=p.t
 have K:RS R 5 Nd.enc C r.nodes:=p.d
 have a3:cB (cj.enc ⟨Q,C,r⟩):=⟨p.cV⟩
 refine .kn<|.seq<|.block<|.sr<|.fa rfl<|.lo rfl<|.mo rfl ?_
 refine .bC i g m (λa6=>?_)
 refine .fa rfl<|.lo rfl<|.mo rfl ?_
 refine .bC k v o (λa7=>?_)
 refine .q (.aM rfl) ?_
 refine .bX (λb5=>?_)
 refine .bN rfl rfl<|.zs ?_
 refine bz.cO [(1,_),(3,_),(4,_)] kE.c.c.c (X:=Unit) (λ_=>True) (λ_ E=>(66,.bool (iY isWord r))::E) (λ_=>[bl D [O,N] 25]) ?_ ?_
 refine .region<|.fa rfl<|.lo rfl<|.q (.bI V)<|.q .gtr<|.mo rfl<|.split (t:=55) rfl (λb=>?_) (λb=>?_)
 refine .gF b<|.gF b<|.gF b<|.gF b<|.q (.aT b)<|.mo rfl<|.gX<|.gX<|.gX<|.gX<|.q .db<|.nil ?_
 ·exact aF () aew (kE.c.c.c.bV rfl (by grind[iY])) (aN [1])
 refine .gT b<|.fa rfl<|.gT b<|.lo rfl<|.gT b<|.q (.bI K)<|.gT b<|.q .gtr<|.q (.aQ b)<|.mo rfl<|.split (t:=61) rfl (λa=>?_) (λa=>?_)
 refine .gF a<|.gF a<|.gF a<|.gF a<|.q (.aT a)<|.nil ?_
 ·exact aF () aew (kE.c.c.c.bV rfl (by grind[iY])) (aN [1])
 refine .gT a<|.fa rfl<|.gT a<|.lo rfl<|.gT a<|.aX ((BF C r.nodes R K p.fd).weaken cM) (λu W=>?_)
 subst W
 refine .gT a<|.q .gtr<|.q (.aQ a)<|.nil ?_
 ·exact aF () aew (kE.c.c.c.bV rfl (by grind[iY])) (aN [1])
 intro y Y
 refine au<|.cond rfl (λn=>?_) λn=>?_
 refine .sr<|.az rfl<|.ret (bw (aJ (cG (bw (bw (aJ (cG (bw (aJ (aP rfl ?_))))))))))
 ·refine⟨?_,rfl⟩
  rw[ot m (f:=iK) (by unfold iK;rw[ot o n,afg]),afg]
 refine .skip<|aS<|au<|.region<|.mo rfl<|.ia (k+1) .add<|.ag rfl<|.nil ?_
 ·exact bd (k+1) ⟨F,qP o J n⟩ (by omega) kE.c.c.c rH
 have U:iK s=false:=by
  have n:(s.bR.any λr=>iY isWord r.r)=false:=by rw[<-dB (l:=s.bR) (i:=k) (by have:=bA A;omega)];exact J
  have a0:=bA z
  unfold iK
  rw[n,Bool.or_false]
  exact aeM (by omega)
 refine .exit<|bo<|bq<|bp<|aS<|au<|.region<|.mo rfl<|.ia (i+1) .add<|.ag rfl<|.nil ?_
 ·exact bd (i+1) ⟨H,qP m I U⟩ (by omega) kE.c.c rH
 have T:j.any iK=false:=by rw[<-dB (l:=j) (i:=i) (by have:=bA x;omega)];exact I
 refine .exit<|bo<|bq<|bp<|au<|.sr<|.az rfl<|.ret (aP rfl ?_)
 ·refine⟨?_,rfl⟩
  have S:(decide (16<j.length)||decide (16<M.length))=false:=w
  rw[S,T]
  rfl
theorem RU(c:bL)(R:ay)(h:c.is R):Spec prog 76 [.agg c.enc.toArray] R [] λu H'=>u=.bool (c.plain.right isWord dh)/\H'=[]:=by
 rw[BO]
 obtain⟨T,S,A,z⟩:=c
 have K:=h.ss
 have J:=h.sc
 have i1:=K.aE
 have i2:=J.aE
 simp only at K J i1 i2⊢
 have c0:=K.le
 have b9:=J.le
 refine Spec.body func76 rfl results76 ntmps76 rfl<|.sr ?_
 refine .cb rfl (λU=>?_)
 refine .ag rfl<|.zs<|.sr<|.az rfl<|.block<|.cy [(1,_)] (X:=Nat) (λi=>i<=A.length/\(A.take i).all iz=true) (λi E=>(3,iN i)::E) (λ_ G=>G) (λi=>A.length-i) 0 ⟨aey _,rfl⟩ kE.c.c rH ?_
 rintro i ⟨hi,hq⟩
 refine .seq<|.sr<|.mo rfl<|.fa rfl<|.lo rfl<|.q (.bI K)<|.q .lss<|.zn<|.cond rfl (λV=>?_) λV=>?_
 have a4:i<A.length:=cg V
 obtain⟨⟨C,L,w⟩,v⟩:=bQ a4
 have N:=h.all _ (ba v)
 have a0:RS R 3 cj.enc L w:=N.rs
 have c1:=a0.le
 have c4:cB (cm.enc ⟨C,L,w⟩):=⟨N.cV⟩
 refine .kn<|.seq<|.block<|.sr<|.fa rfl<|.lo rfl<|.mo rfl ?_
 refine .bC i K v (λc5=>?_)
 refine .q (.aM rfl) ?_
 refine .bX (λb4=>?_)
 refine .bN rfl rfl<|.zs<|.sr<|.fa rfl<|.lo rfl<|.aX (kq C N.n _) (λu a=>?_)
 subst a
 refine .q .not<|.zn<|.cond rfl (λW=>?_) λW=>?_
 refine .sr<|.az rfl<|.ret (aJ (bw (aJ (cG (bw (aJ (aP rfl ?_)))))))
 ·refine⟨?_,rfl⟩
  rw[lK v (f:=iz) (by unfold iz;simp only;rw[show isWord C=false by simpa using W];rfl)]
  rfl
 refine .kn<|.sr<|.az rfl<|.block<|.cy [(1,_),(3,_),(4,_)] (X:=Nat) (λk=>k<=w.length/\(w.take k).all jI=true) (λk E=>(5,iN k)::E) (λ_ G=>G) (λk=>w.length-k) 0 ⟨aey _,rfl⟩ kE.c.c.c.c rH ?_
 rintro k ⟨hk,a7⟩
 refine .seq<|.sr<|.mo rfl<|.fa rfl<|.lo rfl<|.q (.bI a0)<|.q .lss<|.zn<|.cond rfl (λY=>?_) λY=>?_
 have a3:k<w.length:=cg Y
 obtain⟨⟨M,D,r⟩,I⟩:=bQ a3
 have B:=N.all _ (ba I)
 have a1:RS R 2 Ty.enc M r.types:=B.t
 have b3:RS R 5 Nd.enc D r.nodes:=B.d
 have c2:=a1.le
 have c3:cB (cj.enc ⟨M,D,r⟩):=⟨B.cV⟩
 refine .kn<|.seq<|.block<|.sr<|.fa rfl<|.lo rfl<|.mo rfl ?_
 refine .bC k a0 I (λc6=>?_)
 refine .q (.aM rfl) ?_
 refine .bX (λb6=>?_)
 refine .bN rfl rfl<|.zs<|.seq ?_
 refine bz.cO [(1,_),(3,_),(4,_),(5,_),(6,_)] kE.c.c.c.c.c (X:=Unit) (λ_=>True) (λ_ E=>(48,.bool (!(isWord r.name&&fY isWord r.nodes !=0)))::E) (λ_=>[bl b6 (cj.enc ⟨M,D,r⟩) 167,bl b4 (cm.enc ⟨C,L,w⟩) 164,bl U [T,S] 25]) ?_ ?_
 refine .region<|.fa rfl<|.lo rfl<|.aX (kq r.name B.n _) (λu a=>?_)
 subst a
 refine .q .not<|.mo rfl<|.split (t:=43) rfl (λg=>?_) (λg=>?_)
 refine .gF g<|.gF g<|.gF g<|.gF g<|.q (.aT g)<|.nil ?_
 ·exact aF () aew (kE.c.c.c.c.c.bV rfl (by grind)) rH
 refine .gT g<|.fa rfl<|.gT g<|.lo rfl<|.gT g<|.aX ((BF D r.nodes R b3 B.fd).weaken cM) (λu a=>?_)
 subst a
 refine .gT g<|.q .bU<|.q (.aQ g)<|.nil ?_
 ·exact aF () aew (kE.c.c.c.c.c.bV rfl (by grind)) rH
 intro y hy
 refine au<|.cond rfl (λh4=>?_) λh4=>?_
 refine .sr<|.az rfl<|.ret (aJ (bw (aJ (cG (bw (bw (aJ (cG (bw (aJ (aP rfl ?_)))))))))))
 ·refine⟨?_,rfl⟩
  rw[lK v (f:=iz) (by unfold iz;simp only;rw[lK I (f:=jI) (by unfold jI;rw[show(isWord r.name&&fY isWord r.nodes !=0)=false by grind];rfl),aeI])]
  rfl
 refine .kn<|.sr<|.az rfl<|.block<|.cy [(1,_),(3,_),(4,_),(5,_),(6,_)] (X:=Nat) (λm=>m<=r.types.length/\(r.types.take m).all (iJ isWord)=true) (λm E=>(7,iN m)::E) (λ_ G=>G) (λm=>r.types.length-m) 0 ⟨aey _,rfl⟩ kE.c.c.c.c.c.c rH ?_
 rintro m ⟨hm,a8⟩
 refine .seq<|.sr<|.mo rfl<|.fa rfl<|.lo rfl<|.q (.bI a1)<|.q .lss<|.zn<|.cond rfl (λF=>?_) λF=>?_
 have a5:m<r.types.length:=cg F
 obtain⟨t,O⟩:=bQ a5
 have Q:=B.ft t (ba O)
 refine .kn<|.seq<|.block<|.sr<|.fa rfl<|.lo rfl<|.mo rfl ?_
 refine .bC m a1 O (λc7=>?_)
 refine .q (.aM rfl) ?_
 refine .bX (λb8=>?_)
 refine .bN rfl rfl<|.zs ?_
 refine bz.cO [(1,_),(3,_),(4,_),(5,_),(6,_),(7,_)] kE.c.c.c.c.c.c (X:=Unit) (λ_=>True) (λ_ E=>(79,.bool (!iJ isWord t))::E) (λ_=>[bl b6 (cj.enc ⟨M,D,r⟩) 167,bl b4 (cm.enc ⟨C,L,w⟩) 164,bl U [T,S] 25]) ?_ ?_
 refine .region<|.fa rfl<|.lo rfl<|.q .dF<|.mo rfl<|.split (t:=64) rfl (λx=>?_) (λx=>?_)
 refine .gT x<|.fa rfl<|.gT x<|.lo rfl<|.gT x<|.q .dF<|.q (.aT x)<|.mo rfl<|.split (t:=69) rfl (λe=>?_) (λe=>?_)
 refine .gF e<|.gF e<|.gF e<|.gF e<|.dg rfl<|.dg rfl<|.dg rfl<|.gF e<|.q (.aT e)<|.q .not<|.nil ?_
 ·exact aF () aew (kE.c.c.c.c.c.c.bV rfl (by grind[iJ])) (aN [1,1,1])
 refine .gT e<|.fa rfl<|.gT e<|.lo rfl<|.gT e<|.aX (kq t.space Q.1 _) (λu a=>?_)
 subst a
 refine .gT e<|.mo rfl<|.split (t:=73) rfl (λb=>?_) (λb=>?_)
 refine .gT b<|.fa rfl<|.gT b<|.lo rfl<|.gT b<|.aX (kq t.rel Q.2 _) (λu a=>?_)
 subst a
 refine .gT e<|.q (.aT b)<|.q (.aQ e)<|.q .not<|.nil ?_
 ·exact aF () aew (kE.c.c.c.c.c.c.bV rfl (by grind[iJ])) (aN [1,1,1])
 refine .gF b<|.gF b<|.gF b<|.gT e<|.q (.aQ b)<|.q (.aQ e)<|.q .not<|.nil ?_
 ·exact aF () aew (kE.c.c.c.c.c.c.bV rfl (by grind[iJ])) (aN [1,1,1])
 refine .gF x<|.gF x<|.gF x<|.q (.aQ x)<|.mo rfl<|.gt rfl<|.fa rfl<|.gt rfl<|.lo rfl<|.gt rfl<|.aX (kq t.space Q.1 _) (λu a=>?_)
 subst a
 refine .gt rfl<|.mo rfl<|.split (t:=73) rfl (λb=>?_) (λb=>?_)
 refine .gT b<|.fa rfl<|.gT b<|.lo rfl<|.gT b<|.aX (kq t.rel Q.2 _) (λu a=>?_)
 subst a
 refine .gt rfl<|.q (.aT b)<|.q .cR<|.q .not<|.nil ?_
 ·exact aF () aew (kE.c.c.c.c.c.c.bV rfl (by grind[iJ])) (aN [1,1,1])
 refine .gF b<|.gF b<|.gF b<|.gt rfl<|.q (.aQ b)<|.q .cR<|.q .not<|.nil ?_
 ·exact aF () aew (kE.c.c.c.c.c.c.bV rfl (by grind[iJ])) (aN [1,1,1])
 intro y hy
 refine au<|.cond rfl (λH=>?_) λH=>?_
 refine .sr<|.az rfl<|.ret (bw (aJ (cG (bw (bw (aJ (cG (bw (bw (aJ (cG (bw (aJ (aP rfl ?_))))))))))))))
 ·refine⟨?_,rfl⟩
  rw[lK v (f:=iz) (by unfold iz;simp only;rw[lK I (f:=jI) (by unfold jI mZ;rw[lK O (by simpa using H),aeI]),aeI])]
  rfl
 refine .skip<|aS<|au<|.region<|.mo rfl<|.ia (m+1) .add<|.ag rfl<|.nil ?_
 ·exact bd (m+1) ⟨a5,nC O a8 (by simpa using H)⟩ (by omega) kE.c.c.c.c.c.c rH
 have b2:jI ⟨M,D,r⟩=true:=by
  have H:r.types.all (iJ isWord)=true:=by rw[<-dB (l:=r.types) (i:=m) (by have:=bA F;omega)];exact a8
  have a9:(!(isWord r.name&&fY isWord r.nodes !=0))=false:=h4
  unfold jI mZ
  simp only[H,aeH]
  simpa using a9
 refine .exit<|bo<|bq<|bp<|aS<|au<|.region<|.mo rfl<|.ia (k+1) .add<|.ag rfl<|.nil ?_
 ·exact bd (k+1) ⟨a3,nC I a7 b2⟩ (by omega) kE.c.c.c.c (aN [1,1])
 have hm:iz ⟨C,L,w⟩=true:=by
  have F:w.all jI=true:=by rw[<-dB (l:=w) (i:=k) (by have:=bA Y;omega)];exact a7
  unfold iz
  simp only[F,aeH]
  simpa using W
 refine .exit<|bo<|bq<|bp<|aS<|au<|.region<|.mo rfl<|.ia (i+1) .add<|.ag rfl<|.nil ?_
 ·exact bd (i+1) ⟨a4,nC v hq hm⟩ (by omega) kE.c.c (aN [1])
 have b0:A.all iz=true:=by rw[<-dB (l:=A) (i:=i) (by have:=bA V;omega)];exact hq
 refine .exit<|bo<|bq<|bp<|au<|.seq<|.sr<|.az rfl<|.block<|.cy [(1,_)] (X:=Nat) (λj=>j<=z.length/\(z.take j).all (kP isWord dh)=true) (λj E=>(9,iN j)::E) (λ_ G=>G) (λj=>z.length-j) 0 ⟨aey _,rfl⟩ kE.c.c rH ?_
 rintro j ⟨hj,a6⟩
 refine .seq<|.sr<|.mo rfl<|.fa rfl<|.lo rfl<|.q (.bI J)<|.q .lss<|.zn<|.cond rfl (λZ=>?_) λZ=>?_
 have a2:j<z.length:=cg Z
 obtain⟨s,v⟩:=bQ a2
 have b5:=h.fc s (ba v)
 obtain⟨f1,f2,f3,f4⟩:=b5
 refine .kn<|.seq<|.block<|.sr<|.fa rfl<|.lo rfl<|.mo rfl ?_
 refine .bC j J v (λc8=>?_)
 refine .q (.aM rfl) ?_
 refine .bX (λb7=>?_)
 refine .bN rfl rfl<|.zs ?_
 refine bz.cO [(1,_),(9,_)] kE.c.c (X:=Unit) (λ_=>True) (λ_ E=>(107,.bool (!kP isWord dh s))::E) (λ_=>[bl U [T,S] 25]) ?_ ?_
 refine .region<|.fa rfl<|.lo rfl<|.aX (kq s.name f1 _) (λu a=>?_)
 subst a
 refine .q .not<|.mo rfl<|.split (t:=96) rfl (λp=>?_) (λp=>?_)
 refine .gF p<|.gF p<|.gF p<|.gF p<|.q (.aT p)<|.mo rfl<|.gX<|.gX<|.gX<|.gX<|.q .db<|.nil ?_
 ·exact aF () aew (kE.c.c.bV rfl (by grind[kP])) (aN [1])
 refine .gT p<|.fa rfl<|.gT p<|.q (.loadT rfl)<|.gT p<|.aX (wX s.kl s.tG f2 f3 _) (λu a=>?_)
 subst a
 refine .gT p<|.q .not<|.q (.aQ p)<|.mo rfl<|.split (t:=102) rfl (λo=>?_) (λo=>?_)
 refine .gF o<|.gF o<|.gF o<|.gF o<|.q (.aT o)<|.nil ?_
 ·exact aF () aew (kE.c.c.bV rfl (by grind[kP])) (aN [1])
 refine .gT o<|.fa rfl<|.gT o<|.lo rfl<|.gT o<|.aX (kq s.rel f4 _) (λu a=>?_)
 subst a
 refine .gT o<|.q .not<|.q (.aQ o)<|.nil ?_
 ·exact aF () aew (kE.c.c.bV rfl (by grind[kP])) (aN [1])
 intro y hy
 refine au<|.cond rfl (λh8=>?_) λh8=>?_
 refine .sr<|.az rfl<|.ret (bw (aJ (cG (bw (aJ (aP rfl ?_))))))
 ·refine⟨?_,rfl⟩
  rw[lK v (by simpa using h8),aeI]
  rfl
 refine .skip<|aS<|au<|.region<|.mo rfl<|.ia (j+1) .add<|.ag rfl<|.nil ?_
 ·exact bd (j+1) ⟨a2,nC v a6 (by simpa using h8)⟩ (by omega) kE.c.c rH
 refine .exit<|bo<|bq<|bp<|au<|.sr<|.q (.aM rfl)<|.aX ((RG ⟨T,S,A,z⟩ R h).weaken cM) (λu a=>?_)
 subst a
 refine .q .not<|.az rfl<|.ret (aP rfl ?_)
 ·refine⟨?_,rfl⟩
  have h9:z.all (kP isWord dh)=true:=by rw[<-dB (l:=z) (i:=j) (by have:=bA Z;omega)];exact a6
  rw[b0,h9]
  rfl
abbrev Nm:=ByteArray×cj
def nI(x:Nm):List Value:=.string x.1::x.2.enc
def Nm.p(x:Nm):ByteArray×Rl:=(x.1,x.2.r)
def bL.fQ(c:bL):List Nm:=c.bj.flatMap λs=>s.bR.map λr=>(s.name,r)
theorem oO(c:bL):c.fQ.map Nm.p=c.plain.all:=by
 unfold bL.fQ Cf.all bL.plain
 simp[List.map_flatMap,List.flatMap_map,cm.plain,Nm.p,aff]
def bL.ik(c:bL):Prop:=c.bj.length<=16/\∀s∈c.bj,s.bR.length<=16
theorem vF{α β:Type}{f:α->List β}{n:Nat}:∀{l:List α},(∀x∈l,(f x).length<=n)->(l.flatMap f).length<=l.length*n
 |[],_=>by simp
 |x::l,h=>by
  have b:=h x aeN
  have c:=vF λy a=>h y (afs _ a)
  rw[List.flatMap_cons,aeK,ae4,Nat.succ_mul]
  omega
theorem bL.ik.fQ{c:bL}(h:c.ik):c.fQ.length<=256:=by
 have:=vF (f:=λs:cm=>s.bR.map λr=>(s.name,r)) (n:=16) (l:=c.bj) λs a=>by rw[aeC];exact h.2 s a
 have b:=h.1
 unfold bL.fQ
 omega
structure qL(R:ay)(v:Value)(L:List Nm):Prop where
 rs:RS R 4 nI v L
 all:∀x∈L,x.2.is R
theorem Qg{R:ay}{x:Nm}(h:x.2.is R):∀u∈nI x,aE u=true:=by
 intro u hu
 rcases List.mem_cons.1 hu with rfl|hu
 ·rfl
 ·exact h.cV u hu
theorem wv{c:bL}{R:ay}(h:c.is R):∀x∈c.fQ,x.2.is R:=by
 intro x a
 obtain⟨s,d,a⟩:=List.mem_flatMap.1 a
 obtain⟨r,b,rfl⟩:=List.mem_map.1 a
 exact(h.all s d).all r b
theorem tP(c:bL)(R:ay)(h:c.is R)(o:c.ik):Spec prog 79 [.agg c.enc.toArray] R [] λu H'=>∃T,H'=[T]/\OS 263 4 nI u c.fQ T:=by
 have hN:=o.fQ
 obtain⟨vs,vc,b,a3⟩:=c
 have d:=h.ss
 have N:=d.aE
 have O:=h.sc.aE
 simp only at d N O⊢
 have a0:=d.le
 have L:∀i s k,b[i]? =some s->((b.take i).flatMap (λs=>s.bR.map λr=>((s.name,r):Nm))++(s.bR.take k).map λr=>((s.name,r):Nm)).length<=512:=λi s k a=>by
  rw[aeK,aeC]
  have e:=vF (f:=λs:cm=>s.bR.map λr=>((s.name,r):Nm)) (n:=16) (l:=b.take i) λs a=>by rw[aeC];exact o.2 s (List.mem_of_mem_take a)
  have g:(b.take i).length<=16:=by rw[aeE];have:=o.1;simp only at this;omega
  have h3:=o.2 s (ba a)
  have h4:(s.bR.take k).length<=16:=by rw[aeE];omega
  omega
 refine Spec.body func79 rfl results79 ntmps79 rfl<|.sr ?_
 refine .cb rfl (λY=>?_)
 refine .ag rfl<|.z<|.ag rfl<|.zs<|.sr<|.az rfl<|.block<|.cy [(1,_)] (X:=Nat×Value×aw) (λy=>y.1<=b.length/\OS 263 4 nI y.2.1 ((b.take y.1).flatMap λs=>s.bR.map λr=>((s.name,r):Nm)) y.2.2) (λy E=>(4,iN y.1)::(3,y.2.1)::E) (λy G=>y.2.2::G) (λy=>b.length-y.1) (0,sZ,[]) ⟨aey _,OS.nil⟩ kE.c.c.c bk.eC ?_
 rintro⟨i,V,v⟩ ⟨I,j⟩
 simp only at I j⊢
 refine .seq<|.sr<|.mo rfl<|.fa rfl<|.lo rfl<|.q (.bI d)<|.q .lss<|.zn<|.cond rfl (λe=>?_) λe=>?_
 have A:i<b.length:=cg e
 obtain⟨s,a⟩:=bQ A
 have B:=h.all _ (ba a)
 have t:=B.rs
 have a1:=t.le
 refine .kn<|.seq<|.block<|.sr<|.az rfl<|.block<|.cy [(1,_),(4,_)] (X:=Nat×Value×aw) (λy=>y.1<=s.bR.length/\OS 263 4 nI y.2.1 (((b.take i).flatMap λs=>s.bR.map λr=>((s.name,r):Nm))++(s.bR.take y.1).map λr=>((s.name,r):Nm)) y.2.2) (λy E=>(5,iN y.1)::(3,y.2.1)::E) (λy G=>y.2.2::G) (λy=>s.bR.length-y.1) (0,V,v) ⟨aey _,by simpa using j⟩ kE.c.c.c.c rH ?_
 rintro⟨k,Q,D⟩ ⟨J,m⟩
 simp only at J m⊢
 refine .seq<|.sr<|.mo rfl<|.fa rfl<|.lo rfl<|.mo rfl ?_
 refine .bC i d a (λa2=>?_)
 refine .fa rfl<|.lo rfl<|.q (.bI t)<|.q .lss<|.zn<|.cond rfl (λg=>?_) λg=>?_
 have w:k<s.bR.length:=cg g
 obtain⟨⟨W,U,r⟩,p⟩:=bQ w
 have M:=B.all _ (ba p)
 have p1:=d.pc a
 have p2:=t.pc p
 refine .kn<|.seq<|.block<|.cY [18] mixed<|.tO 0 rfl .move<|.tO 1 rfl (.fieldAddr rfl)<|.tO 2 rfl (.ca rfl)<|.tO 3 rfl .move<|.tO 4 rfl (.bC i d a rfl rfl rfl)<|.tO 5 rfl (.fieldAddr rfl)<|.tO 6 rfl (.ca rfl)<|.tO 7 rfl (.fieldAddr rfl)<|.tO 8 rfl (.ca rfl)<|.tO 9 rfl .move<|.tO 10 rfl (.bC i d a rfl rfl rfl)<|.tO 11 rfl (.fieldAddr rfl)<|.tO 12 rfl (.ca rfl)<|.tO 13 rfl .move<|.tO 14 rfl (.bC k t p rfl rfl rfl)<|.tO 15 rfl (.aM rfl)<|.tO 16 rfl .cL<|.sT 17 rfl ?_
 refine .dN (λZ=>?_)
 refine .nil<|Next.sub<|.sT 18 rfl<|.append m (RS.lits (xs:=[((s.name,⟨W,U,r⟩):Nm)]) rfl (by simp[nI,cj.enc]) (by intro x C;rw[aeV]at C;subst C;exact Qg M)) (by have:=L i s k a;simp only[aeF];omega) (λS F H=>?_)
 refine .nil<|Next.mod rfl<|.tK 19 rfl .assign<|RA.nil (by kernel_rfl)<|aS<|au<|.region<|.mo rfl<|.ia (k+1) .add<|.ag rfl<|.nil ?_
 ·exact bd (k+1,S,F) ⟨w,by simp only;rw[dS p,aeD, <-List.append_assoc];exact H⟩ (by simp only;omega) kE.c.c.c.c (aN [1,1])
 have K:s.bR.length<=k:=by have:=bA g;omega
 rw[dB K]at m
 refine .exit<|bo<|bq<|bp<|aS<|au<|.region<|.mo rfl<|.ia (i+1) .add<|.ag rfl<|.nil ?_
 ·exact bd (i+1,Q,D) ⟨A,by simp only;rw[dS a,List.flatMap_append];simpa using m⟩ (by simp only;omega) kE.c.c.c rH
 refine .exit<|bo<|bq<|bp<|au<|.sr<|.mo rfl<|.az rfl<|.ret (aY _ (.one (.tmp rfl)) (.one [0] _) ?_)
 ·refine⟨v,by simp[take],?_⟩
  rw[dB (il e)]at j
  exact j
def fI(o:Option Nat):Int:=match o with|none=> -1|some i=>i
theorem oU(v:Value)(L:List Nm)(R:ay)(h:qL R v L)(d b:ByteArray):
  Spec prog 141 [v,.string d,.string b] R [] λu H'=>u=.int .i64 (fI (bW (L.map Nm.p) ⟨d,b⟩))/\H'=[]:=by
 have l:=h.rs
 have H:=l.le
 refine Spec.body func141 rfl results141 ntmps141 rfl<|.sr<|.ag rfl<|.zs<|.sr<|.az rfl<|.block<|.cy [(0,_),(1,_),(2,_)] (X:=Nat) (λi=>i<=L.length/\∀j x,j<i->L[j]? =some x->dZ x.p≠⟨d,b⟩) (λi E=>(7,iN i)::E) (λ_ G=>G) (λi=>L.length-i) 0 ⟨aey _,λj x f=>absurd f (by omega)⟩ kE.c.c.c.c rH ?_
 rintro i ⟨F,w⟩
 refine .seq<|.sr<|.mo rfl<|.mo rfl<|.q (.bI l)<|.q .lss<|.zn<|.cond rfl (λn=>?_) λn=>?_
 have s:i<L.length:=cg n
 obtain⟨⟨m,N,M,r⟩,g⟩:=bQ s
 have I:=h.all _ (ba g)
 refine .kn<|.seq<|.block<|.seq ?_
 refine bz.cO [(0,_),(1,_),(2,_),(7,_)] kE.c.c.c.c (X:=Unit) (λ_=>True) (λ_ E=>(30,.bool (decide (m=d)&&decide (r.name=b)))::E) (λ_=>[]) ?_ ?_
 refine .region<|.mo rfl<|.mo rfl ?_
 refine .bC i l g (λJ=>?_)
 refine .fa rfl<|.lo rfl<|.mo rfl<|.q .dF<|.mo rfl<|.split (t:=21) rfl (λa=>?_) (λa=>?_)
 refine .gT a<|.mo rfl<|.gT a<|.mo rfl<|.gT a ?_
 refine .bC i l g (λK=>?_)
 refine .gT a<|.fa rfl<|.gT a<|.fa rfl<|.gT a<|.lo rfl<|.gT a<|.mo rfl<|.gT a<|.q .dF<|.q (.aT a)<|.nil ?_
 ·exact aF () aew (kE.c.c.c.c.bV rfl (by grind)) rH
 refine .gF a<|.gF a<|.gF a<|.gF a<|.gF a<|.gF a<|.gF a<|.gF a<|.q (.aQ a)<|.nil ?_
 ·exact aF () aew (kE.c.c.c.c.bV rfl (by grind)) rH
 intro y A
 refine au<|.cond rfl (λo=>?_) λo=>?_
 refine .sr<|.mo rfl<|.az rfl<|.ret (bw (aJ (cG (bw (aJ (aP rfl ?_))))))
 ·refine⟨?_,rfl⟩
  have z:m=d/\r.name=b:=by simpa using o
  have:bW (L.map Nm.p) ⟨d,b⟩=some i:=by
   unfold bW
   rw[afy]
   refine⟨by rw[aeC];exact s,?_,λj f=>?_⟩
   ·have e:=(aeW.1 g).2
    rw[List.getElem_map,e]
    exact aeU (by show(⟨m,r.name⟩:Ty)=_;rw[z.1,z.2])
   ·rw[List.getElem_map]
    have:=w j _ f (aZ (by omega))
    simpa using this
  rw[this]
  rfl
 refine .skip<|aS<|au<|.region<|.mo rfl<|.ia (i+1) .add<|.ag rfl<|.nil ?_
 ·exact bd (i+1) ⟨s,λj x f k=>by
   rcases aeX j i with hh|hh
   ·exact w j x hh k
   ·obtain rfl:j=i:=by omega
    rw[g]at k
    cases k
    intro B
    injection B with k1 k2
    have C:m=d:=k1
    have D:r.name=b:=k2
    subst C;subst D
    simp at o⟩ (by omega) kE.c.c.c.c rH
 refine .exit<|bo<|bq<|bp<|au<|.sr<|.az rfl<|.ret (aP rfl ?_)
 ·refine⟨?_,rfl⟩
  have:bW (L.map Nm.p) ⟨d,b⟩=none:=by
   unfold bW
   rw[List.findIdx?_eq_none_iff]
   intro x k
   obtain⟨y,A,rfl⟩:=List.mem_map.1 k
   obtain⟨j,f,e⟩:=aeY.1 A
   have:=w j y (by have:=bA n;omega) (by rw[aZ f,e])
   simpa using this
  rw[this]
  rfl
theorem wz{α:Type}{l:List α}{i:Nat}{x:α}(j:l[i]? =some x)(h:(l.take i).Nodup)(g:∀k y,k<i->l[k]? =some y->y≠x):(l.take (i+1)).Nodup:=by
 rw[dS j,aft]
 refine⟨h,by simp,λa d b c=>?_⟩
 rw[aeV]at c
 subst c
 obtain⟨k,f,e⟩:=aeY.1 d
 rw[aeE]at f
 exact g k a (by omega) (by rw[afh]at e;rw[aZ (by omega),e])
theorem mS{α:Type}{l:List α}{i k:Nat}{x y:α}(f:k<i)(g:l[i]? =some x)(j:l[k]? =some y)(e:x=y):¬l.Nodup:=by
 intro h
 obtain⟨a,b⟩:=aeW.1 g
 obtain⟨c,d⟩:=aeW.1 j
 have:=(List.nodup_iff_pairwise_ne.1 h)
 rw[List.pairwise_iff_getElem]at this
 exact this k i c a f (by rw[d,b,e])
theorem BM{L:List (ByteArray×Rl)}{i:Nat}{x:ByteArray×Rl}(a:L[i]? =some x):∃j,bW L (dZ x)=some j/\j<=i/\∃y,L[j]? =some y/\dZ y=dZ x:=by
 cases h:bW L (dZ x)with
 |none=>
  unfold bW at h
  rw[List.findIdx?_eq_none_iff]at h
  have:=h x (ba a)
  simp at this
 |some j=>
  unfold bW at h
  rw[afy]at h
  obtain⟨b,c,d⟩:=h
  refine⟨j,rfl,?_,_,aZ b,bT c⟩
  rcases aeX i j with h4|h4
  ·have:=d i h4
   rw[(aeW.1 a).2]at this
   simp at this
  ·exact h4
theorem RY(c:bL)(R:ay)(h:c.is R)(hf:c.ik):Spec prog 77 [.agg c.enc.toArray] R [] λu H'=>u=.bool (!decide c.plain.dW)/\H'=[]:=by
 have a7:=oO c
 have a4:=wv h
 have a8:=tP c R h hf
 have T:c.plain.dW↔(c.bj.map (·.name)).Nodup/\((c.fQ.map Nm.p).map dZ).Nodup/\(c.scopes.map (·.name)).Nodup:=by
  unfold Cf.dW
  rw[<-a7]
  simp only[bL.plain,aeT]
  exact Iff.rfl
 generalize hL:c.fQ=L at *
 obtain⟨vs,vc,g,f⟩:=c
 have D:=h.ss
 have C:=h.sc
 have i1:=D.aE
 have a:=C.aE
 simp only at D C i1 a T⊢
 have c2:=D.le
 have c1:=C.le
 refine Spec.body func77 rfl results77 ntmps77 rfl<|.sr ?_
 refine .cb rfl (λb1=>?_)
 refine .ag rfl<|.zs<|.sr<|.az rfl<|.block<|.cy [(1,_)] (X:=Nat) (λi=>i<=g.length/\((g.map (·.name)).take i).Nodup) (λi E=>(3,iN i)::E) (λ_ G=>G) (λi=>g.length-i) 0 ⟨aey _,by simp⟩ kE.c.c rH ?_
 rintro i ⟨hi,n⟩
 refine .seq<|.sr<|.mo rfl<|.fa rfl<|.lo rfl<|.q (.bI D)<|.q .lss<|.zn<|.cond rfl (λV=>?_) λV=>?_
 have K:i<g.length:=cg V
 obtain⟨s,M⟩:=bQ K
 have N:(g.map (·.name))[i]? =some s.name:=by rw[aeB,M];rfl
 refine .kn<|.seq<|.block<|.sr<|.az rfl<|.block<|.cy [(1,_),(3,_)] (X:=Nat) (λk=>k<=i/\∀j y,j<k->(g.map (·.name))[j]? =some y->y≠s.name) (λk E=>(4,iN k)::E) (λ_ G=>G) (λk=>i-k) 0 ⟨aey _,λj y I=>absurd I (by omega)⟩ kE.c.c.c rH ?_
 rintro k ⟨hk,w⟩
 refine .seq<|.sr<|.mo rfl<|.mo rfl<|.q .lss<|.zn<|.cond rfl (λW=>?_) λW=>?_
 have J:k<i:=cg W
 obtain⟨t,Q⟩:∃t,g[k]? =some t:=⟨_,aZ (by omega)⟩
 have S:(g.map (·.name))[k]? =some t.name:=by rw[aeB,Q];rfl
 refine .kn<|.seq<|.block<|.seq<|.fS mixed (by kernel_rfl)<|.fa rfl<|.lo rfl<|.mo rfl ?_
 refine .bC i D M (λc6=>?_)
 refine .fa rfl<|.lo rfl<|.fa rfl<|.lo rfl<|.mo rfl ?_
 refine .bC k D Q (λc7=>?_)
 refine .fa rfl<|.lo rfl<|.q .dF<|.zn<|.cond rfl (λU=>?_) λU=>?_
 refine .sr<|.az rfl<|.ret (bw (aJ (cG (bw (bw (aJ (cG (bw (aJ (aP rfl ?_))))))))))
 ·refine⟨?_,rfl⟩
  rw[aeM λhh=>mS J N S (by simpa using U) (T.1 hh).1]
  rfl
 refine .skip<|aS<|au<|.region<|.mo rfl<|.ia (k+1) .add<|.ag rfl<|.nil ?_
 ·exact bd (k+1) ⟨J,λj y I d=>by
   rcases aeX j k with hh|hh
   ·exact w j y hh d
   ·obtain rfl:j=k:=by omega
    rw[S]at d
    cases d
    intro e
    rw[e]at U
    simp at U⟩ (by omega) kE.c.c.c rH
 have a0:k=i:=by have:=bA W;omega
 rw[a0]at w
 refine .exit<|bo<|bq<|bp<|aS<|au<|.region<|.mo rfl<|.ia (i+1) .add<|.ag rfl<|.nil ?_
 ·exact bd (i+1) ⟨K,wz N n w⟩ (by omega) kE.c.c rH
 have a9:(g.map (·.name)).Nodup:=by rw[dB (by rw[aeC];have:=bA V;omega)]at n;exact n
 refine .exit<|bo<|bq<|bp<|au<|.sr<|.q (.aM rfl)<|.cX (a8.weaken cM) (λu T5 F=>?_)
 have c3:=F.le
 refine .ag rfl<|.zs<|.sr<|.az rfl<|.block<|.cy [(1,_),(5,_)] (X:=Nat) (λi=>i<=L.length/\(((L.map Nm.p).map dZ).take i).Nodup) (λi E=>(6,iN i)::E) (λ_ G=>G) (λi=>L.length-i) 0 ⟨aey _,by simp⟩ kE.c.c.c rH ?_
 rintro a ⟨b9,a1⟩
 refine .seq<|.sr<|.mo rfl<|.mo rfl<|.q (.dG F)<|.q .lss<|.zn<|.cond rfl (λY=>?_) λY=>?_
 have a3:a<L.length:=cg Y
 obtain⟨⟨A,vt,vn,r⟩,O⟩:=bQ a3
 have c5:=a4 _ (ba O)
 have a5:(L.map Nm.p)[a]? =some (A,r):=by rw[aeB,O];rfl
 have a6:((L.map Nm.p).map dZ)[a]? =some ⟨A,r.name⟩:=by rw[aeB,a5];rfl
 obtain⟨m,b4,c0,yf,b6,b8⟩:=BM a5
 have a2:bW (L.map Nm.p) ⟨A,r.name⟩=some m:=b4
 have pq:PS T5 (ez u (a*4)) (nI (A,⟨vt,vn,r⟩)):=⟨F.pc O⟩
 refine .kn<|.seq<|.block<|.seq<|.cY [12] mixed<|.tO 0 rfl .move<|.tO 1 rfl .move<|.tO 2 rfl .move ?_
 refine RA.aK 3 rfl a F O rfl rfl rfl (by kernel_rfl) (λc8=>?_)
 refine .tO 4 rfl (.fieldAddr rfl)<|.tO 5 rfl (.ca rfl)<|.tO 6 rfl .move<|.tO 7 rfl .move ?_
 refine RA.aK 8 rfl a F O rfl rfl rfl (by kernel_rfl) (λc9=>?_)
 refine .tO 9 rfl (.fieldAddr rfl)<|.tO 10 rfl (.fieldAddr rfl)<|.tO 11 rfl (.ca rfl)<|.tK 13 rfl .move<|.sT 12 rfl<|.aX (oU u L _ ⟨F.rx,λx hx=>(a4 x hx).mono λb o hb=>.inl hb⟩ A r.name) (λv hv=>?_)
 subst hv
 rw[a2]
 refine .nil<|Next.mod rfl<|.tK 14 rfl .eh<|RA.nil (by kernel_rfl)<|au<|.cond rfl (λZ=>?_) λZ=>?_
 refine .sr<|.az rfl<|.ret (bw (aJ (cG (bw (aJ (aP rfl ?_))))))
 ·refine⟨?_,rfl⟩
  have c4:m≠a:=by
   intro e
   subst e
   simp[fI]at Z
  have b7:((L.map Nm.p).map dZ)[m]? =some ⟨A,r.name⟩:=by rw[aeB,b6];exact aez some b8
  rw[aeM λhh=>mS (show m<a by omega) a6 b7 rfl (T.1 hh).2.1]
  rfl
 have b3:m=a:=by
  have l:(fI (some m)==(a:Int))=true:=by simpa using Z
  have B:fI (some m)=(a:Int):=by simpa using l
  have H:(m:Int)=(a:Int):=B
  omega
 refine .skip<|aS<|au<|.region<|.mo rfl<|.ia (a+1) .add<|.ag rfl<|.nil ?_
 ·exact bd (a+1) ⟨a3,wz a6 a1 λk y hk d=>by
   intro e
   subst e
   rw[aeB]at d
   cases hz:(L.map Nm.p)[k]? with
   |none=>rw[hz]at d;cases d
   |some z=>
    rw[hz]at d
    have b5:dZ z=⟨A,r.name⟩:=by simpa using d
    obtain⟨j2,l,B,_⟩:=BM hz
    rw[b5,a2,b3]at l
    cases l
    omega⟩ (by omega) kE.c.c.c rH
 have b0:((L.map Nm.p).map dZ).Nodup:=by rw[dB (by simp only[aeC];have:=bA Y;omega)]at a1;exact a1
 refine .exit<|bo<|bq<|bp<|au<|.seq<|.sr<|.az rfl<|.block<|.cy [(1,_)] (X:=Nat) (λi=>i<=f.length/\((f.map (·.name)).take i).Nodup) (λi E=>(7,iN i)::E) (λ_ G=>G) (λi=>f.length-i) 0 ⟨aey _,by simp⟩ kE.c.c rH ?_
 rintro i ⟨hi,n⟩
 refine .seq<|.sr<|.mo rfl<|.fa rfl<|.lo rfl<|.q (.bI C)<|.q .lss<|.zn<|.cond rfl (λl=>?_) λl=>?_
 have K:i<f.length:=cg l
 obtain⟨s,M⟩:=bQ K
 have N:(f.map (·.name))[i]? =some s.name:=by rw[aeB,M];rfl
 refine .kn<|.seq<|.block<|.sr<|.az rfl<|.block<|.cy [(1,_),(7,_)] (X:=Nat) (λk=>k<=i/\∀j y,j<k->(f.map (·.name))[j]? =some y->y≠s.name) (λk E=>(8,iN k)::E) (λ_ G=>G) (λk=>i-k) 0 ⟨aey _,λj y I=>absurd I (by omega)⟩ kE.c.c.c rH ?_
 rintro k ⟨hk,w⟩
 refine .seq<|.sr<|.mo rfl<|.mo rfl<|.q .lss<|.zn<|.cond rfl (λB=>?_) λB=>?_
 have J:k<i:=cg B
 obtain⟨t,Q⟩:∃t,f[k]? =some t:=⟨_,aZ (by omega)⟩
 have S:(f.map (·.name))[k]? =some t.name:=by rw[aeB,Q];rfl
 refine .kn<|.seq<|.block<|.seq<|.fS mixed (by kernel_rfl)<|.fa rfl<|.lo rfl<|.mo rfl ?_
 refine .bC i C M (λd0=>?_)
 refine .fa rfl<|.lo rfl<|.fa rfl<|.lo rfl<|.mo rfl ?_
 refine .bC k C Q (λd1=>?_)
 refine .fa rfl<|.lo rfl<|.q .dF<|.zn<|.cond rfl (λH=>?_) λH=>?_
 refine .sr<|.az rfl<|.ret (bw (aJ (cG (bw (bw (aJ (cG (bw (aJ (aP rfl ?_))))))))))
 ·refine⟨?_,rfl⟩
  rw[aeM λhh=>mS J N S (by simpa using H) (T.1 hh).2.2]
  rfl
 refine .skip<|aS<|au<|.region<|.mo rfl<|.ia (k+1) .add<|.ag rfl<|.nil ?_
 ·exact bd (k+1) ⟨J,λj y I d=>by
   rcases aeX j k with hh|hh
   ·exact w j y hh d
   ·obtain rfl:j=k:=by omega
    rw[S]at d
    cases d
    intro e
    rw[e]at H
    simp at H⟩ (by omega) kE.c.c.c rH
 have a0:k=i:=by have:=bA B;omega
 rw[a0]at w
 refine .exit<|bo<|bq<|bp<|aS<|au<|.region<|.mo rfl<|.ia (i+1) .add<|.ag rfl<|.nil ?_
 ·exact bd (i+1) ⟨K,wz N n w⟩ (by omega) kE.c.c rH
 have b2:(f.map (·.name)).Nodup:=by rw[dB (by rw[aeC];have:=bA l;omega)]at n;exact n
 refine .exit<|bo<|bq<|bp<|au<|.sr<|.az rfl<|.ret (aP rfl ?_)
 ·refine⟨?_,rfl⟩
  rw[aeU (T.2 ⟨a9,b0,b2⟩)]
  rfl
def da(n:Nat):List Value:=[iN n]
abbrev lY:=Int×Int×Bool
def jS(e:lY):List Value:=[.int .i64 e.1,.int .i64 e.2.1,.bool e.2.2]
instance(e:lY):cB (jS e):=⟨by simp[jS,aE]⟩
def Ed.m(e:Ed):lY:=(e.f,e.t,e.a)
theorem Pu{E:List Ed}{now:List Nat}{n j:Nat}{e:Ed}(a:E[j]? =some e):(E.take (j+1)).foldl (fv now) (List.replicate n 0)=fv now ((E.take j).foldl (fv now) (List.replicate n 0)) e:=by rw[dS a,List.foldl_append];rfl
theorem BQ(v:Value)(E:List Ed)(n o:Nat)(R:ay)(h:RS R 3 jS v (E.map Ed.m))(L:∀e∈E,e.f<n/\e.t<n)(hn:n<=1000000)(hs:o<=1000000):
  Spec prog 80 [v,iN n,iN o] R [] λu H'=>∃T,H'=[T]/\OS 3 1 da u (level E n o) T:=by
 have a5:=h.le
 have Y:∀e∈E,e.f<n:=λe A=>(L e A).1
 rw[aeC]at a5
 refine Spec.body func80 rfl results80 ntmps80 rfl ?_
 refine .sr<|.ag rfl<|.z<|.mo rfl ?_
 refine .makeSlice (enc:=da) n 0 rfl rfl (by decide) (by simp[da,aE]) rfl rfl (by omega) (by omega) (λb7 p Z=>?_)
 refine .ag rfl<|.zs<|.sr<|.az rfl<|.block ?_
 refine .cy [(0,_),(1,_),(2,_)] (X:=Nat×Value×aw) (λy=>y.1<=o/\OS 3 1 da y.2.1 (level E n y.1) y.2.2) (λy E=>(8,iN y.1)::(7,y.2.1)::E) (λy G=>y.2.2::G) (λy=>o-y.1) (0,_,p) ⟨aey _,Z⟩ kE.c.c.c.c.c rH ?_
 rintro⟨s,v7,p⟩ ⟨b0,J⟩
 simp only at b0 J⊢
 have a6:∀i,(level E n s).getD i 0<=s:=vX Y s
 have b3:(level E n s).length=n:=lg s
 generalize O:level E n s=now at *
 refine .seq<|.sr<|.mo rfl<|.mo rfl<|.q .lss<|.zn ?_
 refine .cond rfl (λD=>?_) λD=>?_
 have b1:s<o:=cg D
 refine .kn<|.seq<|.block<|.sr<|.mo rfl ?_
 refine .makeSlice (enc:=da) n 0 rfl rfl (by decide) (by simp[da,aE]) rfl rfl (by omega) (by omega) (λC r g=>?_)
 refine .ag rfl<|.zs<|.sr<|.az rfl<|.block ?_
 refine .cy [(0,_),(1,_),(2,_),(7,_),(8,_),(9,_)] (X:=Nat×aw) (λy=>y.1<=E.length/\OS 3 1 da (.slice (some ⟨C,0,none⟩) n n) ((E.take y.1).foldl (fv now) (List.replicate n 0)) y.2) (λy E=>(10,iN y.1)::E) (λy G=>y.2::G) (λy=>E.length-y.1) (0,r) ⟨aey _,g⟩ kE.c.c.c.c.c.c.c rH ?_
 rintro⟨j,r⟩ ⟨hj,g⟩
 simp only at hj g⊢
 refine .seq<|.sr<|.mo rfl<|.mo rfl<|.q (.bI h) ?_
 rw[aeC]
 refine .q .lss<|.zn ?_
 refine .cond rfl (λF=>?_) λF=>?_
 have N:j<E.length:=cg F
 obtain⟨e,A⟩:=bQ N
 have a1:(E.map Ed.m)[j]? =some e.m:=by rw[aeB,A];rfl
 obtain⟨a2,a3⟩:=L e (ba A)
 obtain⟨b,l,k⟩:=e
 simp only at a2 a3
 have b4:((E.take j).foldl (fv now) (List.replicate n 0)).length=n:=by rw[vT,afi]
 generalize a8:(E.take j).foldl (fv now) (List.replicate n 0)=nx at *
 have a7:(E.take (j+1)).foldl (fv now) (List.replicate n 0)=fv now nx ⟨b,l,k⟩:=by rw[Pu A,a8]
 obtain⟨a,M⟩:∃a,now[l]? =some a:=⟨_,aZ (by omega)⟩
 obtain⟨z,B⟩:∃z,nx[b]? =some z:=⟨_,aZ (by omega)⟩
 have K:now.getD l 0=a:=by rw[aeG,M];rfl
 have S:nx.getD b 0=z:=by rw[aeG,B];rfl
 have a0:=a6 l
 rw[K]at a0
 refine .kn<|.seq<|.block<|.sr<|.mo rfl<|.mo rfl ?_
 refine .bC j h a1 (λb5=>?_)
 refine .q (.aM rfl) ?_
 refine .bX (λV=>?_)
 refine .bN rfl rfl<|.z<|.mo rfl<|.fa rfl<|.lo rfl ?_
 refine .aK l J M (λb6=>?_)
 refine .lo rfl<|.ag rfl<|.zs<|.sr<|.fa rfl<|.lo rfl<|.zn ?_
 refine bz.cO [(0,_),(1,_),(2,_),(7,_),(8,_),(9,_),(10,_),(11,_)] kE.c.c.c.c.c.c.c.c (X:=Unit) (λ_=>True) (λ_ E=>(12,.int .i64 ((a+(if k then 1 else 0):Nat):Int))::E) (λ_=>[bl V (jS (Ed.m ⟨b,l,k⟩)) 266,r,p]) ?_ ?_
 refine .cond rfl (λH=>?_) λH=>?_
 refine .region<|.mo rfl ?_
 refine .ia (a+1) .add ?_
 refine .ag rfl<|.nil ?_
 ·exact aF () aew (kE.c.c.c.c.c.c.c.c.kW rfl (by have h:k=_:=H;simp[h])) rH
 refine .skip ?_
 ·exact aF () aew (kE.c.c.c.c.c.c.c.c.kW rfl (by have h:k=_:=H;simp[h])) rH
 intro x Q
 refine au<|.sr<|.mo rfl<|.mo rfl<|.fa rfl<|.lo rfl ?_
 refine .aK b g B (λb8=>?_)
 refine .lo rfl<|.q .gtr<|.zn ?_
 refine bz.cO [(0,_),(1,_),(2,_),(7,_),(8,_),(9,_),(10,_)] kE.c.c.c.c.c.c.c (X:=aw) (λT=>OS 3 1 da (.slice (some ⟨C,0,none⟩) n n) (fv now nx ⟨b,l,k⟩) T) (λ_ E=>E) (λT=>[T,p]) ?_ ?_
 refine .cond rfl (λI=>?_) λI=>?_
 refine .region<|.mo rfl<|.fa rfl<|.lo rfl<|.mo rfl ?_
 refine .aK b g B (λc0=>?_)
 refine .du b g B (a+(if k then 1 else 0)) (λU W=>?_)
 refine .nil ?_
 ·exact aF U (by unfold fv Ed.w;simp only;rw[K,S,aeA (by have:=bT I;omega)];exact W) kE.c.c.c.c.c.c.c (aN [1,1])
 refine .skip ?_
 ·exact aF r (by unfold fv Ed.w;simp only;rw[K,S,aex (by have:=bA I;omega)];exact g) kE.c.c.c.c.c.c.c (aN [1,1])
 intro x Q
 have b2:OS 3 1 da (.slice (some ⟨C,0,none⟩) n n) (fv now nx ⟨b,l,k⟩) x:=Q
 refine aS<|au<|.region<|.mo rfl ?_
 refine .ia (j+1) .add ?_
 refine .ag rfl<|.nil ?_
 ·exact bd (j+1,x) ⟨N,by simp only;rw[a7];exact b2⟩ (by simp only;omega) kE.c.c.c.c.c.c.c rH
 have a4:E.length<=j:=by have:=bA F;omega
 rw[dB a4]at g
 refine .exit<|bo<|bq<|bp<|au<|.region<|.mo rfl<|.ag rfl<|.nil<|aS<|au<|.region<|.mo rfl ?_
 refine .ia (s+1) .add ?_
 refine .ag rfl<|.nil ?_
 ·exact bd (s+1,_,r) ⟨b1,by simp only;unfold level;rw[O];exact g⟩ (by simp only;omega) (((((kE.d rfl).d rfl).d rfl).d rfl).d rfl) (aN [0])
 have a9:s=o:=by have:=bA D;omega
 refine .exit<|bo<|bq<|bp<|au<|.sr<|.mo rfl<|.az rfl ?_
 refine .ret (aY _ (.one (.tmp rfl)) (.one [0] _) ?_)
 ·refine⟨p,by simp[take],?_⟩
  rw[<-a9,O]
  exact J
def WE(ok:Bool)(E:List lY)(o:Option (List Ed)):Prop:=match o with
 |some E'=>ok=true/\E=E'.map Ed.m
 |none=>ok=false
def jD(dI:ByteArray)(t:Ty):Ty:=⟨t.space,if dI=⟨#[]⟩then t.rel else dI⟩
theorem sX(l:List (ByteArray×Rl)):∀ks:List Ty,match findAll l ks with
  |some o=>(ks.all λt=>(bW l t).isSome)=true/\(o.map λk:Nat=>(k:Int))=ks.map λt=>fI (bW l t)
  |none=>(ks.all λt=>(bW l t).isSome)=false
 |[]=>⟨rfl,rfl⟩
 |t::ks=>by
  have a:=sX l ks
  unfold findAll
  cases h:bW l t with
  |none=>simp[h]
  |some i=>
   simp only[afj,aeO,h,Option.isSome_some,ae7,List.map_cons]
   cases h2:findAll l ks with
   |none=>rw[h2]at a;exact a
   |some o=>rw[h2]at a;exact⟨a.1,by rw[<-a.2];rfl⟩
def TG(l:List (ByteArray×Rl))(sp:ByteArray)(r:Rl)(n:Nd)(tys:List Ty)(dI:ByteArray):Prop:=
 (n.kind=1/\tys=r.types/\dI=⟨#[]⟩)\/(n.kind=3/\dI=n.dI/\∃k,bW l ⟨sp,n.rel⟩=some k/\tys=(l.map (·.2.types)).getD k [])
def outs(l:List (ByteArray×Rl))(i:Nat)(ab:Bool)(dI:ByteArray)(ts:List Ty):List lY:=(ei ts).map λt=>((i:Int),fI (bW l (jD dI t)),ab)
def nN(l:List (ByteArray×Rl))(dI:ByteArray)(ts:List Ty):Bool:=(ei ts).all λt=>(bW l (jD dI t)).isSome
theorem Cg{a:List Ty}{j:Nat}{t:Ty}(h:a[j]? =some t):ei (a.take (j+1))=ei (a.take j)++if t.space=⟨#[]⟩then []else [t]:=by
 unfold ei
 rw[dS h,ae5]
 congr 1
 by_cases e:t.space=⟨#[]⟩
 ·simp[e]
 ·simp[e]
theorem WE.all{l:List (ByteArray×Rl)}{i:Nat}{ab:Bool}(ks:List Ty):WE (ks.all λt=>(bW l t).isSome) (ks.map λt=>((i:Int),fI (bW l t),ab)) ((findAll l ks).map λts=>ts.map λt=>(⟨i,t,ab⟩:Ed)):=by
 have h:=sX l ks
 cases h2:findAll l ks with
 |none=>rw[h2]at h;exact h
 |some o=>
  rw[h2]at h
  refine⟨h.1,?_⟩
  have:(ks.map λt=>((i:Int),fI (bW l t),ab))=(ks.map λt=>fI (bW l t)).map λz=>((i:Int),z,ab):=by rw[aeT];rfl
  rw[this, <-h.2]
  simp[Ed.m,aff]
theorem Ql{l:List (ByteArray×Rl)}{i:Nat}{g:ByteArray}{r:Rl}{ab:Bool}{n:Nd}{c:List Ty}{a:ByteArray}(h:TG l g r n c a)(m:n.kind=3->n.dI≠⟨#[]⟩):
  WE (nN l a c&&(decide (a=⟨#[]⟩)||decide (0<(outs l i ab a c).length))) (outs l i ab a c) (fx l i g r ab n):=by
 rcases h with⟨b,rfl,rfl⟩|⟨b,rfl,k,j,rfl⟩
 ·have e:∀t:Ty,jD ⟨#[]⟩ t=t:=λt=>by unfold jD;rw[aeA rfl]
  have:=WE.all (l:=l) (i:=i) (ab:=ab) (ei r.types)
  unfold fx targets nN outs
  simp only[e,b,aeJ,decide_true,ae8,aeH]
  exact this
 ·have d:=m b
  have e:∀t:Ty,jD n.dI t=⟨t.space,n.dI⟩:=λt=>by unfold jD;rw[aex d]
  unfold fx targets nN outs
  simp only[e,b,j,aeM d,ae9,aex (show ¬(3:Int)=1 by decide),aex (show ¬(3:Int)=2 by decide),aeJ,aeC]
  generalize o:ei ((l.map (·.2.types)).getD k [])=zs
  have f:=WE.all (l:=l) (i:=i) (ab:=ab) (zs.map λt=>(⟨t.space,n.dI⟩:Ty))
  rw[List.all_map,aeT]at f
  cases zs with
  |nil=>rfl
  |cons z zs=>
   simp only[ae4,Nat.zero_lt_succ,decide_true,aeH]
   exact f
theorem C1{l:List (ByteArray×Rl)}{i:Nat}{c:ByteArray}{r:Rl}{A B:List (Nat×Bool)}{f g:Bool}{h j:List lY}
  (d:WE f h (cat (λp:Nat×Bool=>(r.nodes[p.1]?).bind λn=>fx l i c r p.2 n) A))(e:WE g j (cat (λp:Nat×Bool=>(r.nodes[p.1]?).bind λn=>fx l i c r p.2 n) B)):
  WE (f&&g) (h++j) (cat (λp:Nat×Bool=>(r.nodes[p.1]?).bind λn=>fx l i c r p.2 n) (A++B)):=by
 rw[qQ]
 revert d e
 generalize cat (λp:Nat×Bool=>(r.nodes[p.1]?).bind λn=>fx l i c r p.2 n) A=a
 generalize cat (λp:Nat×Bool=>(r.nodes[p.1]?).bind λn=>fx l i c r p.2 n) B=b
 intro d e
 cases a with
 |none=>have k:f=false:=d;subst k;exact aeP _
 |some a=>
  cases b with
  |none=>have m:g=false:=e;subst m;exact aeI _
  |some b=>obtain⟨rfl,rfl⟩:=d;obtain⟨rfl,rfl⟩:=e;exact⟨rfl,by simp⟩
theorem Qm{l:List (ByteArray×Rl)}{i:Nat}{a:ByteArray}{r:Rl}{ab:Bool}{n:Nd}(b:n.kind=2):
  WE (decide (0<=fI (bW l ⟨a,n.rel⟩))) [((i:Int),fI (bW l ⟨a,n.rel⟩),ab)] (fx l i a r ab n):=by
 have h:=WE.all (l:=l) (i:=i) (ab:=ab) [(⟨a,n.rel⟩:Ty)]
 unfold fx targets
 rw[aex (by omega),aeA b]
 have e:decide (0<=fI (bW l ⟨a,n.rel⟩))=([(⟨a,n.rel⟩:Ty)].all λt=>(bW l t).isSome):=by
  simp only[aeO,aeZ,aeH]
  cases bW l ⟨a,n.rel⟩with
  |none=>rfl
  |some k=>simp[fI]
 rw[e]
 exact h
theorem Qk{l:List (ByteArray×Rl)}{i:Nat}{a:ByteArray}{r:Rl}{ab:Bool}{n:Nd}(b:n.kind=3)(h:fI (bW l ⟨a,n.rel⟩)<0):WE false [] (fx l i a r ab n):=by
 cases hr:bW l ⟨a,n.rel⟩with
 |none=>
  unfold fx targets
  rw[aex (by omega),aex (by omega),aeA b,hr]
  rfl
 |some k=>rw[hr]at h;simp only[fI]at h;omega
def sy(L:List Nm):Prop:=∀x∈L,x.2.r.types.length<=8/\x.2.r.nodes.length<=64/\fY isWord x.2.r.nodes≠0
theorem Us{s:ByteArray}(h:isWord s=true):s≠⟨#[]⟩:=by
 intro e
 subst e
 revert h
 decide+kernel
theorem Qh{L:List Nm}{k:Nat}{y:Nm}(h:L[k]? =some y):((L.map Nm.p).map (·.2.types)).getD k []=y.2.r.types:=by
 rw[aeG,aeB,aeB,h]
 rfl
theorem R8(v:Value)(L:List Nm)(R:ay)(h:qL R v L)(hL:sy L)(i:Nat)(l:ByteArray)(vt vn:Value)(r:Rl)(Z:L[i]? =some (l,⟨vt,vn,r⟩)):
  ∀(m b d:Nat),tree isWord r.nodes m=some (b,d)->∀(ab:Bool) (j:Int),j=(m:Int)-1->
  Spec prog 142 [v,iN i,.int .i64 j,.bool ab] R [] λu H'=>∃T,H'=[T]/\∃w E ok,u=.tuple [w,.bool ok].toArray/\OS 266 3 jS w E T/\E.length<=8*(m-b)/\
   WE ok E (cat (λp:Nat×Bool=>(r.nodes[p.1]?).bind λn=>fx (L.map Nm.p) i l r p.2 n) (fA r.nodes m ab)):=by
 intro m
 induction m using Nat.strongRecOn with
 |_ m ih=>
 intro b d Y ab j hj
 have W:=h.rs
 have b6:=h.all _ (ba Z)
 have d1:RS R 2 Ty.enc vt r.types:=b6.t
 have d0:RS R 5 Nd.enc vn r.nodes:=b6.d
 obtain⟨b1,b8,c1⟩:=hL _ (ba Z)
 simp only at b1 b8 c1
 have d6:=ob Y
 obtain⟨e,rfl⟩:∃e,m=e+1:=⟨m-1,by omega⟩
 have c2:j=(e:Int):=by omega
 subst c2
 obtain⟨n,V⟩:∃n,r.nodes[e]? =some n:=⟨_,aZ (by omega)⟩
 have a8:∀ab,n.op=false->cat (λp:Nat×Bool=>(r.nodes[p.1]?).bind λn=>fx (L.map Nm.p) i l r p.2 n) (fA r.nodes (e+1) ab)=fx (L.map Nm.p) i l r ab n:=λab ho=>by
  rw[uA V ho]
  unfold cat
  simp only[V,afj,cat]
  cases fx (L.map Nm.p) i l r ab n<;>simp
 have a4:n.op=false->n.leaf isWord=true/\b=e:=λho=>by
  rw[lA V ho]at Y
  split at Y
  ·rename_i hl;cases Y;exact⟨hl,rfl⟩
  ·cases Y
 refine Spec.gQ (H':=[[]]) (by simp) ?_
 refine Spec.body func142 rfl results142 ntmps142 rfl ?_
 refine .sr<|.ag rfl<|.ag rfl<|.z<|.ag rfl<|.z<|.mo rfl<|.mo rfl ?_
 refine .bC i W Z (λe5=>?_)
 refine .fa rfl<|.fa rfl<|.lo rfl<|.mo rfl ?_
 refine .bC e d0 V (λe6=>?_)
 refine .q (.aM rfl) ?_
 refine .bX (λa0=>?_)
 refine .bN rfl rfl<|.zs<|.seq ?_
 refine bz.cO [(0,_),(1,_),(3,_),(10,_),(11,_)] kE.c.c.c.c.c (X:=Unit) (λ_=>True) (λ_ E=>(45,.bool n.op)::E) (λ_=>[bl a0 n.enc 199,[]]) ?_ ?_
 refine .region<|.fa rfl<|.lo rfl<|.q .bU<|.mo rfl ?_
 refine .split (t:=36) rfl (λF=>?_) (λF=>?_)
 refine .gF F<|.gF F<|.gF F<|.q (.aT F) ?_
 refine .mo rfl<|.gX<|.gX<|.gX<|.q .db<|.nil ?_
 ·exact aF () aew (kE.c.c.c.c.c.bV rfl (by clear ih;grind[Nd.op])) rH
 refine .gT F<|.fa rfl<|.gT F<|.lo rfl<|.gT F<|.q .bU<|.q (.aQ F) ?_
 refine .mo rfl ?_
 refine .split (t:=41) rfl (λH=>?_) (λH=>?_)
 refine .gF H<|.gF H<|.gF H<|.q (.aT H) ?_
 refine .nil ?_
 ·exact aF () aew (kE.c.c.c.c.c.bV rfl (by clear ih;grind[Nd.op])) rH
 refine .gT H<|.fa rfl<|.gT H<|.lo rfl<|.gT H<|.q .bU<|.q (.aQ H) ?_
 refine .nil ?_
 ·exact aF () aew (kE.c.c.c.c.c.bV rfl (by clear ih;grind[Nd.op])) rH
 intro y hy
 refine au ?_
 refine .cond rfl (λA=>?_) λA=>?_
 have b4:n.op=true:=A
 obtain⟨b',x,y,Q,h3,I,J,K,h7,h8,h9⟩:=oa V b4 Y
 have d5:=ob Q
 have c0:=ob I
 simp only at I c0 h9
 have b0:=uB V b4 ⟨by omega,by omega⟩ ab
 rw[show n.a.toNat+1=b' by omega,show n.b.toNat+1=e by omega]at b0
 refine .sr<|.mo rfl<|.mo rfl<|.fa rfl<|.lo rfl<|.mo rfl ?_
 refine .cX ((ih b' (by omega) b y I ab _ J).weaken cM) (λu Ta B=>?_)
 obtain⟨wa,Ea,d9,rfl,b9,d8,b3⟩:=B
 refine .mo rfl<|.q .extract<|.q .extract<|.ag rfl<|.ag rfl<|.zs ?_
 refine bz.cO [(10,_),(12,_),(13,_)] kE.c.c.c (X:=Value×List lY×Bool×aw) (λy=>OS 266 3 jS y.1 y.2.1 y.2.2.2/\y.2.1.length<=8*(e-b')/\WE y.2.2.1 y.2.1 (cat (λp:Nat×Bool=>(r.nodes[p.1]?).bind λn=>fx (L.map Nm.p) i l r p.2 n) (fA r.nodes e (ab||n.kind==6)))) (λy E=>(14,y.1)::(15,.bool y.2.2.1)::E) (λy=>[bl a0 n.enc 199,[],Ta,y.2.2.2]) ?_ ?_
 refine .region<|.mo rfl<|.mo rfl<|.fa rfl<|.lo rfl<|.mo rfl<|.mo rfl ?_
 refine .split (t:=61) rfl (λs=>?_) (λs=>?_)
 refine .gF s<|.gF s<|.gF s<|.q (.aT s) ?_
 refine .cX ((ih e (by omega) b' x Q _ _ K).weaken cM) (λu Tb B=>?_)
 obtain⟨wb,Eb,a7,rfl,U,a1,N⟩:=B
 refine .mo rfl<|.q .extract<|.q .extract<|.ag rfl<|.ag rfl<|.nil ?_
 ·exact aF (wb,Eb,a7,Tb) ⟨U,a1,by simpa only[A,s,ae8,ae9]using N⟩ kE.c.c.c.c.c (aN [2,2,1,0])
 refine .gT s<|.fa rfl<|.gT s<|.lo rfl<|.gT s<|.q .bU<|.q (.aQ s) ?_
 refine .cX ((ih e (by omega) b' x Q _ _ K).weaken cM) (λu Tb B=>?_)
 obtain⟨wb,Eb,a7,rfl,U,a1,N⟩:=B
 refine .mo rfl<|.q .extract<|.q .extract<|.ag rfl<|.ag rfl<|.nil ?_
 ·exact aF (wb,Eb,a7,Tb) ⟨U,a1,by simpa only[A,s,ae8,ae9]using N⟩ kE.c.c.c.c.c (aN [2,2,1,0])
 intro y hy
 obtain⟨wb,Eb,a7,Tb⟩:=y
 obtain⟨U,a1,N⟩:=hy
 simp only at U a1 N⊢
 refine au<|.sr<|.mo rfl<|.mo rfl ?_
 refine .append (OS.nil (enc:=jS) (sz:=3)) b9.rx (by simp only[List.length_nil];omega) (λv1 T1 O=>?_)
 rw[afa]at O
 refine .ag rfl<|.z<|.mo rfl<|.mo rfl ?_
 refine .append O U.rx (by omega) (λv2 T2 b5=>?_)
 refine .mo rfl<|.mo rfl ?_
 refine .split (t:=76) rfl (λM=>?_) (λM=>?_)
 refine .gT M<|.mo rfl<|.q (.aT M) ?_
 refine .ag rfl<|.az rfl ?_
 refine .ret (aJ (aY _ (.two (.tmp rfl) (.tmp rfl)) (.one [1] _) ?_))
 ·refine⟨T2,by simp[take,bJ],v2,_,_,rfl,b5,?_,?_⟩
  ·rw[aeK];omega
  ·rw[b0];have hh:=C1 b3 N;simpa only[M,ae7,aeP]using hh
 refine .gF M<|.q (.aQ M) ?_
 refine .ag rfl<|.az rfl ?_
 refine .ret (aJ (aY _ (.two (.tmp rfl) (.tmp rfl)) (.one [1] _) ?_))
 ·refine⟨T2,by simp[take,bJ],v2,_,_,rfl,b5,?_,?_⟩
  ·rw[aeK];omega
  ·rw[b0];have hh:=C1 b3 N;simpa only[M,ae7,aeP]using hh
 refine .kn<|.seq<|.sr<|.fa rfl<|.lo rfl<|.q .bU<|.zn ?_
 refine .cond rfl (λQ=>?_) λQ=>?_
 refine .seq ?_
 refine .dm 8 mixed (by kernel_rfl) ?_
 conv=>arg 6;dsimp only[List.take]
 refine .mo rfl<|.mo rfl<|.mo rfl ?_
 refine .bC i W Z (λe7=>?_)
 refine .fa rfl<|.lo rfl<|.fa rfl<|.lo rfl<|.nil ?_
 refine .aX ((oU v L R h l n.rel).weaken cM) (λu B=>?_)
 subst B
 refine .ag rfl<|.z<|.mo rfl<|.mo rfl<|.mo rfl<|.mo rfl ?_
 refine .q .cL ?_
 refine .dN (λd4=>?_)
 refine .append (OS.nil (enc:=jS) (sz:=3)) (RS.lits (xs:=[((i:Int),fI (bW (L.map Nm.p) ⟨l,n.rel⟩),ab)]) rfl (by simp[jS]) (by simp[jS,aE])) (by simp) (λv1 T1 O=>?_)
 rw[afa]at O
 refine .mo rfl<|.q .geq<|.ag rfl<|.az rfl ?_
 refine .ret (aJ (aY _ (.two (.tmp rfl) (.tmp rfl)) (.one [2] _) ?_))
 ·refine⟨T1,by simp[take,bJ],v1,_,_,rfl,O,?_,?_⟩
  ·have:=(a4 A).2;simp only[aeF];omega
  ·rw[a8 ab A];exact Qm (by simpa using Q)
 have d7:n.kind=1\/n.kind=3:=by have hl:=(a4 A).1;grind[Nd.leaf]
 refine .kn<|.sr<|.mo rfl<|.mo rfl ?_
 refine .bC i W Z (λe0=>?_)
 refine .fa rfl<|.fa rfl<|.lo rfl<|.ag rfl<|.ag rfl<|.zs<|.sr<|.fa rfl<|.lo rfl<|.q .bU<|.zn ?_
 refine bz.cO [(0,_),(1,_),(3,_),(10,_)] kE.c.c.c.c (X:=Value×List Ty×ByteArray) (λy=>RS R 2 Ty.enc y.1 y.2.1/\y.2.1.length<=8/\TG (L.map Nm.p) l r n y.2.1 y.2.2) (λy E=>(17,y.1)::(18,.string y.2.2)::E) (λy=>[bl a0 n.enc 199,[]]) ?_ ?_
 refine .cond rfl (λh3=>?_) λh3=>?_
 refine .seq ?_
 refine .dm 8 mixed (by kernel_rfl) ?_
 conv=>arg 6;dsimp only[List.take]
 refine .mo rfl<|.mo rfl<|.mo rfl ?_
 refine .bC i W Z (λe1=>?_)
 refine .fa rfl<|.lo rfl<|.fa rfl<|.lo rfl<|.nil ?_
 refine .aX ((oU v L R h l n.rel).weaken cM) (λu B=>?_)
 subst B
 refine .ag rfl<|.zs<|.sr<|.mo rfl<|.q .lss<|.zn ?_
 refine .cond rfl (λI=>?_) λI=>?_
 refine .sr<|.ag rfl<|.az rfl ?_
 refine .ret (aJ (oB (aJ (aY _ (.two (.tmp rfl) (.tmp rfl)) (.one [1] _) ?_))))
 ·refine⟨[],by simp[take,bJ],_,[],_,rfl,OS.nil,by simp,?_⟩
  rw[a8 ab A]
  exact Qk (by simpa using h3) (by simpa using I)
 obtain⟨k,hk⟩:∃k,bW (L.map Nm.p) ⟨l,n.rel⟩=some k:=by
  cases hr:bW (L.map Nm.p) ⟨l,n.rel⟩with
  |none=>rw[hr]at I;simp[fI]at I
  |some k=>exact⟨k,rfl⟩
 have c5:k<L.length:=by have:=wV hk;rwa [aeC]at this
 obtain⟨⟨sk,b7,e8,rk⟩,a3⟩:=bQ c5
 have c6:=h.all _ (ba a3)
 have c7:RS R 2 Ty.enc b7 rk.types:=c6.t
 have c3:=(hL _ (ba a3)).1
 have pk:=W.pc a3
 have c4:fI (bW (L.map Nm.p) ⟨l,n.rel⟩)=(k:Int):=by rw[hk];rfl
 refine .kn ?_
 refine .fS mixed (by kernel_rfl) ?_
 refine .mo rfl<|.mo rfl<|.q (.bC k W a3 rfl rfl c4) ?_
 refine .fa rfl<|.fa rfl<|.lo rfl<|.fa rfl<|.lo rfl<|.ag rfl<|.ag rfl<|.nil ?_
 ·exact aF (b7,rk.types,n.dI) ⟨c7,c3,.inr ⟨by simpa using h3,rfl,k,hk,(Qh a3).symm⟩⟩ kE.c.c.c.c.c.c rH
 refine .skip ?_
 ·exact aF (vt,r.types,⟨#[]⟩) ⟨d1,b1,.inl ⟨by grind,rfl,rfl⟩⟩ kE.c.c.c.c.c.c rH
 intro x hx
 obtain⟨vy,C,g⟩:=x
 obtain⟨a2,d2,b2⟩:=hx
 simp only at a2 d2 b2⊢
 refine au<|.sr<|.ag rfl<|.zs<|.sr<|.az rfl<|.block ?_
 refine .cy [(0,_),(1,_),(3,_),(17,_),(18,_)] (X:=Nat×Value×aw) (λy=>y.1<=C.length/\OS 266 3 jS y.2.1 (outs (L.map Nm.p) i ab g (C.take y.1)) y.2.2) (λy E=>(21,iN y.1)::(10,y.2.1)::(20,.bool (nN (L.map Nm.p) g (C.take y.1)))::E) (λy G=>y.2.2::G) (λy=>C.length-y.1) (0,sZ,[]) ⟨aey _,OS.nil⟩ kE.c.c.c.c.c.c.c.c (aN [1,0]) ?_
 rintro⟨q,vo,To⟩ ⟨hq,S⟩
 simp only at hq S⊢
 have c8:(outs (L.map Nm.p) i ab g (C.take q)).length<=8:=by
  unfold outs ei
  rw[aeC]
  exact aeL (aeR _ _) (by rw[aeE];omega)
 refine .seq<|.sr<|.mo rfl<|.mo rfl<|.q (.bI a2) ?_
 refine .q .lss<|.zn ?_
 refine .cond rfl (λJ=>?_) λJ=>?_
 have a9:q<C.length:=cg J
 obtain⟨t,a6⟩:=bQ a9
 have a5:=Cg a6
 refine .kn<|.seq<|.block<|.seq<|.sr<|.mo rfl<|.mo rfl ?_
 refine .bC q a2 a6 (λe2=>?_)
 refine .fa rfl<|.lo rfl<|.q .dF<|.zn ?_
 refine .cond rfl (λK=>?_) λK=>?_
 refine .exit<|bo<|bp<|au<|.region<|.mo rfl ?_
 refine .ia (q+1) .add ?_
 refine .ag rfl<|.nil ?_
 ·exact bd (q+1,vo,To) ⟨a9,by simp only;unfold outs;rw[a5,aeA (by simpa using K),afk];exact S⟩ (by simp only;omega) (((kE.c.c.c.c.c.bV rfl (by simp only;unfold nN;rw[a5,aeA (by simpa using K),afk])).cons rfl).cons rfl) rH
 refine .kn<|.sr<|.mo rfl<|.mo rfl ?_
 refine .bC q a2 a6 (λe3=>?_)
 refine .fa rfl<|.lo rfl<|.ag rfl<|.zs<|.sr<|.mo rfl<|.q .fP<|.zn ?_
 refine bz.cO [(0,_),(1,_),(3,_),(10,_),(17,_),(18,_),(20,_),(21,_)] kE.c.c.c.c.c.c.c.c (X:=Unit) (λ_=>True) (λ_ E=>(22,.string (jD g t).rel)::E) (λ_=>[To,bl a0 n.enc 199]) ?_ ?_
 refine .cond rfl (λh7=>?_) λh7=>?_
 refine .region<|.mo rfl<|.ag rfl<|.nil ?_
 ·exact aF () aew (kE.c.c.c.c.c.c.c.c.yC rfl (by unfold jD;grind)) rH
 refine .skip ?_
 ·exact aF () aew (kE.c.c.c.c.c.c.c.c.yC rfl (by unfold jD;grind)) rH
 intro x hx
 refine au<|.sr<|.mo rfl<|.mo rfl<|.mo rfl ?_
 refine .bC q a2 a6 (λe4=>?_)
 refine .fa rfl<|.lo rfl<|.mo rfl ?_
 refine .aX ((oU v L R h t.space (jD g t).rel).weaken cM) (λu B=>?_)
 subst B
 rw[show(⟨t.space,(jD g t).rel⟩:Ty)=jD g t from rfl]
 refine .ag rfl<|.zs ?_
 refine bz.cO [(0,_),(1,_),(3,_),(10,_),(17,_),(18,_),(21,_),(23,_)] kE.c.c.c.c.c.c.c.c (X:=Unit) (λ_=>True) (λ_ E=>(20,.bool (nN (L.map Nm.p) g (C.take q)&&(bW (L.map Nm.p) (jD g t)).isSome))::E) (λ_=>[To,bl a0 n.enc 199]) ?_ ?_
 refine .region<|.mo rfl<|.mo rfl ?_
 refine .split (t:=157) rfl (λD=>?_) (λD=>?_)
 refine .gT D<|.mo rfl<|.gT D<|.q .geq<|.q (.aT D) ?_
 refine .ag rfl<|.nil ?_
 ·exact aF () aew (kE.c.c.c.c.c.c.c.c.bV rfl (by simp only[D,ae7,aeP]<;>cases bW (L.map Nm.p) (jD g t)<;>simp[fI])) rH
 refine .gF D<|.gF D<|.q (.aQ D) ?_
 refine .ag rfl<|.nil ?_
 ·exact aF () aew (kE.c.c.c.c.c.c.c.c.bV rfl (by simp only[D,ae7,aeP]<;>cases bW (L.map Nm.p) (jD g t)<;>simp[fI])) rH
 intro y hy
 refine au<|.region<|.mo rfl<|.mo rfl<|.mo rfl<|.mo rfl ?_
 refine .q .cL ?_
 refine .dN (λd3=>?_)
 refine .append S (RS.lits (xs:=[((i:Int),fI (bW (L.map Nm.p) (jD g t)),ab)]) rfl (by simp[jS]) (by simp[jS,aE])) (by simp only[aeF];omega) (λv1 T1 O=>?_)
 refine .ag rfl<|.nil<|aS<|au<|.region<|.mo rfl ?_
 refine .ia (q+1) .add ?_
 refine .ag rfl<|.nil ?_
 ·exact bd (q+1,v1,T1) ⟨a9,by simp only;unfold outs;rw[a5,aex (by simpa using K),aeD];exact O⟩ (by simp only;omega) (((kE.c.c.c.c.c.bV rfl (by simp only;unfold nN;rw[a5,aex (by simpa using K),ae0];simp)).cons rfl).cons rfl) (aN [1,1])
 have c9:C.length<=q:=by have:=bA J;omega
 rw[dB c9]at S c8⊢
 refine .exit<|bo<|bq<|bp<|au<|.seq ?_
 refine bz.cO [] (dD.nil _) (X:=Unit) (λ_=>True) (λ_ E=>(8,vo)::(9,.bool (nN (L.map Nm.p) g C&&(decide (g=⟨#[]⟩)||decide (0<(outs (L.map Nm.p) i ab g C).length))))::E) (λ_=>[To]) ?_ ?_
 refine .region<|.mo rfl<|.mo rfl<|.mo rfl ?_
 refine .split (t:=170) rfl (λf=>?_) (λf=>?_)
 refine .gT f<|.mo rfl<|.gT f<|.q .dF<|.gT f<|.mo rfl ?_
 refine .split (t:=173) rfl (λo=>?_) (λo=>?_)
 refine .gF o<|.gF o<|.gF o<|.gT f<|.q (.aT o) ?_
 refine .q (.aT f) ?_
 refine .ag rfl<|.ag rfl<|.nil ?_
 ·exact aF () aew (((dD.nil _).bV rfl (by simp[J,f,o])).cons rfl) (aN [0])
 refine .gT o<|.mo rfl<|.gT o<|.q (.dG S) ?_
 refine .gT o<|.q .gtr<|.gT f<|.q (.aQ o) ?_
 refine .q (.aT f) ?_
 refine .ag rfl<|.ag rfl<|.nil ?_
 ·exact aF () aew (((dD.nil _).bV rfl (by simp[J,f,o])).cons rfl) (aN [0])
 refine .gF f<|.gF f<|.gF f<|.dg rfl ?_
 refine .dg rfl ?_
 refine .dg rfl ?_
 refine .gF f<|.q (.aQ f) ?_
 refine .ag rfl<|.ag rfl<|.nil ?_
 ·exact aF () aew (((dD.nil _).bV rfl (by simp[J,f])).cons rfl) (aN [0])
 intro y hy
 refine au ?_
 refine .ret (aY _ (.two (.tmp rfl) (.tmp rfl)) (.one [0] _) ?_)
 ·refine⟨To,by simp[take,bJ],vo,_,_,rfl,S,?_,?_⟩
  ·have:=(a4 A).2;omega
  ·rw[a8 ab A]
   refine Ql b2 λhk=>?_
   have hl:=(a4 A).1
   exact Us (by grind[Nd.leaf])
theorem WE.ou{c d:Bool}{e f:List lY}{a b:Option (List Ed)}(g:WE c e a)(h:WE d f b):WE (c&&d) (e++f) (a.bind λx=>b.map (x++ ·)):=by
 cases a with
 |none=>have i:c=false:=g;subst i;exact aeP _
 |some a=>
  cases b with
  |none=>have j:d=false:=h;subst j;exact aeI _
  |some b=>obtain⟨rfl,rfl⟩:=g;obtain⟨rfl,rfl⟩:=h;exact⟨rfl,by simp⟩
theorem u7{α:Type}{x:α}:∀{l:List α} {i b:Nat},l[i]? =some x->kh b (l.take (i+1))=kh b (l.take i)++[(b+i,x)]
 |[],i,b,h=>by simp at h
 |y::l,0,b,h=>by simp only[ae1,ae2]at h;subst h;rfl
 |y::l,i+1,b,h=>by
  rw[afq,afq,kh,kh,u7 (l:=l) (i:=i) (b:=b+1) (by simpa using h),show b+1+i=b+(i+1) by omega]
  rfl
def lW(l:List (ByteArray×Rl))(t:Ty):Bool:=decide (t.space=⟨#[]⟩)||(bW l t).isSome
theorem Sw{l:List (ByteArray×Rl)}{a:List Ty}:(findAll l (ei a)).isSome=a.all (lW l):=by
 have h:=sX l (ei a)
 have e:((ei a).all λt=>(bW l t).isSome)=a.all (lW l):=by
  unfold ei
  rw[List.all_filter]
  congr 1
  funext t
  unfold lW
  cases decide (t.space=⟨#[]⟩)<;>simp
 rw[<-e]
 cases hf:findAll l (ei a)with
 |none=>rw[hf]at h;exact h.symm
 |some o=>rw[hf]at h;exact h.1.symm
theorem WE.rel{l:List (ByteArray×Rl)}{i:Nat}{a:ByteArray}{r:Rl}{ok:Bool}{E:List lY}(h:WE ok E (cat (λp:Nat×Bool=>(r.nodes[p.1]?).bind λn=>fx l i a r p.2 n) (fA r.nodes r.nodes.length false))):
  WE (r.types.all (lW l)&&ok) E (lR l i a r):=by
 unfold lR
 rw[<-Sw]
 cases (findAll l (ei r.types)).isSome with
 |true=>simpa using h
 |false=>exact aeP _
def qo(l:List (ByteArray×Rl))(s:Sc):Bool:=(bW l ⟨s.kl,s.rel⟩).isSome
theorem yK{l:List Nd}(h:fY isWord l≠0):∃d,tree isWord l l.length=some (0,d):=by
 unfold fY at h
 cases ht:tree isWord l l.length with
 |none=>rw[ht]at h;exact absurd rfl h
 |some r=>
  obtain⟨b,d⟩:=r
  rw[ht]at h
  simp only at h
  split at h
  ·rename_i a;subst a;exact⟨d,rfl⟩
  ·exact absurd rfl h
theorem qZ(o:Option Nat):decide (0<=fI o)=o.isSome:=by cases o<;>simp[fI]
theorem Rb(c:bL)(R:ay)(h:c.is R)(hf:c.ik)(hr:sy c.fQ):Spec prog 78 [.agg c.enc.toArray] R [] λu H'=>∃T,H'=[T]/\∃w E ok,u=.tuple [w,.bool ok].toArray/\OS 266 3 jS w E T/\WE ok E c.plain.gZ:=by
 have b3:=tP c R h hf
 have a0:=wv h
 have c1:=hf.fQ
 have a3:c.plain.gZ=if c.scopes.all (qo (c.fQ.map Nm.p))=true then cat (λp:Nat×(ByteArray×Rl)=>lR (c.fQ.map Nm.p) p.1 p.2.1 p.2.2) (kh 0 (c.fQ.map Nm.p))else none:=by
  rw[oO];rfl
 rw[a3]
 clear a3
 generalize b9:c.fQ=L at *
 obtain⟨vs,U,d1,j⟩:=c
 have O:RS R 4 Sc.enc U j:=h.sc
 have c0:=O.le
 refine Spec.gQ (H':=[[]]) (by simp)<|Spec.body func78 rfl results78 ntmps78 rfl<|.sr ?_
 refine .cb rfl (λY=>?_)
 refine .ag rfl<|.ag rfl<|.z<|.q (.aM rfl)<|.cX (b3.weaken cM) (λu v Q=>?_)
 refine .ag rfl<|.z<|.ag rfl<|.z<|.ag rfl<|.zs<|.sr<|.az rfl<|.block<|.cy [(1,_),(4,_)] (X:=Nat×Value×List lY×Bool×aw) (λy=>y.1<=L.length/\OS 266 3 jS y.2.1 y.2.2.1 y.2.2.2.2/\y.2.2.1.length<=512*y.1/\WE y.2.2.2.1 y.2.2.1 (cat (λp:Nat×(ByteArray×Rl)=>lR (L.map Nm.p) p.1 p.2.1 p.2.2) (kh 0 ((L.map Nm.p).take y.1)))) (λy E=>(7,iN y.1)::(5,y.2.1)::(6,.bool y.2.2.2.1)::E) (λy G=>y.2.2.2.2::G) (λy=>L.length-y.1) (0,sZ,[],true,[]) ⟨aey _,OS.nil,by simp,⟨rfl,rfl⟩⟩ kE.c.c.c.c.c bk.eC ?_
 rintro⟨i,v5,E5,ok,H⟩ ⟨hi,hO,a7,J⟩
 simp only at hi hO a7 J⊢
 refine .seq<|.sr<|.mo rfl<|.mo rfl<|.q (.dG Q)<|.q .lss<|.zn<|.cond rfl (λZ=>?_) λZ=>?_
 have a4:i<L.length:=cg Z
 obtain⟨⟨S,W,V,r⟩,F⟩:=bQ a4
 have a1:=a0 _ (ba F)
 have M:RS R 2 Ty.enc W r.types:=a1.t
 have b5:RS R 5 Nd.enc V r.nodes:=a1.d
 have c4:cB (List.take 3 (List.drop 1 (nI (S,(⟨W,V,r⟩:cj))))):=⟨a1.cV⟩
 obtain⟨b0,a8,a2⟩:=hr _ (ba F)
 simp only at b0 a8 a2
 obtain⟨d,a5⟩:=yK a2
 have b7:(L.map Nm.p)[i]? =some (S,r):=by rw[aeB,F];rfl
 have I:qL (λb o=>R b o\/(b,o)∈v) u L:=⟨Q.rs λp hp=>.inr hp,λx hx=>(a0 x hx).mono λb o g=>.inl g⟩
 have c3:1<=r.nodes.length:=by have:=(ob a5).1;omega
 refine .kn<|.seq<|.block<|.sr<|.mo rfl<|.mo rfl ?_
 refine .aK i Q F (λc5=>?_)
 refine .fa rfl<|.q (.loadT rfl) ?_
 refine .bX (λb8=>?_)
 refine .bN rfl rfl<|.zs<|.sr<|.az rfl<|.block<|.cy [(1,_),(4,_),(5,_),(7,_),(8,_)] (X:=Nat) (λk=>k<=r.types.length) (λk E=>(9,iN k)::(6,.bool (ok&&(r.types.take k).all (lW (L.map Nm.p))))::E) (λ_ G=>G) (λk=>r.types.length-k) 0 (aey _) ((kE.c.c.c.c.c.bV rfl (by simp)).cons rfl) rH ?_
 rintro k hk
 refine .seq<|.sr<|.mo rfl<|.fa rfl<|.lo rfl<|.q (.bI M)<|.q .lss<|.zn<|.cond rfl (λm=>?_) λm=>?_
 have C:k<r.types.length:=cg m
 obtain⟨t,n⟩:=bQ C
 refine .kn<|.seq<|.block ?_
 refine bz.cO [(1,_),(4,_),(5,_),(7,_),(8,_),(9,_)] kE.c.c.c.c.c.c (X:=Unit) (λ_=>True) (λ_ E=>(6,.bool (ok&&(r.types.take (k+1)).all (lW (L.map Nm.p))))::E) (λ_=>[bl b8 (cj.enc ⟨W,V,r⟩) 167,H,v,bl Y [vs,U] 25]) ?_ ?_
 refine .dm 23 mixed (by kernel_rfl) ?_
 conv=>arg 6;dsimp only[List.take]
 refine .mo rfl<|.mo rfl<|.split (t:=34) rfl (λf=>?_) (λf=>?_)
 refine .gT f<|.fa rfl<|.gT f<|.lo rfl<|.gT f<|.mo rfl<|.gT f ?_
 refine .bC k M n (λc6=>?_)
 refine .gT f<|.fa rfl<|.gT f<|.lo rfl<|.gT f<|.q .dF<|.gT f<|.mo rfl<|.split (t:=42) rfl (λe=>?_) (λe=>?_)
 refine .gF e<|.gF e<|.gF e<|.gF e<|.gF e<|.gF e<|.gF e<|.gF e<|.gF e<|.gF e<|.gF e<|.gF e<|.gF e<|.nil<|.gF e<|.gF e<|.gT f<|.q (.aT e)<|.q (.aT f)<|.ag rfl<|.nil ?_
 ·exact aF () aew (kE.c.c.c.c.c.c.bV rfl (by rw[dS n,ae0];simp only[aeO,aeZ,aeH,lW,m,f,e,qZ];grind)) rH
 refine .gT e<|.mo rfl<|.gT e<|.fa rfl<|.gT e<|.lo rfl<|.gT e<|.mo rfl<|.gT e ?_
 refine .bC k M n (λc7=>?_)
 refine .gT e<|.fa rfl<|.gT e<|.lo rfl<|.gT e<|.fa rfl<|.gT e<|.lo rfl<|.gT e<|.mo rfl<|.gT e ?_
 refine .bC k M n (λc8=>?_)
 refine .gT e<|.fa rfl<|.gT e<|.lo rfl<|.nil<|.gT e<|.aX ((oU u L _ I t.space t.rel).weaken λb o g=>g.elim .inl λg=>.inr (by simp[g])) (λw D=>?_)
 subst D
 rw[show(⟨t.space,t.rel⟩:Ty)=t from rfl]
 refine .gT e<|.q .geq<|.gT f<|.q (.aQ e)<|.q (.aT f)<|.ag rfl<|.nil ?_
 ·exact aF () aew (kE.c.c.c.c.c.c.bV rfl (by rw[dS n,ae0];simp only[aeO,aeZ,aeH,lW,m,f,e,qZ];grind)) rH
 refine .gF f<|.gF f<|.gF f<|.gF f<|.gF f<|.gF f<|.gF f<|.gF f<|.dg rfl<|.dg rfl<|.dg rfl<|.dg rfl<|.dg rfl<|.dg rfl<|.dg rfl<|.dg rfl<|.dg rfl<|.dg rfl<|.dg rfl<|.dg rfl<|.dg rfl<|.nil<|.dg rfl<|.dg rfl<|.gF f<|.q (.aQ f)<|.ag rfl<|.nil ?_
 ·exact aF () aew (kE.c.c.c.c.c.c.bV rfl (by rw[dS n,ae0];simp only[aeO,aeZ,aeH,lW,m,f,qZ];grind)) rH
 intro y hy
 refine aS<|au<|.region<|.mo rfl<|.ia (k+1) .add<|.ag rfl<|.nil ?_
 ·exact bd (k+1) C (by omega) kE.c.c.c.c.c.c.c rH
 rw[dB (l:=r.types) (i:=k) (by have:=bA m;omega)]
 refine .exit<|bo<|bq<|bp<|au<|.sr<|.mo rfl<|.mo rfl<|.fa rfl<|.lo rfl<|.q (.bI b5)<|.q (.i64 ((r.nodes.length:Int)-1) .sub ⟨rfl,by omega,by omega⟩)<|.cX ((R8 u L _ I hr i S W V r F _ _ _ a5 false _ rfl).weaken λb o g=>g.elim .inl λg=>.inr (by simp[g])) (λw Tw D=>?_)
 obtain⟨w,Ew,a6,rfl,a9,c2,b2⟩:=D
 refine .mo rfl<|.q .extract<|.q .extract<|.ag rfl<|.ag rfl<|.zs ?_
 refine bz.cO [(1,_),(4,_),(5,_),(7,_),(10,_)] kE.c.c.c.c.c (X:=Unit) (λ_=>True) (λ_ E=>(6,.bool (ok&&(r.types.all (lW (L.map Nm.p))&&a6)))::E) (λ_=>[Tw,H,v,bl Y [vs,U] 25]) ?_ ?_
 refine .region<|.mo rfl<|.mo rfl<|.split (t:=71) rfl (λA=>?_) (λA=>?_)
 refine .gT A<|.mo rfl<|.q (.aT A)<|.ag rfl<|.nil ?_
 ·exact aF () aew (kE.c.c.c.c.c.bV rfl (by grind)) (aN [0,1,1,1])
 refine .gF A<|.q (.aQ A)<|.ag rfl<|.nil ?_
 ·exact aF () aew (kE.c.c.c.c.c.bV rfl (by grind)) (aN [0,1,1,1])
 intro y hy
 refine au<|.region<|.mo rfl<|.mo rfl<|.append hO a9.rx (by omega) (λv1 T1 b6=>?_)
 refine .ag rfl<|.nil<|aS<|au<|.region<|.mo rfl<|.ia (i+1) .add<|.ag rfl<|.nil ?_
 ·exact bd (i+1,v1,E5++Ew,ok&&(r.types.all (lW (L.map Nm.p))&&a6),T1) ⟨a4,b6,by simp only[aeK];omega,by
   simp only
   rw[u7 b7,qQ]
   refine J.ou ?_
   have K:=WE.rel b2
   simp only[Nat.zero_add,cat]
   revert K
   generalize lR (L.map Nm.p) i S r=o
   intro K
   cases o with
   |none=>exact K
   |some o=>simpa using K⟩ (by simp only;omega) kE.c.c.c.c.c (aN [1,1,1])
 have b4:L.length<=i:=by have:=bA Z;omega
 rw[dB (by rw[aeC];exact b4)]at J
 have I:qL (λb o=>R b o\/(b,o)∈v) u L:=⟨Q.rs λp hp=>.inr hp,λx hx=>(a0 x hx).mono λb o g=>.inl g⟩
 refine .exit<|bo<|bq<|bp<|au<|.seq<|.sr<|.az rfl<|.block<|.cy [(1,_),(4,_),(5,_)] (X:=Nat) (λk=>k<=j.length) (λk E=>(12,iN k)::(6,.bool (ok&&(j.take k).all (qo (L.map Nm.p))))::E) (λ_ G=>G) (λk=>j.length-k) 0 (aey _) ((kE.c.c.c.bV rfl (by simp)).cons rfl) rH ?_
 rintro k hk
 refine .seq<|.sr<|.mo rfl<|.fa rfl<|.lo rfl<|.q (.bI O)<|.q .lss<|.zn<|.cond rfl (λB=>?_) λB=>?_
 have C:k<j.length:=cg B
 obtain⟨s,N⟩:=bQ C
 refine .kn<|.seq<|.block ?_
 refine bz.cO [(1,_),(4,_),(5,_),(12,_)] kE.c.c.c.c (X:=Unit) (λ_=>True) (λ_ E=>(6,.bool (ok&&(j.take (k+1)).all (qo (L.map Nm.p))))::E) (λ_=>[H,v,bl Y [vs,U] 25]) ?_ ?_
 refine .dm 16 mixed (by kernel_rfl) ?_
 conv=>arg 6;dsimp only[List.take]
 refine .mo rfl<|.mo rfl<|.split (t:=85) rfl (λa=>?_) (λa=>?_)
 refine .gT a<|.mo rfl<|.gT a<|.fa rfl<|.gT a<|.lo rfl<|.gT a<|.mo rfl<|.gT a ?_
 refine .bC k O N (λc9=>?_)
 refine .gT a<|.fa rfl<|.gT a<|.fa rfl<|.gT a<|.lo rfl<|.gT a<|.fa rfl<|.gT a<|.lo rfl<|.gT a<|.mo rfl<|.gT a ?_
 refine .bC k O N (λd0=>?_)
 refine .gT a<|.fa rfl<|.gT a<|.lo rfl<|.nil<|.gT a<|.aX ((oU u L _ I s.kl s.rel).weaken λb o g=>g.elim .inl λg=>.inr (by simp[g])) (λw D=>?_)
 subst D
 refine .gT a<|.q .geq<|.q (.aT a)<|.ag rfl<|.nil ?_
 ·exact aF () aew (kE.c.c.c.c.bV rfl (by rw[dS N,ae0];simp only[aeO,aeZ,aeH,qo,B,a,qZ];grind)) rH
 refine .gF a<|.gF a<|.gF a<|.gF a<|.gF a<|.gF a<|.gF a<|.gF a<|.gF a<|.gF a<|.gF a<|.gF a<|.gF a<|.gF a<|.nil<|.gF a<|.gF a<|.q (.aQ a)<|.ag rfl<|.nil ?_
 ·exact aF () aew (kE.c.c.c.c.bV rfl (by rw[dS N,ae0];simp only[aeO,aeZ,aeH,qo,B,a,qZ];grind)) rH
 intro y hy
 refine aS<|au<|.region<|.mo rfl<|.ia (k+1) .add<|.ag rfl<|.nil ?_
 ·exact bd (k+1) C (by omega) kE.c.c.c.c.c rH
 rw[dB (l:=j) (i:=k) (by have:=bA B;omega)]
 refine .exit<|bo<|bq<|bp<|au<|.sr<|.mo rfl<|.mo rfl<|.ag rfl<|.az rfl<|.ret (aY _ (.two (.tmp rfl) (.tmp rfl)) (.one [0] _) ?_)
 ·refine⟨H,by simp[take,bJ],v5,E5,_,rfl,hO,?_⟩
  cases j.all (qo (L.map Nm.p))with
  |true=>simpa using J
  |false=>exact aeI _
theorem RS.gO{α:Type}{R:ay}{sz:Nat}{enc:α->List Value}:RS R sz enc (sZ) ([]:List α):=(OS.nil (E:=0) (sz:=sz) (enc:=enc)).rs λp a=>(by cases a)
abbrev fD:=Value×List Nat
def eg(q:fD):List Value:=[q.1]
structure NN(R:ay)(w:Value)(ll:List fD):Prop where
 rs:RS R 1 eg w ll
 all:∀q∈ll,RS R 1 da q.1 q.2
theorem NN.mono{R R':ay}{w:Value}{c:List fD}(h:NN R w c)(a:∀b o,R b o->R' b o):NN R' w c:=⟨h.rs.mono a,λq d=>(h.all q d).mono a⟩
theorem NN.nil{R:ay}:NN R (sZ) []:=⟨RS.gO,λq a=>(by cases a)⟩
theorem oR:∀{l:List Sp} {i:Nat} {s:Sp},l[i]? =some s->cK l (i+1)=cK l i+s.bR.length
 |[],i,s,h=>by simp at h
 |x::l,0,s,h=>by
  simp only[ae1,ae2]at h
  subst h
  cases l<;>simp[cK]
 |x::l,i+1,s,h=>by
  have:=oR (l:=l) (i:=i) (by simpa using h)
  rw[cK,cK,this]
  omega
theorem sW{c:bL}(h:c.plain.right isWord dh=true):c.ik/\sy c.fQ:=by
 have e:=nT h
 have d:c.plain.jG isWord=false:=by
  unfold Cf.right at h
  simp only[afl,Bool.not_eq_true']at h
  exact h.2
 rw[rD]at d
 simp only[afu,afv,List.any_eq_false,aeQ]at d
 refine⟨⟨by omega,λs f=>?_⟩,λx g=>?_⟩
 ·have:=d.2 s f
  unfold iK at this
  simp only[afb,ae3,not_or,aeQ]at this
  exact this.1
 ·have i:x.p∈c.plain.all:=by rw[<-oO];exact List.mem_map.2 ⟨x,g,rfl⟩
  obtain⟨b,a⟩:=e _ i
  unfold na at b
  unfold iY at a
  simp only[afl,bne_iff_ne,ne_eq]at b
  simp only[afu,afv,aeQ]at a
  exact⟨a.1.1,a.1.2,b.1.2⟩
theorem BS(c:bL)(R:ay)(h:c.is R):Spec prog 32 [.agg c.enc.toArray] R [] λu H'=>∃T,H'=[T]/\∃w ll,u=.tuple [w,.int .i64 (c.plain.numbers isWord dh).1].toArray/\NN (sg T) w ll/\ll.map (·.2)=(c.plain.numbers isWord dh).2:=by
 have a0:=RU c R h
 have a1:=RY c R h
 have a2:=Rb c R h
 have a3:=tP c R h
 have c8:=oO c
 have a6:=sW (c:=c)
 have W:∀(i:Nat) s,c.bj[i]? =some s->c.plain.bj[i]? =some s.plain:=λi s B=>by unfold bL.plain;simp only;rw[aeB,B];rfl
 have c1:c.plain.bj.length=c.bj.length:=by unfold bL.plain;simp
 have d:c.plain.numbers isWord dh=if c.plain.right isWord dh=false then((4:Int),([]:List (List Nat)))else if ¬c.plain.dW then(10,[])else match c.plain.gZ with|none=>(14,[])|some E=>if kB E c.plain.all.length=true then(0,rows c.plain.bj (level E c.plain.all.length (c.plain.all.length+1)))else(15,[]):=rfl
 have b4:c.plain.all.length=c.fQ.length:=by rw[<-c8,aeC]
 have d4:=λhh=>bL.ik.fQ (c:=c) hh
 have c2:=pE c.plain
 generalize f2:c.plain.numbers isWord dh=nn at *
 generalize f3:c.plain=pl at *
 generalize e4:c.fQ=L at *
 rw[b4]at d c2
 obtain⟨vs,vc,a9,g2⟩:=c
 have I:=h.ss
 have i1:=I.aE
 have i2:One vc:=RS.aE h.sc
 simp only at I i1 i2 W c1⊢
 have e9:=I.le
 refine Spec.gQ (H':=[[]]) (by simp)<|Spec.body func32 rfl results32 ntmps32 rfl<|.sr ?_
 refine .cb rfl (λb1=>?_)
 refine .ag rfl<|.ag rfl<|.zs<|.sr<|.q (.aM rfl)<|.aX (a0.weaken cM) (λu J=>?_)
 subst J
 refine .q .not<|.zn<|.cond rfl (λK=>?_) λK=>?_
 refine .sr<|.ag rfl<|.az rfl<|.ret (aJ (aY _ (.two (.tmp rfl) (.tmp rfl)) (.one [1] _) ?_))
 ·refine⟨[],by simp[take,bJ],sZ,[],?_,.nil,?_⟩
  ·rw[d,aeA (by simpa using K)]
  ·rw[d,aeA (by simpa using K)];rfl
 have b8:pl.right isWord dh=true:=by simpa using K
 obtain⟨v,c7⟩:=a6 b8
 have f1:=d4 v
 rw[aex (by rw[b8];simp)]at d
 refine .kn<|.seq<|.sr<|.q (.aM rfl)<|.aX ((a1 v).weaken cM) (λu J=>?_)
 subst J
 refine .zn<|.cond rfl (λM=>?_) λM=>?_
 refine .sr<|.ag rfl<|.az rfl<|.ret (aJ (aY _ (.two (.tmp rfl) (.tmp rfl)) (.one [1] _) ?_))
 ·refine⟨[],by simp[take,bJ],sZ,[],?_,.nil,?_⟩
  ·rw[d,aeA (by simpa using M)]
  ·rw[d,aeA (by simpa using M)];rfl
 have d9:pl.dW:=by simpa using M
 rw[aex (λhh=>hh d9)]at d
 refine .kn<|.sr<|.q (.aM rfl)<|.cX ((a2 v c7).weaken cM) (λu T4 J=>?_)
 obtain⟨w4,E4,ok,rfl,b2,r⟩:=J
 refine .mo rfl<|.q .extract<|.q .extract<|.ag rfl<|.ag rfl<|.zs<|.sr<|.mo rfl<|.q .not<|.zn<|.cond rfl (λh3=>?_) λh3=>?_
 have H:ok=false:=by simpa using h3
 have Q:pl.gZ=none:=by
  cases he:pl.gZ with
  |none=>rfl
  |some E=>rw[he]at r;rw[r.1]at H;cases H
 rw[Q]at d
 simp only at d
 refine .sr<|.ag rfl<|.az rfl<|.ret (aJ (aY _ (.two (.tmp rfl) (.tmp rfl)) (.one [2] _) ?_))
 ·refine⟨[],by simp[take,bJ],sZ,[],?_,.nil,?_⟩
  ·rw[d]
  ·rw[d];rfl
 have H:ok=true:=by simpa using h3
 obtain⟨E,Q,c6⟩:∃E,pl.gZ=some E/\E4=E.map Ed.m:=by
  cases he:pl.gZ with
  |none=>rw[he]at r;rw[show ok=false from r]at H;cases H
  |some E=>rw[he]at r;exact⟨E,rfl,r.2⟩
 subst c6
 rw[Q]at d
 simp only at d
 have b0:∀e∈E,e.f<L.length/\e.t<L.length:=by
  have:=qU Q
  rw[b4]at this
  exact this
 have f6:(L.length+1)*(L.length+1)<=1000000:=aeL (Nat.mul_le_mul (by omega:L.length+1<=257) (by omega:L.length+1<=257)) (by decide)
 refine .kn<|.sr<|.q (.aM rfl)<|.cX ((a3 v).weaken cM) (λu T6 d7=>?_)
 refine .q (.dG d7)<|.ag rfl<|.z<|.mo rfl<|.mo rfl<|.mo rfl<|.ia (L.length+1) .add<|.cX (BQ w4 E L.length (L.length+1) _ b2.rx b0 (by omega) (by omega)) (λu T7 a8=>?_)
 refine .ag rfl<|.z<|.mo rfl<|.mo rfl<|.mo rfl<|.ia (L.length+1) .add<|.mo rfl<|.ia (L.length+1) .add<|.q (.i64 (((L.length+1)*(L.length+1):Nat):Int) .mul ⟨by rw[Int.natCast_mul],by omega,by omega⟩)<|.cX (BQ w4 E L.length ((L.length+1)*(L.length+1)) _ b2.rx b0 (by omega) (by omega)) (λu8 T8 d8=>?_)
 have e7:(level E L.length (L.length+1)).length=L.length:=lg _
 have e8:(level E L.length ((L.length+1)*(L.length+1))).length=L.length:=lg _
 refine .ag rfl<|.zs<|.sr<|.az rfl<|.block<|.cy [(1,_),(6,_),(7,_),(8,_)] (X:=Nat) (λi=>i<=L.length/\∀j,j<i->(level E L.length (L.length+1))[j]? =(level E L.length ((L.length+1)*(L.length+1)))[j]? /\(level E L.length (L.length+1)).getD j 0<L.length) (λi E=>(9,iN i)::E) (λ_ G=>G) (λi=>L.length-i) 0 ⟨aey _,λj S=>absurd S (by omega)⟩ kE.c.c.c.c.c rH ?_
 rintro i ⟨hi,hq⟩
 refine .seq<|.sr<|.mo rfl<|.mo rfl<|.q .lss<|.zn<|.cond rfl (λh4=>?_) λh4=>?_
 have V:i<L.length:=cg h4
 obtain⟨a,p⟩:∃a,(level E L.length (L.length+1))[i]? =some a:=⟨_,aZ (by omega)⟩
 obtain⟨b,l⟩:∃b,(level E L.length ((L.length+1)*(L.length+1)))[i]? =some b:=⟨_,aZ (by omega)⟩
 refine .kn<|.seq<|.block<|.seq ?_
 refine bz.cO [(1,_),(6,_),(7,_),(8,_),(9,_)] kE.c.c.c.c.c (X:=Unit) (λ_=>True) (λ_ E=>(64,.bool (decide (a≠b\/L.length<=a)))::E) (λ_=>[T8,T7,T6,T4,bl b1 [vs,vc] 25,[]]) ?_ ?_
 refine .fS mixed (by kernel_rfl)<|.mo rfl<|.mo rfl ?_
 refine .aK i a8 p (λf7=>?_)
 refine .lo rfl<|.mo rfl<|.mo rfl ?_
 refine .aK i d8 l (λf8=>?_)
 refine .lo rfl<|.q .eh<|.mo rfl<|.split (t:=57) rfl (λg=>?_) (λg=>?_)
 refine .gF g<|.gF g<|.gF g<|.gF g<|.gF g<|.gF g<|.q (.aT g)<|.nil ?_
 ·exact aF () aew (kE.c.c.c.c.c.bV rfl (by clear a0 a1 a2 a3 a6 W hq;grind)) rH
 refine .gT g<|.mo rfl<|.gT g<|.mo rfl<|.gT g ?_
 refine .aK i a8 p (λf9=>?_)
 refine .gT g<|.lo rfl<|.gT g<|.mo rfl<|.gT g<|.q .geq<|.q (.aQ g)<|.nil ?_
 ·exact aF () aew (kE.c.c.c.c.c.bV rfl (by clear a0 a1 a2 a3 a6 W hq;grind)) rH
 intro y hy
 refine au<|.cond rfl (λC=>?_) λC=>?_
 refine .sr<|.ag rfl<|.az rfl<|.ret (bw (aJ (cG (bw (aJ (aY _ (.two (.tmp rfl) (.tmp rfl)) (.one [5] _) ?_))))))
 ·have b5:¬kB E L.length=true:=by
   intro O
   unfold kB at O
   rw[afl,List.all_eq_true]at O
   have F:=bT O.1
   have h8:=O.2 a (ba p)
   rw[F,l]at p
   cases p
   have h5':=bT C
   have h9:=bT h8
   rcases h5' with h5'|h5'
   ·exact h5' rfl
   ·omega
  refine⟨[],by simp[take,bJ],sZ,[],?_,.nil,?_⟩
  ·rw[d,aex b5]
  ·rw[d,aex b5];rfl
 refine .skip<|aS<|au<|.region<|.mo rfl<|.ia (i+1) .add<|.ag rfl<|.nil ?_
 ·exact bd (i+1) ⟨V,λj S=>by
   rcases aeX j i with hh|hh
   ·exact hq j hh
   ·obtain rfl:j=i:=by omega
    have h5':=bA C
    simp only[ne_eq,not_or,Decidable.not_not,Nat.not_le]at h5'
    exact⟨by rw[p,l,h5'.1],by rw[aeG,p];exact h5'.2⟩⟩ (by omega) kE.c.c.c.c.c rH
 have e5:i=L.length:=by have:=bA h4;omega
 have d0:kB E L.length=true:=by
  unfold kB
  rw[afl]
  refine⟨aeU (List.ext_getElem? λj=>?_),?_⟩
  ·rcases aeX j i with hh|hh
   ·exact(hq j hh).1
   ·rw[List.getElem?_eq_none (by omega),List.getElem?_eq_none (by omega)]
  ·rw[List.all_eq_true]
   intro x hx
   obtain⟨j,S,e⟩:=aeY.1 hx
   have:=(hq j (by omega)).2
   rw[aeG,aZ S,e]at this
   exact aeU this
 rw[aeA d0]at d
 generalize f0:level E L.length (L.length+1)=A at *
 refine .exit<|bo<|bq<|bp<|au<|.sr<|.ag rfl<|.z<|.ag rfl<|.zs<|.sr<|.az rfl<|.block<|.cy [(1,_),(7,_)] (X:=Nat×Value×List fD×aw×aw) (λy=>y.1<=a9.length/\OS 182 1 eg y.2.1 y.2.2.1 y.2.2.2.1/\(∀q∈y.2.2.1,RS (sg y.2.2.2.2) 1 da q.1 q.2)/\y.2.2.1.map (·.2)=(rows pl.bj A).take y.1) (λy E=>(12,iN y.1)::(11,.int .i64 (cK pl.bj y.1:Nat))::(10,y.2.1)::E) (λy G=>y.2.2.2.1::y.2.2.2.2::G) (λy=>a9.length-y.1) (0,sZ,[],[],[]) ⟨aey _,OS.nil,λq hq=>(by cases hq),by simp⟩ ((kE.c.c.c.kW rfl (by cases pl.bj<;>rfl)).cons rfl) bk.iZ ?_
 rintro⟨i,e1,ll,c4,Tp⟩ ⟨d1,a4,a5,U⟩
 simp only at d1 a4 a5 U⊢
 have e6:ll.length<=16:=by
  have C:=aez List.length U
  rw[aeC,aeE,ni]at C
  have D:=v.1
  simp only at D
  omega
 refine .seq<|.sr<|.mo rfl<|.fa rfl<|.lo rfl<|.q (.bI I)<|.q .lss<|.zn<|.cond rfl (λD=>?_) λD=>?_
 have V:i<a9.length:=cg D
 obtain⟨s,B⟩:=bQ V
 have d6:=h.all _ (ba B)
 have c0:=d6.rs
 have f4:=c0.le
 have f5:s.bR.length<=16:=v.2 s (ba B)
 have a7:=W i s B
 have b9:=oV (n:=A) a7
 have b6:=oR a7
 have b7:=tF a7
 have d5:s.plain.bR.length=s.bR.length:=by simp[cm.plain]
 rw[d5]at b9 b6 b7
 rw[c2]at b7
 refine .kn<|.seq<|.block<|.sr<|.ag rfl<|.zs<|.sr<|.az rfl<|.block<|.cy [(1,_),(7,_),(10,_),(12,_)] (X:=Nat×Value×aw) (λy=>y.1<=s.bR.length/\OS 3 1 da y.2.1 ((A.drop (cK pl.bj i)).take y.1) y.2.2) (λy E=>(14,iN y.1)::(11,.int .i64 (cK pl.bj i+y.1:Nat))::(13,y.2.1)::E) (λy G=>y.2.2::G) (λy=>s.bR.length-y.1) (0,sZ,[]) ⟨aey _,OS.nil⟩ kE.c.c.c.c.c.c.c bk.eC ?_
 rintro⟨k,c3,c5⟩ ⟨hk,N⟩
 simp only at hk N⊢
 have e0:=N.aE
 refine .seq<|.sr<|.mo rfl<|.fa rfl<|.lo rfl<|.mo rfl ?_
 refine .bC i I B (λg0=>?_)
 refine .fa rfl<|.lo rfl<|.q (.bI c0)<|.q .lss<|.zn<|.cond rfl (λF=>?_) λF=>?_
 have d3:k<s.bR.length:=cg F
 obtain⟨a,p⟩:∃a,A[cK pl.bj i+k]? =some a:=⟨_,aZ (by omega)⟩
 have c9:(A.drop (cK pl.bj i)).take (k+1)=(A.drop (cK pl.bj i)).take k++[a]:=dS (by rw[List.getElem?_drop,p])
 refine .kn<|.seq<|.block<|.sr<|.mo rfl<|.mo rfl<|.mo rfl ?_
 refine .aK (cK pl.bj i+k) a8 p (λg1=>?_)
 refine .lo rfl ?_
 refine .gL (λe2=>?_)
 refine .append N (RS.lits (xs:=[a]) rfl (by simp[da]) (by simp[da,aE])) (by simp only[aeE,aeF];omega) (λv1 Z Y=>?_)
 rw[<-c9]at Y
 refine .az rfl<|.region<|.mo rfl<|.ia (cK pl.bj i+(k+1)) .add<|.ag rfl<|.nil<|aS<|au<|.region<|.mo rfl<|.ia (k+1) .add<|.ag rfl<|.nil ?_
 ·exact bd (k+1,v1,Z) ⟨d3,Y⟩ (by simp only;omega) kE.c.c.c.c.c.c.c (aN [1,1,1,1,1,1,1,1,1])
 have b3:k=s.bR.length:=by have:=bA F;omega
 refine .exit<|bo<|bq<|bp<|au<|.region<|.mo rfl<|.mo rfl ?_
 refine .gL (λe3=>?_)
 refine .append a4 (RS.lits (xs:=[((c3,(A.drop (cK pl.bj i)).take k):fD)]) rfl (by simp[eg]) (by simp[eg,e0.h])) (by simp only[aeF];omega) (λv1 Z Y=>?_)
 refine .ag rfl<|.nil<|aS<|au<|.region<|.mo rfl<|.ia (i+1) .add<|.ag rfl<|.nil ?_
 ·exact bd (i+1,v1,ll++[(c3,(A.drop (cK pl.bj i)).take k)],Z,c5++Tp) ⟨V,Y,λq hq=>by
   rcases List.mem_append.1 hq with hq|hq
   ·exact(a5 q hq).mono λb o l=>gR l
   ·rw[aeV]at hq
    subst hq
    exact N.sg.mono λb o l=>iP l,by simp only;rw[aeD,U,dS b9,b3];rfl⟩ (by simp only;omega) ((kE.c.c.c.kW rfl (by simp only;rw[b6,b3])).cons rfl) ((aN [2,1,1,1,1,1,1,1]).trans (bk.eK (by simp[take,bJ])))
 refine .exit<|bo<|bq<|bp<|au<|.sr<|.mo rfl<|.ag rfl<|.az rfl<|.ret (aY _ (.two (.tmp rfl) (.tmp rfl)) (.one [0,0] _) ?_)
 ·have d2:pl.bj.length<=i:=by rw[c1];have:=bA D;omega
  refine⟨c4++Tp,by simp[take,bJ],e1,ll,?_,⟨a4.sg.mono λb o l=>iP l,λq hq=>(a5 q hq).mono λb o l=>gR l⟩,?_⟩
  ·rw[d]
  ·rw[d,U]
   exact dB (by rw[ni];exact d2)
abbrev rO(pb:Nat)(v:Value)(b:Bool):aw:=(bl pb [v,.bool b] 215)
def gp(t:eY):Prop:=t.kind≠0/\t.text.size<=9223372036854775807/\(t.kind=2\/(t.text≠pj/\t.text≠qC/\t.text≠se/\t.text≠pi/\t.text≠qB/\t.text≠sf/\t.text≠uu))
instance(t:eY):Decidable (gp t):=by unfold gp;infer_instance
structure dT(R:ay)(pb:Nat)(st:cv)(T:aw):Prop where
 h:∃v,T=rO pb v st.2/\RS R 3 eY.enc v st.1
 ok:∀t∈st.1,gp t
theorem dT.nil{R:ay}{a:Nat}:dT R a ko (rO a (sZ) true):=⟨⟨_,rfl,RS.gO⟩,λt b=>(by cases b)⟩
def lV:List eY->eY
 |[]=>⟨0,⟨#[]⟩,0⟩
 |t::_=>t
theorem A3(d:Nat)(v:Value)(b:Bool)(l:List eY)(R:ay)(h:RS R 3 eY.enc v l) [pc:PC R (pT d) [v,.bool b]]:Spec prog 201 [pT d] R [] λu H'=>u=.agg (lV l).enc.toArray/\H'=[]:=by
 refine Spec.body func201 rfl results201 ntmps201 rfl<|.sr ?_
 refine .bX (λg=>?_)
 refine .zs<|.sr<|.mo rfl<|.nc rfl<|.fa rfl<|.lo rfl<|.q (.bI h)<|.q .bU<|.zn<|.cond rfl (λa=>?_) λa=>?_
 have c:(l.length:Int)=0:=by simpa using a
 have f:l=[]:=afr (by omega)
 subst f
 refine .sr<|.q .cL<|.bN rfl rfl<|.zn ?_
 refine .ret (aJ (aY _ (.one (.eQ rfl rfl)) (.none _) ?_))
 ·exact⟨rfl,rfl⟩
 have c:¬(l.length:Int)=0:=by simpa using a
 obtain⟨t,r,rfl⟩:∃t r,l=t::r:=by
  cases l with
  |nil=>simp at c
  |cons t r=>exact⟨t,r,rfl⟩
 have e:(t::r)[0]? =some t:=rfl
 refine .kn<|.sr<|.mo rfl<|.nc rfl<|.fa rfl<|.lo rfl ?_
 refine .bC 0 h e (λi=>?_)
 refine .q (.aM rfl)<|.bN rfl rfl<|.zn ?_
 refine .ret (aY _ (.one (.eQ rfl rfl)) (.none _) ?_)
 ·exact⟨rfl,rfl⟩
theorem sU(a:Nat)(v:Value) [c:One v](b:Bool)(R:ay):Spec prog 159 [pT a] R [rO a v b] λ_ H'=>∃T',H'=[T']/\T'=rO a (sZ) true:=by
 refine Spec.body func159 rfl results159 ntmps159 rfl<|.sr<|.mo rfl<|.nc rfl<|.fa rfl<|.dt rfl rfl<|.zn<|.region<|.mo rfl<|.nc rfl<|.fa rfl<|.dt rfl rfl<|.nil<|gg _ .none rH ?_
 ·exact⟨_,rfl,rfl⟩
theorem nY(j:Nat)(g:cv)(T:aw)(R:ay)(w:dT R j g T)(s:ByteArray):Spec prog 156 [pT j,.string s] R [T] λu H'=>∃T',H'=[T']/\u=.bool (dx s g).isSome/\dT R j ((dx s g).getD g) T':=by
 obtain⟨⟨v,rfl,h⟩,f⟩:=w
 obtain⟨l,b⟩:=g
 simp only at h f⊢
 have C:=h.le
 have k:dx s ([],b)=none:=rfl
 have i:∀t r,dx s (t::r,b)=if t.kind=2\/t.text≠s then none else some (r,b):=λ_ _=>rfl
 refine Spec.body func156 rfl results156 ntmps156 rfl ?_
 refine .sr<|.ag rfl<|.z<|.mo rfl ?_
 refine .aX (A3 j v b l _ h.rx) (λu y=>?_)
 subst y
 refine .bX (λB=>?_)
 refine .bN rfl rfl<|.zs<|.sr<|.fa rfl<|.lo rfl<|.q .bU<|.mo rfl ?_
 refine .split (t:=11) rfl (λc=>?_) (λc=>?_)
 refine .gF c<|.gF c<|.gF c<|.q (.aT c) ?_
 refine .mo rfl<|.gX<|.gX<|.gX<|.gX<|.q .db<|.zn<|.ig ?_
 have d:dx s (l,b)=none:=by
  cases l with
  |nil=>exact k
  |cons t r=>
   rw[i]
   obtain⟨o,_,_⟩:=f t aeN
   simp only[lV]at *
   rw[aeA]
   by_cases e:t.kind=2
   ·exact .inl e
   ·exact .inr (by grind)
 refine .sr<|.az rfl ?_
 refine .ret (aJ (aY _ (.one (.tmp rfl)) (aN [1]) ?_))
 ·exact⟨_,rfl,by rw[d];rfl,by rw[d];exact⟨⟨v,rfl,h⟩,f⟩⟩
 refine .gT c<|.fa rfl<|.gT c<|.lo rfl<|.gT c<|.q .bU<|.q (.aQ c) ?_
 refine .mo rfl ?_
 refine .split (t:=16) rfl (λa=>?_) (λa=>?_)
 refine .gF a<|.gF a<|.gF a<|.gF a<|.q (.aT a) ?_
 refine .zn<|.ig ?_
 have d:dx s (l,b)=none:=by
  cases l with
  |nil=>exact k
  |cons t r=>
   rw[i]
   obtain⟨o,_,_⟩:=f t aeN
   simp only[lV]at *
   rw[aeA]
   by_cases e:t.kind=2
   ·exact .inl e
   ·exact .inr (by grind)
 refine .sr<|.az rfl ?_
 refine .ret (aJ (aY _ (.one (.tmp rfl)) (aN [1]) ?_))
 ·exact⟨_,rfl,by rw[d];rfl,by rw[d];exact⟨⟨v,rfl,h⟩,f⟩⟩
 refine .gT a<|.fa rfl<|.gT a<|.lo rfl<|.gT a<|.mo rfl<|.gT a<|.q .fP<|.q (.aQ a) ?_
 refine .zn ?_
 refine .cond rfl (λp=>?_) λp=>?_
 have d:dx s (l,b)=none:=by
  cases l with
  |nil=>exact k
  |cons t r=>
   rw[i]
   obtain⟨o,_,_⟩:=f t aeN
   simp only[lV]at *
   rw[aeA]
   by_cases e:t.kind=2
   ·exact .inl e
   ·exact .inr (by grind)
 refine .sr<|.az rfl ?_
 refine .ret (aJ (aY _ (.one (.tmp rfl)) (aN [1]) ?_))
 ·exact⟨_,rfl,by rw[d];rfl,by rw[d];exact⟨⟨v,rfl,h⟩,f⟩⟩
 obtain⟨t,r,rfl⟩:∃t r,l=t::r:=by
  cases l with
  |nil=>simp[lV]at *
  |cons t r=>exact⟨t,r,rfl⟩
 have n:dx s (t::r,b)=some (r,b):=by
  rw[i,aex]
  simp only[lV]at *
  grind
 refine .kn<|.sr<|.mo rfl<|.mo rfl<|.nc rfl<|.fa rfl<|.lo rfl ?_
 refine .nr 1 (r.length+1) h ⟨_,rfl⟩ rfl (by omega) (by simp) (λA m=>?_)
 rw[show((t::r).drop 1).take (r.length+1-1)=r by simp]at m
 have D:=m.aE
 refine .nc rfl<|.fa rfl<|.dt rfl rfl<|.z<|.az rfl ?_
 refine .ret (aY _ (.one (.tmp rfl)) (aN [1]) ?_)
 ·exact⟨_,rfl,by rw[n];rfl,by rw[n];exact⟨⟨A,rfl,m⟩,λt x=>f t (afs _ x)⟩⟩
theorem tx(d:Nat)(a:cv)(T:aw)(R:ay)(g:dT R d a T)(s:ByteArray):Spec prog 203 [pT d,.string s] R [T] λ_ H'=>∃T',H'=[T']/\dT R d (gy s a) T':=by
 have i:=nY d a T R g s
 have e:gy s a=(dx s a).getD ko:=rfl
 refine Spec.body func203 rfl results203 ntmps203 rfl ?_
 refine .sr<|.mo rfl<|.mo rfl ?_
 refine .cA (R:=R) i (λu T' f=>?_)
 obtain⟨rfl,c⟩:=f
 refine .q .not<|.zn ?_
 refine .cond rfl (λb=>?_) λb=>?_
 have h:dx s a=none:=by
  cases hh:dx s a with
  |none=>rfl
  |some x=>rw[hh]at b;simp at b
 rw[h]at c e
 simp only[afw]at c
 obtain⟨⟨v,rfl,j⟩,_⟩:=c
 have l:=j.aE
 refine .region<|.mo rfl ?_
 refine .cA (R:=R) (sU d v a.2 R) (λu T' f=>?_)
 subst f
 refine .nil<|gg _ .none rH ?_
 ·exact⟨_,rfl,by rw[e];exact dT.nil⟩
 obtain⟨x,k⟩:∃x,dx s a=some x:=by
  cases hh:dx s a with
  |none=>rw[hh]at b;simp at b
  |some x=>exact⟨x,rfl⟩
 rw[k]at c e
 refine .skip<|gg _ .none rH ?_
 ·exact⟨_,rfl,by rw[e];exact c⟩
theorem rR(d:Nat)(g:cv)(T:aw)(R:ay)(p:dT R d g T):Spec prog 202 [pT d] R [T] λu H'=>∃T',H'=[T']/\u=.string (dz isWord g).1/\dT R d (dz isWord g).2 T':=by
 obtain⟨⟨v,rfl,h⟩,j⟩:=p
 obtain⟨l,b⟩:=g
 simp only at h j⊢
 have B:=h.aE
 have A:=h.le
 have m:dz isWord ([],b)=(⟨#[]⟩,ko):=rfl
 have i:∀t r,dz isWord (t::r,b)=if t.kind≠1\/isWord t.text=false then(⟨#[]⟩,ko)else(t.text,(r,b)):=λ_ _=>rfl
 have w:(lV l).text.size<=9223372036854775807:=by
  cases l with
  |nil=>exact aey _
  |cons t r=>exact(j t aeN).2.1
 refine Spec.body func202 rfl results202 ntmps202 rfl ?_
 refine .sr<|.ag rfl<|.z<|.mo rfl ?_
 refine .aX (A3 d v b l _ h.rx) (λu c=>?_)
 subst c
 refine .bX (λy=>?_)
 refine .bN rfl rfl<|.zs<|.sr<|.fa rfl<|.lo rfl<|.q .eh<|.mo rfl ?_
 refine .split (t:=9) rfl (λa=>?_) (λa=>?_)
 refine .gF a<|.gF a<|.gF a<|.gF a<|.q (.aT a) ?_
 refine .zn<|.ig ?_
 have f:dz isWord (l,b)=(⟨#[]⟩,ko):=by
  cases l with
  |nil=>exact m
  |cons t r=>
   rw[i,aeA]
   simp only[lV]at *
   by_cases e:t.kind=1
   ·right;simp_all
   ·exact .inl e
 refine .sr<|.mo rfl ?_
 refine .cA (R:=R) (sU d v b R) (λu T' c=>?_)
 subst c
 refine .z<|.az rfl ?_
 refine .ret (aJ (aY _ (.one (.tmp rfl)) (aN [1]) ?_))
 ·exact⟨_,rfl,by rw[f],by rw[f];exact dT.nil⟩
 refine .gT a<|.fa rfl<|.gT a<|.lo rfl<|.gT a ?_
 refine .aX ((kU _ w R).weaken cM) (λu c=>?_)
 subst c
 refine .gT a<|.q .not<|.q (.aQ a) ?_
 refine .zn ?_
 refine .cond rfl (λo=>?_) λo=>?_
 have f:dz isWord (l,b)=(⟨#[]⟩,ko):=by
  cases l with
  |nil=>exact m
  |cons t r=>
   rw[i,aeA]
   simp only[lV]at *
   by_cases e:t.kind=1
   ·right;simp_all
   ·exact .inl e
 refine .sr<|.mo rfl ?_
 refine .cA (R:=R) (sU d v b R) (λu T' c=>?_)
 subst c
 refine .z<|.az rfl ?_
 refine .ret (aJ (aY _ (.one (.tmp rfl)) (aN [1]) ?_))
 ·exact⟨_,rfl,by rw[f],by rw[f];exact dT.nil⟩
 obtain⟨t,r,rfl⟩:∃t r,l=t::r:=by
  cases l with
  |nil=>simp[lV]at *
  |cons t r=>exact⟨t,r,rfl⟩
 have n:dz isWord (t::r,b)=(t.text,(r,b)):=by
  rw[i,aex]
  simp_all[lV]
 refine .kn<|.sr<|.mo rfl<|.mo rfl<|.nc rfl<|.fa rfl<|.lo rfl ?_
 refine .nr 1 (r.length+1) h ⟨_,rfl⟩ rfl (by omega) (by simp) (λx k=>?_)
 rw[show((t::r).drop 1).take (r.length+1-1)=r by simp]at k
 have C:=k.aE
 refine .nc rfl<|.fa rfl<|.dt rfl rfl<|.z<|.fa rfl<|.lo rfl<|.az rfl ?_
 refine .ret (aY _ (.one (.tmp rfl)) (aN [1]) ?_)
 ·exact⟨_,rfl,by rw[n];rfl,by rw[n];exact⟨⟨x,rfl,k⟩,λt s=>j t (afs _ s)⟩⟩
theorem pD{s:ByteArray}{a:cv}(h:∀t∈a.1,gp t)(b:s=pj\/s=qC\/s=se\/s=pi\/s=qB\/s=sf\/s=uu):dx s a=none:=by
 unfold dx
 split
 ·rfl
 ·rename_i t r e
  have ht:=(h t (by rw[e];exact aeN)).2.2
  rw[aeA]
  rcases ht with ht|⟨c,d,f,g,i,j,k⟩
  ·exact .inl ht
  ·right
   rcases b with rfl|rfl|rfl|rfl|rfl|rfl|rfl<;>assumption
theorem rQ{W:ByteArray->Bool}{a:cv}(h:∀t∈a.1,gp t):(dz W a).1.size<=9223372036854775807:=by
 unfold dz
 split
 ·exact aey _
 ·rename_i t r e
  split
  ·exact aey _
  ·exact(h t (by rw[e];exact aeN)).2.1
section
variable{R:ay}
theorem pA(a:Nat)(b:cv)(T:aw)(c:dT R a b T)(s:ByteArray)(d:s=pj\/s=qC\/s=se\/s=pi\/s=qB\/s=sf\/s=uu):Spec prog 156 [pT a,.string s] R [T] λu H'=>∃T',H'=[T']/\u=.bool false/\dT R a b T':=
 (nY a b T R c s).mono λu H' e=>by
  obtain⟨T',rfl,rfl,h⟩:=e
  rw[pD c.ok d]at h⊢
  exact⟨T',rfl,rfl,h⟩
theorem Aw(b:Nat)(a:cv)(T:aw)(h:dT R b a T):Spec prog 247 [pT b] R [T] λu H'=>∃T',H'=[T']/\u=.agg (hU isWord a).1.enc.toArray/\dT R b (hU isWord a).2 T':=by
 have d:hU isWord a=match dx sj a with
  |some s=>(⟨⟨#[]⟩,⟨#[]⟩⟩,s)
  |none=>(⟨(dz isWord a).1,(dz isWord (gy sh (dz isWord a).2)).1⟩,(dz isWord (gy sh (dz isWord a).2)).2):=rfl
 generalize hU isWord a=out at *
 refine Spec.body func247 rfl results247 ntmps247 rfl<|.sr ?_
 refine .bX (λo=>?_)
 refine .zs<|.sr<|.mo rfl<|.cA (R:=R) (nY b a T R h sj) (λu T' e=>?_)
 obtain⟨rfl,c⟩:=e
 refine .zn<|.cond rfl (λf=>?_) λf=>?_
 obtain⟨s,g⟩:=afm.1 f
 rw[g]at c d
 simp only[Option.getD_some]at c d
 subst d
 refine .sr<|.q .cL<|.bN rfl rfl<|.zn ?_
 refine .ret (aJ (aY _ (.one (.eQ rfl rfl)) (aN [1]) ?_))
 ·exact⟨_,rfl,rfl,c⟩
 have g:dx sj a=none:=by
  cases hh:dx sj a with
  |none=>rfl
  |some x=>rw[hh]at f;cases f
 rw[g]at c d
 simp only[afw]at c d
 subst d
 refine .kn<|.sr<|.mo rfl<|.cA (R:=R) (rR b a _ R c) (λu l e=>?_)
 obtain⟨rfl,i⟩:=e
 refine .q .cL ?_
 refine .bX (λp=>?_)
 refine .bN rfl rfl<|.z<|.mo rfl ?_
 refine .cA (R:=R) (tx b _ _ R i sh) (λu m j=>?_)
 refine .z<|.mo rfl<|.cA (R:=R) (rR b _ _ R j) (λu n e=>?_)
 obtain⟨rfl,k⟩:=e
 refine .fa rfl<|.dt rfl rfl<|.z<|.q (.aM rfl)<|.bN rfl rfl<|.zn ?_
 refine .ret (aY _ (.one (.eQ rfl rfl)) (aN [2]) ?_)
 ·exact⟨_,rfl,rfl,k⟩
def fO(l:List Nd)(st:cv):List Nd×cv:=
 match dx po st with
 |some s=>(l++[⟨1,⟨#[]⟩,⟨#[]⟩,0,0⟩],s)
 |none=>(l++[⟨2,(dz isWord st).1,⟨#[]⟩,0,0⟩],(dz isWord st).2)
theorem zy(l:List Nd)(a:cv):fE (fO l a).2 a:=by
 unfold fO
 split
 ·rename_i s h;exact(js h).1
 ·exact lB a
theorem OE{a:cv}(h:∀t∈a.1,gp t)(f:Nat)(l:List Nd):mT isWord (f+1) l a=fO l a:=by
 rw[mT]
 unfold fO
 cases hh:dx po a with
 |some s=>rfl
 |none=>
  rw[pD h (by simp)]
  simp only
  rw[pD (λt b=>h t ((lB a).mem b)) (by simp)]
theorem TQ{a:cv}(h:∀t∈a.1,gp t)(f:Nat)(l:List Nd):nQ (mT isWord (f+1)) l a=fO l a:=by
 unfold nQ
 rw[OE h,sl]
 split
 ·rfl
 ·rw[pD (λt b=>h t ((zy l a).mem b)) (by simp)]
theorem EE{a:cv}(h:∀t∈a.1,gp t)(f:Nat)(l:List Nd):qe (mT isWord (f+1)) l a=fO l a:=by
 unfold qe
 rw[TQ h,qY]
 have b:∀t∈(fO l a).2.1,gp t:=λt c=>h t ((zy l a).mem c)
 have:rL (fO l a).2=none:=by
  unfold rL
  rw[pD b (by simp),pD b (by simp)]
  rfl
 rw[this]
theorem OF(c:Nat)(a:cv)(T:aw)(m:dT R c a T)(v:Value)(l:List Nd)(i:aw)(j:OS 199 5 Nd.enc v l i)(A:l.length<=1000000):Spec prog 273 [pT c,v] R [T,i] λu H'=>∃T' Tl',H'=[T',Tl']/\OS 199 5 Nd.enc u (fO l a).1 Tl'/\dT R c (fO l a).2 T':=by
 have e:fO l a=match dx po a with
  |some s=>(l++[⟨1,⟨#[]⟩,⟨#[]⟩,0,0⟩],s)
  |none=>(l++[⟨2,(dz isWord a).1,⟨#[]⟩,0,0⟩],(dz isWord a).2):=rfl
 generalize fO l a=out at *
 refine Spec.body func273 rfl results273 ntmps273 rfl<|.sr<|.ag rfl<|.zs<|.block<|.sr<|.mo rfl<|.cA (R:=R) (nY c a T R m po) (λu T' b=>?_)
 obtain⟨rfl,d⟩:=b
 refine .az rfl<|.cond rfl (λf=>?_) λf=>?_
 obtain⟨s,g⟩:=afm.1 f
 rw[g]at d e
 simp only[Option.getD_some]at d e
 subst e
 refine .sr<|.mo rfl<|.q .cL ?_
 refine .dN (λw=>?_)
 refine .append j (RS.lits (xs:=[(⟨1,⟨#[]⟩,⟨#[]⟩,0,0⟩:Nd)]) rfl (by simp[Nd.enc]) (by simp[Nd.enc,aE])) (by simp only[aeF];omega) (λr k h=>?_)
 refine .az rfl<|.ret (bw (aJ (aY _ (.one (.tmp rfl)) (aN [1,1]) ?_)))
 ·exact⟨_,_,rfl,h,d⟩
 have g:dx po a=none:=by
  cases hh:dx po a with
  |none=>rfl
  |some x=>rw[hh]at f;cases f
 rw[g]at d e
 simp only[afw]at d e
 subst e
 refine .sr<|.mo rfl<|.cA (R:=R) (pA c a _ d pj (by simp)) (λu T' b=>?_)
 obtain⟨rfl,n⟩:=b
 refine .az rfl<|.cU<|.skip<|aS<|au<|.sr<|.mo rfl<|.cA (R:=R) (rR c a _ R n) (λu t b=>?_)
 obtain⟨rfl,o⟩:=b
 refine .q .cL ?_
 refine .bX (λz=>?_)
 refine .bN rfl rfl<|.zs<|.sr<|.mo rfl<|.cA (R:=R) (pA c _ _ o sf (by simp)) (λu T' b=>?_)
 obtain⟨rfl,p⟩:=b
 refine .zn<|.cU<|.kn<|.sr<|.mo rfl<|.q (.aM rfl) ?_
 refine .dN (λy=>?_)
 refine .append j (RS.lits (xs:=[(⟨2,(dz isWord a).1,⟨#[]⟩,0,0⟩:Nd)]) rfl (by simp[Nd.enc]) (by simp[Nd.enc,aE])) (by simp only[aeF];omega) (λr k h=>?_)
 refine .az rfl<|.ret (aY _ (.one (.tmp rfl)) (aN [2,2]) ?_)
 ·exact⟨_,_,rfl,h,p⟩
theorem TT(a:Nat)(d:cv)(T:aw)(p:dT R a d T)(v:Value)(l:List Nd)(i:aw)(A:OS 199 5 Nd.enc v l i)(C:l.length<=1000000):Spec prog 265 [pT a,v] R [T,i] λu H'=>∃T' Tl',H'=[T',Tl']/\OS 199 5 Nd.enc u (fO l d).1 Tl'/\dT R a (fO l d).2 T':=by
 refine Spec.body func265 rfl results265 ntmps265 rfl ?_
 refine .sr<|.ag rfl<|.z<|.mo rfl<|.mo rfl ?_
 refine .call [0,0] (OF (R:=Rx R []) a d T ⟨p.h.imp λv h=>⟨h.1,h.2.rx⟩,p.ok⟩ v l i A C) (λu H' k=>?_)
 obtain⟨m,w,rfl,B,f⟩:=k
 have f:dT R a (fO l d).2 m:=⟨f.h.imp λv h=>⟨h.1,h.2.mono λb o j=>j.elim id λj=>(by cases j)⟩,f.ok⟩
 conv=>arg 8;simp only[rest,bJ,afn,afa]
 refine .ag rfl<|.zs<|.block ?_
 refine .cy [(0,_)] (X:=aw) (λT=>dT R a (fO l d).2 T) (λ_ E=>(1,_)::E) (λT G=>T::G) (λ_=>0) m f kE.c.c rH ?_
 rintro n g
 obtain⟨⟨s,r,F⟩,D⟩:=g
 have g:dT R a (fO l d).2 n:=⟨⟨s,r,F⟩,D⟩
 have I:PS n (pT a) [s,.bool (fO l d).2.2]:=PS.of (E:=215) (fr:=(0,0)) (by rw[r];simp)
 refine .seq<|.seq ?_
 refine bz.cO [(0,_),(1,_)] kE.c.c (X:=aw) (λT=>dT R a (fO l d).2 T) (λ_ E=>(17,.bool false)::E) (λT=>[T,w]) ?_ ?_
 refine .region<|.mo rfl<|.nc rfl<|.fa rfl<|.lo rfl<|.q .not<|.mo rfl ?_
 refine .split (t:=14) rfl (λe=>?_) (λe=>?_)
 refine .gT e<|.mo rfl<|.gT e ?_
 refine .cA (R:=R) (pA a _ _ g se (by simp)) (λu T' k=>?_)
 obtain⟨rfl,x⟩:=k
 refine .q (.aT e) ?_
 refine .nil ?_
 ·exact aF _ x kE.c.c.c rH
 refine .gF e<|.gF e<|.q (.aQ e) ?_
 refine .nil ?_
 ·exact aF _ g kE.c.c.c rH
 intro y H
 refine au<|.cU<|.exit<|bo<|bq<|bp<|au<|.sr<|.mo rfl<|.az rfl ?_
 refine .ret (aY _ (.one (.tmp rfl)) rH ?_)
 ·exact⟨_,_,rfl,B,by assumption⟩
theorem QC(a:Nat)(c:cv)(T:aw)(d:dT R a c T):Spec prog 266 [pT a] R [T] λu H'=>∃T',H'=[T']/\u=.int .i64 0/\dT R a c T':=by
 refine Spec.body func266 rfl results266 ntmps266 rfl<|.sr<|.ag rfl<|.zs<|.block<|.sr<|.mo rfl<|.cA (R:=R) (pA a _ _ d pi (by simp)) (λu T' b=>?_)
 obtain⟨rfl,e⟩:=b
 refine .az rfl<|.cU<|.sr<|.mo rfl<|.cA (R:=R) (pA a _ _ e qB (by simp)) (λu T' b=>?_)
 obtain⟨rfl,f⟩:=b
 refine .az rfl<|.cU<|.skip<|aS<|au<|.sr<|.az rfl<|.ret (aY _ (.one (.tmp rfl)) rH ?_)
 ·exact⟨_,rfl,rfl,f⟩
theorem EF(d:Nat)(e:cv)(T:aw)(k:dT R d e T)(v:Value)(l:List Nd)(g:aw)(p:OS 199 5 Nd.enc v l g)(s:l.length<=1000000):Spec prog 248 [pT d,v] R [T,g] λu H'=>∃T' Tl',H'=[T',Tl']/\OS 199 5 Nd.enc u (fO l e).1 Tl'/\dT R d (fO l e).2 T':=by
 refine Spec.body func248 rfl results248 ntmps248 rfl<|.sr<|.ag rfl<|.z<|.mo rfl<|.mo rfl<|.call [0,0] (TT (R:=Rx R []) d e T ⟨k.h.imp λv h=>⟨h.1,h.2.rx⟩,k.ok⟩ v l g p s) (λu H' j=>?_)
 obtain⟨m,w,rfl,r,f⟩:=j
 have f:dT R d (fO l e).2 m:=⟨f.h.imp λv h=>⟨h.1,h.2.mono λb o i=>i.elim id λi=>(by cases i)⟩,f.ok⟩
 conv=>arg 8;simp only[rest,bJ,afn,afa]
 refine .ag rfl<|.zs<|.sr<|.mo rfl<|.cA (R:=R) (QC d _ _ f) (λu T' j=>?_)
 obtain⟨rfl,n⟩:=j
 refine .az rfl<|.block<|.cy [(0,_)] (X:=Unit) (λ_=>True) (λ_ E=>(5,.int .i64 0)::(1,_)::E) (λ_ G=>G) (λ_=>0) () aew kE.c.c.c rH ?_
 rintro _ _
 refine .seq<|.sr<|.mo rfl<|.q .eh<|.mo rfl<|.split (t:=14) rfl (λa=>?_) (λa=>?_)
 ·cases a
 refine .gF a<|.gF a<|.gF a<|.gF a<|.gF a<|.q (.aQ a)<|.zn<|.cU<|.exit<|bo<|bq<|bp<|au<|.sr<|.mo rfl<|.az rfl<|.ret (aY _ (.one (.tmp rfl)) rH ?_)
 ·exact⟨_,_,rfl,r,n⟩
end
theorem Pt(n:Nd)(w:n.fits)(R:ay):Spec prog 226 [.agg n.enc.toArray] R [] λu H'=>u=.bool (n.leaf isWord)/\H'=[]:=by
 obtain⟨k,j,m,a,b⟩:=n
 obtain⟨i,l⟩:=w
 simp only at i l
 refine Spec.body func226 rfl results226 ntmps226 rfl<|.sr ?_
 refine .cb rfl (λo=>?_)
 refine .ag rfl<|.zs<|.seq ?_
 refine bz.cO [(1,_)] kE.c (X:=Unit) (λ_=>True) (λ_ E=>(10,.bool (!(a==0&&b==0)))::E) (λ_=>[bl o (Nd.enc ⟨k,j,m,a,b⟩) 199]) ?_ ?_
 refine .region<|.fa rfl<|.lo rfl<|.q .eh<|.mo rfl<|.split (t:=6) rfl (λd=>?_) (λd=>?_)
 refine .gF d<|.gF d<|.gF d<|.q (.aT d)<|.nil ?_
 ·exact aF () aew (kE.c.bV rfl (by grind)) rH
 refine .gT d<|.fa rfl<|.gT d<|.lo rfl<|.gT d<|.q .eh<|.q (.aQ d)<|.nil ?_
 ·exact aF () aew (kE.c.bV rfl (by grind)) rH
 intro y x
 refine au<|.cond rfl (λp=>?_) λp=>?_
 refine .sr<|.az rfl<|.ret (aJ (aP rfl ?_))
 ·refine⟨aez _ ?_,rfl⟩
  simp only[Nd.leaf]
  grind
 refine .kn<|.seq<|.sr<|.fa rfl<|.lo rfl<|.zn<|.block<|.sr<|.q .bU<|.az rfl<|.cond rfl (λr=>?_) λr=>?_
 refine .sr<|.fa rfl<|.lo rfl<|.q .dF<|.mo rfl<|.split (t:=18) rfl (λe=>?_) (λe=>?_)
 refine .gT e<|.fa rfl<|.gT e<|.lo rfl<|.gT e<|.q .dF<|.q (.aT e)<|.az rfl<|.ret (bw (aJ (aP rfl ?_)))
 ·refine⟨aez _ ?_,rfl⟩
  simp only[Nd.leaf]
  grind
 refine .gF e<|.gF e<|.gF e<|.q (.aQ e)<|.az rfl<|.ret (bw (aJ (aP rfl ?_)))
 ·refine⟨aez _ ?_,rfl⟩
  simp only[Nd.leaf]
  grind
 refine .sr<|.q .bU<|.az rfl<|.cond rfl (λs=>?_) λs=>?_
 refine .sr<|.fa rfl<|.lo rfl<|.aX (kU j i _) (λu h=>?_)
 subst h
 refine .mo rfl<|.split (t:=28) rfl (λf=>?_) (λf=>?_)
 refine .gT f<|.fa rfl<|.gT f<|.lo rfl<|.gT f<|.q .dF<|.q (.aT f)<|.az rfl<|.ret (bw (aJ (aP rfl ?_)))
 ·refine⟨aez _ ?_,rfl⟩
  simp only[Nd.leaf]
  grind
 refine .gF f<|.gF f<|.gF f<|.q (.aQ f)<|.az rfl<|.ret (bw (aJ (aP rfl ?_)))
 ·refine⟨aez _ ?_,rfl⟩
  simp only[Nd.leaf]
  grind
 refine .sr<|.q .bU<|.az rfl<|.cond rfl (λv=>?_) λv=>?_
 refine .sr<|.fa rfl<|.lo rfl<|.aX (kU j i _) (λu h=>?_)
 subst h
 refine .mo rfl<|.split (t:=38) rfl (λg=>?_) (λg=>?_)
 refine .gT g<|.fa rfl<|.gT g<|.lo rfl<|.gT g<|.aX (kU m l _) (λu h=>?_)
 subst h
 refine .q (.aT g)<|.az rfl<|.ret (bw (aJ (aP rfl ?_)))
 ·refine⟨aez _ ?_,rfl⟩
  simp only[Nd.leaf]
  grind
 refine .gF g<|.gF g<|.gF g<|.q (.aQ g)<|.az rfl<|.ret (bw (aJ (aP rfl ?_)))
 ·refine⟨aez _ ?_,rfl⟩
  simp only[Nd.leaf]
  grind
 refine .skip<|aS<|au<|.sr<|.az rfl<|.ret (aP rfl ?_)
 ·refine⟨aez _ ?_,rfl⟩
  simp only[Nd.leaf]
  grind
theorem u4(W:ByteArray->Bool):∀(a b:List Nd) (S:List (Nat×Nat)),jC W (a++b) S=(jC W a S).bind (jC W b)
 |[],b,S=>rfl
 |n::a,b,S=>by
  rw[afn,jC,jC]
  cases iD W S n with
  |none=>rfl
  |some S'=>exact u4 W a b S'
theorem jX{α:Type}{A:List α}{i k:Nat}{x z:α}(a:A.length=i):(A++List.replicate (k+1) z).set i x=(A++[x])++List.replicate k z:=by
 subst a
 rw[List.set_append_right _ _ (Nat.le_refl _),Nat.sub_self,List.replicate_succ,List.set_cons_zero]
 simp
theorem rn{A:List Nat}{j k:Nat}{a:Nat}(h:A[j]? =some a):(A++List.replicate k 0)[j]? =some a:=by
 rw[List.getElem?_append_left (aeW.1 h).1]
 exact h
def mH(S:List (Nat×Nat))(n:Nd):Prop:=n.rel≠⟨#[]⟩\/n.dI≠⟨#[]⟩\/n.b≠(S.length:Int)-1\/n.b<0\/n.a≠(S.length:Int)-1-(S.getD (S.length-1) (0,0)).1\/n.a<0
instance(S:List (Nat×Nat))(n:Nd):Decidable (mH S n):=by unfold mH;infer_instance
theorem Ex{S:List (Nat×Nat)}{n:Nd}(ho:n.op=true)(h:mH S n):iD isWord S n=none:=by
 unfold iD
 rw[aeA ho]
 exact aeA h
theorem Ey{S:List (Nat×Nat)}{n:Nd}(ho:n.op=true)(h:¬mH S n):iD isWord S n=some (S++[((S.getD n.a.toNat (0,0)).1+(S.getD n.b.toNat (0,0)).1+1,max (S.getD n.a.toNat (0,0)).2 (S.getD n.b.toNat (0,0)).2+1)]):=by
 unfold iD
 rw[aeA ho]
 exact aex h
theorem yI{l:List Nd}{i:Nat}{n:Nd}{S:List (Nat×Nat)}(c:l[i]? =some n)(a:jC isWord (l.take i) []=some S)(h:iD isWord S n=none):pR isWord l=0:=by
 have b:l=l.take i++n::l.drop (i+1):=by
  rw[<-afx i l]
  congr 1
  ·rw[afx]
  ·rw[afx];exact yR c
 have:jC isWord l []=none:=by
  rw[b,u4,a,afj,jC,h]
  rfl
 unfold pR
 rw[this]
theorem yJ(v:Value)(l:List Nd)(R:ay)(h:RS R 5 Nd.enc v l)(s:∀x∈l,x.fits)(c7:l.length<=1000000):
    Spec prog 174 [v] R [] λu H'=>u=.int .i64 (fY isWord l:Nat)/\H'=[]:=by
  rw[<-En]
  refine Spec.body func174 rfl results174 ntmps174 rfl ?_
  refine .sr<|.ag rfl<|.zs ?_
  refine bz.cO [(0,_)] kE.c (X:=(Nat×aw)×(Nat×aw)) (λy=>OS 3 1 da (.slice (some ⟨y.1.1,0,none⟩) l.length l.length) (List.replicate l.length 0) y.1.2/\OS 3 1 da (.slice (some ⟨y.2.1,0,none⟩) l.length l.length) (List.replicate l.length 0) y.2.2) (λy E=>(3,.slice (some ⟨y.1.1,0,none⟩) l.length l.length)::(4,.slice (some ⟨y.2.1,0,none⟩) l.length l.length)::E) (λy=>[y.1.2,y.2.2]) ?_ ?_
  refine .cY [2,5] mixed ?_
  refine .tK 0 rfl .move ?_
  refine .tK 1 rfl (.bI h) ?_
  refine .tK 3 rfl .move ?_
  refine .tK 4 rfl (.bI h) ?_
  refine RA.jL 2 5 rfl rfl (by kernel_rfl) rfl ?_ ?_
  refine .makeSlice (enc:=da) l.length 0 rfl rfl (by decide) (by simp[da,aE]) rfl rfl (by omega) (by omega) (λL w d=>?_)
  refine .nil (Next.mod rfl ?_)
  refine .tK 6 rfl .assign ?_
  refine .sT 5 rfl ?_
  refine .makeSlice (enc:=da) l.length 0 rfl rfl (by decide) (by simp[da,aE]) rfl rfl (by omega) (by omega) (λM A e=>?_)
  refine .nil (Next.mod rfl ?_)
  refine .tK 7 rfl .assign ?_
  refine RA.nil (by kernel_rfl) ?_
  ·first
      |exact aF ((L,w),(M,A)) ⟨d,e⟩ kE.c.c.c (aN [0,0])
      |exact aF ((L,w),(M,A)) ⟨d,e⟩ kE.c.c.c (aN [1,0])
  refine .makeSlice (enc:=da) l.length 0 rfl rfl (by decide) (by simp[da,aE]) rfl rfl (by omega) (by omega) (λM A e=>?_)
  refine .nil (Next.mod rfl ?_)
  refine .sT 2 rfl ?_
  refine .makeSlice (enc:=da) l.length 0 rfl rfl (by decide) (by simp[da,aE]) rfl rfl (by omega) (by omega) (λL w d=>?_)
  refine .nil (Next.mod rfl ?_)
  refine .tK 6 rfl .assign<|.tK 7 rfl .assign ?_
  refine RA.nil (by kernel_rfl) ?_
  ·first
      |exact aF ((L,w),(M,A)) ⟨d,e⟩ kE.c.c.c (aN [0,0])
      |exact aF ((L,w),(M,A)) ⟨d,e⟩ kE.c.c.c (aN [1,0])
  intro y hy
  obtain⟨⟨L,w⟩,⟨M,A⟩⟩:=y
  obtain⟨d,e⟩:=hy
  simp only at d e⊢
  refine au<|.seq<|.sr<|.mo rfl<|.q (.bI h) ?_
  refine .mo rfl<|.zn<|.block ?_
  refine .cy [(0,_),(3,_),(4,_),(13,_),(14,_)] (X:=Nat×List (Nat×Nat)×aw×aw) (λy=>y.1<=l.length/\y.2.1.length=y.1/\jC isWord (l.take y.1) []=some y.2.1/\DI isWord l y.2.1/\OS 3 1 da (.slice (some ⟨L,0,none⟩) l.length l.length) (y.2.1.map (·.1)++List.replicate (l.length-y.1) 0) y.2.2.1/\OS 3 1 da (.slice (some ⟨M,0,none⟩) l.length l.length) (y.2.1.map (·.2)++List.replicate (l.length-y.1) 0) y.2.2.2) (λy E=>(15,iN y.1)::E) (λy _=>[y.2.2.1,y.2.2.2]) (λy=>l.length-y.1) (0,[],w,A) ⟨aey _,rfl,rfl,⟨aey _,λj hj=>absurd hj (by simp)⟩,by simpa using d,by simpa using e⟩ kE.c.c.c.c.c.c rH (G:=[]) ?_
  rintro⟨i,S,w,A⟩ ⟨hi,o,Q,m,d,e⟩
  simp only at hi o Q m d e⊢
  refine .sr<|.q .lss<|.zs ?_
  refine .cond rfl (λh1=>?_) λh1=>?_
  have W:i<l.length:=cg h1
  obtain⟨n,J⟩:=bQ W
  obtain⟨k,hk⟩:∃k,l.length-i=k+1:=⟨l.length-i-1,by omega⟩
  have K:l.length-(i+1)=k:=by omega
  rw[hk]at d e
  have Y:jC isWord (l.take (i+1)) []=iD isWord S n:=by
    rw[dS J,u4,Q,afj,jC]
    cases iD isWord S n<;>rfl
  have a3:(S.map (·.1)).length=i:=by rw[aeC,o]
  have a4:(S.map (·.2)).length=i:=by rw[aeC,o]
  have r:∀j,j<i->(S.map (·.1))[j]? =some (S.getD j (0,0)).1/\(S.map (·.2))[j]? =some (S.getD j (0,0)).2/\(S.getD j (0,0)).1<=j+1/\(S.getD j (0,0)).2<=j+1/\1<=(S.getD j (0,0)).1:=λj hj=>by
    obtain⟨d1,d2,d3⟩:=m.t j (by omega)
    have d4:=xA _ _ _ d3
    refine⟨?_,?_,d2,d4,d1⟩
    ·rw[aeB,aZ (by omega),aeG,aZ (by omega)];rfl
    ·rw[aeB,aZ (by omega),aeG,aZ (by omega)];rfl
  obtain⟨z1,a0⟩:∃z,(S.map (·.1)++List.replicate (k+1) 0)[i]? =some z:=⟨_,aZ (by rw[aeK,a3,afi];omega)⟩
  obtain⟨z2,a1⟩:∃z,(S.map (·.2)++List.replicate (k+1) 0)[i]? =some z:=⟨_,aZ (by rw[aeK,a4,afi];omega)⟩
  have b4:=h.le
  refine .kn<|.seq<|.block<|.sr<|.mo rfl ?_
  refine .bC i h J (λd7=>?_)
  refine .q (.aM rfl) ?_
  refine .bX (λb6=>?_)
  refine .ag rfl<|.bN rfl rfl<|.zs<|.seq ?_
  refine bz.cO [(0,_),(3,_),(4,_),(5,_),(6,_),(13,_),(14,_),(15,_)] kE.c.c.c.c.c.c.c.c (X:=Unit) (λ_=>True) (λ_ E=>(32,.bool (!n.op))::E) (λ_=>[bl b6 n.enc 199,w,A]) ?_ ?_
  refine .region<|.fa rfl<|.lo rfl<|.q .eh<|.mo rfl ?_
  refine .split (t:=23) rfl (λB=>?_) (λB=>?_)
  refine .gT B<|.fa rfl<|.gT B<|.lo rfl<|.gT B<|.q .eh<|.q (.aT B) ?_
  refine .mo rfl ?_
  refine .split (t:=28) rfl (λC=>?_) (λC=>?_)
  refine .gT C<|.fa rfl<|.gT C<|.lo rfl<|.gT C<|.q .eh<|.q (.aT C) ?_
  refine .nil ?_
  ·exact aF () aew (kE.c.c.c.c.c.c.c.c.bV rfl (by clear r m d e s;grind[Nd.op])) rH
  refine .gF C<|.gF C<|.gF C<|.q (.aQ C) ?_
  refine .nil ?_
  ·exact aF () aew (kE.c.c.c.c.c.c.c.c.bV rfl (by clear r m d e s;grind[Nd.op])) rH
  refine .gF B<|.gF B<|.gF B<|.q (.aQ B) ?_
  refine .mo rfl<|.gX<|.gX<|.gX<|.q .cR<|.nil ?_
  ·exact aF () aew (kE.c.c.c.c.c.c.c.c.bV rfl (by clear r m d e s;grind[Nd.op])) rH
  intro y hy
  refine au ?_
  refine .cond rfl (λV=>?_) λV=>?_
  refine .seq<|.sr<|.q (.aM rfl) ?_
  refine .aX (Pt n (s n (ba J)) _) (λu hu=>?_)
  subst hu
  refine .q .not<|.zn ?_
  refine .cond rfl (λh3=>?_) λh3=>?_
  refine .sr<|.az rfl ?_
  refine .ret (aJ (aJ (bw (aJ (cG (bw (aJ (aP rfl ?_))))))))
  ·refine⟨?_,rfl⟩
   rw[yI J Q (by unfold iD;rw[aex (by have a5:n.op=false:=by simpa using V
                                      rw[a5];simp),aex (by simpa using h3)])]
   rfl
  have a5:n.op=false:=by simpa using V
  have b5:n.leaf isWord=true:=by simpa using h3
  have I:iD isWord S n=some (S++[(1,1)]):=by unfold iD;rw[aex (by rw[a5];simp),aeA b5]
  refine .kn<|.sr<|.mo rfl<|.mo rfl<|.mo rfl<|.mo rfl ?_
  refine .aK i d a0 (λd8=>?_)
  refine .du i d a0 1 (λT N=>?_)
  rw[jX a3]at N
  refine .aK i e a1 (λd9=>?_)
  refine .du i e a1 1 (λU O=>?_)
  rw[jX a4]at O
  refine .zn<|.exit<|bo<|bp<|au<|.region ?_
  refine .ia (i+1) .add ?_
  refine .mo rfl<|.nil ?_
  ·first
      |exact bd (i+1,S++[(1,1)],T,U) ⟨W,by simp[o],by simp only;rw[Y,I],m.step (by rw[o];exact J) I,by simp only;rw[K,aeD];exact N,by simp only;rw[K,aeD];exact O⟩ (by simp only;omega) kE.c.c.c.c.c.c (aN [1,1])
      |exact bd (i+1,S++[((S.getD n.a.toNat (0,0)).1+(S.getD (i-1) (0,0)).1+1,max (S.getD n.a.toNat (0,0)).2 (S.getD (i-1) (0,0)).2+1)],T,U) ⟨W,by simp[o],by simp only;rw[Y,I],m.step (by rw[o];exact J) I,by simp only;rw[K,aeD];exact N,by simp only;rw[K,aeD];exact O⟩ (by simp only;omega) kE.c.c.c.c.c.c (aN [1,1])
  refine .kn<|.seq<|.seq ?_
  refine bz.cO [(0,_),(3,_),(4,_),(5,_),(6,_),(13,_),(14,_),(15,_)] kE.c.c.c.c.c.c.c.c (X:=Unit) (λ_=>True) (λ_ E=>(79,.bool (decide (n.rel≠⟨#[]⟩\/n.dI≠⟨#[]⟩\/n.b≠(i:Int)-1\/n.b<0\/n.a≠(i:Int)-1-((S.getD (i-1) (0,0)).1:Nat)\/n.a<0)))::E) (λ_=>[bl b6 n.enc 199,w,A]) ?_ ?_
  refine .fS mixed (by kernel_rfl) ?_
  refine .fa rfl<|.lo rfl<|.q .fP<|.mo rfl ?_
  refine .split (t:=45) rfl (λF=>?_) (λF=>?_)
  refine .gF F<|.gF F<|.gF F<|.q (.aT F) ?_
  refine .mo rfl<|.gX<|.gX<|.gX<|.gX<|.gX<|.q .db<|.mo rfl<|.gX<|.gX<|.gX<|.q .db<|.mo rfl<|.gX<|.gX<|.gX<|.gX<|.gX<|.gX<|.gX<|.gX<|.gX<|.gX<|.gX<|.q .db<|.mo rfl<|.gX<|.gX<|.gX<|.q .db<|.nil ?_
  ·exact aF () aew (kE.c.c.c.c.c.c.c.c.bV rfl (by clear r m d e s;grind)) rH
  refine .gT F<|.fa rfl<|.gT F<|.lo rfl<|.gT F<|.q .fP<|.q (.aQ F) ?_
  refine .mo rfl ?_
  refine .split (t:=50) rfl (λp=>?_) (λp=>?_)
  refine .gF p<|.gF p<|.gF p<|.gF p<|.gF p<|.q (.aT p) ?_
  refine .mo rfl<|.gX<|.gX<|.gX<|.q .db<|.mo rfl<|.gX<|.gX<|.gX<|.gX<|.gX<|.gX<|.gX<|.gX<|.gX<|.gX<|.gX<|.q .db<|.mo rfl<|.gX<|.gX<|.gX<|.q .db<|.nil ?_
  ·exact aF () aew (kE.c.c.c.c.c.c.c.c.bV rfl (by clear r m d e s;grind)) rH
  refine .gT p<|.fa rfl<|.gT p<|.lo rfl<|.gT p<|.mo rfl<|.gT p ?_
  refine .q (.i64 ((i:Int)-1) .sub ⟨rfl,by omega,by omega⟩) ?_
  refine .gT p<|.q .eh<|.q (.aQ p) ?_
  refine .mo rfl ?_
  refine .split (t:=57) rfl (λD=>?_) (λD=>?_)
  refine .gF D<|.gF D<|.gF D<|.q (.aT D) ?_
  refine .mo rfl<|.gX<|.gX<|.gX<|.gX<|.gX<|.gX<|.gX<|.gX<|.gX<|.gX<|.gX<|.q .db<|.mo rfl<|.gX<|.gX<|.gX<|.q .db<|.nil ?_
  ·exact aF () aew (kE.c.c.c.c.c.c.c.c.bV rfl (by clear r m d e s;grind)) rH
  refine .gT D<|.fa rfl<|.gT D<|.lo rfl<|.gT D<|.q .lss<|.q (.aQ D) ?_
  refine .mo rfl ?_
  refine .split (t:=62) rfl (λf=>?_) (λf=>?_)
  refine .gF f<|.gF f<|.gF f<|.gF f<|.gF f<|.gF f<|.gF f<|.gF f<|.gF f<|.gF f<|.gF f<|.q (.aT f) ?_
  refine .mo rfl<|.gX<|.gX<|.gX<|.q .db<|.nil ?_
  ·exact aF () aew (kE.c.c.c.c.c.c.c.c.bV rfl (by clear r m d e s;grind)) rH
  have c6:1<=i:=by clear r m d e;grind
  obtain⟨q1,q2,q3,q4,q5⟩:=r (i-1) (by omega)
  have a7:=rn (k:=k+1) q1
  refine .gT f<|.fa rfl<|.gT f<|.lo rfl<|.gT f<|.mo rfl<|.gT f ?_
  refine .q (.i64 ((i:Int)-1) .sub ⟨rfl,by omega,by omega⟩) ?_
  refine .gT f<|.mo rfl<|.gT f<|.mo rfl<|.gT f ?_
  refine .q (.i64 ((i:Int)-1) .sub ⟨rfl,by omega,by omega⟩) ?_
  refine .gT f ?_
  refine .aK (i-1) d a7 (λe0=>?_) rfl rfl (by omega)
  refine .gT f<|.lo rfl<|.gT f ?_
  refine .q (.i64 ((i:Int)-1-((S.getD (i-1) (0,0)).1:Nat)) .sub ⟨rfl,by omega,by omega⟩) ?_
  refine .gT f<|.q .eh<|.q (.aQ f) ?_
  refine .mo rfl ?_
  refine .split (t:=75) rfl (λH=>?_) (λH=>?_)
  refine .gF H<|.gF H<|.gF H<|.q (.aT H) ?_
  refine .nil ?_
  ·exact aF () aew (kE.c.c.c.c.c.c.c.c.bV rfl (by clear r m d e s;grind)) rH
  refine .gT H<|.fa rfl<|.gT H<|.lo rfl<|.gT H<|.q .lss<|.q (.aQ H) ?_
  refine .nil ?_
  ·exact aF () aew (kE.c.c.c.c.c.c.c.c.bV rfl (by clear r m d e s;grind)) rH
  intro y hy
  refine au ?_
  refine .cond rfl (λh4=>?_) λh4=>?_
  have a6:n.op=true:=by simpa using V
  have Z:mH S n:=by unfold mH;rw[o];exact bT h4
  refine .sr<|.az rfl ?_
  refine .ret (aJ (bw (aJ (cG (bw (aJ (aP rfl ?_)))))))
  ·refine⟨?_,rfl⟩
   rw[yI J Q (Ex a6 Z)]
   rfl
  have a6:n.op=true:=by simpa using V
  have Z:¬mH S n:=by unfold mH;rw[o];exact bA h4
  have a2:=Z
  unfold mH at a2
  simp only[not_or,Decidable.not_not,o]at a2
  obtain⟨c0,c1,c2,c3,c4,c5⟩:=a2
  obtain⟨q1,q2,q3,q4,q5⟩:=r (i-1) (by omega)
  obtain⟨r1,r2,r3,r4,r5⟩:=r n.a.toNat (by omega)
  have a9:n.b.toNat=i-1:=by omega
  have a7:=rn (k:=k+1) q1
  have b7:=rn (k:=k+1) q2
  have b8:=rn (k:=k+1) r1
  have b9:=rn (k:=k+1) r2
  have I:iD isWord S n=some (S++[((S.getD n.a.toNat (0,0)).1+(S.getD (i-1) (0,0)).1+1,max (S.getD n.a.toNat (0,0)).2 (S.getD (i-1) (0,0)).2+1)]):=by
    rw[Ey a6 Z,a9]
  refine .kn<|.seq ?_
  refine .dm 15 mixed (by kernel_rfl) ?_
  conv=>arg 6;dsimp only[List.take]
  refine .mo rfl<|.mo rfl<|.mo rfl<|.fa rfl<|.lo rfl ?_
  refine .aK n.a.toNat d b8 (λe1=>?_) rfl rfl (by omega)
  refine .lo rfl<|.mo rfl<|.fa rfl<|.lo rfl ?_
  refine .aK (i-1) d a7 (λe2=>?_) rfl rfl (by omega)
  refine .lo rfl ?_
  refine .q (.i64 (((S.getD n.a.toNat (0,0)).1+(S.getD (i-1) (0,0)).1:Nat):Int) .add ⟨by push_cast;rfl,by omega,by omega⟩) ?_
  refine .q (.i64 (((S.getD n.a.toNat (0,0)).1+(S.getD (i-1) (0,0)).1+1:Nat):Int) .add ⟨by push_cast;rfl,by omega,by omega⟩) ?_
  refine .aK i d a0 (λe3=>?_)
  refine .nil ?_
  refine .du i d a0 ((S.getD n.a.toNat (0,0)).1+(S.getD (i-1) (0,0)).1+1) (λT N=>?_)
  rw[jX a3]at N
  refine .zn ?_
  refine .dm 15 mixed (by kernel_rfl) ?_
  conv=>arg 6;dsimp only[List.take]
  refine .mo rfl<|.mo rfl<|.mo rfl<|.fa rfl<|.lo rfl ?_
  refine .aK n.a.toNat e b9 (λc8=>?_) rfl rfl (by omega)
  refine .lo rfl<|.mo rfl<|.fa rfl<|.lo rfl ?_
  refine .aK (i-1) e b7 (λc9=>?_) rfl rfl (by omega)
  refine .lo rfl<|.q .PO ?_
  refine .q (.i64 ((max (S.getD n.a.toNat (0,0)).2 (S.getD (i-1) (0,0)).2+1:Nat):Int) .add ⟨by omega,by omega,by omega⟩) ?_
  refine .aK i e a1 (λd0=>?_)
  refine .nil ?_
  refine .du i e a1 (max (S.getD n.a.toNat (0,0)).2 (S.getD (i-1) (0,0)).2+1) (λU O=>?_)
  rw[jX a4]at O
  refine .nil<|aS<|au<|.region ?_
  refine .ia (i+1) .add ?_
  refine .mo rfl<|.nil ?_
  ·first
      |exact bd (i+1,S++[(1,1)],T,U) ⟨W,by simp[o],by simp only;rw[Y,I],m.step (by rw[o];exact J) I,by simp only;rw[K,aeD];exact N,by simp only;rw[K,aeD];exact O⟩ (by simp only;omega) kE.c.c.c.c.c.c (aN [1,1])
      |exact bd (i+1,S++[((S.getD n.a.toNat (0,0)).1+(S.getD (i-1) (0,0)).1+1,max (S.getD n.a.toNat (0,0)).2 (S.getD (i-1) (0,0)).2+1)],T,U) ⟨W,by simp[o],by simp only;rw[Y,I],m.step (by rw[o];exact J) I,by simp only;rw[K,aeD];exact N,by simp only;rw[K,aeD];exact O⟩ (by simp only;omega) kE.c.c.c.c.c.c (aN [1,1])
  have b2:i=l.length:=by have:=bA h1;omega
  subst b2
  rw[ae6]at Q
  rw[Nat.sub_self]at d e
  simp only[List.replicate_zero,afk]at d e
  have b4:=h.le
  refine .exit<|bo<|bq<|bp<|au<|.seq<|.seq ?_
  refine bz.cO [(0,_),(4,_)] kE.c.c (X:=Unit) (λ_=>True) (λ_ E=>(124,.bool (decide (l=[]\/(S.getD (l.length-1) (0,0)).1≠l.length)))::E) (λ_=>[w,A]) ?_ ?_
  refine .region<|.mo rfl<|.q (.bI h) ?_
  refine .q .bU<|.mo rfl ?_
  refine .split (t:=114) rfl (λg=>?_) (λg=>?_)
  refine .gF g<|.gF g<|.gF g<|.gF g<|.gF g<|.gF g<|.gF g<|.gF g<|.gF g<|.q (.aT g) ?_
  refine .nil ?_
  ·exact aF () aew (kE.c.c.bV rfl (by clear s m d e;rcases l with _|⟨x,l⟩<;>simp at * <;>grind)) rH
  have b3:1<=l.length:=by have:=bA g;omega
  have b0:(S.map (·.1))[l.length-1]? =some (S.getD (l.length-1) (0,0)).1:=by rw[aeB,aZ (by omega),aeG,aZ (by omega)];rfl
  refine .gT g<|.mo rfl<|.gT g<|.mo rfl<|.gT g<|.q (.bI h) ?_
  refine .gT g ?_
  refine .q (.i64 ((l.length:Int)-1) .sub ⟨rfl,by omega,by omega⟩) ?_
  refine .gT g ?_
  refine .aK (l.length-1) d b0 (λd5=>?_) rfl rfl (by omega)
  refine .gT g<|.lo rfl<|.gT g<|.mo rfl<|.gT g<|.q (.bI h) ?_
  refine .gT g<|.q .eh<|.q (.aQ g) ?_
  refine .nil ?_
  ·exact aF () aew (kE.c.c.bV rfl (by clear s m d e;rcases l with _|⟨x,l⟩<;>simp at * <;>grind)) rH
  intro y hy
  refine au ?_
  refine .cond rfl (λh5=>?_) λh5=>?_
  refine .sr<|.az rfl ?_
  refine .ret (aJ (aP rfl ?_))
  ·refine⟨?_,rfl⟩
   unfold pR
   rw[Q]
   simp only
   rw[aeA (bT h5)]
   rfl
  have a8:=bA h5
  have b3:1<=l.length:=by rcases l with _|⟨x,l⟩<;>simp at a8⊢
  have b1:(S.map (·.2))[l.length-1]? =some (S.getD (l.length-1) (0,0)).2:=by rw[aeB,aZ (by omega),aeG,aZ (by omega)];rfl
  refine .kn<|.sr<|.mo rfl<|.mo rfl<|.q (.bI h) ?_
  refine .q (.i64 ((l.length:Int)-1) .sub ⟨rfl,by omega,by omega⟩) ?_
  refine .aK (l.length-1) e b1 (λd6=>?_) rfl rfl (by omega)
  refine .lo rfl<|.az rfl ?_
  refine .ret (aP rfl ?_)
  ·refine⟨?_,rfl⟩
   unfold pR
   rw[Q]
   simp only
   rw[aex a8]
theorem Ty.kinds(t:Ty):eI [.s,.s] t.enc:=⟨aew,aew,aew⟩
theorem Ty.eq(a b:Ty):eE a.enc b.enc=decide (a=b):=by
 obtain⟨c,d⟩:=a
 obtain⟨e,f⟩:=b
 rw[afc]
 simp[Ty.enc,eE,mG]
theorem Po(t:Ty)(f:t.fits)(R:ay):Spec prog 177 [.agg t.enc.toArray] R [] λu H'=>u=.bool (iJ isWord t)/\H'=[]:=by
 obtain⟨s,r⟩:=t
 obtain⟨d,e⟩:=f
 simp only at d e
 refine Spec.body func177 rfl results177 ntmps177 rfl<|.sr ?_
 refine .cb rfl (λg=>?_)
 refine .ag rfl<|.z<|.q (.aM rfl)<|.q .cL<|.q (.cast (.mJ (xs:=Ty.enc ⟨s,r⟩) (ys:=Ty.enc ⟨⟨#[]⟩,⟨#[]⟩⟩) rfl rfl (Ty.kinds _) (Ty.kinds _)) (aez Value.bool (Ty.eq _ _)))<|.mo rfl<|.split (t:=6) rfl (λa=>?_) (λa=>?_)
 refine .gF a<|.gF a<|.gF a<|.gF a<|.dg rfl<|.dg rfl<|.dg rfl<|.gF a<|.q (.aT a)<|.az rfl<|.ret (aP rfl ?_)
 ·refine⟨aez _ ?_,rfl⟩
  simp only[iJ]
  grind
 refine .gT a<|.fa rfl<|.gT a<|.lo rfl<|.gT a<|.aX (kU s d _) (λu c=>?_)
 subst c
 refine .gT a<|.mo rfl<|.split (t:=10) rfl (λb=>?_) (λb=>?_)
 refine .gT b<|.fa rfl<|.gT b<|.lo rfl<|.gT b<|.aX (kU r e _) (λu c=>?_)
 subst c
 refine .gT a<|.q (.aT b)<|.q (.aQ a)<|.az rfl<|.ret (aP rfl ?_)
 ·refine⟨aez _ ?_,rfl⟩
  simp only[iJ]
  grind
 refine .gF b<|.gF b<|.gF b<|.gT a<|.q (.aQ b)<|.q (.aQ a)<|.az rfl<|.ret (aP rfl ?_)
 ·refine⟨aez _ ?_,rfl⟩
  simp only[iJ]
  grind
theorem Rj(t:Ty)(a:t.fits)(R:ay):Spec prog 176 [.agg t.enc.toArray] R [] λu H'=>u=.bool (!iJ isWord t)/\H'=[]:=by
 refine Spec.body func176 rfl results176 ntmps176 rfl<|.sr ?_
 refine .cb rfl (λc=>?_)
 refine .ag rfl<|.z<|.q (.aM rfl)<|.aX (Po t a _) (λu b=>?_)
 subst b
 refine .q .not<|.az rfl<|.ret (aP rfl ?_)
 ·exact⟨rfl,rfl⟩
theorem Rk(s:Sc)(h:s.fits)(R:ay):Spec prog 179 [.agg s.enc.toArray] R [] λu H'=>u=.bool (!kP isWord dh s)/\H'=[]:=by
 obtain⟨n,j,i,r⟩:=s
 obtain⟨d,e,f,g⟩:=h
 simp only at d e f g
 refine Spec.body func179 rfl results179 ntmps179 rfl<|.sr ?_
 refine .cb rfl (λk=>?_)
 refine .ag rfl<|.z<|.fa rfl<|.lo rfl<|.aX (kU n d _) (λu c=>?_)
 subst c
 refine .q .not<|.mo rfl<|.split (t:=7) rfl (λb=>?_) (λb=>?_)
 refine .gF b<|.gF b<|.gF b<|.gF b<|.q (.aT b)<|.mo rfl<|.gX<|.gX<|.gX<|.gX<|.q .db<|.az rfl<|.ret (aP rfl ?_)
 ·refine⟨aez _ ?_,rfl⟩
  simp only[kP]
  grind
 refine .gT b<|.fa rfl<|.gT b<|.q (.loadT rfl)<|.gT b<|.aX (uW j i e f _) (λu c=>?_)
 subst c
 refine .gT b<|.q .eh<|.q (.aQ b)<|.mo rfl<|.split (t:=13) rfl (λa=>?_) (λa=>?_)
 refine .gF a<|.gF a<|.gF a<|.gF a<|.q (.aT a)<|.az rfl<|.ret (aP rfl ?_)
 ·refine⟨aez _ ?_,rfl⟩
  simp only[kP]
  grind
 refine .gT a<|.fa rfl<|.gT a<|.lo rfl<|.gT a<|.aX (kU r g _) (λu c=>?_)
 subst c
 refine .gT a<|.q .not<|.q (.aQ a)<|.az rfl<|.ret (aP rfl ?_)
 ·refine⟨aez _ ?_,rfl⟩
  simp only[kP]
  grind
theorem PZ(p:cj)(R:ay)(h:p.is R)(R':ay)(g:∀b o,R b o->R' b o):Spec prog 161 [.agg p.enc.toArray] R' [] λu H'=>u=.bool (iY isWord p.r)/\H'=[]:=by
 obtain⟨l,f,r⟩:=p
 have j:RS R 2 Ty.enc l r.types:=h.t
 have e:RS R 5 Nd.enc f r.nodes:=h.d
 refine Spec.body func161 rfl results161 ntmps161 rfl<|.sr ?_
 refine .cb rfl (λm=>?_)
 refine .ag rfl<|.z<|.fa rfl<|.lo rfl<|.q (.bI j)<|.q .gtr<|.mo rfl<|.split (t:=7) rfl (λc=>?_) (λc=>?_)
 refine .gF c<|.gF c<|.gF c<|.gF c<|.q (.aT c)<|.mo rfl<|.gX<|.gX<|.gX<|.gX<|.q .db<|.az rfl<|.ret (aP rfl ?_)
 ·refine⟨aez _ ?_,rfl⟩
  simp only[iY]
  grind
 refine .gT c<|.fa rfl<|.gT c<|.lo rfl<|.gT c<|.q (.bI e)<|.gT c<|.q .gtr<|.q (.aQ c)<|.mo rfl<|.split (t:=13) rfl (λa=>?_) (λa=>?_)
 refine .gF a<|.gF a<|.gF a<|.gF a<|.q (.aT a)<|.az rfl<|.ret (aP rfl ?_)
 ·refine⟨aez _ ?_,rfl⟩
  simp only[iY]
  grind
 have n:r.nodes.length<=64:=by grind
 refine .gT a<|.fa rfl<|.gT a<|.lo rfl<|.gT a<|.aX ((yJ f r.nodes R e h.fd (by omega)).weaken λb o i=>.inl (g b o i)) (λu k=>?_)
 subst k
 refine .gT a<|.q .gtr<|.q (.aQ a)<|.az rfl<|.ret (aP rfl ?_)
 ·refine⟨aez _ ?_,rfl⟩
  simp only[iY]
  grind
theorem C4(c:bL)(R:ay)(h:c.is R):Spec prog 100 [.agg c.enc.toArray] R [] λu H'=>u=.bool (!c.plain.jG isWord)/\H'=[]:=by
 rw[rD]
 obtain⟨H,F,e,C⟩:=c
 have g:=h.ss
 have v:=h.sc
 have S:=g.aE
 have T:=v.aE
 simp only at g v S T⊢
 have W:=g.le
 refine Spec.body func100 rfl results100 ntmps100 rfl<|.sr ?_
 refine .cb rfl (λx=>?_)
 refine .ag rfl<|.zs<|.seq ?_
 refine bz.cO [(1,_)] kE.c (X:=Unit) (λ_=>True) (λ_ E=>(14,.bool (decide (16<e.length)||decide (16<C.length)))::E) (λ_=>[bl x [H,F] 25]) ?_ ?_
 refine .region<|.fa rfl<|.lo rfl<|.q (.bI g)<|.q .gtr<|.mo rfl<|.split (t:=9) rfl (λa=>?_) (λa=>?_)
 refine .gF a<|.gF a<|.gF a<|.gF a<|.q (.aT a)<|.nil ?_
 ·exact aF () aew (kE.c.bV rfl (by grind)) rH
 refine .gT a<|.fa rfl<|.gT a<|.lo rfl<|.gT a<|.q (.bI v)<|.gT a<|.q .gtr<|.q (.aQ a)<|.nil ?_
 ·exact aF () aew (kE.c.bV rfl (by grind)) rH
 intro y Q
 refine au<|.cond rfl (λn=>?_) λn=>?_
 refine .sr<|.az rfl<|.ret (aJ (aP rfl ?_))
 ·exact⟨by rw[n];rfl,rfl⟩
 refine .kn<|.seq<|.sr<|.fa rfl<|.lo rfl<|.q (.bI g)<|.mo rfl<|.zn<|.block<|.cy [(16,_),(17,_)] (X:=Nat) (λi=>i<=e.length/\(e.take i).any iK=false) (λi E=>(18,iN i)::E) (λ_ G=>G) (λi=>e.length-i) 0 ⟨aey _,rfl⟩ kE.c.c.c rH ?_
 rintro i ⟨V,A⟩
 refine .sr<|.q .lss<|.zs<|.cond rfl (λp=>?_) λp=>?_
 have z:i<e.length:=cg p
 obtain⟨⟨D,m,k⟩,j⟩:=bQ z
 have w:=h.all _ (ba j)
 have B:RS R 3 cj.enc m k:=w.rs
 have Y:cB (cm.enc ⟨D,m,k⟩):=⟨w.cV⟩
 refine .kn<|.seq<|.block<|.sr ?_
 refine .bC i g j (λZ=>?_)
 refine .q (.aM rfl) ?_
 refine .bX (λU=>?_)
 refine .bN rfl rfl<|.zs ?_
 refine bz.cO [(16,_),(17,_),(18,_)] kE.c.c.c (X:=Unit) (λ_=>True) (λ_ E=>(30,.bool (iK ⟨D,m,k⟩))::E) (λ_=>[bl x [H,F] 25]) ?_ ?_
 refine .region<|.fa rfl<|.lo rfl<|.q (.bI B)<|.q .gtr<|.mo rfl<|.split (t:=26) rfl (λd=>?_) (λd=>?_)
 refine .gF d<|.gF d<|.gF d<|.q (.aT d)<|.nil ?_
 ·exact aF () aew (kE.c.c.c.bV rfl (by unfold iK;simp only;grind)) (aN [1])
 refine .gT d<|.fa rfl<|.gT d<|.lo rfl<|.gT d<|.aX (LRE.kd 161 [] (λr=>iY isWord r.r) m k _ B.rx (λr N I K=>PZ r R (w.all r N) I λb o L=>K b o (.inl L))) (λu O=>?_)
 subst O
 refine .q (.aQ d)<|.nil ?_
 ·exact aF () aew (kE.c.c.c.bV rfl (by unfold iK;simp only;grind)) (aN [1])
 intro y Q
 refine au<|.cond rfl (λs=>?_) λs=>?_
 refine .sr<|.az rfl<|.ret (bw (aJ (cG (bw (aJ (aP rfl ?_))))))
 ·refine⟨?_,rfl⟩
  rw[ot j (f:=iK) s,afg]
  rfl
 refine .skip<|aS<|au<|.region<|.ia (i+1) .add<|.mo rfl<|.nil ?_
 ·exact bd (i+1) ⟨z,qP j A s⟩ (by omega) kE.c.c.c rH
 refine .exit<|bo<|bq<|bp<|au<|.sr<|.az rfl<|.ret (aP rfl ?_)
 ·refine⟨?_,rfl⟩
  have J:(decide (16<e.length)||decide (16<C.length))=false:=n
  have M:e.any iK=false:=by rw[<-dB (l:=e) (i:=i) (by have:=bA p;omega)];exact A
  rw[J,M]
  rfl
theorem Rm(c:bL)(R:ay)(h:c.is R):Spec prog 120 [.agg c.enc.toArray] R [] λu H'=>u=.bool (c.plain.right isWord dh)/\H'=[]:=by
 have hw:=C4 c R h
 have o:c.plain.jG isWord=false->c.ik/\∀s∈c.bj,∀r∈s.bR,r.r.nodes.length<=64:=λx=>by
  rw[rD]at x
  simp only[afu,afv,List.any_eq_false,aeQ]at x
  refine⟨⟨by omega,λs a=>?_⟩,λs a r o=>?_⟩
  ·have:=x.2 s a
   unfold iK at this
   simp only[afb,ae3,not_or,aeQ]at this
   exact this.1
  ·have:=x.2 s a
   unfold iK at this
   simp only[afb,ae3,not_or,aeQ,List.any_eq_true,not_exists,not_and]at this
   have p:=this.2 r o
   unfold iY at p
   simp only[afb,ae3,not_or,aeQ]at p
   exact p.1.2
 rw[BO]
 generalize a9:c.plain.jG isWord=mu at *
 obtain⟨vs,W,A,a5⟩:=c
 have C:=h.ss
 have N:=h.sc
 have i1:=C.aE
 have i2:=N.aE
 simp only at C N i1 i2⊢
 have a7:=C.le
 refine Spec.body func120 rfl results120 ntmps120 rfl<|.sr ?_
 refine .cb rfl (λY=>?_)
 refine .ag rfl<|.zs<|.sr<|.q (.aM rfl)<|.aX (hw.weaken cM) (λu g=>?_)
 subst g
 refine .q .not<|.zn<|.cond rfl (λJ=>?_) λJ=>?_
 have a2:mu=true:=by simpa using J
 refine .sr<|.az rfl<|.ret (aJ (aP rfl ?_))
 ·refine⟨?_,rfl⟩
  rw[a2]
  simp
 have S:mu=false:=by simpa using J
 obtain⟨a6,T⟩:=o S
 simp only at T
 refine .kn<|.seq<|.sr<|.fa rfl<|.lo rfl<|.q (.bI C)<|.mo rfl<|.zn<|.block<|.cy [(1,_),(11,_),(12,_)] (X:=Nat) (λi=>i<=A.length/\(A.take i).all iz=true) (λi E=>(13,iN i)::E) (λ_ G=>G) (λi=>A.length-i) 0 ⟨aey _,rfl⟩ kE.c.c.c.c rH ?_
 rintro i ⟨hi,U⟩
 refine .sr<|.q .lss<|.zs<|.cond rfl (λp=>?_) λp=>?_
 have Q:i<A.length:=cg p
 obtain⟨⟨D,H,j⟩,a⟩:=bQ Q
 have F:=h.all _ (ba a)
 have M:RS R 3 cj.enc H j:=F.rs
 have a8:=M.le
 have b3:cB (cm.enc ⟨D,H,j⟩):=⟨F.cV⟩
 refine .kn<|.seq<|.block<|.sr ?_
 refine .bC i C a (λb5=>?_)
 refine .q (.aM rfl) ?_
 refine .bX (λZ=>?_)
 refine .bN rfl rfl<|.zs<|.sr<|.fa rfl<|.lo rfl<|.aX (kU D F.n _) (λu g=>?_)
 subst g
 refine .q .not<|.zn<|.cond rfl (λK=>?_) λK=>?_
 refine .sr<|.az rfl<|.ret (aJ (bw (aJ (cG (bw (aJ (aP rfl ?_)))))))
 ·refine⟨?_,rfl⟩
  rw[lK a (f:=iz) (by unfold iz;simp only;rw[show isWord D=false by simpa using K];rfl)]
  rfl
 refine .kn<|.sr<|.fa rfl<|.lo rfl<|.q (.bI M)<|.mo rfl<|.zn<|.block<|.cy [(1,_),(11,_),(12,_),(13,_),(22,_),(23,_)] (X:=Nat) (λk=>k<=j.length/\(j.take k).all jI=true) (λk E=>(24,iN k)::E) (λ_ G=>G) (λk=>j.length-k) 0 ⟨aey _,rfl⟩ kE.c.c.c.c.c.c.c rH ?_
 rintro k ⟨hk,V⟩
 refine .sr<|.q .lss<|.zs<|.cond rfl (λL=>?_) λL=>?_
 have O:k<j.length:=cg L
 obtain⟨⟨w,v,r⟩,o⟩:=bQ O
 have z:=F.all _ (ba o)
 have a4:RS R 2 Ty.enc w r.types:=z.t
 have a3:RS R 5 Nd.enc v r.nodes:=z.d
 have b0:cB (cj.enc ⟨w,v,r⟩):=⟨z.cV⟩
 have b2:r.nodes.length<=64:=T _ (ba a) _ (ba o)
 refine .kn<|.seq<|.block<|.sr ?_
 refine .bC k M o (λb7=>?_)
 refine .q (.aM rfl) ?_
 refine .bX (λb6=>?_)
 refine .bN rfl rfl<|.zs ?_
 refine bz.cO [(1,_),(11,_),(12,_),(13,_),(22,_),(23,_),(24,_)] kE.c.c.c.c.c.c.c (X:=Unit) (λ_=>True) (λ_ E=>(42,.bool (!jI ⟨w,v,r⟩))::E) (λ_=>[bl Z (cm.enc ⟨D,H,j⟩) 164,bl Y [vs,W] 25]) ?_ ?_
 refine .region<|.fa rfl<|.lo rfl<|.aX (kU r.name z.n _) (λu g=>?_)
 subst g
 refine .q .not<|.mo rfl<|.split (t:=32) rfl (λb=>?_) (λb=>?_)
 refine .gF b<|.gF b<|.gF b<|.gF b<|.q (.aT b)<|.mo rfl<|.gX<|.gX<|.gX<|.q .db<|.nil ?_
 ·exact aF () aew (kE.c.c.c.c.c.c.c.bV rfl (by
   have e:(r.types.any λt=> !iJ isWord t)= !mZ ⟨w,v,r⟩:=by unfold mZ;simp[afo]
   unfold jI
   simp only[e]at *
   grind)) (aN [1,1])
 refine .gT b<|.fa rfl<|.gT b<|.lo rfl<|.gT b<|.aX ((yJ v r.nodes R a3 z.fd (by omega)).weaken cM) (λu g=>?_)
 subst g
 refine .gT b<|.q .bU<|.q (.aQ b)<|.mo rfl<|.split (t:=38) rfl (λm=>?_) (λm=>?_)
 refine .gF m<|.gF m<|.gF m<|.q (.aT m)<|.nil ?_
 ·exact aF () aew (kE.c.c.c.c.c.c.c.bV rfl (by
   have e:(r.types.any λt=> !iJ isWord t)= !mZ ⟨w,v,r⟩:=by unfold mZ;simp[afo]
   unfold jI
   simp only[e]at *
   grind)) (aN [1,1])
 refine .gT m<|.fa rfl<|.gT m<|.lo rfl<|.gT m<|.aX (LTY.kd 176 [] (λt=> !iJ isWord t) w r.types _ a4.rx (λt ht I a0=>Rj t (z.ft t ht) I)) (λu g=>?_)
 subst g
 refine .q (.aQ m)<|.nil ?_
 ·exact aF () aew (kE.c.c.c.c.c.c.c.bV rfl (by
   have e:(r.types.any λt=> !iJ isWord t)= !mZ ⟨w,v,r⟩:=by unfold mZ;simp[afo]
   unfold jI
   simp only[e]at *
   grind)) (aN [1,1])
 intro y hy
 refine au<|.cond rfl (λB=>?_) λB=>?_
 refine .sr<|.az rfl<|.ret (bw (aJ (cG (bw (bw (aJ (cG (bw (aJ (aP rfl ?_))))))))))
 ·refine⟨?_,rfl⟩
  rw[lK a (f:=iz) (by unfold iz;simp only;rw[lK o (f:=jI) (by simpa using B),aeI])]
  rfl
 refine .skip<|aS<|au<|.region<|.ia (k+1) .add<|.mo rfl<|.nil ?_
 ·exact bd (k+1) ⟨O,nC o V (by simpa using B)⟩ (by omega) kE.c.c.c.c.c.c.c rH
 have x:iz ⟨D,H,j⟩=true:=by
  have B:j.all jI=true:=by rw[<-dB (l:=j) (i:=k) (by have:=bA L;omega)];exact V
  unfold iz
  simp only[B,aeH]
  simpa using K
 refine .exit<|bo<|bq<|bp<|aS<|au<|.region<|.ia (i+1) .add<|.mo rfl<|.nil ?_
 ·exact bd (i+1) ⟨Q,nC a U x⟩ (by omega) kE.c.c.c.c (aN [1])
 have a1:A.all iz=true:=by rw[<-dB (l:=A) (i:=i) (by have:=bA p;omega)];exact U
 refine .exit<|bo<|bq<|bp<|au<|.sr<|.fa rfl<|.lo rfl<|.aX (LSC.kd 179 [] (λs=> !kP isWord dh s) W a5 _ N.rx (λs a I a0=>Rk s (h.fc s a) I)) (λu g=>?_)
 subst g
 refine .q .not<|.az rfl<|.ret (aP rfl ?_)
 ·refine⟨?_,rfl⟩
  rw[a1,S]
  simp[afo]
instance Ty.vU:fC prog 249 (λk:Ty=>.agg k.enc.toArray):=fC.agg zm underlying249 rfl Ty.kinds Ty.eq
abbrev gu:=Nat×Nat
def lN(p:gu):List Value:=[iN p.1,iN p.2]
instance(p:gu):cB (lN p):=⟨by simp[lN,aE]⟩
abbrev mw(k:Ty):Value:=.agg k.enc.toArray
abbrev lX(p:gu):Value:=.agg (lN p).toArray
theorem Cv(i:Nat)(a:ByteArray):∀{rs:List Rl} {b k:Nat} {r:Rl},rs[k]? =some r->(lS i a b rs)[k]? =some ((⟨a,r.name⟩:Ty),(i,b+k))
 |[],b,k,r,h=>by simp at h
 |x::rs,b,0,r,h=>by simp only[ae1,ae2]at h;subst h;rfl
 |x::rs,b,k+1,r,h=>by
  rw[lS,List.getElem?_cons_succ,Cv i a (rs:=rs) (b:=b+1) (k:=k) (r:=r) (by simpa using h)]
  rw[show b+1+k=b+(k+1) by omega]
theorem Cx:∀{l:List Sp} {b i k:Nat} {s:Sp} {r:Rl},l[i]? =some s->s.bR[k]? =some r->(hY b l)[cK l i+k]? =some ((⟨s.name,r.name⟩:Ty),(b+i,k))
 |[],b,i,k,s,r,h,_=>by simp at h
 |x::l,b,0,k,s,r,h,hr=>by
  simp only[ae1,ae2]at h
  subst h
  have a:=(aeW.1 hr).1
  rw[hY,List.getElem?_append_left (by rw[pe];simpa[cK]using a)]
  simpa[cK]using Cv b x.name (b:=0) hr
 |x::l,b,i+1,k,s,r,h,hr=>by
  rw[hY,cK,List.getElem?_append_right (by rw[pe];omega),pe,show x.bR.length+cK l i+k-x.bR.length=cK l i+k by omega,Cx (l:=l) (b:=b+1) (by simpa using h) hr,show b+1+i=b+(i+1) by omega]
theorem xp:∀(l:List Sp) (b:Nat),(hY b l).length=total l
 |[],b=>rfl
 |s::l,b=>by
  have:=xp l (b+1)
  unfold total at this⊢
  rw[hY,aeK,pe,this,ae4,cK]
theorem AR(t:Ty):∀M:List (Ty×gu),dl t M=look t M
 |[]=>rfl
 |(k,x)::M=>by
  have a:=AR t M
  unfold look at a⊢
  rw[dl,List.find?_cons]
  by_cases e:t=k
  ·subst e;simp
  ·rw[aex e,a]
   have:decide (k=t)=false:=aeM λh=>e h.symm
   simp only[this]
def mB(M:List (ByteArray×Bool))(l:List ByteArray):Prop:=∀k,dl k M=if k∈l then some true else none
theorem mB.nil:mB [] []:=λk=>by simp[dl]
theorem mB.add{M:List (ByteArray×Bool)}{l:List ByteArray}(h:mB M l)(t:ByteArray):mB (dO t true M) (l++[t]):=λk=>by
 rw[qa,h k]
 by_cases e:k=t
 ·simp[e]
 ·simp[e]
def qJ(xb:Nat)(c:bL)(T:aw):Prop:=∃vm Tm,T=(xb,.cells [c.vs,c.vc,vm].toArray 318 (0,0))::Tm/\MS mw lX vm (hY 0 c.plain.bj) Tm
theorem Qc(c:bL)(R:ay)(h:c.is R):Spec prog 121 [.agg c.enc.toArray] R [] λu H'=>∃T,H'=[T]/\((c.plain.dW/\∃xb,u=.tuple [pT xb,.bool true].toArray/\qJ xb c T)\/(¬c.plain.dW/\u=.tuple [.pointer none,.bool false].toArray)):=by
 have c1:∀(i:Nat) s,c.bj[i]? =some s->c.plain.bj[i]? =some s.plain:=λi s n=>by unfold bL.plain;simp only;rw[aeB,n];rfl
 have c2:c.plain.bj.length=c.bj.length:=by unfold bL.plain;simp
 have K:c.plain.dW↔(c.bj.map (·.name)).Nodup/\((hY 0 c.plain.bj).map (·.1)).Nodup/\(c.scopes.map (·.name)).Nodup:=by
  unfold Cf.dW
  rw[xo]
  simp only[bL.plain,aeT]
  exact Iff.rfl
 have b0:∀xb T,qJ xb c T↔∃vm Tm,T=(xb,.cells [c.vs,c.vc,vm].toArray 318 (0,0))::Tm/\MS mw lX vm (hY 0 c.plain.bj) Tm:=λ_ _=>Iff.rfl
 have d6:=xp c.plain.bj 0
 generalize e5:c.plain=pl at *
 generalize hS:hY 0 pl.bj=S at *
 have d5:∀i k s (r:Rl),pl.bj[i]? =some s->s.bR[k]? =some r->S[cK pl.bj i+k]? =some ((⟨s.name,r.name⟩:Ty),(i,k)):=λi k s r A B=>by
  have:=Cx (b:=0) A B
  rw[hS,Nat.zero_add]at this
  exact this
 obtain⟨W,V,f,o⟩:=c
 have J:=h.ss
 have I:=h.sc
 have i1:=J.aE
 have i2:=I.aE
 simp only at J I i1 i2 c1 c2 K b0⊢
 have e2:=J.le
 have e1:=I.le
 refine Spec.body func121 rfl results121 ntmps121 rfl ?_
 refine .sr ?_
 refine .cb rfl (λb1=>?_)
 refine .ag rfl<|.ag rfl<|.z<|.q (.aM rfl) ?_
 refine .makeMap (λx=>?_)
 refine .q .cL ?_
 refine .cb rfl (λY=>?_)
 refine .ag rfl<|.z ?_
 refine .makeMap (λa8=>?_)
 refine .ag rfl<|.zs<|.sr<|.fa rfl<|.lo rfl<|.q (.bI J) ?_
 refine .mo rfl<|.zn<|.block ?_
 refine .cy [(1,_),(4,_),(5,_),(22,_),(23,_)] (G:=[bl Y [W,V,.map (some x)] 318,bl b1 [W,V] 25]) (X:=Nat×List (ByteArray×Bool)×aw×aw) (λy=>y.1<=f.length/\((f.map (·.name)).take y.1).Nodup/\mB y.2.1 ((f.map (·.name)).take y.1)/\MS mw lX (.map (some x)) (S.take (cK pl.bj y.1)) y.2.2.1/\MS (λs:ByteArray=>.string s) (λb:Bool=>.bool b) (.map (some a8)) y.2.1 y.2.2.2) (λy E=>(24,iN y.1)::E) (λy G=>y.2.2.1::y.2.2.2::G) (λy=>f.length-y.1) (0,[],[(x,.map #[] 0)],[(a8,.map #[] 0)]) ⟨aey _,by simp,by simpa using mB.nil,by rw[show cK pl.bj 0=0 by cases pl.bj<;>rfl];exact MS.nil,MS.nil⟩ kE.c.c.c.c.c.c (aN [2,0,0,0]) ?_
 rintro⟨i,M,O,Tb⟩ ⟨hi,Q,a5,g,a0⟩
 simp only at hi Q a5 g a0⊢
 refine .sr<|.q .lss<|.zs ?_
 refine .cond rfl (λA=>?_) λA=>?_
 have b6:i<f.length:=cg A
 obtain⟨⟨d,N,m⟩,n⟩:=bQ b6
 have a4:=h.all _ (ba n)
 have a3:RS R 3 cj.enc N m:=a4.rs
 have e3:=a3.le
 have e6:cB (cm.enc ⟨d,N,m⟩):=⟨a4.cV⟩
 have w:(f.map (·.name))[i]? =some d:=by rw[aeB,n];rfl
 have c0:=c1 i _ n
 have b8:=oR c0
 rw[show(cm.plain ⟨d,N,m⟩).bR.length=m.length by simp[cm.plain]]at b8
 refine .kn<|.seq<|.block<|.sr<|.mo rfl ?_
 refine .bC i J n (λe7=>?_)
 refine .q (.aM rfl) ?_
 refine .bX (λb7=>?_)
 refine .ag rfl<|.bN rfl rfl<|.zs<|.sr<|.mo rfl<|.fa rfl<|.lo rfl ?_
 refine .q (.oG a0.rx rfl (key:=d) rfl (show _=Value.bool (decide (d∈(f.map (·.name)).take i))from by rw[a5 d];split<;>simp_all)) ?_
 refine .zn ?_
 refine .cond rfl (λB=>?_) λB=>?_
 refine .sr<|.ag rfl<|.az rfl ?_
 refine .ret (aJ (bw (aJ (cG (bw (aJ (aY _ (.two (.tmp rfl) (.tmp rfl)) (.one [0] _) ?_)))))))
 ·refine⟨_,rfl,.inr ⟨λD=>?_,rfl⟩⟩
  have v:d∈(f.map (·.name)).take i:=by simpa using B
  obtain⟨q,H,e⟩:=aeY.1 v
  rw[aeE]at H
  rw[afh]at e
  exact mS (show q<i by omega) w (aZ (by omega)) e.symm (K.1 D).1
 have a2:d∉(f.map (·.name)).take i:=by simpa using B
 have d0:((f.map (·.name)).take (i+1)).Nodup:=by rw[dS w,aft];exact⟨Q,by simp,λa ha b C=>by rw[aeV]at C;subst C;intro e;subst e;exact a2 ha⟩
 have d7:mB (dO d true M) ((f.map (·.name)).take (i+1)):=by rw[dS w];exact a5.add d
 refine .kn<|.sr<|.mo rfl<|.fa rfl<|.lo rfl ?_
 refine .update (key:=d) (u:=true) a0 rfl rfl rfl (λa7 c5 _=>?_)
 refine .z<|.fa rfl<|.lo rfl<|.q (.bI a3) ?_
 refine .mo rfl<|.zn<|.block ?_
 refine .cy [(1,_),(4,_),(5,_),(6,_),(7,_),(22,_),(23,_),(24,_),(37,_),(38,_)] (G:=[a7,bl b7 (cm.enc ⟨d,N,m⟩) 164,bl Y [W,V,.map (some x)] 318,bl b1 [W,V] 25]) (X:=Nat×aw) (λy=>y.1<=m.length/\MS mw lX (.map (some x)) (S.take (cK pl.bj i+y.1)) y.2) (λy E=>(39,iN y.1)::E) (λy G=>y.2::G) (λy=>m.length-y.1) (0,O) ⟨aey _,g⟩ kE.c.c.c.c.c.c.c.c.c.c.c (aN [1,1,0,0,0]) ?_
 rintro⟨k,O⟩ ⟨hk,g⟩
 simp only at hk g⊢
 refine .sr<|.q .lss<|.zs ?_
 refine .cond rfl (λZ=>?_) λZ=>?_
 have b5:k<m.length:=cg Z
 obtain⟨⟨vt,vn,r⟩,hr⟩:=bQ b5
 have d4:=a4.all _ (ba hr)
 have e4:cB (cj.enc ⟨vt,vn,r⟩):=⟨d4.cV⟩
 have d3:(cm.plain ⟨d,N,m⟩).bR[k]? =some r:=by unfold cm.plain;simp only;rw[aeB,hr];rfl
 have b3:S[cK pl.bj i+k]? =some ((⟨d,r.name⟩:Ty),(i,k)):=d5 i k _ r c0 d3
 obtain⟨ps,L,d1,F⟩:∃(ps:gu) (L:Bool),[((dl (⟨d,r.name⟩:Ty) (S.take (cK pl.bj i+k))).map lX).getD (lX (0,0)),Value.bool (dl (⟨d,r.name⟩:Ty) (S.take (cK pl.bj i+k))).isSome]=[lX ps,.bool L]/\(dl (⟨d,r.name⟩:Ty) (S.take (cK pl.bj i+k))).isSome=L:=by
  cases dl (⟨d,r.name⟩:Ty) (S.take (cK pl.bj i+k))with
  |none=>exact⟨(0,0),false,rfl,rfl⟩
  |some p=>exact⟨p,true,rfl,rfl⟩
 refine .kn<|.seq<|.block<|.sr<|.mo rfl ?_
 refine .bC k a3 hr (λe8=>?_)
 refine .q (.aM rfl) ?_
 refine .bX (λb9=>?_)
 refine .ag rfl<|.bN rfl rfl<|.z<|.fa rfl<|.lo rfl<|.fa rfl<|.lo rfl ?_
 refine .q .cL ?_
 refine .bX (λd8=>?_)
 refine .bN rfl rfl<|.zs<|.seq<|.cY [10] mixed ?_
 refine .tO 0 rfl .move<|.tO 1 rfl (.nilCheck rfl)<|.tO 2 rfl (.fieldAddr rfl)<|.tO 3 rfl (.ca rfl)<|.tO 4 rfl (.aM rfl) ?_
 refine .gn 5 rfl (.cast (.pY g.rx rfl rfl) (aez (λl:List Value=>Value.tuple l.toArray) d1)) (by kernel_rfl) ?_
 refine .tO 6 rfl .move<|.tO 7 rfl .extract<|.tK 8 rfl .extract ?_
 refine .sT 9 rfl ?_
 refine .bX (λd9=>?_)
 refine .nil (Next.sub ?_)
 refine .sT 10 rfl ?_
 refine .bN rfl rfl ?_
 refine .nil (Next.mod rfl ?_)
 refine .tK 11 rfl .assign ?_
 refine RA.nil (by kernel_rfl) ?_
 refine au<|.sr<|.mo rfl<|.zn ?_
 refine .cond rfl (λh4=>?_) λh4=>?_
 refine .sr<|.ag rfl<|.az rfl ?_
 refine .ret (aJ (bw (aJ (cG (bw (bw (aJ (cG (bw (aJ (aY _ (.two (.tmp rfl) (.tmp rfl)) (.one [0] _) ?_)))))))))))
 ·refine⟨_,rfl,.inr ⟨λD=>?_,rfl⟩⟩
  have t:L=true:=h4
  rw[t]at F
  obtain⟨p,hp⟩:=afm.1 F
  have v:=wo hp
  obtain⟨q,H,e⟩:=aeY.1 v
  rw[aeE]at H
  rw[afh]at e
  have c7:(S.map (·.1))[cK pl.bj i+k]? =some ⟨d,r.name⟩:=by rw[aeB,b3];rfl
  have d2:(S.map (·.1))[q]? =some ⟨d,r.name⟩:=by rw[aeB,aZ (by omega),e];rfl
  exact mS (show q<cK pl.bj i+k by omega) c7 d2 rfl (K.1 D).2.1
 refine .kn ?_
 refine .dm 8 mixed (by kernel_rfl) ?_
 conv=>arg 6;dsimp only[List.take]
 refine .mo rfl<|.nc rfl<|.fa rfl<|.lo rfl<|.q (.aM rfl)<|.mo rfl<|.mo rfl ?_
 refine .q .cL ?_
 refine .nil ?_
 refine .update (key:=(⟨d,r.name⟩:Ty)) (u:=((i,k):gu)) g rfl rfl rfl (λc3 b2 _=>?_)
 rw[mP (by
  have t:L=false:=h4
  rw[t]at F
  intro v
  rw[Option.isSome_eq_false_iff,Option.isNone_iff_eq_none]at F
  exact wi.1 F v), <-dS b3]at b2
 refine .nil<|aS<|au<|.region ?_
 refine .ia (k+1) .add ?_
 refine .mo rfl<|.nil ?_
 ·exact bd (k+1,c3) ⟨b5,b2⟩ (by simp only;omega) kE.c.c.c.c.c.c.c.c.c.c.c (aN [3,3,3,3,3])
 have c9:k=m.length:=by have:=bA Z;omega
 rw[c9, <-b8]at g
 refine .exit<|bo<|bq<|bp<|aS<|au<|.region ?_
 refine .ia (i+1) .add ?_
 refine .mo rfl<|.nil ?_
 ·exact bd (i+1,dO d true M,O,a7) ⟨b6,d0,d7,g,c5⟩ (by simp only;omega) kE.c.c.c.c.c.c (aN [0,0,1,1])
 have c8:i=f.length:=by have:=bA A;omega
 subst c8
 rw[show cK pl.bj f.length=S.length by rw[<-c2,d6];rfl,ae6]at g
 rw[show f.length=(f.map (·.name)).length by rw[aeC],ae6]at Q
 refine .exit<|bo<|bq<|bp<|au<|.sr ?_
 refine .makeMap (λa9=>?_)
 refine .ag rfl<|.zs<|.sr<|.fa rfl<|.lo rfl<|.q (.bI I) ?_
 refine .mo rfl<|.zn<|.block ?_
 refine .cy [(4,_),(13,_),(71,_),(72,_)] (X:=Nat×List (ByteArray×Bool)×aw) (λy=>y.1<=o.length/\((o.map (·.name)).take y.1).Nodup/\mB y.2.1 ((o.map (·.name)).take y.1)/\MS (λs:ByteArray=>.string s) (λb:Bool=>.bool b) (.map (some a9)) y.2.1 y.2.2) (λy E=>(73,iN y.1)::E) (λy G=>y.2.2::G) (λy=>o.length-y.1) (0,[],[(a9,.map #[] 0)]) ⟨aey _,by simp,by simpa using mB.nil,MS.nil⟩ kE.c.c.c.c.c rH ?_
 rintro⟨j,M3,Tc⟩ ⟨hj,U,a6,a1⟩
 simp only at hj U a6 a1⊢
 refine .sr<|.q .lss<|.zs ?_
 refine .cond rfl (λt=>?_) λt=>?_
 have b4:j<o.length:=cg t
 obtain⟨s,n⟩:=bQ b4
 have w:(o.map (·.name))[j]? =some s.name:=by rw[aeB,n];rfl
 refine .kn<|.seq<|.block<|.sr ?_
 refine .bC j I n (λe9=>?_)
 refine .q (.aM rfl) ?_
 refine .bX (λe0=>?_)
 refine .bN rfl rfl<|.zs<|.sr<|.mo rfl<|.fa rfl<|.lo rfl ?_
 refine .q (.oG a1.rx rfl (key:=s.name) rfl (show _=Value.bool (decide (s.name∈(o.map (·.name)).take j))from by rw[a6 s.name];split<;>simp_all)) ?_
 refine .zn ?_
 refine .cond rfl (λh6=>?_) λh6=>?_
 refine .sr<|.ag rfl<|.az rfl ?_
 refine .ret (aJ (bw (aJ (cG (bw (aJ (aY _ (.two (.tmp rfl) (.tmp rfl)) (.one [0] _) ?_)))))))
 ·refine⟨_,rfl,.inr ⟨λD=>?_,rfl⟩⟩
  have v:s.name∈(o.map (·.name)).take j:=by simpa using h6
  obtain⟨q,H,e⟩:=aeY.1 v
  rw[aeE]at H
  rw[afh]at e
  exact mS (show q<j by omega) w (aZ (by omega)) e.symm (K.1 D).2.2
 have a2:s.name∉(o.map (·.name)).take j:=by simpa using h6
 refine .kn<|.region<|.mo rfl<|.fa rfl<|.lo rfl ?_
 refine .update (key:=s.name) (u:=true) a1 rfl rfl rfl (λc4 c6 _=>?_)
 refine .nil<|aS<|au<|.region ?_
 refine .ia (j+1) .add ?_
 refine .mo rfl<|.nil ?_
 ·exact bd (j+1,dO s.name true M3,c4) ⟨b4,by rw[dS w,aft];exact⟨U,by simp,λa ha b C=>by rw[aeV]at C;subst C;intro e;subst e;exact a2 ha⟩,by simp only;rw[dS w];exact a6.add s.name,c6⟩ (by simp only;omega) kE.c.c.c.c.c (aN [1,1,1,1,1])
 refine .exit<|bo<|bq<|bp<|au<|.sr<|.mo rfl<|.ag rfl<|.az rfl ?_
 refine .ret (aY _ (.two (.tmp rfl) (.tmp rfl)) (.one [3,1] _) ?_)
 ·refine⟨_,rfl,.inl ⟨K.2 ⟨Q,g.nd,?_⟩,Y,rfl,(b0 _ _).2 ⟨_,O,by simp[take,bJ],g⟩⟩⟩
  rw[dB (by rw[aeC];have:=bA t;omega)]at U
  exact U
theorem bk.kk{H:aV}:bk H [[]]:=⟨H.flatten,by simp⟩
structure IX(R:ay)(xb:Nat)(vm:Value)(c:bL):Prop where
 pc:PC R (pT xb) [c.vs,c.vc,vm]
 om:One vm
 ci:c.is R
 rm:RM R mw lX vm (hY 0 c.plain.bj)
theorem RM.qb{κ β:Type} [DecidableEq κ]{R R':ay}{encK:κ->Value}{a:β->Value}{m:Value}{M:List (κ×β)}(h:RM R encK a m M)(i:∀b o,R b o->R' b o):RM R' encK a m M:=by
 obtain⟨b,d,c,e,f,g⟩:=h
 exact⟨b,d,c,e,i _ _ f,g⟩
theorem IX.mono{R R':ay}{xb:Nat}{vm:Value}{c:bL}(h:IX R xb vm c)(a:∀b o,R b o->R' b o):IX R' xb vm c:=⟨h.pc.mono a,h.om,h.ci.mono a,h.rm.qb a⟩
theorem qJ.view{R:ay}{xb:Nat}{c:bL}{T:aw}(h:qJ xb c T)(e:c.is R):∃vm,IX (λb o=>R b o\/(b,o)∈T) xb vm c:=by
 obtain⟨vm,g,rfl,a⟩:=h
 refine⟨vm,⟨PC.of (E:=318) (fr:=(0,0)) ?_,a.one,e.mono λb o d=>.inl d,a.rm λp f=>.inr (by simp[f])⟩⟩
 exact .inr (by simp)
def bL.valid(c:bL)(p:gu):Prop:=∃s r,c.bj[p.1]? =some s/\s.bR[p.2]? =some r
def bL.ix(c:bL)(p:gu):Nat:=cK c.plain.bj p.1+p.2
theorem QO{c:bL}{i:Nat}{a:Sp}(h:c.plain.bj[i]? =some a):∃s,c.bj[i]? =some s/\a=s.plain:=by
 unfold bL.plain at h
 simp only at h
 rw[aeB]at h
 cases hs:c.bj[i]? with
 |none=>rw[hs]at h;cases h
 |some s=>rw[hs]at h;exact⟨s,rfl,by simpa using h.symm⟩
theorem oT{c:bL}{i:Nat}{s:cm}(h:c.bj[i]? =some s):c.plain.bj[i]? =some s.plain:=by unfold bL.plain;simp only;rw[aeB,h];rfl
theorem Bw{s:cm}{k:Nat}{r:cj}(h:s.bR[k]? =some r):s.plain.bR[k]? =some r.r:=by unfold cm.plain;simp only;rw[aeB,h];rfl
theorem Rf{s:cm}{k:Nat}{a:Rl}(h:s.plain.bR[k]? =some a):∃r,s.bR[k]? =some r/\a=r.r:=by
 unfold cm.plain at h
 simp only at h
 rw[aeB]at h
 cases hs:s.bR[k]? with
 |none=>rw[hs]at h;cases h
 |some s=>rw[hs]at h;exact⟨s,rfl,by simpa using h.symm⟩
def oh(c:bL)(t:Ty)(ps:gu)(ok:Bool):Prop:=match bW c.plain.all t with
 |none=>ok=false
 |some j=>ok=true/\c.ix ps=j/\c.valid ps
theorem looked(c:bL)(t:Ty):∃(ps:gu) (ok:Bool),[((dl t (hY 0 c.plain.bj)).map lX).getD (lX (0,0)),Value.bool (dl t (hY 0 c.plain.bj)).isSome]=[lX ps,.bool ok]/\oh c t ps ok:=by
 have h:=PA c.plain t
 rw[AR]
 unfold oh
 cases hl:look t (hY 0 c.plain.bj)with
 |none=>rw[hl]at h;exact⟨(0,0),false,rfl,by rw[h]⟩
 |some p=>
  obtain⟨i,k⟩:=p
  rw[hl]at h
  obtain⟨a,s,r,b,d,_⟩:=h
  obtain⟨j,e,rfl⟩:=QO b
  obtain⟨g,f,rfl⟩:=Rf d
  exact⟨(i,k),true,rfl,by rw[a];exact⟨rfl,rfl,j,g,e,f⟩⟩
theorem wT{R:ay}{xb:Nat}{vm:Value}{c:bL}(h:IX R xb vm c)(p:gu)(s:cm)(r:cj)(b:c.bj[p.1]? =some s)(a:s.bR[p.2]? =some r):
  Spec prog 229 [pT xb,.agg (lN p).toArray] R [] λu H'=>u=.agg r.enc.toArray/\H'=[]:=by
 obtain⟨i,k⟩:=p
 obtain⟨B,m,A,z⟩:=c
 obtain⟨o,n,r⟩:=r
 have l:=h.pc
 have d:=h.ci.ss
 have g:=d.aE
 have j:One m:=RS.aE h.ci.sc
 simp only at d g j b a l⊢
 have e:=h.ci.all _ (ba b)
 have f:=e.all _ (ba a)
 have w:cB (cj.enc ⟨o,n,r⟩):=⟨f.cV⟩
 refine Spec.body func229 rfl results229 ntmps229 rfl<|.sr ?_
 refine .cb rfl (λt=>?_)
 refine .bX (λv=>?_)
 refine .zs<|.dm 14 mixed (by kernel_rfl) ?_
 conv=>arg 6;dsimp only[List.take]
 refine .mo rfl<|.nc rfl<|.fa rfl<|.fa rfl<|.lo rfl<|.fa rfl<|.lo rfl ?_
 refine .bC i d b (λx=>?_)
 refine .fa rfl<|.lo rfl<|.fa rfl<|.lo rfl ?_
 refine .bC k e.rs a (λy=>?_)
 refine .q (.aM rfl)<|.nil<|.bN rfl rfl<|.zn ?_
 refine .ret (aY _ (.one (.eQ rfl rfl)) (.none _) ?_)
 ·exact⟨rfl,rfl⟩
theorem xi(v:Value)(l:List Ty)(R:ay)(h:RS R 2 Ty.enc v l)(w:l.length<=100000):Spec prog 230 [v] R [] λu H'=>∃T,H'=[T]/\OS 249 2 Ty.enc u (ei l) T:=by
 refine Spec.body func230 rfl results230 ntmps230 rfl ?_
 refine .sr<|.ag rfl<|.z<|.ag rfl<|.zs<|.sr<|.mo rfl<|.q (.bI h) ?_
 refine .mo rfl<|.zn<|.block ?_
 refine .cy [(6,_),(7,_)] (X:=Nat×Value×aw) (λy=>y.1<=l.length/\OS 249 2 Ty.enc y.2.1 (ei (l.take y.1)) y.2.2) (λy E=>(8,iN y.1)::(3,y.2.1)::E) (λy G=>y.2.2::G) (λy=>l.length-y.1) (0,sZ,[]) ⟨aey _,OS.nil⟩ kE.c.c.c.c bk.eC ?_
 rintro⟨i,p,f⟩ ⟨m,a⟩
 simp only at m a⊢
 have x:(ei (l.take i)).length<=100000:=aeL (aeR _ _) (by rw[aeE];omega)
 refine .sr<|.q .lss<|.zs ?_
 refine .cond rfl (λb=>?_) λb=>?_
 have e:i<l.length:=cg b
 obtain⟨t,j⟩:=bQ e
 have g:=Cg j
 refine .kn<|.seq<|.block<|.sr ?_
 refine .bC i h j (λA=>?_)
 refine .q (.aM rfl) ?_
 refine .bX (λs=>?_)
 refine .bN rfl rfl<|.z<|.fa rfl<|.lo rfl<|.q .fP<|.zn ?_
 refine .cond rfl (λd=>?_) λd=>?_
 refine .region<|.mo rfl<|.q (.aM rfl) ?_
 refine .dN (λr=>?_)
 refine .append a (RS.lits (xs:=[t]) rfl (by simp[Ty.enc]) (by simp[Ty.enc,aE])) (by simp only[aeF];omega) (λo k n=>?_)
 refine .ag rfl<|.nil<|aS<|au<|.region ?_
 refine .ia (i+1) .add ?_
 refine .mo rfl<|.nil ?_
 ·exact bd (i+1,o,k) ⟨e,by simp only;rw[g,aex (by simpa using d)];exact n⟩ (by simp only;omega) kE.c.c.c.c (aN [2])
 refine .skip<|aS<|au<|.region ?_
 refine .ia (i+1) .add ?_
 refine .mo rfl<|.nil ?_
 ·exact bd (i+1,p,f) ⟨e,by simp only;rw[g,aeA (by simpa using d),afk];exact a⟩ (by simp only;omega) kE.c.c.c.c (aN [1])
 refine .exit<|bo<|bq<|bp<|au<|.sr<|.mo rfl<|.az rfl ?_
 refine .ret (aY _ (.one (.tmp rfl)) (.one [0] _) ?_)
 ·refine⟨f,by simp[take],?_⟩
  rw[dB (il b)]at a
  exact a
def pU(b:Bool):List Value:=[.bool b]
theorem Dj(v:Value)(l:List Nd)(R:ay)(h:RS R 5 Nd.enc v l)(U:fY isWord l≠0)(hl:l.length<=100000):Spec prog 231 [v] R [] λu H'=>∃T,H'=[T]/\OS 4 1 pU u (nB l) T:=by
 have a9:=h.le
 obtain⟨d,a2⟩:=yK U
 obtain⟨_,_,_,S⟩:=jc _ _ a2
 have a0:(List.replicate l.length false).length=l.length:=afi
 generalize K:List.replicate l.length false=out0 at *
 refine Spec.body func231 rfl results231 ntmps231 rfl ?_
 refine .sr<|.ag rfl<|.z<|.mo rfl<|.q (.bI h) ?_
 refine .makeSlice (enc:=pU) l.length false rfl rfl (by decide) (by simp[pU,aE]) rfl rfl (by omega) (by omega) (λA O F=>?_)
 rw[K]at F
 refine .ag rfl<|.zs<|.sr<|.mo rfl<|.q (.bI h) ?_
 refine .q (.i64 ((l.length:Int)-1) .sub ⟨rfl,by omega,by omega⟩) ?_
 refine .az rfl<|.block ?_
 refine .cy [(0,_),(3,_)] (X:=Nat×aw) (λy=>y.1<=l.length/\OS 4 1 pU (.slice (some ⟨A,0,none⟩) l.length l.length) (down l y.1 (l.length-y.1) out0) y.2) (λy E=>(4,.int .i64 ((y.1:Int)-1))::E) (λy G=>y.2::G) (λy=>y.1) (l.length,O) ⟨Nat.le_refl _,by simp only;rw[Nat.sub_self];exact F⟩ kE.c.c.c rH ?_
 rintro⟨m,D⟩ ⟨W,g⟩
 simp only at W g⊢
 refine .seq<|.sr<|.mo rfl<|.q .geq<|.zn ?_
 refine .cond rfl (λj=>?_) λj=>?_
 obtain⟨e,rfl⟩:∃e,m=e+1:=⟨m-1,by have:=bT j;omega⟩
 obtain⟨n,r⟩:∃n,l[e]? =some n:=⟨_,aZ (by omega)⟩
 have V:((e+1:Nat):Int)-1=(e:Int):=by omega
 have s:=S e (aey _) (by omega)
 have H:down l e (l.length-e) out0=ib l (down l (e+1) (l.length-(e+1)) out0) e:=by
  rw[show l.length-e=1+(l.length-(e+1)) by omega,u3]
  rfl
 have a8:(down l (e+1) (l.length-(e+1)) out0).length=l.length:=by rw[sO,a0]
 generalize hX:down l (e+1) (l.length-(e+1)) out0=X at *
 have i:ib l X e=if n.op then(X.set n.a.toNat (X.getD e false)).set n.b.toNat ((X.set n.a.toNat (X.getD e false)).getD e false||n.kind==6)else X:=by unfold ib;rw[r]
 have I:decide (4<=n.kind)=n.op:=by
  cases ho:n.op with
  |true=>unfold Nd.op at ho;simp only[afb,beq_iff_eq]at ho;exact aeU (by omega)
  |false=>
   rw[lA r ho]at s
   split at s
   ·rename_i C
    unfold Nd.leaf at C
    refine aeM λh4=>?_
    rw[aex (by omega),aex (by omega),aex (by omega),aeI]at C
    cases C
   ·cases s
 rw[V]
 refine .kn<|.seq<|.block<|.sr<|.mo rfl<|.mo rfl ?_
 refine .bC e h r (λb0=>?_)
 refine .q (.aM rfl) ?_
 refine .bX (λb5=>?_)
 refine .bN rfl rfl<|.z<|.fa rfl<|.lo rfl<|.q .geq<|.zn ?_
 refine .cond rfl (λk=>?_) λk=>?_
 have J:n.op=true:=by rw[<-I];exact k
 obtain⟨rr,a1⟩:=afm.1 s
 obtain⟨b',x',y',t1,t2,t3,t4,t5,_,_,_⟩:=oa r J a1
 have a6:=ob t1
 have a7:=(jc _ _ t3).1
 obtain⟨za,M⟩:∃z,X[n.a.toNat]? =some z:=⟨_,aZ (by omega)⟩
 obtain⟨p,N⟩:∃z,X[e]? =some z:=⟨_,aZ (by omega)⟩
 have a3:X.getD e false=p:=by rw[aeG,N];rfl
 rw[aeA J,a3]at i
 obtain⟨z2,L⟩:∃z,(X.set n.a.toNat p)[e]? =some z:=⟨_,aZ (by rw[List.length_set];omega)⟩
 obtain⟨z3,w⟩:∃z,(X.set n.a.toNat p)[n.b.toNat]? =some z:=⟨_,aZ (by rw[List.length_set];omega)⟩
 have a4:(X.set n.a.toNat p).getD e false=z2:=by rw[aeG,L];rfl
 rw[a4]at i
 refine .seq ?_
 refine .dm 8 mixed (by kernel_rfl) ?_
 conv=>arg 6;dsimp only[List.take]
 refine .mo rfl<|.fa rfl<|.lo rfl<|.mo rfl<|.mo rfl ?_
 refine .aK e g N (λb1=>?_)
 refine .lo rfl ?_
 refine .aK n.a.toNat g M (λb2=>?_) rfl rfl (by omega)
 refine .nil ?_
 refine .du n.a.toNat g M p (λT1 o=>?_)
 refine .zn ?_
 refine bz.cO [(0,_),(3,_),(4,_)] kE.c.c.c (X:=aw) (λT=>OS 4 1 pU (.slice (some ⟨A,0,none⟩) l.length l.length) (ib l X e) T) (λ_ E=>E) (λT=>[T]) ?_ ?_
 refine .dm 13 mixed (by kernel_rfl) ?_
 conv=>arg 6;dsimp only[List.take]
 refine .mo rfl<|.fa rfl<|.lo rfl<|.mo rfl<|.mo rfl ?_
 refine .aK e o L (λb3=>?_)
 refine .lo rfl<|.mo rfl ?_
 refine .split (t:=38) rfl (λf=>?_) (λf=>?_)
 refine .gF f<|.gF f<|.gF f<|.q (.aT f) ?_
 refine .aK n.b.toNat o w (λa5=>?_) rfl rfl (by omega)
 refine .nil ?_
 refine .du n.b.toNat o w _ (λx B=>?_)
 refine .nil ?_
 ·exact aF x (by rw[i];simpa only[j,k,f,ae8,ae9]using B) kE.c.c.c (aN [1])
 refine .gT f<|.fa rfl<|.gT f<|.lo rfl<|.gT f<|.q .bU<|.q (.aQ f) ?_
 refine .aK n.b.toNat o w (λa5=>?_) rfl rfl (by omega)
 refine .nil ?_
 refine .du n.b.toNat o w _ (λx B=>?_)
 refine .nil ?_
 ·exact aF x (by rw[i];simpa only[j,k,f,ae8,ae9]using B) kE.c.c.c (aN [1])
 intro y hy
 have Q:OS 4 1 pU (.slice (some ⟨A,0,none⟩) l.length l.length) (ib l X e) y:=hy
 refine aS<|au<|.region<|.mo rfl ?_
 refine .q (.i64 ((e:Int)-1) .sub ⟨rfl,by omega,by omega⟩) ?_
 refine .ag rfl<|.nil ?_
 ·exact bd (e,y) ⟨by simp only;omega,by simp only;rw[H];exact Q⟩ (by simp only;omega) kE.c.c.c rH
 have Z:¬n.op=true:=by rw[<-I,k];simp
 rw[aex Z]at i
 refine .skip<|aS<|au<|.region<|.mo rfl ?_
 refine .q (.i64 ((e:Int)-1) .sub ⟨rfl,by omega,by omega⟩) ?_
 refine .ag rfl<|.nil ?_
 ·exact bd (e,D) ⟨by simp only;omega,by simp only;rw[H,i];exact g⟩ (by simp only;omega) kE.c.c.c (aN [1])
 refine .exit<|bo<|bq<|bp<|au<|.sr<|.mo rfl<|.az rfl ?_
 refine .ret (aY _ (.one (.tmp rfl)) (.one [0] _) ?_)
 ·refine⟨D,by simp[take],?_⟩
  have Y:m=0:=by have:=bA j;omega
  subst Y
  unfold nB
  rw[K]
  exact g
def NA(c:bL)(ok:Bool)(S:List gu)(o:Option (List Nat)):Prop:=match o with
 |none=>ok=false
 |some ts=>ok=true/\S.map c.ix=ts/\∀p∈S,c.valid p
def TN(l:List (ByteArray×Rl))(sp:ByteArray)(r:Rl)(n:Nd)(tys:List Ty):Prop:=targets l sp r.types n=findAll l tys/\tys.length<=8
theorem xh{a:List Ty}{n:Nat}(h:a.length<=n):(ei a).length<=n:=aeL (aeR _ _) h
theorem zK(l:List (ByteArray×Rl)):∀(a:List Ty) (t:Ty),findAll l (a++[t])=(findAll l a).bind λx=>(bW l t).map λi=>x++[i]
 |[],t=>by
  rw[afa,findAll,findAll]
  cases bW l t<;>rfl
 |x::a,t=>by
  rw[afn,findAll,findAll,zK l a t]
  cases bW l x with
  |none=>rfl
  |some i=>
   cases findAll l a with
   |none=>rfl
   |some u=>cases bW l t<;>rfl
theorem zL{l:List (ByteArray×Rl)}{t:Ty}{a:List Ty}(h:t∈a)(c:bW l t=none):findAll l a=none:=by
 cases hf:findAll l a with
 |none=>rfl
 |some o=>obtain⟨i,b,_⟩:=rf hf h;rw[c]at b;cases b
theorem oP{c:bL}{p:gu}{s:cm}{r:cj}(b:c.bj[p.1]? =some s)(a:s.bR[p.2]? =some r):c.plain.all[c.ix p]? =some (s.name,r.r):=by
 have:=yb (oT b) (Bw a)
 unfold bL.ix Cf.all
 exact this
def bL.rb(c:bL):Prop:=∀s∈c.bj,∀r∈s.bR,r.r.types.length<=8/\r.r.nodes.length<=64/\fY isWord r.r.nodes≠0
theorem P3{R:ay}{xb:Nat}{vm:Value}{c:bL}(h:IX R xb vm c)(H:c.rb)(p:gu)(s:cm)(r:cj)(I:c.bj[p.1]? =some s)(W:s.bR[p.2]? =some r)(n:Nd):
  Spec prog 232 [pT xb,.agg (lN p).toArray,.agg n.enc.toArray] R [] λu H'=>∃T,H'=[T]/\∃w S ok,u=.tuple [w,.bool ok].toArray/\OS 321 2 lN w S T/\S.length<=8/\
   NA c ok S (targets c.plain.all s.name r.r.types n):=by
 have b0:=wT h p s r I W
 have a1:=h
 have b3:=(H s (ba I) r (ba W)).1
 have a9:=looked c
 obtain⟨i,k⟩:=p
 have pc:=h.pc
 have b2:=h.ci.ss
 have c6:=h.ci.all _ (ba I)
 have b1:=c6.all _ (ba W)
 have d7:cB (cj.enc r):=⟨b1.cV⟩
 simp only at I W
 have e0:=b2.pc I
 generalize V:c.plain.all=A at *
 refine Spec.body func232 rfl results232 ntmps232 rfl ?_
 refine .sr ?_
 refine .cb rfl (λb4=>?_)
 refine .cb rfl (λb5=>?_)
 refine .ag rfl<|.ag rfl<|.zs ?_
 refine bz.cO [(0,_),(5,_)] kE.c.c (X:=Nat) (λ_=>True) (λy E=>(9,pT y)::(8,.string s.name)::E) (λy=>[bl y r.enc 167,bl b5 n.enc 199,bl b4 (lN (i,k)) 321]) ?_ ?_
 refine .cY [15] mixed ?_
 refine .tO 0 rfl .move<|.tO 1 rfl (.nilCheck rfl)<|.tO 2 rfl (.fieldAddr rfl)<|.tO 3 rfl (.fieldAddr rfl)<|.tO 4 rfl (.ca rfl)<|.tO 5 rfl (.fieldAddr rfl)<|.tO 6 rfl (.ca rfl) ?_
 refine .tO 7 rfl (.bC i b2 I rfl rfl rfl) ?_
 refine .tO 8 rfl (.fieldAddr rfl)<|.tO 9 rfl (.ca rfl)<|.tO 10 rfl .move<|.tO 11 rfl (.aM rfl) ?_
 refine RA.jL 12 13 rfl rfl (by kernel_rfl) rfl ?_ ?_
 refine .aX (b0.weaken cM) (λu D=>?_)
 subst D
 refine .nil (Next.sub ?_)
 refine .sT 13 rfl ?_
 refine .bX (λb9=>?_)
 refine .nil (Next.sub ?_)
 refine .tO 14 rfl .assign ?_
 refine .sT 15 rfl ?_
 refine .bN rfl rfl ?_
 refine .nil (Next.mod rfl ?_)
 refine RA.nil (by kernel_rfl) ?_
 ·exact aF b9 aew kE.c.c.c.c rH
 refine .bX (λb9=>?_)
 refine .nil (Next.sub ?_)
 refine .sT 12 rfl ?_
 refine .aX (b0.weaken cM) (λu D=>?_)
 subst D
 refine .nil (Next.sub ?_)
 refine .tO 14 rfl .assign ?_
 refine .sT 15 rfl ?_
 refine .bN rfl rfl ?_
 refine .nil (Next.mod rfl ?_)
 refine RA.nil (by kernel_rfl) ?_
 ·exact aF b9 aew kE.c.c.c.c rH
 intro y hy
 obtain⟨vt,vn,r⟩:=r
 have c4:RS R 2 Ty.enc vt r.types:=b1.t
 refine au<|.sr<|.ag rfl<|.zs<|.sr<|.fa rfl<|.lo rfl<|.zn<|.block<|.sr<|.q .bU<|.az rfl ?_
 refine bz.cO [(0,_)] kE.c (X:=Value×List Ty×aw) (λy=>OS 249 2 Ty.enc y.1 y.2.1 y.2.2/\TN A s.name r n y.2.1) (λy E=>(10,y.1)::E) (λy=>[y.2.2]) ?_ ?_
 refine .cond rfl (λB=>?_) λB=>?_
 refine .region<|.fa rfl<|.lo rfl ?_
 refine .cX (xi vt r.types _ c4.rx (by simp only at b3;omega)) (λu K D=>?_)
 refine .ag rfl<|.nil ?_
 ·exact aF (u,ei r.types,K) ⟨D,by unfold targets;rw[aeA (by simpa using B)],xh b3⟩ kE.c.c (aN [0])
 refine .sr<|.q .bU<|.az rfl ?_
 refine .cond rfl (λF=>?_) λF=>?_
 refine .region<|.mo rfl<|.fa rfl<|.lo rfl ?_
 refine .q .cL ?_
 refine .dN (λd5=>?_)
 refine .ag rfl<|.nil ?_
 ·exact aF (_,[(⟨s.name,n.rel⟩:Ty)],_) ⟨OS.lits (xs:=[(⟨s.name,n.rel⟩:Ty)]) rfl (by simp[Ty.enc]) (by simp[Ty.enc,aE]),by unfold targets;rw[aex (by simpa using B),aeA (by simpa using F)],by simp⟩ ((kE.d rfl).d rfl) (aN [0])
 refine .sr<|.q .bU<|.az rfl ?_
 refine .cond rfl (λL=>?_) λL=>?_
 obtain⟨v,ok,a4,a⟩:=a9 (⟨s.name,n.rel⟩:Ty)
 refine .seq<|.cY [13] mixed ?_
 refine .tO 0 rfl .move<|.tO 1 rfl (.nilCheck rfl)<|.tO 2 rfl (.fieldAddr rfl)<|.tO 3 rfl (.ca rfl)<|.tO 4 rfl .move<|.tO 5 rfl (.fieldAddr rfl)<|.tO 6 rfl (.ca rfl) ?_
 refine .tO 7 rfl .cL ?_
 refine .gn 8 rfl (.cast (.pY (a1.rm.qb λb o hb=>.inl hb) rfl rfl) (aez (λl:List Value=>Value.tuple l.toArray) a4)) (by kernel_rfl) ?_
 refine .tO 9 rfl .move<|.tO 10 rfl .extract<|.tK 11 rfl .extract ?_
 refine .sT 12 rfl ?_
 refine .bX (λd1=>?_)
 refine .nil (Next.sub ?_)
 refine .sT 13 rfl ?_
 refine .bN rfl rfl ?_
 refine .nil (Next.mod rfl ?_)
 refine .tK 14 rfl .assign ?_
 refine RA.nil (by kernel_rfl) ?_
 refine au<|.seq<|.sr<|.mo rfl<|.q .not<|.zn ?_
 refine .cond rfl (λh4=>?_) λh4=>?_
 refine .sr<|.ag rfl<|.az rfl ?_
 refine .ret (aJ (oB (bw (aJ (aY _ (.two (.tmp rfl) (.tmp rfl)) bk.kk ?_)))))
 ·refine⟨[],rfl,_,[],false,rfl,OS.nil,by simp,?_⟩
  have N:ok=false:=by simpa using h4
  have m:bW A ⟨s.name,n.rel⟩=none:=by
   unfold oh at a
   rw[V]at a
   cases hf:bW A ⟨s.name,n.rel⟩with
   |none=>rfl
   |some j=>rw[hf]at a;rw[a.1]at N;cases N
  unfold targets
  rw[aex (by simpa using B),aex (by simpa using F),aeA (by simpa using L),m]
  rfl
 have a3:ok=true:=by simpa using h4
 subst a3
 obtain⟨j,m,a2,s2,f,Z,Y⟩:∃j,bW A ⟨s.name,n.rel⟩=some j/\c.ix v=j/\c.valid v:=by
  unfold oh at a
  rw[V]at a
  cases hf:bW A ⟨s.name,n.rel⟩with
  |none=>rw[hf]at a;cases a
  |some j=>rw[hf]at a;exact⟨j,rfl,a.2.1,a.2.2⟩
 have c2:=wT a1 v s2 f Z Y
 obtain⟨b7,e1,f⟩:=f
 have c3:=(h.ci.all _ (ba Z)).all _ (ba Y)
 have c5:RS R 2 Ty.enc b7 f.types:=c3.t
 have c7:f.types.length<=8:=(H _ (ba Z) _ (ba Y)).1
 have a6:(A.map (·.2.types)).getD j []=f.types:=by
  have:=oP Z Y
  rw[V,a2]at this
  rw[aeG,aeB,this]
  rfl
 refine .kn<|.seq<|.sr<|.mo rfl<|.q (.aM rfl) ?_
 refine .aX (c2.weaken cM) (λu D=>?_)
 subst D
 refine .q (.OJ underlying167 rfl rfl ze rfl) ?_
 refine .cX (xi b7 f.types _ c5.rx (by omega)) (λu T2 b6=>?_)
 have c9:=xh c7
 refine .q (.dG b6) ?_
 refine .mo rfl<|.zn<|.block ?_
 refine .cy [(0,_),(5,_),(67,_),(68,_)] (X:=Nat×Value×aw) (λy=>y.1<=(ei f.types).length/\OS 249 2 Ty.enc y.2.1 (((ei f.types).take y.1).map λt=>(⟨t.space,n.dI⟩:Ty)) y.2.2) (λy E=>(69,iN y.1)::(10,y.2.1)::E) (λy G=>y.2.2::G) (λy=>(ei f.types).length-y.1) (0,sZ,[]) ⟨aey _,OS.nil⟩ kE.c.c.c.c.c.c bk.eC ?_
 rintro⟨q,vo,To⟩ ⟨hq,g⟩
 simp only at hq g⊢
 refine .sr<|.q .lss<|.zs ?_
 refine .cond rfl (λh5=>?_) λh5=>?_
 have O:q<(ei f.types).length:=by have:=bT h5;omega
 obtain⟨t,J⟩:=bQ O
 refine .kn<|.seq<|.block<|.sr ?_
 refine .aK q b6 J (λd8=>?_)
 refine .q (.aM rfl) ?_
 refine .bX (λd2=>?_)
 refine .bN rfl rfl<|.zn<|.region<|.mo rfl<|.fa rfl<|.lo rfl<|.fa rfl<|.lo rfl ?_
 refine .q .cL ?_
 refine .dN (λd6=>?_)
 refine .append g (RS.lits (xs:=[(⟨t.space,n.dI⟩:Ty)]) rfl (by simp[Ty.enc]) (by simp[Ty.enc,aE])) (by simp only[aeC,aeE,aeF];omega) (λv1 K a5=>?_)
 refine .ag rfl<|.nil<|aS<|au<|.region ?_
 refine .ia (q+1) .add ?_
 refine .mo rfl<|.nil ?_
 ·exact bd (q+1,v1,K) ⟨O,by simp only;rw[dS J,aeD];exact a5⟩ (by simp only;omega) kE.c.c.c.c.c.c (aN [2,2,2,2,2,2])
 rw[dB (il h5)]at g
 refine .exit<|bo<|bq<|bp<|au<|.sr<|.mo rfl<|.q (.dG g) ?_
 refine .q .bU<|.zn ?_
 refine .cond rfl (λU=>?_) λU=>?_
 have c1:ei f.types=[]:=by have M:=eq_of_beq U;rw[aeC]at M;exact afr (by omega)
 refine .sr<|.ag rfl<|.az rfl ?_
 refine .ret (oB (bw (aJ (aY _ (.two (.tmp rfl) (.tmp rfl)) bk.kk ?_))))
 ·refine⟨[],rfl,_,[],false,rfl,OS.nil,by simp,?_⟩
  unfold targets
  rw[aex (by simpa using B),aex (by simpa using F),aeA (by simpa using L),m]
  simp only
  rw[a6,c1]
  rfl
 have c0:ei f.types≠[]:=by intro e;rw[e]at U;simp at U
 refine .skip ?_
 ·exact aF (vo,(ei f.types).map λt=>(⟨t.space,n.dI⟩:Ty),To) ⟨g,by
   unfold targets
   rw[aex (by simpa using B),aex (by simpa using F),aeA (by simpa using L),m]
   simp only
   rw[a6]
   cases hz:ei f.types with
   |nil=>exact absurd hz c0
   |cons z zs=>rfl,by rw[aeC];exact c9⟩ kE.c.c (aN [0])
 refine .skip ?_
 ·exact aF (sZ,[],[]) ⟨OS.nil,by unfold targets;rw[aex (by simpa using B),aex (by simpa using F),aex (by simpa using L)];rfl,by simp⟩ kE.c.c bk.kk
 intro x hx
 obtain⟨w,Q,Tt⟩:=x
 obtain⟨a0,a8,b8⟩:=hx
 simp only at a0 a8 b8⊢
 rw[a8]
 refine aS<|au<|.sr<|.ag rfl<|.zs<|.sr<|.mo rfl<|.q (.dG a0) ?_
 refine .mo rfl<|.zn<|.block ?_
 refine .cy [(0,_),(85,_),(86,_)] (X:=Nat×Value×List gu×aw) (λy=>y.1<=Q.length/\OS 321 2 lN y.2.1 y.2.2.1 y.2.2.2/\y.2.2.1.length=y.1/\NA c true y.2.2.1 (findAll A (Q.take y.1))) (λy E=>(87,iN y.1)::(15,y.2.1)::E) (λy G=>y.2.2.2::G) (λy=>Q.length-y.1) (0,sZ,[],[]) ⟨aey _,OS.nil,rfl,⟨rfl,rfl,λp hp=>(by cases hp)⟩⟩ kE.c.c.c.c.c bk.eC ?_
 rintro⟨q,vo,S,To⟩ ⟨hq,g,a7,C⟩
 simp only at hq g a7 C⊢
 refine .sr<|.q .lss<|.zs ?_
 refine .cond rfl (λM=>?_) λM=>?_
 have O:q<Q.length:=cg M
 obtain⟨t,J⟩:=bQ O
 obtain⟨v,ok,a4,a⟩:=a9 t
 unfold oh at a
 rw[V]at a
 refine .kn<|.seq<|.block<|.sr ?_
 refine .aK q a0 J (λd9=>?_)
 refine .q (.aM rfl) ?_
 refine .bX (λd3=>?_)
 refine .bN rfl rfl<|.zs<|.cY [10] mixed ?_
 refine .tO 0 rfl .move<|.tO 1 rfl (.nilCheck rfl)<|.tO 2 rfl (.fieldAddr rfl)<|.tO 3 rfl (.ca rfl)<|.tO 4 rfl (.aM rfl) ?_
 refine .gn 5 rfl (.cast (.pY (a1.rm.qb λb o hb=>.inl hb) rfl rfl) (aez (λl:List Value=>Value.tuple l.toArray) a4)) (by kernel_rfl) ?_
 refine .tO 6 rfl .move<|.tO 7 rfl .extract<|.tK 8 rfl .extract ?_
 refine .sT 9 rfl ?_
 refine .bX (λd4=>?_)
 refine .nil (Next.sub ?_)
 refine .sT 10 rfl ?_
 refine .bN rfl rfl ?_
 refine .nil (Next.mod rfl ?_)
 refine .tK 11 rfl .assign ?_
 refine RA.nil (by kernel_rfl) ?_
 refine au<|.seq<|.sr<|.mo rfl<|.q .not<|.zn ?_
 refine .cond rfl (λH=>?_) λH=>?_
 refine .sr<|.ag rfl<|.az rfl ?_
 refine .ret (aJ (bw (aJ (cG (bw (aJ (aY _ (.two (.tmp rfl) (.tmp rfl)) bk.kk ?_)))))))
 ·refine⟨[],rfl,_,[],false,rfl,OS.nil,by simp,?_⟩
  have N:ok=false:=by simpa using H
  have m:bW A t=none:=by
   cases hf:bW A t with
   |none=>rfl
   |some j=>rw[hf]at a;rw[a.1]at N;cases N
  rw[zL (ba J) m]
  rfl
 have a3:ok=true:=by simpa using H
 subst a3
 obtain⟨j,m,a2,c8⟩:∃j,bW A t=some j/\c.ix v=j/\c.valid v:=by
  cases hf:bW A t with
  |none=>rw[hf]at a;cases a
  |some j=>rw[hf]at a;exact⟨j,rfl,a.2.1,a.2.2⟩
 refine .kn<|.region<|.mo rfl<|.q (.aM rfl) ?_
 refine .dN (λd0=>?_)
 refine .append g (RS.lits (xs:=[v]) rfl (by simp[lN]) (by simp[lN,aE])) (by simp only[aeF];omega) (λv1 K a5=>?_)
 refine .ag rfl<|.nil<|aS<|au<|.region ?_
 refine .ia (q+1) .add ?_
 refine .mo rfl<|.nil ?_
 ·exact bd (q+1,v1,S++[v],K) ⟨O,a5,by simp[a7],by
   simp only
   rw[dS J,zK,m]
   cases hf:findAll A (Q.take q)with
   |none=>rw[hf]at C;cases C
   |some o=>
    rw[hf]at C
    obtain⟨_,n1,n2⟩:=C
    refine⟨rfl,by rw[aeD,n1];simp[a2],λp hp=>?_⟩
    rcases List.mem_append.1 hp with hp|hp
    ·exact n2 p hp
    ·rw[aeV]at hp;subst hp;exact c8⟩ (by simp only;omega) kE.c.c.c.c.c (aN [3,3])
 rw[dB (il M)]at C
 refine .exit<|bo<|bq<|bp<|au<|.sr<|.mo rfl<|.ag rfl<|.az rfl ?_
 refine .ret (aY _ (.two (.tmp rfl) (.tmp rfl)) (.one [0] _) ?_)
 ·exact⟨To,by simp[take],vo,S,true,rfl,g,by omega,C⟩
end Go.Proofs.YtdljmchhecoakaaGreat

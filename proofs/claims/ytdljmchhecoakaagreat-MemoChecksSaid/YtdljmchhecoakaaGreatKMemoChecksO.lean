/- What the law 'MemoChecks' uses. No condition. -/
import Derived.Test.YtdljmchhecoakaaGreatKMemoChecksA
import Derived.Test.YtdljmchhecoakaaGreatKMemoChecksB
import Derived.Test.YtdljmchhecoakaaGreatKMemoChecksD
import Derived.Test.YtdljmchhecoakaaGreatKMemoChecksE
import Derived.Test.YtdljmchhecoakaaGreatKMemoChecksH
import Derived.Test.YtdljmchhecoakaaGreatKMemoChecksI
import Derived.Test.YtdljmchhecoakaaGreatKMemoChecksJ
import Derived.Test.YtdljmchhecoakaaGreatKMemoChecksL
import Derived.Test.YtdljmchhecoakaaGreatKMemoChecksN
namespace Go.Proofs.YtdljmchhecoakaaGreat
set_option linter.defProp false
def aeA:=@trivial
def aeB:=@Nat.zero_le
def aeC:=@if_neg
def aeD:=@congrArg
def aeE:=@List.getElem?_map
def aeF:=@List.length_map
def aeG:=@if_pos
def aeH:=@List.map_append
def aeI:=@List.length_take
def aeJ:=@List.getD_eq_getElem?_getD
def aeK:=@Bool.and_true
def aeL:=@List.length_append
def aeM:=@List.length_singleton
def aeN:=@Bool.and_false
def aeO:=@List.getElem?_eq_some_iff
def aeP:=@if_true
def aeQ:=@List.map_map
def aeR:=@Nat.le_trans
def aeS:=@decide_eq_false
def aeT:=@List.all_cons
def aeU:=@Bool.false_and
def aeV:=@List.append_nil
def aeW:=@Nat.not_lt
def aeX:=@if_false
def aeY:=@decide_eq_true
def aeZ:=@List.mem_singleton
def ae0:=@List.append_assoc
def ae1:=@Nat.lt_or_ge
def ae2:=@List.mem_iff_getElem
def ae3:=@Option.bind_some
def ae4:=@List.all_nil
def ae5:=@List.all_append
def ae6:=@List.getElem?_cons_zero
def ae7:=@Option.some.injEq
def ae8:=@decide_eq_true_eq
def ae9:=@List.length_cons
def afa:=@List.length_filter_le
def afb:=@List.take_length
def afc:=@Function.comp_def
def afd:=@List.mem_map
def afe:=@List.length_replicate
def aff:=@Bool.true_and
def afg:=@Bool.true_or
def afh:=@Bool.false_or
def afi:=@Bool.or_eq_true
def afj:=@Bool.or_true
def afk:=@List.getElem_take
def afl:=@Nat.zero_add
def afm:=@Bool.and_eq_true
def afn:=@List.mem_append
def afo:=@List.take_append_drop
def afp:=@List.not_all_eq_any_not
def afq:=@List.zipWith_cons_cons
def afr:=@List.take_succ_cons
def afs:=@List.take_add_one
def aft:=@List.mem_flatMap
def afu:=@List.nodup_append
def afv:=@Bool.or_eq_false_iff
def afw:=@decide_eq_false_iff_not
def afx:=@List.findIdx?_eq_some_iff_getElem
open Tryz
set_option linter.unusedVariables false
set_option linter.unusedSimpArgs false
set_option maxRecDepth 4000
def oG(t:aw):ByteArray:=if t.us=⟨#[]⟩then⟨#[49]⟩else⟨#[48]⟩
def gy(t:aw):List ByteArray:=[t.os,t.oi,t.rel,oG t,t.us,t.ss,t.si,t.sr]
theorem PU(a b:aw):fC (oG a) (oG b)=kw (kF a.us) (kF b.us):=by
 unfold oG kF
 split<;>split<;>decide
theorem Q2(a b:aw):kH a b=gB (List.zipWith fC (gy a) (gy b)):=by
 unfold kH gy
 simp only[afq,List.zipWith_nil_left]
 rw[PU]
theorem zS:∀{X Y:List ByteArray} {i:Nat} {x y:ByteArray},X.take i=Y.take i->X[i]? =some x->Y[i]? =some y->x≠y->gB (List.zipWith fC X Y)=fC x y
 |x0::X,y0::Y,0,x,y,_,hx,hy,hn=>by
  simp only[ae6,ae7]at hx hy
  subst hx hy
  rw[afq,nA,aeC λe=>hn (pN.1 e)]
 |x0::X,y0::Y,i+1,x,y,ht,hx,hy,hn=>by
  simp only[afr,List.cons.injEq]at ht
  simp only[List.getElem?_cons_succ]at hx hy
  rw[afq,nA,aeG (pN.2 ht.1)]
  exact zS ht.2 hx hy hn
 |[],_,i,x,y,_,hx,_,_=>by simp at hx
 |_::_,[],i,x,y,_,_,hy,_=>by simp at hy
theorem Q0{a b:aw}{i:Nat}{x y:ByteArray}(d:(gy a).take i=(gy b).take i)(e:(gy a)[i]? =some x)(f:(gy b)[i]? =some y)(c:x≠y):gz a b=hJ x y:=by
 unfold gz
 rw[Q2,zS d e f c,Bool.eq_iff_iff,ae8,ox]
theorem QX{a b:aw}(h:gy a=gy b):a=b:=by
 obtain⟨k,l,m,n,o,p,q⟩:=a
 obtain⟨r,s,t,u,v,w,x⟩:=b
 simp only[gy,List.cons.injEq]at h
 obtain⟨c,d,e,y,f,g,i,j,_⟩:=h
 simp only[aw.mk.injEq]
 exact⟨c,d,e,f,g,i,j⟩
theorem ym(t:aw)(R:aA):Spec prog 256 [.agg t.enc.toArray] R [] λu H'=>∃T,H'=[T]/\OS 9 1 jW u (gy t) T:=by
 refine Spec.gj (H':=[]) (by simp)<|Spec.body func256 rfl results256 ntmps256 rfl<|.sr ?_
 refine .cg rfl (λb=>?_)
 refine .ag rfl<|.z<|.ag rfl<|.zs<|.sr<|.fa rfl<|.fa rfl<|.lo rfl<|.q .iJ<|.zn ?_
 refine bu.cut (X:=ByteArray) (λk=>k=oG t) (λk=>[(1,pT b),(3,.string k)]) (λk=>[bl b t.enc 119]) ?_ ?_
 refine .cond rfl (λa=>?_) λa=>?_
 refine .region<|.ag rfl<|.nil ?_
 ·exact aD ⟨#[48]⟩ (by unfold oG;rw[aeC (by simpa using a)]) kE.c.c rH
 refine .skip ?_
 ·exact aD ⟨#[49]⟩ (by unfold oG;rw[aeG (by simpa using a)]) kE.c.c rH
 intro x d
 subst d
 refine au<|.sr<|.fa rfl<|.fa rfl<|.lo rfl<|.fa rfl<|.fa rfl<|.lo rfl<|.fa rfl<|.lo rfl<|.mo rfl<|.fa rfl<|.fa rfl<|.lo rfl<|.fa rfl<|.fa rfl<|.fa rfl<|.lo rfl<|.fa rfl<|.fa rfl<|.fa rfl<|.lo rfl<|.fa rfl<|.fa rfl<|.lo rfl ?_
 refine .w8 [_,_,_,_,_,_,_,_] (λe=>?_)
 refine .az rfl<|.ret (br _ (.one (.tmp rfl)) (.one [0] _) ?_)
 ·refine⟨_,by simp[take];rfl,?_⟩
  exact OS.lits (E:=9) (xs:=gy t) (enc:=jW) rfl (by simp[gy,jW]) (by simp[gy,jW,ay])
theorem O7(a b:aw)(R:aA):Spec prog 222 [.agg a.enc.toArray,.agg b.enc.toArray] R [] λv H'=>v=.bool (gz a b)/\H'=[]:=by
 refine Spec.body func222 rfl results222 ntmps222 rfl<|.sr ?_
 refine .cg rfl (λs=>?_)
 refine .cg rfl (λt=>?_)
 refine .ag rfl<|.zs<|.dz [] mixed<|.tO 0 rfl (.aL rfl)<|.tO 2 rfl (.aL rfl)<|.sT 1 rfl<|.dx (ym a _) (λu n j=>?_)
 refine .nil<|Next.sub<|.sT 3 rfl<|.dx (ym b _) (λw o m=>?_)
 refine .nil<|Next.sub<|.tO 4 rfl .assign<|.tO 5 rfl .assign<|RA.nil (by kernel_rfl)<|au<|.seq<|.sr<|.az rfl<|.block<|.loop (X:=Nat) (λi=>i<=8/\(gy a).take i=(gy b).take i) (λi=>[(5,u),(6,w),(7,iN i)]) (λ_=>[n,o]) (λi=>8-i) 0 ⟨by omega,by simp⟩ kE.c.c.c (aK [1,0]) ?_
 rintro i ⟨x,l⟩
 refine .seq<|.sr<|.mo rfl<|.mo rfl<|.q (.eR j)<|.q .lss<|.zn<|.cond rfl (λg=>?_) λg=>?_
 have k:i<8:=by have:=cL g;simp only[gy,ae9,List.length_nil]at this;omega
 obtain⟨z,f⟩:∃z,(gy a)[i]? =some z:=⟨_,bk (by simpa[gy]using k)⟩
 obtain⟨y,d⟩:∃y,(gy b)[i]? =some y:=⟨_,bk (by simpa[gy]using k)⟩
 refine .kn<|.seq<|.block<|.seq<|.fX mixed (by kernel_rfl)<|.mo rfl<|.mo rfl ?_
 refine .bh i j f (λA=>?_)
 refine .lo rfl<|.mo rfl<|.mo rfl ?_
 refine .bh i m d (λB=>?_)
 refine .lo rfl<|.q .iJ<|.zn<|.cond rfl (λh=>?_) λh=>?_
 refine .seq<|.fX mixed (by kernel_rfl)<|.mo rfl<|.mo rfl ?_
 refine .bh i j f (λC=>?_)
 refine .lo rfl<|.mo rfl<|.mo rfl ?_
 refine .bh i m d (λD=>?_)
 refine .lo rfl<|.q .Nh<|.az rfl<|.ret (bA (aJ (cW (bA (aJ (aP rfl ?_))))))
 ·have r:z≠y:=by simpa using h
  exact⟨by rw[Q0 l f d r],rfl⟩
 refine .skip<|ba<|au<|.region<|.mo rfl<|.ia (i+1) .add<|.ag rfl<|.nil ?_
 ·exact bp (i+1) ⟨k,by
   have e:z=y:=by simpa using h
   rw[afs,afs,l,f,d,e]⟩ (by omega) kE.c.c.c rH
 refine .exit<|bD<|bG<|bE<|au<|.sr<|.az rfl<|.ret (aP rfl ?_)
 ·have p:i=8:=by have:=bI g;simp only[gy,ae9,List.length_nil]at this;omega
  subst p
  have:a=b:=QX (by simpa[gy]using l)
  exact⟨by rw[this,tc],rfl⟩
structure DV(R:aA)(b:Nat)(S:cE)(vL:Value)(L:List bf):Prop where
 pc:PC R (pT b) [vL,.int .u64 S.head,.int .u64 S.dV]
 rs:RS R 9 bf.enc vL L
theorem DV.mono{R R':aA}{b:Nat}{S:cE}{c:Value}{L:List bf}(h:DV R b S c L)(a:∀b o,R b o->R' b o):DV R' b S c L:=⟨h.pc.mono a,h.rs.mono a⟩
section
variable{R:aA}{b:Nat}{S:cE}{vL:Value}{L:List bf}
theorem DV.can(h:DV R b S vL L)(r:Int):Spec prog 86 [pT b,.int .u64 r] R [] λv H'=>v=.bool (scan S r)/\H'=[]:=by
 have c:=h.pc
 refine Spec.body func86 rfl results86 ntmps86 rfl<|.sr<|.ag rfl<|.z<|.mo rfl<|.nc rfl<|.fa rfl<|.lo rfl<|.mo rfl<|.q .leq<|.mo rfl<|.split (t:=11) rfl (λa=>?_) (λa=>?_)
 refine .gT a<|.mo rfl<|.gT a<|.mo rfl<|.gT a<|.nc rfl<|.gT a<|.fa rfl<|.gT a<|.lo rfl<|.gT a<|.q .leq<|.q (.aU a)<|.az rfl<|.ret (aP rfl ?_)
 ·refine⟨aeD _ ?_,rfl⟩
  unfold scan
  simp_all
  try omega
 refine .gF a<|.gF a<|.gF a<|.gF a<|.gF a<|.gF a<|.q (.aN a)<|.az rfl<|.ret (aP rfl ?_)
 ·refine⟨aeD _ ?_,rfl⟩
  unfold scan
  simp_all
  try omega
end
theorem vx(s i:ByteArray)(d:s.size<=9223372036854775807)(c:i.size<=9223372036854775807)(R:aA):Spec prog 139 [.agg [.string s,.string i].toArray] R [] λv H'=>v=.bool (dd s i)/\H'=[]:=by
 refine Spec.body func139 rfl results139 ntmps139 rfl<|.sr ?_
 refine .cg rfl (λe=>?_)
 refine .ag rfl<|.z<|.fa rfl<|.lo rfl<|.aQ (ke s d _) (λv b=>?_)
 subst b
 refine .mo rfl<|.split (t:=6) rfl (λa=>?_) (λa=>?_)
 refine .gT a<|.fa rfl<|.gT a<|.lo rfl<|.gT a<|.aQ (Al i c _) (λv b=>?_)
 subst b
 refine .q (.aU a)<|.az rfl<|.ret (aP rfl ?_)
 ·exact⟨by unfold dd;simp_all,rfl⟩
 refine .gF a<|.gF a<|.gF a<|.q (.aN a)<|.az rfl<|.ret (aP rfl ?_)
 ·exact⟨by unfold dd;simp_all,rfl⟩
theorem OZ(s:Sub)(g:s.us.size<=9223372036854775807)(h:s.ss.size<=9223372036854775807)(i:s.si.size<=9223372036854775807)(j:s.sr.size<=9223372036854775807)(R:aA):Spec prog 221 [.agg s.enc.toArray] R [] λv H'=>v=.bool (iH s)/\H'=[]:=by
 obtain⟨us,ss,si,sr⟩:=s
 simp only at g h i j
 refine Spec.body func221 rfl results221 ntmps221 rfl<|.sr ?_
 refine .cg rfl (λl=>?_)
 refine .ag rfl<|.zs<|.sr<|.fa rfl<|.lo rfl<|.q .fb<|.zn<|.cond rfl (λk=>?_) λk=>?_
 refine .sr<|.fa rfl<|.q (.loadT rfl)<|.aQ (vx ss si h i _) (λv f=>?_)
 subst f
 refine .mo rfl<|.split (t:=9) rfl (λd=>?_) (λd=>?_)
 refine .gT d<|.fa rfl<|.gT d<|.lo rfl<|.gT d<|.aQ (ke sr j _) (λv f=>?_)
 subst f
 refine .q (.aU d)<|.az rfl<|.ret (aJ (aP rfl ?_))
 ·refine⟨aeD _ ?_,rfl⟩
  unfold iH
  by_cases a:us=⟨#[]⟩
  ·simp only[a,aeP]
   simp_all
  ·simp only[a,aeX]
   simp_all
 refine .gF d<|.gF d<|.gF d<|.q (.aN d)<|.az rfl<|.ret (aJ (aP rfl ?_))
 ·refine⟨aeD _ ?_,rfl⟩
  unfold iH
  by_cases a:us=⟨#[]⟩
  ·simp only[a,aeP]
   simp_all
  ·simp only[a,aeX]
   simp_all
 refine .kn<|.sr<|.fa rfl<|.lo rfl<|.aQ (Al us g _) (λv f=>?_)
 subst f
 refine .mo rfl<|.split (t:=17) rfl (λb=>?_) (λb=>?_)
 refine .gT b<|.fa rfl<|.gT b<|.fa rfl<|.gT b<|.lo rfl<|.gT b<|.q .fb<|.q (.aU b)<|.mo rfl<|.split (t:=23) rfl (λc=>?_) (λc=>?_)
 refine .gT c<|.fa rfl<|.gT c<|.fa rfl<|.gT c<|.lo rfl<|.gT c<|.q .fb<|.q (.aU c)<|.mo rfl<|.split (t:=29) rfl (λe=>?_) (λe=>?_)
 refine .gT e<|.fa rfl<|.gT e<|.lo rfl<|.gT e<|.q .fb<|.q (.aU e)<|.az rfl<|.ret (aP rfl ?_)
 ·refine⟨aeD _ ?_,rfl⟩
  unfold iH
  by_cases a:us=⟨#[]⟩
  ·simp only[a,aeP]
   simp_all
  ·simp only[a,aeX]
   simp_all
 refine .gF e<|.gF e<|.gF e<|.q (.aN e)<|.az rfl<|.ret (aP rfl ?_)
 ·refine⟨aeD _ ?_,rfl⟩
  unfold iH
  by_cases a:us=⟨#[]⟩
  ·simp only[a,aeP]
   simp_all
  ·simp only[a,aeX]
   simp_all
 refine .gF c<|.gF c<|.gF c<|.gF c<|.q (.aN c)<|.mo rfl<|.gX<|.gX<|.gX<|.q .dq<|.az rfl<|.ret (aP rfl ?_)
 ·refine⟨aeD _ ?_,rfl⟩
  unfold iH
  by_cases a:us=⟨#[]⟩
  ·simp only[a,aeP]
   simp_all
  ·simp only[a,aeX]
   simp_all
 refine .gF b<|.gF b<|.gF b<|.gF b<|.q (.aN b)<|.mo rfl<|.gX<|.gX<|.gX<|.gX<|.q .dq<|.mo rfl<|.gX<|.gX<|.gX<|.q .dq<|.az rfl<|.ret (aP rfl ?_)
 ·refine⟨aeD _ ?_,rfl⟩
  unfold iH
  by_cases a:us=⟨#[]⟩
  ·simp only[a,aeP]
   simp_all
  ·simp only[a,aeX]
   simp_all
theorem vz(t:aw)(k:t.fits)(R:aA):Spec prog 168 [.agg t.enc.toArray] R [] λv H'=>v=.bool (eQ t)/\H'=[]:=by
 obtain⟨d,e,f,g,h,i,j⟩:=k
 refine Spec.body func168 rfl results168 ntmps168 rfl<|.sr ?_
 refine .cg rfl (λl=>?_)
 refine .ag rfl<|.z<|.fa rfl<|.q (.loadT rfl)<|.aQ (vx t.os t.oi d e _) (λv c=>?_)
 subst c
 refine .mo rfl<|.split (t:=6) rfl (λa=>?_) (λa=>?_)
 refine .gT a<|.fa rfl<|.gT a<|.lo rfl<|.gT a<|.aQ (ke t.rel f _) (λv c=>?_)
 subst c
 refine .q (.aU a)<|.mo rfl<|.split (t:=11) rfl (λb=>?_) (λb=>?_)
 refine .gT b<|.fa rfl<|.gT b<|.q (.loadT rfl)<|.gT b<|.aQ (OZ t.sub g h i j _) (λv c=>?_)
 subst c
 refine .q (.aU b)<|.az rfl<|.ret (aP rfl ?_)
 ·exact⟨by unfold eQ;simp_all,rfl⟩
 refine .gF b<|.gF b<|.gF b<|.q (.aN b)<|.az rfl<|.ret (aP rfl ?_)
 ·exact⟨by unfold eQ;simp_all,rfl⟩
 refine .gF a<|.gF a<|.gF a<|.q (.aN a)<|.mo rfl<|.gX<|.gX<|.gX<|.q .dq<|.az rfl<|.ret (aP rfl ?_)
 ·exact⟨by unfold eQ;simp_all,rfl⟩
theorem SV.QE{R:aA}{g:Nat}{S:cE}{ps:List RB}{vf vr:Value}{B:List (aW×(Value×av))}{C:List (Sub×(Value×av))}(h:SV R g S ps vf vr B C)(s:S.rows.length<=4096)(k:aW)(r:Int){L:List bf}(J:RL S L):
  Spec prog 188 [pT g,.agg [.string k.os,.string k.oi].toArray,.string k.rel,.int .u64 r] R [] λu H'=>∃T,H'=[T]/\OS 117 4 Sub.enc u (if scan S r then(L.filter λx=>x.there r&&decide (x.t.di=k)).map (·.t.sub)else []) T:=by
 have pc:=h.pc
 have U:ps.length<=4096:=by rw[<-h.eq,aeF]at s;exact s
 obtain⟨pf,G,O,V⟩:=h.lf k
 have H:RS R 1 tS (.slice pf (ids (λx=>x.t.di) k ps).length G) (kR (λx=>x.t.di) k ps):=RS.of_map (enc:=jh) (f:=λp:RB=>p.1) V
 have I:(kR (λx=>x.t.di) k ps).length<=4096:=aeR (afa _ _) U
 refine Spec.gj (H':=[[]]) (by simp)<|Spec.body func188 rfl results188 ntmps188 rfl<|.sr ?_
 refine .cg rfl (λb5=>?_)
 refine .ag rfl<|.zs<|.sr<|.mo rfl<|.mo rfl<|.aQ ((h.mono λb o d=>.inl d).can r) (λv Z=>?_)
 subst Z
 refine .q .not<|.zn<|.cond rfl (λj=>?_) λj=>?_
 have m:scan S r=false:=by simpa using j
 refine .sr<|.az rfl<|.ret (aJ (br _ (.one (.tmp rfl)) ((aK [1])) ?_))
 ·exact⟨_,by simp[take];rfl,by rw[m];exact OS.nil⟩
 have m:scan S r=true:=by simpa using j
 refine .kn<|.sr<|.ag rfl<|.zs<|.seq<|.dz [] mixed<|.tO 0 rfl .move<|.tO 1 rfl (.nilCheck rfl)<|.tO 2 rfl (.fieldAddr rfl)<|.tO 3 rfl (.cI rfl)<|.tO 4 rfl (.aL rfl)<|.tO 5 rfl .move<|.tO 6 rfl .dw<|.tO 7 rfl (.od (h.mono λb o d=>.inl d).mf rfl rfl (key:=k) O)<|.tO 8 rfl .move<|.tO 11 rfl .move<|.sT 9 rfl<|.dx (wW _ (kR (λx=>x.t.di) k ps) r _ H.rx (λp Q=>(h.pr p (List.mem_filter.1 Q).1).mono λb o d=>.inl d) (by omega)) (λu D Y=>?_)
 obtain⟨a,n,A,a1⟩:=Y
 have a4:a.length<=4096:=by
  rw[A.length_eq,aeF]
  exact aeR (afa _ _) I
 have a0:a=(L.filter λx=>x.there r&&decide (x.t.di=k)).map (·.t):=J.at_ (by
  refine A.trans (.of_eq ?_)
  rw[<-h.eq,List.filter_map,aeQ]
  unfold kR
  rw[List.filter_filter];rfl) a1
 refine .nil<|Next.sub<|.tO 10 rfl (.eR n)<|RA.nil (by kernel_rfl)<|au<|.block<|.loop (X:=Nat×Value×av) (λy=>y.1<=a.length/\OS 117 4 Sub.enc y.2.1 ((a.take y.1).map aw.sub) y.2.2) (λy=>[(9,y.2.1),(25,u),(26,iN a.length),(27,iN y.1)]) (λy=>[D,y.2.2]) (λy=>a.length-y.1) (0,sZ,[]) ⟨aeB _,OS.nil⟩ kE.c.c.c.c (aK [0,1]) ?_
 rintro⟨i,vo,F⟩ ⟨M,e⟩
 simp only at M e⊢
 refine .sr<|.q .lss<|.zs<|.cond rfl (λl=>?_) λl=>?_
 have w:i<a.length:=cK l
 obtain⟨x,z⟩:=ca w
 have W:a.take (i+1)=a.take i++[x]:=by rw[afs,z];rfl
 refine .kn<|.seq<|.block<|.sr ?_
 refine .bh i n z (λa5=>?_)
 refine .q (.aL rfl) ?_
 refine .cq (λa2=>?_)
 refine .bZ rfl rfl<|.zn<|.region<|.mo rfl<|.fa rfl<|.q (.loadT rfl) ?_
 refine .fq (λa3=>?_)
 refine .append e (RS.lits (xs:=[x.sub]) rfl (by simp[Sub.enc]) (by simp[Sub.enc,ay])) (by simp only[aeM,aeF,aeI];omega) (λv5 E K=>?_)
 refine .ag rfl<|.nil<|ba<|au<|.region<|.ia (i+1) .add<|.mo rfl<|.nil ?_
 ·exact bp (i+1,v5,E) ⟨w,by simp only;rw[W,aeH];exact K⟩ (by simp only;omega) kE.c.c.c.c (aK [2,2])
 refine .exit<|bD<|bG<|bE<|au<|.sr<|.mo rfl<|.az rfl<|.ret (br _ (.one (.tmp rfl)) ((aK [1])) ?_)
 ·have N:i=a.length:=by have:=bI l;omega
  subst N
  rw[afb,a0,aeQ]at e
  exact⟨F,by simp[take,bN],by rw[m];exact e⟩
def il(s:cF):Bool:=decide (16<s.bS.length)||s.bS.any λr=>iI isWord r.r
theorem qF(c:bO):c.plain.lI isWord=(decide (16<c.aV.length)||decide (16<c.scopes.length)||c.aV.any il):=by
 unfold Cf.lI bO.plain
 simp only[aeF,List.any_map]
 congr 1
 congr 1
 funext s
 simp[il,cF.plain,List.any_map,afc]
def mQ(r:cm):Bool:=r.r.types.all (ik isWord)
def jr(r:cm):Bool:=isWord r.r.name&&fT isWord r.r.nodes !=0&&mQ r
def hG(s:cF):Bool:=isWord s.name&&s.bS.all jr
theorem Am(c:bO):c.plain.right isWord dd=(c.aV.all hG&&c.scopes.all (kC isWord dd)&& !c.plain.lI isWord):=by
 unfold Cf.right
 congr 1
 congr 1
 unfold bO.plain
 simp only[List.all_map]
 congr 1
 funext s
 simp only[hG,nD,cF.plain,List.all_map,afc]
 rfl
theorem Pa(c:bO)(R:aA)(h:c.is R):Spec prog 140 [.agg c.enc.toArray] R [] λu H'=>u=.bool (c.plain.lI isWord)/\H'=[]:=by
 rw[qF]
 obtain⟨O,N,j,M⟩:=c
 have g:=h.ss
 have B:=h.sc
 have Z:=g.ay
 have i2:=B.ay
 simp only at g B Z i2⊢
 have a1:=g.le
 refine Spec.body func140 rfl results140 ntmps140 rfl<|.sr ?_
 refine .cg rfl (λD=>?_)
 refine .ag rfl<|.zs<|.seq ?_
 refine bu.dc [(1,_)] kE.c (X:=Unit) (λ_=>True) (λ_ E=>(15,.bool (decide (16<j.length)||decide (16<M.length)))::E) (λ_=>[bl D [O,N] 25]) ?_ ?_
 refine .region<|.fa rfl<|.lo rfl<|.q (.bK g)<|.q .gtr<|.mo rfl<|.split (t:=10) rfl (λe=>?_) (λe=>?_)
 refine .gF e<|.gF e<|.gF e<|.gF e<|.q (.aU e)<|.nil ?_
 ·exact aD () aeA (kE.c.cj rfl (by grind)) rH
 refine .gT e<|.fa rfl<|.gT e<|.lo rfl<|.gT e<|.q (.bK B)<|.gT e<|.q .gtr<|.q (.aN e)<|.nil ?_
 ·exact aD () aeA (kE.c.cj rfl (by grind)) rH
 intro y Y
 refine au<|.cond rfl (λw=>?_) λw=>?_
 refine .sr<|.az rfl<|.ret (aJ (aP rfl ?_))
 ·exact⟨by rw[w];rfl,rfl⟩
 refine .kn<|.seq<|.sr<|.az rfl<|.block<|.cX [(1,_)] (X:=Nat) (λi=>i<=j.length/\(j.take i).any il=false) (λi E=>(3,iN i)::E) (λ_ G=>G) (λi=>j.length-i) 0 ⟨aeB _,rfl⟩ kE.c.c rH ?_
 rintro i ⟨hi,I⟩
 refine .seq<|.sr<|.mo rfl<|.fa rfl<|.lo rfl<|.q (.bK g)<|.q .lss<|.zn<|.cond rfl (λx=>?_) λx=>?_
 have H:i<j.length:=cK x
 obtain⟨s,m⟩:=ca H
 have L:=h.all s (aR m)
 have v:=L.rs
 have a2:=v.le
 refine .kn<|.seq<|.block<|.seq<|.sr<|.fa rfl<|.lo rfl<|.mo rfl ?_
 refine .bF i g m (λa4=>?_)
 refine .fa rfl<|.lo rfl<|.q (.bK v)<|.q .gtr<|.zn<|.cond rfl (λz=>?_) λz=>?_
 refine .sr<|.az rfl<|.ret (aJ (bA (aJ (cW (bA (aJ (aP rfl ?_)))))))
 ·refine⟨?_,rfl⟩
  rw[ru m (f:=il) (by unfold il;have:=cL z;rw[aeY (by omega)];rfl),afj]
 refine .kn<|.sr<|.az rfl<|.block<|.cX [(1,_),(3,_)] (X:=Nat) (λk=>k<=s.bS.length/\((s.bS.take k).any λr=>iI isWord r.r)=false) (λk E=>(4,iN k)::E) (λ_ G=>G) (λk=>s.bS.length-k) 0 ⟨aeB _,rfl⟩ kE.c.c.c rH ?_
 rintro k ⟨hk,J⟩
 refine .seq<|.sr<|.mo rfl<|.fa rfl<|.lo rfl<|.mo rfl ?_
 refine .bF i g m (λa5=>?_)
 refine .fa rfl<|.lo rfl<|.q (.bK v)<|.q .lss<|.zn<|.cond rfl (λA=>?_) λA=>?_
 have F:k<s.bS.length:=cK A
 obtain⟨⟨Q,C,r⟩,o⟩:=ca F
 have p:=L.all _ (aR o)
 have V:RS R 2 Ty.enc Q r.types:=p.t
 have K:RS R 5 Nd.enc C r.nodes:=p.d
 have a3:cM (cm.enc ⟨Q,C,r⟩):=⟨p.dl⟩
 refine .kn<|.seq<|.block<|.sr<|.fa rfl<|.lo rfl<|.mo rfl ?_
 refine .bF i g m (λa6=>?_)
 refine .fa rfl<|.lo rfl<|.mo rfl ?_
 refine .bF k v o (λa7=>?_)
 refine .q (.aL rfl) ?_
 refine .cq (λb5=>?_)
 refine .bZ rfl rfl<|.zs ?_
 refine bu.dc [(1,_),(3,_),(4,_)] kE.c.c.c (X:=Unit) (λ_=>True) (λ_ E=>(66,.bool (iI isWord r))::E) (λ_=>[bl D [O,N] 25]) ?_ ?_
 refine .region<|.fa rfl<|.lo rfl<|.q (.bK V)<|.q .gtr<|.mo rfl<|.split (t:=55) rfl (λb=>?_) (λb=>?_)
 refine .gF b<|.gF b<|.gF b<|.gF b<|.q (.aU b)<|.mo rfl<|.gX<|.gX<|.gX<|.gX<|.q .dj<|.nil ?_
 ·exact aD () aeA (kE.c.c.c.cj rfl (by grind[iI])) (aK [1])
 refine .gT b<|.fa rfl<|.gT b<|.lo rfl<|.gT b<|.q (.bK K)<|.gT b<|.q .gtr<|.q (.aN b)<|.mo rfl<|.split (t:=61) rfl (λa=>?_) (λa=>?_)
 refine .gF a<|.gF a<|.gF a<|.gF a<|.q (.aU a)<|.nil ?_
 ·exact aD () aeA (kE.c.c.c.cj rfl (by grind[iI])) (aK [1])
 refine .gT a<|.fa rfl<|.gT a<|.lo rfl<|.gT a<|.aQ ((Ag C r.nodes R K p.fd).weaken dt) (λu W=>?_)
 subst W
 refine .gT a<|.q .gtr<|.q (.aN a)<|.nil ?_
 ·exact aD () aeA (kE.c.c.c.cj rfl (by grind[iI])) (aK [1])
 intro y Y
 refine au<|.cond rfl (λn=>?_) λn=>?_
 refine .sr<|.az rfl<|.ret (bA (aJ (cW (bA (bA (aJ (cW (bA (aJ (aP rfl ?_))))))))))
 ·refine⟨?_,rfl⟩
  rw[ru m (f:=il) (by unfold il;rw[ru o n,afj]),afj]
 refine .skip<|ba<|au<|.region<|.mo rfl<|.ia (k+1) .add<|.ag rfl<|.nil ?_
 ·exact bp (k+1) ⟨F,tw o J n⟩ (by omega) kE.c.c.c rH
 have U:il s=false:=by
  have n:(s.bS.any λr=>iI isWord r.r)=false:=by rw[<-dZ (l:=s.bS) (i:=k) (by have:=bI A;omega)];exact J
  have a0:=bI z
  unfold il
  rw[n,Bool.or_false]
  exact aeS (by omega)
 refine .exit<|bD<|bG<|bE<|ba<|au<|.region<|.mo rfl<|.ia (i+1) .add<|.ag rfl<|.nil ?_
 ·exact bp (i+1) ⟨H,tw m I U⟩ (by omega) kE.c.c rH
 have T:j.any il=false:=by rw[<-dZ (l:=j) (i:=i) (by have:=bI x;omega)];exact I
 refine .exit<|bD<|bG<|bE<|au<|.sr<|.az rfl<|.ret (aP rfl ?_)
 ·refine⟨?_,rfl⟩
  have S:(decide (16<j.length)||decide (16<M.length))=false:=w
  rw[S,T]
  rfl
theorem Pm(c:bO)(R:aA)(h:c.is R):Spec prog 76 [.agg c.enc.toArray] R [] λu H'=>u=.bool (c.plain.right isWord dd)/\H'=[]:=by
 rw[Am]
 obtain⟨T,S,A,z⟩:=c
 have K:=h.ss
 have J:=h.sc
 have i1:=K.ay
 have i2:=J.ay
 simp only at K J i1 i2⊢
 have c0:=K.le
 have b9:=J.le
 refine Spec.body func76 rfl results76 ntmps76 rfl<|.sr ?_
 refine .cg rfl (λU=>?_)
 refine .ag rfl<|.zs<|.sr<|.az rfl<|.block<|.cX [(1,_)] (X:=Nat) (λi=>i<=A.length/\(A.take i).all hG=true) (λi E=>(3,iN i)::E) (λ_ G=>G) (λi=>A.length-i) 0 ⟨aeB _,rfl⟩ kE.c.c rH ?_
 rintro i ⟨hi,hq⟩
 refine .seq<|.sr<|.mo rfl<|.fa rfl<|.lo rfl<|.q (.bK K)<|.q .lss<|.zn<|.cond rfl (λV=>?_) λV=>?_
 have a4:i<A.length:=cK V
 obtain⟨⟨C,L,w⟩,v⟩:=ca a4
 have N:=h.all _ (aR v)
 have a0:RS R 3 cm.enc L w:=N.rs
 have c1:=a0.le
 have c4:cM (cF.enc ⟨C,L,w⟩):=⟨N.dl⟩
 refine .kn<|.seq<|.block<|.sr<|.fa rfl<|.lo rfl<|.mo rfl ?_
 refine .bF i K v (λc5=>?_)
 refine .q (.aL rfl) ?_
 refine .cq (λb4=>?_)
 refine .bZ rfl rfl<|.zs<|.sr<|.fa rfl<|.lo rfl<|.aQ (ke C N.n _) (λu a=>?_)
 subst a
 refine .q .not<|.zn<|.cond rfl (λW=>?_) λW=>?_
 refine .sr<|.az rfl<|.ret (aJ (bA (aJ (cW (bA (aJ (aP rfl ?_)))))))
 ·refine⟨?_,rfl⟩
  rw[lE v (f:=hG) (by unfold hG;simp only;rw[show isWord C=false by simpa using W];rfl)]
  rfl
 refine .kn<|.sr<|.az rfl<|.block<|.cX [(1,_),(3,_),(4,_)] (X:=Nat) (λk=>k<=w.length/\(w.take k).all jr=true) (λk E=>(5,iN k)::E) (λ_ G=>G) (λk=>w.length-k) 0 ⟨aeB _,rfl⟩ kE.c.c.c.c rH ?_
 rintro k ⟨hk,a7⟩
 refine .seq<|.sr<|.mo rfl<|.fa rfl<|.lo rfl<|.q (.bK a0)<|.q .lss<|.zn<|.cond rfl (λY=>?_) λY=>?_
 have a3:k<w.length:=cK Y
 obtain⟨⟨M,D,r⟩,I⟩:=ca a3
 have B:=N.all _ (aR I)
 have a1:RS R 2 Ty.enc M r.types:=B.t
 have b3:RS R 5 Nd.enc D r.nodes:=B.d
 have c2:=a1.le
 have c3:cM (cm.enc ⟨M,D,r⟩):=⟨B.dl⟩
 refine .kn<|.seq<|.block<|.sr<|.fa rfl<|.lo rfl<|.mo rfl ?_
 refine .bF k a0 I (λc6=>?_)
 refine .q (.aL rfl) ?_
 refine .cq (λb6=>?_)
 refine .bZ rfl rfl<|.zs<|.seq ?_
 refine bu.dc [(1,_),(3,_),(4,_),(5,_),(6,_)] kE.c.c.c.c.c (X:=Unit) (λ_=>True) (λ_ E=>(48,.bool (!(isWord r.name&&fT isWord r.nodes !=0)))::E) (λ_=>[bl b6 (cm.enc ⟨M,D,r⟩) 167,bl b4 (cF.enc ⟨C,L,w⟩) 164,bl U [T,S] 25]) ?_ ?_
 refine .region<|.fa rfl<|.lo rfl<|.aQ (ke r.name B.n _) (λu a=>?_)
 subst a
 refine .q .not<|.mo rfl<|.split (t:=43) rfl (λg=>?_) (λg=>?_)
 refine .gF g<|.gF g<|.gF g<|.gF g<|.q (.aU g)<|.nil ?_
 ·exact aD () aeA (kE.c.c.c.c.c.cj rfl (by grind)) rH
 refine .gT g<|.fa rfl<|.gT g<|.lo rfl<|.gT g<|.aQ ((Ag D r.nodes R b3 B.fd).weaken dt) (λu a=>?_)
 subst a
 refine .gT g<|.q .cr<|.q (.aN g)<|.nil ?_
 ·exact aD () aeA (kE.c.c.c.c.c.cj rfl (by grind)) rH
 intro y hy
 refine au<|.cond rfl (λh4=>?_) λh4=>?_
 refine .sr<|.az rfl<|.ret (aJ (bA (aJ (cW (bA (bA (aJ (cW (bA (aJ (aP rfl ?_)))))))))))
 ·refine⟨?_,rfl⟩
  rw[lE v (f:=hG) (by unfold hG;simp only;rw[lE I (f:=jr) (by unfold jr;rw[show(isWord r.name&&fT isWord r.nodes !=0)=false by grind];rfl),aeN])]
  rfl
 refine .kn<|.sr<|.az rfl<|.block<|.cX [(1,_),(3,_),(4,_),(5,_),(6,_)] (X:=Nat) (λm=>m<=r.types.length/\(r.types.take m).all (ik isWord)=true) (λm E=>(7,iN m)::E) (λ_ G=>G) (λm=>r.types.length-m) 0 ⟨aeB _,rfl⟩ kE.c.c.c.c.c.c rH ?_
 rintro m ⟨hm,a8⟩
 refine .seq<|.sr<|.mo rfl<|.fa rfl<|.lo rfl<|.q (.bK a1)<|.q .lss<|.zn<|.cond rfl (λF=>?_) λF=>?_
 have a5:m<r.types.length:=cK F
 obtain⟨t,O⟩:=ca a5
 have Q:=B.ft t (aR O)
 refine .kn<|.seq<|.block<|.sr<|.fa rfl<|.lo rfl<|.mo rfl ?_
 refine .bF m a1 O (λc7=>?_)
 refine .q (.aL rfl) ?_
 refine .cq (λb8=>?_)
 refine .bZ rfl rfl<|.zs ?_
 refine bu.dc [(1,_),(3,_),(4,_),(5,_),(6,_),(7,_)] kE.c.c.c.c.c.c (X:=Unit) (λ_=>True) (λ_ E=>(79,.bool (!ik isWord t))::E) (λ_=>[bl b6 (cm.enc ⟨M,D,r⟩) 167,bl b4 (cF.enc ⟨C,L,w⟩) 164,bl U [T,S] 25]) ?_ ?_
 refine .region<|.fa rfl<|.lo rfl<|.q .fb<|.mo rfl<|.split (t:=64) rfl (λx=>?_) (λx=>?_)
 refine .gT x<|.fa rfl<|.gT x<|.lo rfl<|.gT x<|.q .fb<|.q (.aU x)<|.mo rfl<|.split (t:=69) rfl (λe=>?_) (λe=>?_)
 refine .gF e<|.gF e<|.gF e<|.gF e<|.dB rfl<|.dB rfl<|.dB rfl<|.gF e<|.q (.aU e)<|.q .not<|.nil ?_
 ·exact aD () aeA (kE.c.c.c.c.c.c.cj rfl (by grind[ik])) (aK [1,1,1])
 refine .gT e<|.fa rfl<|.gT e<|.lo rfl<|.gT e<|.aQ (ke t.space Q.1 _) (λu a=>?_)
 subst a
 refine .gT e<|.mo rfl<|.split (t:=73) rfl (λb=>?_) (λb=>?_)
 refine .gT b<|.fa rfl<|.gT b<|.lo rfl<|.gT b<|.aQ (ke t.rel Q.2 _) (λu a=>?_)
 subst a
 refine .gT e<|.q (.aU b)<|.q (.aN e)<|.q .not<|.nil ?_
 ·exact aD () aeA (kE.c.c.c.c.c.c.cj rfl (by grind[ik])) (aK [1,1,1])
 refine .gF b<|.gF b<|.gF b<|.gT e<|.q (.aN b)<|.q (.aN e)<|.q .not<|.nil ?_
 ·exact aD () aeA (kE.c.c.c.c.c.c.cj rfl (by grind[ik])) (aK [1,1,1])
 refine .gF x<|.gF x<|.gF x<|.q (.aN x)<|.mo rfl<|.gt rfl<|.fa rfl<|.gt rfl<|.lo rfl<|.gt rfl<|.aQ (ke t.space Q.1 _) (λu a=>?_)
 subst a
 refine .gt rfl<|.mo rfl<|.split (t:=73) rfl (λb=>?_) (λb=>?_)
 refine .gT b<|.fa rfl<|.gT b<|.lo rfl<|.gT b<|.aQ (ke t.rel Q.2 _) (λu a=>?_)
 subst a
 refine .gt rfl<|.q (.aU b)<|.q .dq<|.q .not<|.nil ?_
 ·exact aD () aeA (kE.c.c.c.c.c.c.cj rfl (by grind[ik])) (aK [1,1,1])
 refine .gF b<|.gF b<|.gF b<|.gt rfl<|.q (.aN b)<|.q .dq<|.q .not<|.nil ?_
 ·exact aD () aeA (kE.c.c.c.c.c.c.cj rfl (by grind[ik])) (aK [1,1,1])
 intro y hy
 refine au<|.cond rfl (λH=>?_) λH=>?_
 refine .sr<|.az rfl<|.ret (bA (aJ (cW (bA (bA (aJ (cW (bA (bA (aJ (cW (bA (aJ (aP rfl ?_))))))))))))))
 ·refine⟨?_,rfl⟩
  rw[lE v (f:=hG) (by unfold hG;simp only;rw[lE I (f:=jr) (by unfold jr mQ;rw[lE O (by simpa using H),aeN]),aeN])]
  rfl
 refine .skip<|ba<|au<|.region<|.mo rfl<|.ia (m+1) .add<|.ag rfl<|.nil ?_
 ·exact bp (m+1) ⟨a5,nh O a8 (by simpa using H)⟩ (by omega) kE.c.c.c.c.c.c rH
 have b2:jr ⟨M,D,r⟩=true:=by
  have H:r.types.all (ik isWord)=true:=by rw[<-dZ (l:=r.types) (i:=m) (by have:=bI F;omega)];exact a8
  have a9:(!(isWord r.name&&fT isWord r.nodes !=0))=false:=h4
  unfold jr mQ
  simp only[H,aeK]
  simpa using a9
 refine .exit<|bD<|bG<|bE<|ba<|au<|.region<|.mo rfl<|.ia (k+1) .add<|.ag rfl<|.nil ?_
 ·exact bp (k+1) ⟨a3,nh I a7 b2⟩ (by omega) kE.c.c.c.c (aK [1,1])
 have hm:hG ⟨C,L,w⟩=true:=by
  have F:w.all jr=true:=by rw[<-dZ (l:=w) (i:=k) (by have:=bI Y;omega)];exact a7
  unfold hG
  simp only[F,aeK]
  simpa using W
 refine .exit<|bD<|bG<|bE<|ba<|au<|.region<|.mo rfl<|.ia (i+1) .add<|.ag rfl<|.nil ?_
 ·exact bp (i+1) ⟨a4,nh v hq hm⟩ (by omega) kE.c.c (aK [1])
 have b0:A.all hG=true:=by rw[<-dZ (l:=A) (i:=i) (by have:=bI V;omega)];exact hq
 refine .exit<|bD<|bG<|bE<|au<|.seq<|.sr<|.az rfl<|.block<|.cX [(1,_)] (X:=Nat) (λj=>j<=z.length/\(z.take j).all (kC isWord dd)=true) (λj E=>(9,iN j)::E) (λ_ G=>G) (λj=>z.length-j) 0 ⟨aeB _,rfl⟩ kE.c.c rH ?_
 rintro j ⟨hj,a6⟩
 refine .seq<|.sr<|.mo rfl<|.fa rfl<|.lo rfl<|.q (.bK J)<|.q .lss<|.zn<|.cond rfl (λZ=>?_) λZ=>?_
 have a2:j<z.length:=cK Z
 obtain⟨s,v⟩:=ca a2
 have b5:=h.fc s (aR v)
 obtain⟨f1,f2,f3,f4⟩:=b5
 refine .kn<|.seq<|.block<|.sr<|.fa rfl<|.lo rfl<|.mo rfl ?_
 refine .bF j J v (λc8=>?_)
 refine .q (.aL rfl) ?_
 refine .cq (λb7=>?_)
 refine .bZ rfl rfl<|.zs ?_
 refine bu.dc [(1,_),(9,_)] kE.c.c (X:=Unit) (λ_=>True) (λ_ E=>(107,.bool (!kC isWord dd s))::E) (λ_=>[bl U [T,S] 25]) ?_ ?_
 refine .region<|.fa rfl<|.lo rfl<|.aQ (ke s.name f1 _) (λu a=>?_)
 subst a
 refine .q .not<|.mo rfl<|.split (t:=96) rfl (λp=>?_) (λp=>?_)
 refine .gF p<|.gF p<|.gF p<|.gF p<|.q (.aU p)<|.mo rfl<|.gX<|.gX<|.gX<|.gX<|.q .dj<|.nil ?_
 ·exact aD () aeA (kE.c.c.cj rfl (by grind[kC])) (aK [1])
 refine .gT p<|.fa rfl<|.gT p<|.q (.loadT rfl)<|.gT p<|.aQ (vx s.kb s.sC f2 f3 _) (λu a=>?_)
 subst a
 refine .gT p<|.q .not<|.q (.aN p)<|.mo rfl<|.split (t:=102) rfl (λo=>?_) (λo=>?_)
 refine .gF o<|.gF o<|.gF o<|.gF o<|.q (.aU o)<|.nil ?_
 ·exact aD () aeA (kE.c.c.cj rfl (by grind[kC])) (aK [1])
 refine .gT o<|.fa rfl<|.gT o<|.lo rfl<|.gT o<|.aQ (ke s.rel f4 _) (λu a=>?_)
 subst a
 refine .gT o<|.q .not<|.q (.aN o)<|.nil ?_
 ·exact aD () aeA (kE.c.c.cj rfl (by grind[kC])) (aK [1])
 intro y hy
 refine au<|.cond rfl (λh8=>?_) λh8=>?_
 refine .sr<|.az rfl<|.ret (bA (aJ (cW (bA (aJ (aP rfl ?_))))))
 ·refine⟨?_,rfl⟩
  rw[lE v (by simpa using h8),aeN]
  rfl
 refine .skip<|ba<|au<|.region<|.mo rfl<|.ia (j+1) .add<|.ag rfl<|.nil ?_
 ·exact bp (j+1) ⟨a2,nh v a6 (by simpa using h8)⟩ (by omega) kE.c.c rH
 refine .exit<|bD<|bG<|bE<|au<|.sr<|.q (.aL rfl)<|.aQ ((Pa ⟨T,S,A,z⟩ R h).weaken dt) (λu a=>?_)
 subst a
 refine .q .not<|.az rfl<|.ret (aP rfl ?_)
 ·refine⟨?_,rfl⟩
  have h9:z.all (kC isWord dd)=true:=by rw[<-dZ (l:=z) (i:=j) (by have:=bI Z;omega)];exact a6
  rw[b0,h9]
  rfl
abbrev Nm:=ByteArray×cm
def np(x:Nm):List Value:=.string x.1::x.2.enc
def Nm.p(x:Nm):ByteArray×Rl:=(x.1,x.2.r)
def bO.fV(c:bO):List Nm:=c.aV.flatMap λs=>s.bS.map λr=>(s.name,r)
theorem po(c:bO):c.fV.map Nm.p=c.plain.all:=by
 unfold bO.fV Cf.all bO.plain
 simp[List.map_flatMap,List.flatMap_map,cF.plain,Nm.p,afc]
def bO.jF(c:bO):Prop:=c.aV.length<=16/\∀s∈c.aV,s.bS.length<=16
theorem uk{α β:Type}{f:α->List β}{n:Nat}:∀{l:List α},(∀x∈l,(f x).length<=n)->(l.flatMap f).length<=l.length*n
 |[],_=>by simp
 |x::l,h=>by
  have b:=h x List.mem_cons_self
  have c:=uk λy a=>h y (List.mem_cons_of_mem _ a)
  rw[List.flatMap_cons,aeL,ae9,Nat.succ_mul]
  omega
theorem bO.jF.fV{c:bO}(h:c.jF):c.fV.length<=256:=by
 have:=uk (f:=λs:cF=>s.bS.map λr=>(s.name,r)) (n:=16) (l:=c.aV) λs a=>by rw[aeF];exact h.2 s a
 have b:=h.1
 unfold bO.fV
 omega
structure re(R:aA)(v:Value)(L:List Nm):Prop where
 rs:RS R 4 np v L
 all:∀x∈L,x.2.is R
theorem NR{R:aA}{x:Nm}(h:x.2.is R):∀u∈np x,ay u=true:=by
 intro u hu
 rcases List.mem_cons.1 hu with rfl|hu
 ·rfl
 ·exact h.dl u hu
theorem zE{c:bO}{R:aA}(h:c.is R):∀x∈c.fV,x.2.is R:=by
 intro x a
 obtain⟨s,d,a⟩:=aft.1 a
 obtain⟨r,b,rfl⟩:=afd.1 a
 exact(h.all s d).all r b
theorem vi(c:bO)(R:aA)(h:c.is R)(o:c.jF):Spec prog 79 [.agg c.enc.toArray] R [] λu H'=>∃T,H'=[T]/\OS 263 4 np u c.fV T:=by
 have hN:=o.fV
 obtain⟨vs,vc,b,a3⟩:=c
 have d:=h.ss
 have N:=d.ay
 have O:=h.sc.ay
 simp only at d N O⊢
 have a0:=d.le
 have L:∀i s k,b[i]? =some s->((b.take i).flatMap (λs=>s.bS.map λr=>((s.name,r):Nm))++(s.bS.take k).map λr=>((s.name,r):Nm)).length<=512:=λi s k a=>by
  rw[aeL,aeF]
  have e:=uk (f:=λs:cF=>s.bS.map λr=>((s.name,r):Nm)) (n:=16) (l:=b.take i) λs a=>by rw[aeF];exact o.2 s (List.mem_of_mem_take a)
  have g:(b.take i).length<=16:=by rw[aeI];have:=o.1;simp only at this;omega
  have h3:=o.2 s (aR a)
  have h4:(s.bS.take k).length<=16:=by rw[aeI];omega
  omega
 refine Spec.body func79 rfl results79 ntmps79 rfl<|.sr ?_
 refine .cg rfl (λY=>?_)
 refine .ag rfl<|.z<|.ag rfl<|.zs<|.sr<|.az rfl<|.block<|.cX [(1,_)] (X:=Nat×Value×av) (λy=>y.1<=b.length/\OS 263 4 np y.2.1 ((b.take y.1).flatMap λs=>s.bS.map λr=>((s.name,r):Nm)) y.2.2) (λy E=>(4,iN y.1)::(3,y.2.1)::E) (λy G=>y.2.2::G) (λy=>b.length-y.1) (0,sZ,[]) ⟨aeB _,OS.nil⟩ kE.c.c.c bz.ir ?_
 rintro⟨i,V,v⟩ ⟨I,j⟩
 simp only at I j⊢
 refine .seq<|.sr<|.mo rfl<|.fa rfl<|.lo rfl<|.q (.bK d)<|.q .lss<|.zn<|.cond rfl (λe=>?_) λe=>?_
 have A:i<b.length:=cK e
 obtain⟨s,a⟩:=ca A
 have B:=h.all _ (aR a)
 have t:=B.rs
 have a1:=t.le
 refine .kn<|.seq<|.block<|.sr<|.az rfl<|.block<|.cX [(1,_),(4,_)] (X:=Nat×Value×av) (λy=>y.1<=s.bS.length/\OS 263 4 np y.2.1 (((b.take i).flatMap λs=>s.bS.map λr=>((s.name,r):Nm))++(s.bS.take y.1).map λr=>((s.name,r):Nm)) y.2.2) (λy E=>(5,iN y.1)::(3,y.2.1)::E) (λy G=>y.2.2::G) (λy=>s.bS.length-y.1) (0,V,v) ⟨aeB _,by simpa using j⟩ kE.c.c.c.c rH ?_
 rintro⟨k,Q,D⟩ ⟨J,m⟩
 simp only at J m⊢
 refine .seq<|.sr<|.mo rfl<|.fa rfl<|.lo rfl<|.mo rfl ?_
 refine .bF i d a (λa2=>?_)
 refine .fa rfl<|.lo rfl<|.q (.bK t)<|.q .lss<|.zn<|.cond rfl (λg=>?_) λg=>?_
 have w:k<s.bS.length:=cK g
 obtain⟨⟨W,U,r⟩,p⟩:=ca w
 have M:=B.all _ (aR p)
 have p1:=d.pc a
 have p2:=t.pc p
 refine .kn<|.seq<|.block<|.dz [18] mixed<|.tO 0 rfl .move<|.tO 1 rfl (.fieldAddr rfl)<|.tO 2 rfl (.cI rfl)<|.tO 3 rfl .move<|.tO 4 rfl (.bF i d a rfl rfl rfl)<|.tO 5 rfl (.fieldAddr rfl)<|.tO 6 rfl (.cI rfl)<|.tO 7 rfl (.fieldAddr rfl)<|.tO 8 rfl (.cI rfl)<|.tO 9 rfl .move<|.tO 10 rfl (.bF i d a rfl rfl rfl)<|.tO 11 rfl (.fieldAddr rfl)<|.tO 12 rfl (.cI rfl)<|.tO 13 rfl .move<|.tO 14 rfl (.bF k t p rfl rfl rfl)<|.tO 15 rfl (.aL rfl)<|.tO 16 rfl .dw<|.sT 17 rfl ?_
 refine .fq (λZ=>?_)
 refine .nil<|Next.sub<|.sT 18 rfl<|.append m (RS.lits (xs:=[((s.name,⟨W,U,r⟩):Nm)]) rfl (by simp[np,cm.enc]) (by intro x C;rw[aeZ]at C;subst C;exact NR M)) (by have:=L i s k a;simp only[aeM];omega) (λS F H=>?_)
 refine .nil<|Next.mod rfl<|.tK 19 rfl .assign<|RA.nil (by kernel_rfl)<|ba<|au<|.region<|.mo rfl<|.ia (k+1) .add<|.ag rfl<|.nil ?_
 ·exact bp (k+1,S,F) ⟨w,by simp only;rw[eo p,aeH, <-ae0];exact H⟩ (by simp only;omega) kE.c.c.c.c (aK [1,1])
 have K:s.bS.length<=k:=by have:=bI g;omega
 rw[dZ K]at m
 refine .exit<|bD<|bG<|bE<|ba<|au<|.region<|.mo rfl<|.ia (i+1) .add<|.ag rfl<|.nil ?_
 ·exact bp (i+1,Q,D) ⟨A,by simp only;rw[eo a,List.flatMap_append];simpa using m⟩ (by simp only;omega) kE.c.c.c rH
 refine .exit<|bD<|bG<|bE<|au<|.sr<|.mo rfl<|.az rfl<|.ret (br _ (.one (.tmp rfl)) (.one [0] _) ?_)
 ·refine⟨v,by simp[take],?_⟩
  rw[dZ (kS e)]at j
  exact j
def fI(o:Option Nat):Int:=match o with|none=> -1|some i=>i
theorem pF(v:Value)(L:List Nm)(R:aA)(h:re R v L)(d b:ByteArray):
  Spec prog 141 [v,.string d,.string b] R [] λu H'=>u=.int .i64 (fI (bV (L.map Nm.p) ⟨d,b⟩))/\H'=[]:=by
 have l:=h.rs
 have H:=l.le
 refine Spec.body func141 rfl results141 ntmps141 rfl<|.sr<|.ag rfl<|.zs<|.sr<|.az rfl<|.block<|.cX [(0,_),(1,_),(2,_)] (X:=Nat) (λi=>i<=L.length/\∀j x,j<i->L[j]? =some x->fw x.p≠⟨d,b⟩) (λi E=>(7,iN i)::E) (λ_ G=>G) (λi=>L.length-i) 0 ⟨aeB _,λj x f=>absurd f (by omega)⟩ kE.c.c.c.c rH ?_
 rintro i ⟨F,w⟩
 refine .seq<|.sr<|.mo rfl<|.mo rfl<|.q (.bK l)<|.q .lss<|.zn<|.cond rfl (λn=>?_) λn=>?_
 have s:i<L.length:=cK n
 obtain⟨⟨m,N,M,r⟩,g⟩:=ca s
 have I:=h.all _ (aR g)
 refine .kn<|.seq<|.block<|.seq ?_
 refine bu.dc [(0,_),(1,_),(2,_),(7,_)] kE.c.c.c.c (X:=Unit) (λ_=>True) (λ_ E=>(30,.bool (decide (m=d)&&decide (r.name=b)))::E) (λ_=>[]) ?_ ?_
 refine .region<|.mo rfl<|.mo rfl ?_
 refine .bF i l g (λJ=>?_)
 refine .fa rfl<|.lo rfl<|.mo rfl<|.q .fb<|.mo rfl<|.split (t:=21) rfl (λa=>?_) (λa=>?_)
 refine .gT a<|.mo rfl<|.gT a<|.mo rfl<|.gT a ?_
 refine .bF i l g (λK=>?_)
 refine .gT a<|.fa rfl<|.gT a<|.fa rfl<|.gT a<|.lo rfl<|.gT a<|.mo rfl<|.gT a<|.q .fb<|.q (.aU a)<|.nil ?_
 ·exact aD () aeA (kE.c.c.c.c.cj rfl (by grind)) rH
 refine .gF a<|.gF a<|.gF a<|.gF a<|.gF a<|.gF a<|.gF a<|.gF a<|.q (.aN a)<|.nil ?_
 ·exact aD () aeA (kE.c.c.c.c.cj rfl (by grind)) rH
 intro y A
 refine au<|.cond rfl (λo=>?_) λo=>?_
 refine .sr<|.mo rfl<|.az rfl<|.ret (bA (aJ (cW (bA (aJ (aP rfl ?_))))))
 ·refine⟨?_,rfl⟩
  have z:m=d/\r.name=b:=by simpa using o
  have:bV (L.map Nm.p) ⟨d,b⟩=some i:=by
   unfold bV
   rw[afx]
   refine⟨by rw[aeF];exact s,?_,λj f=>?_⟩
   ·have e:=(aeO.1 g).2
    rw[List.getElem_map,e]
    exact aeY (by show(⟨m,r.name⟩:Ty)=_;rw[z.1,z.2])
   ·rw[List.getElem_map]
    have:=w j _ f (bk (by omega))
    simpa using this
  rw[this]
  rfl
 refine .skip<|ba<|au<|.region<|.mo rfl<|.ia (i+1) .add<|.ag rfl<|.nil ?_
 ·exact bp (i+1) ⟨s,λj x f k=>by
   rcases ae1 j i with hh|hh
   ·exact w j x hh k
   ·obtain rfl:j=i:=by omega
    rw[g]at k
    cases k
    intro B
    injection B with k1 k2
    have C:m=d:=k1
    have D:r.name=b:=k2
    subst C;subst D
    simp at o⟩ (by omega) kE.c.c.c.c rH
 refine .exit<|bD<|bG<|bE<|au<|.sr<|.az rfl<|.ret (aP rfl ?_)
 ·refine⟨?_,rfl⟩
  have:bV (L.map Nm.p) ⟨d,b⟩=none:=by
   unfold bV
   rw[List.findIdx?_eq_none_iff]
   intro x k
   obtain⟨y,A,rfl⟩:=afd.1 k
   obtain⟨j,f,e⟩:=ae2.1 A
   have:=w j y (by have:=bI n;omega) (by rw[bk f,e])
   simpa using this
  rw[this]
  rfl
theorem uT{α:Type}{l:List α}{i:Nat}{x:α}(j:l[i]? =some x)(h:(l.take i).Nodup)(g:∀k y,k<i->l[k]? =some y->y≠x):(l.take (i+1)).Nodup:=by
 rw[eo j,afu]
 refine⟨h,by simp,λa d b c=>?_⟩
 rw[aeZ]at c
 subst c
 obtain⟨k,f,e⟩:=ae2.1 d
 rw[aeI]at f
 exact g k a (by omega) (by rw[afk]at e;rw[bk (by omega),e])
theorem oq{α:Type}{l:List α}{i k:Nat}{x y:α}(f:k<i)(g:l[i]? =some x)(j:l[k]? =some y)(e:x=y):¬l.Nodup:=by
 intro h
 obtain⟨a,b⟩:=aeO.1 g
 obtain⟨c,d⟩:=aeO.1 j
 have:=(List.nodup_iff_pairwise_ne.1 h)
 rw[List.pairwise_iff_getElem]at this
 exact this k i c a f (by rw[d,b,e])
theorem Aj{L:List (ByteArray×Rl)}{i:Nat}{x:ByteArray×Rl}(a:L[i]? =some x):∃j,bV L (fw x)=some j/\j<=i/\∃y,L[j]? =some y/\fw y=fw x:=by
 cases h:bV L (fw x)with
 |none=>
  unfold bV at h
  rw[List.findIdx?_eq_none_iff]at h
  have:=h x (aR a)
  simp at this
 |some j=>
  unfold bV at h
  rw[afx]at h
  obtain⟨b,c,d⟩:=h
  refine⟨j,rfl,?_,_,bk b,cL c⟩
  rcases ae1 i j with h4|h4
  ·have:=d i h4
   rw[(aeO.1 a).2]at this
   simp at this
  ·exact h4
theorem Pp(c:bO)(R:aA)(h:c.is R)(hf:c.jF):Spec prog 77 [.agg c.enc.toArray] R [] λu H'=>u=.bool (!decide c.plain.dN)/\H'=[]:=by
 have a7:=po c
 have a4:=zE h
 have a8:=vi c R h hf
 have T:c.plain.dN↔(c.aV.map (·.name)).Nodup/\((c.fV.map Nm.p).map fw).Nodup/\(c.scopes.map (·.name)).Nodup:=by
  unfold Cf.dN
  rw[<-a7]
  simp only[bO.plain,aeQ]
  exact Iff.rfl
 generalize hL:c.fV=L at *
 obtain⟨vs,vc,g,f⟩:=c
 have D:=h.ss
 have C:=h.sc
 have i1:=D.ay
 have a:=C.ay
 simp only at D C i1 a T⊢
 have c2:=D.le
 have c1:=C.le
 refine Spec.body func77 rfl results77 ntmps77 rfl<|.sr ?_
 refine .cg rfl (λb1=>?_)
 refine .ag rfl<|.zs<|.sr<|.az rfl<|.block<|.cX [(1,_)] (X:=Nat) (λi=>i<=g.length/\((g.map (·.name)).take i).Nodup) (λi E=>(3,iN i)::E) (λ_ G=>G) (λi=>g.length-i) 0 ⟨aeB _,by simp⟩ kE.c.c rH ?_
 rintro i ⟨hi,n⟩
 refine .seq<|.sr<|.mo rfl<|.fa rfl<|.lo rfl<|.q (.bK D)<|.q .lss<|.zn<|.cond rfl (λV=>?_) λV=>?_
 have K:i<g.length:=cK V
 obtain⟨s,M⟩:=ca K
 have N:(g.map (·.name))[i]? =some s.name:=by rw[aeE,M];rfl
 refine .kn<|.seq<|.block<|.sr<|.az rfl<|.block<|.cX [(1,_),(3,_)] (X:=Nat) (λk=>k<=i/\∀j y,j<k->(g.map (·.name))[j]? =some y->y≠s.name) (λk E=>(4,iN k)::E) (λ_ G=>G) (λk=>i-k) 0 ⟨aeB _,λj y I=>absurd I (by omega)⟩ kE.c.c.c rH ?_
 rintro k ⟨hk,w⟩
 refine .seq<|.sr<|.mo rfl<|.mo rfl<|.q .lss<|.zn<|.cond rfl (λW=>?_) λW=>?_
 have J:k<i:=cK W
 obtain⟨t,Q⟩:∃t,g[k]? =some t:=⟨_,bk (by omega)⟩
 have S:(g.map (·.name))[k]? =some t.name:=by rw[aeE,Q];rfl
 refine .kn<|.seq<|.block<|.seq<|.fX mixed (by kernel_rfl)<|.fa rfl<|.lo rfl<|.mo rfl ?_
 refine .bF i D M (λc6=>?_)
 refine .fa rfl<|.lo rfl<|.fa rfl<|.lo rfl<|.mo rfl ?_
 refine .bF k D Q (λc7=>?_)
 refine .fa rfl<|.lo rfl<|.q .fb<|.zn<|.cond rfl (λU=>?_) λU=>?_
 refine .sr<|.az rfl<|.ret (bA (aJ (cW (bA (bA (aJ (cW (bA (aJ (aP rfl ?_))))))))))
 ·refine⟨?_,rfl⟩
  rw[aeS λhh=>oq J N S (by simpa using U) (T.1 hh).1]
  rfl
 refine .skip<|ba<|au<|.region<|.mo rfl<|.ia (k+1) .add<|.ag rfl<|.nil ?_
 ·exact bp (k+1) ⟨J,λj y I d=>by
   rcases ae1 j k with hh|hh
   ·exact w j y hh d
   ·obtain rfl:j=k:=by omega
    rw[S]at d
    cases d
    intro e
    rw[e]at U
    simp at U⟩ (by omega) kE.c.c.c rH
 have a0:k=i:=by have:=bI W;omega
 rw[a0]at w
 refine .exit<|bD<|bG<|bE<|ba<|au<|.region<|.mo rfl<|.ia (i+1) .add<|.ag rfl<|.nil ?_
 ·exact bp (i+1) ⟨K,uT N n w⟩ (by omega) kE.c.c rH
 have a9:(g.map (·.name)).Nodup:=by rw[dZ (by rw[aeF];have:=bI V;omega)]at n;exact n
 refine .exit<|bD<|bG<|bE<|au<|.sr<|.q (.aL rfl)<|.dx (a8.weaken dt) (λu T5 F=>?_)
 have c3:=F.le
 refine .ag rfl<|.zs<|.sr<|.az rfl<|.block<|.cX [(1,_),(5,_)] (X:=Nat) (λi=>i<=L.length/\(((L.map Nm.p).map fw).take i).Nodup) (λi E=>(6,iN i)::E) (λ_ G=>G) (λi=>L.length-i) 0 ⟨aeB _,by simp⟩ kE.c.c.c rH ?_
 rintro a ⟨b9,a1⟩
 refine .seq<|.sr<|.mo rfl<|.mo rfl<|.q (.eR F)<|.q .lss<|.zn<|.cond rfl (λY=>?_) λY=>?_
 have a3:a<L.length:=cK Y
 obtain⟨⟨A,vt,vn,r⟩,O⟩:=ca a3
 have c5:=a4 _ (aR O)
 have a5:(L.map Nm.p)[a]? =some (A,r):=by rw[aeE,O];rfl
 have a6:((L.map Nm.p).map fw)[a]? =some ⟨A,r.name⟩:=by rw[aeE,a5];rfl
 obtain⟨m,b4,c0,yf,b6,b8⟩:=Aj a5
 have a2:bV (L.map Nm.p) ⟨A,r.name⟩=some m:=b4
 have pq:PS T5 (eO u (a*4)) (np (A,⟨vt,vn,r⟩)):=⟨F.pc O⟩
 refine .kn<|.seq<|.block<|.seq<|.dz [12] mixed<|.tO 0 rfl .move<|.tO 1 rfl .move<|.tO 2 rfl .move ?_
 refine RA.bh 3 rfl a F O rfl rfl rfl (by kernel_rfl) (λc8=>?_)
 refine .tO 4 rfl (.fieldAddr rfl)<|.tO 5 rfl (.cI rfl)<|.tO 6 rfl .move<|.tO 7 rfl .move ?_
 refine RA.bh 8 rfl a F O rfl rfl rfl (by kernel_rfl) (λc9=>?_)
 refine .tO 9 rfl (.fieldAddr rfl)<|.tO 10 rfl (.fieldAddr rfl)<|.tO 11 rfl (.cI rfl)<|.tK 13 rfl .move<|.sT 12 rfl<|.aQ (pF u L _ ⟨F.rx,λx hx=>(a4 x hx).mono λb o hb=>.inl hb⟩ A r.name) (λv hv=>?_)
 subst hv
 rw[a2]
 refine .nil<|Next.mod rfl<|.tK 14 rfl .de<|RA.nil (by kernel_rfl)<|au<|.cond rfl (λZ=>?_) λZ=>?_
 refine .sr<|.az rfl<|.ret (bA (aJ (cW (bA (aJ (aP rfl ?_))))))
 ·refine⟨?_,rfl⟩
  have c4:m≠a:=by
   intro e
   subst e
   simp[fI]at Z
  have b7:((L.map Nm.p).map fw)[m]? =some ⟨A,r.name⟩:=by rw[aeE,b6];exact aeD some b8
  rw[aeS λhh=>oq (show m<a by omega) a6 b7 rfl (T.1 hh).2.1]
  rfl
 have b3:m=a:=by
  have l:(fI (some m)==(a:Int))=true:=by simpa using Z
  have B:fI (some m)=(a:Int):=by simpa using l
  have H:(m:Int)=(a:Int):=B
  omega
 refine .skip<|ba<|au<|.region<|.mo rfl<|.ia (a+1) .add<|.ag rfl<|.nil ?_
 ·exact bp (a+1) ⟨a3,uT a6 a1 λk y hk d=>by
   intro e
   subst e
   rw[aeE]at d
   cases hz:(L.map Nm.p)[k]? with
   |none=>rw[hz]at d;cases d
   |some z=>
    rw[hz]at d
    have b5:fw z=⟨A,r.name⟩:=by simpa using d
    obtain⟨j2,l,B,_⟩:=Aj hz
    rw[b5,a2,b3]at l
    cases l
    omega⟩ (by omega) kE.c.c.c rH
 have b0:((L.map Nm.p).map fw).Nodup:=by rw[dZ (by simp only[aeF];have:=bI Y;omega)]at a1;exact a1
 refine .exit<|bD<|bG<|bE<|au<|.seq<|.sr<|.az rfl<|.block<|.cX [(1,_)] (X:=Nat) (λi=>i<=f.length/\((f.map (·.name)).take i).Nodup) (λi E=>(7,iN i)::E) (λ_ G=>G) (λi=>f.length-i) 0 ⟨aeB _,by simp⟩ kE.c.c rH ?_
 rintro i ⟨hi,n⟩
 refine .seq<|.sr<|.mo rfl<|.fa rfl<|.lo rfl<|.q (.bK C)<|.q .lss<|.zn<|.cond rfl (λl=>?_) λl=>?_
 have K:i<f.length:=cK l
 obtain⟨s,M⟩:=ca K
 have N:(f.map (·.name))[i]? =some s.name:=by rw[aeE,M];rfl
 refine .kn<|.seq<|.block<|.sr<|.az rfl<|.block<|.cX [(1,_),(7,_)] (X:=Nat) (λk=>k<=i/\∀j y,j<k->(f.map (·.name))[j]? =some y->y≠s.name) (λk E=>(8,iN k)::E) (λ_ G=>G) (λk=>i-k) 0 ⟨aeB _,λj y I=>absurd I (by omega)⟩ kE.c.c.c rH ?_
 rintro k ⟨hk,w⟩
 refine .seq<|.sr<|.mo rfl<|.mo rfl<|.q .lss<|.zn<|.cond rfl (λB=>?_) λB=>?_
 have J:k<i:=cK B
 obtain⟨t,Q⟩:∃t,f[k]? =some t:=⟨_,bk (by omega)⟩
 have S:(f.map (·.name))[k]? =some t.name:=by rw[aeE,Q];rfl
 refine .kn<|.seq<|.block<|.seq<|.fX mixed (by kernel_rfl)<|.fa rfl<|.lo rfl<|.mo rfl ?_
 refine .bF i C M (λd0=>?_)
 refine .fa rfl<|.lo rfl<|.fa rfl<|.lo rfl<|.mo rfl ?_
 refine .bF k C Q (λd1=>?_)
 refine .fa rfl<|.lo rfl<|.q .fb<|.zn<|.cond rfl (λH=>?_) λH=>?_
 refine .sr<|.az rfl<|.ret (bA (aJ (cW (bA (bA (aJ (cW (bA (aJ (aP rfl ?_))))))))))
 ·refine⟨?_,rfl⟩
  rw[aeS λhh=>oq J N S (by simpa using H) (T.1 hh).2.2]
  rfl
 refine .skip<|ba<|au<|.region<|.mo rfl<|.ia (k+1) .add<|.ag rfl<|.nil ?_
 ·exact bp (k+1) ⟨J,λj y I d=>by
   rcases ae1 j k with hh|hh
   ·exact w j y hh d
   ·obtain rfl:j=k:=by omega
    rw[S]at d
    cases d
    intro e
    rw[e]at H
    simp at H⟩ (by omega) kE.c.c.c rH
 have a0:k=i:=by have:=bI B;omega
 rw[a0]at w
 refine .exit<|bD<|bG<|bE<|ba<|au<|.region<|.mo rfl<|.ia (i+1) .add<|.ag rfl<|.nil ?_
 ·exact bp (i+1) ⟨K,uT N n w⟩ (by omega) kE.c.c rH
 have b2:(f.map (·.name)).Nodup:=by rw[dZ (by rw[aeF];have:=bI l;omega)]at n;exact n
 refine .exit<|bD<|bG<|bE<|au<|.sr<|.az rfl<|.ret (aP rfl ?_)
 ·refine⟨?_,rfl⟩
  rw[aeY (T.2 ⟨a9,b0,b2⟩)]
  rfl
def dv(n:Nat):List Value:=[iN n]
abbrev lS:=Int×Int×Bool
def jC(e:lS):List Value:=[.int .i64 e.1,.int .i64 e.2.1,.bool e.2.2]
instance(e:lS):cM (jC e):=⟨by simp[jC,ay]⟩
def Ed.m(e:Ed):lS:=(e.f,e.t,e.a)
theorem M7{E:List Ed}{now:List Nat}{n j:Nat}{e:Ed}(a:E[j]? =some e):(E.take (j+1)).foldl (fu now) (List.replicate n 0)=fu now ((E.take j).foldl (fu now) (List.replicate n 0)) e:=by rw[eo a,List.foldl_append];rfl
theorem Ap(v:Value)(E:List Ed)(n o:Nat)(R:aA)(h:RS R 3 jC v (E.map Ed.m))(L:∀e∈E,e.f<n/\e.t<n)(hn:n<=1000000)(hs:o<=1000000):
  Spec prog 80 [v,iN n,iN o] R [] λu H'=>∃T,H'=[T]/\OS 3 1 dv u (level E n o) T:=by
 have a5:=h.le
 have iv:=h.ay
 have Y:∀e∈E,e.f<n:=λe A=>(L e A).1
 rw[aeF]at a5
 refine Spec.body func80 rfl results80 ntmps80 rfl<|.sr<|.ag rfl<|.z<|.mo rfl ?_
 refine .makeSlice (enc:=dv) n 0 rfl rfl (by decide) (by simp[dv,ay]) rfl rfl (by omega) (by omega) (λb7 p Z=>?_)
 refine .ag rfl<|.zs<|.sr<|.az rfl<|.block<|.cX [(0,_),(1,_),(2,_)] (X:=Nat×Value×av) (λy=>y.1<=o/\OS 3 1 dv y.2.1 (level E n y.1) y.2.2) (λy E=>(8,iN y.1)::(7,y.2.1)::E) (λy G=>y.2.2::G) (λy=>o-y.1) (0,_,p) ⟨aeB _,Z⟩ kE.c.c.c.c.c rH ?_
 rintro⟨s,v7,p⟩ ⟨b0,B⟩
 simp only at b0 B⊢
 have i7:=B.ay
 have a6:∀i,(level E n s).getD i 0<=s:=uD Y s
 have b3:(level E n s).length=n:=kU s
 generalize O:level E n s=now at *
 refine .seq<|.sr<|.mo rfl<|.mo rfl<|.q .lss<|.zn<|.cond rfl (λF=>?_) λF=>?_
 have b1:s<o:=cK F
 refine .kn<|.seq<|.block<|.sr<|.mo rfl ?_
 refine .makeSlice (enc:=dv) n 0 rfl rfl (by decide) (by simp[dv,ay]) rfl rfl (by omega) (by omega) (λD r g=>?_)
 refine .ag rfl<|.zs<|.sr<|.az rfl<|.block<|.cX [(0,_),(1,_),(2,_),(7,_),(8,_),(9,_)] (X:=Nat×av) (λy=>y.1<=E.length/\OS 3 1 dv (.slice (some ⟨D,0,none⟩) n n) ((E.take y.1).foldl (fu now) (List.replicate n 0)) y.2) (λy E=>(10,iN y.1)::E) (λy G=>y.2::G) (λy=>E.length-y.1) (0,r) ⟨aeB _,g⟩ kE.c.c.c.c.c.c.c rH ?_
 rintro⟨j,r⟩ ⟨hj,g⟩
 simp only at hj g⊢
 refine .seq<|.sr<|.mo rfl<|.mo rfl<|.q (.bK h) ?_
 rw[aeF]
 refine .q .lss<|.zn<|.cond rfl (λH=>?_) λH=>?_
 have N:j<E.length:=cK H
 obtain⟨e,A⟩:=ca N
 have a1:(E.map Ed.m)[j]? =some e.m:=by rw[aeE,A];rfl
 obtain⟨a2,a3⟩:=L e (aR A)
 obtain⟨b,l,k⟩:=e
 simp only at a2 a3
 have b4:((E.take j).foldl (fu now) (List.replicate n 0)).length=n:=by rw[uz,afe]
 generalize a8:(E.take j).foldl (fu now) (List.replicate n 0)=nx at *
 have a7:(E.take (j+1)).foldl (fu now) (List.replicate n 0)=fu now nx ⟨b,l,k⟩:=by rw[M7 A,a8]
 obtain⟨a,M⟩:∃a,now[l]? =some a:=⟨_,bk (by omega)⟩
 obtain⟨z,C⟩:∃z,nx[b]? =some z:=⟨_,bk (by omega)⟩
 have K:now.getD l 0=a:=by rw[aeJ,M];rfl
 have S:nx.getD b 0=z:=by rw[aeJ,C];rfl
 have a0:=a6 l
 rw[K]at a0
 refine .kn<|.seq<|.block<|.sr<|.mo rfl<|.mo rfl ?_
 refine .bF j h a1 (λb5=>?_)
 refine .q (.aL rfl) ?_
 refine .cq (λV=>?_)
 refine .bZ rfl rfl<|.z<|.mo rfl<|.fa rfl<|.lo rfl ?_
 refine .bh l B M (λb6=>?_)
 refine .lo rfl<|.ag rfl<|.zs<|.sr<|.fa rfl<|.lo rfl<|.zn ?_
 refine bu.dc [(0,_),(1,_),(2,_),(7,_),(8,_),(9,_),(10,_),(11,_)] kE.c.c.c.c.c.c.c.c (X:=Unit) (λ_=>True) (λ_ E=>(12,.int .i64 ((a+(if k then 1 else 0):Nat):Int))::E) (λ_=>[bl V (jC (Ed.m ⟨b,l,k⟩)) 266,r,p]) ?_ ?_
 refine .cond rfl (λI=>?_) λI=>?_
 refine .region<|.mo rfl<|.ia (a+1) .add<|.ag rfl<|.nil ?_
 ·exact aD () aeA (kE.c.c.c.c.c.c.c.c.nk rfl (by have h:k=_:=I;simp[h])) rH
 refine .skip ?_
 ·exact aD () aeA (kE.c.c.c.c.c.c.c.c.nk rfl (by have h:k=_:=I;simp[h])) rH
 intro x Q
 refine au<|.sr<|.mo rfl<|.mo rfl<|.fa rfl<|.lo rfl ?_
 refine .bh b g C (λb8=>?_)
 refine .lo rfl<|.q .gtr<|.zn ?_
 refine bu.dc [(0,_),(1,_),(2,_),(7,_),(8,_),(9,_),(10,_)] kE.c.c.c.c.c.c.c (X:=av) (λT=>OS 3 1 dv (.slice (some ⟨D,0,none⟩) n n) (fu now nx ⟨b,l,k⟩) T) (λ_ E=>E) (λT=>[T,p]) ?_ ?_
 refine .cond rfl (λJ=>?_) λJ=>?_
 refine .region<|.mo rfl<|.fa rfl<|.lo rfl<|.mo rfl ?_
 refine .bh b g C (λc0=>?_)
 refine .gk b g C (a+(if k then 1 else 0)) (λU W=>?_)
 refine .nil ?_
 ·exact aD U (by unfold fu Ed.w;simp only;rw[K,S,aeG (by have:=cL J;omega)];exact W) kE.c.c.c.c.c.c.c (aK [1,1])
 refine .skip ?_
 ·exact aD r (by unfold fu Ed.w;simp only;rw[K,S,aeC (by have:=bI J;omega)];exact g) kE.c.c.c.c.c.c.c (aK [1,1])
 intro x Q
 have b2:OS 3 1 dv (.slice (some ⟨D,0,none⟩) n n) (fu now nx ⟨b,l,k⟩) x:=Q
 refine ba<|au<|.region<|.mo rfl<|.ia (j+1) .add<|.ag rfl<|.nil ?_
 ·exact bp (j+1,x) ⟨N,by simp only;rw[a7];exact b2⟩ (by simp only;omega) kE.c.c.c.c.c.c.c rH
 have a4:E.length<=j:=by have:=bI H;omega
 rw[dZ a4]at g
 refine .exit<|bD<|bG<|bE<|au<|.region<|.mo rfl<|.ag rfl<|.nil<|ba<|au<|.region<|.mo rfl<|.ia (s+1) .add<|.ag rfl<|.nil ?_
 ·exact bp (s+1,_,r) ⟨b1,by simp only;unfold level;rw[O];exact g⟩ (by simp only;omega) (((((kE.d rfl).d rfl).d rfl).d rfl).d rfl) (aK [0])
 have a9:s=o:=by have:=bI F;omega
 refine .exit<|bD<|bG<|bE<|au<|.sr<|.mo rfl<|.az rfl<|.ret (br _ (.one (.tmp rfl)) (.one [0] _) ?_)
 ·refine⟨p,by simp[take],?_⟩
  rw[<-a9,O]
  exact B
def WE(ok:Bool)(E:List lS)(o:Option (List Ed)):Prop:=match o with
 |some E'=>ok=true/\E=E'.map Ed.m
 |none=>ok=false
def ji(ec:ByteArray)(t:Ty):Ty:=⟨t.space,if ec=⟨#[]⟩then t.rel else ec⟩
theorem rL(l:List (ByteArray×Rl)):∀ks:List Ty,match findAll l ks with
  |some o=>(ks.all λt=>(bV l t).isSome)=true/\(o.map λk:Nat=>(k:Int))=ks.map λt=>fI (bV l t)
  |none=>(ks.all λt=>(bV l t).isSome)=false
 |[]=>⟨rfl,rfl⟩
 |t::ks=>by
  have a:=rL l ks
  unfold findAll
  cases h:bV l t with
  |none=>simp[h]
  |some i=>
   simp only[ae3,aeT,h,Option.isSome_some,aff,List.map_cons]
   cases h2:findAll l ks with
   |none=>rw[h2]at a;exact a
   |some o=>rw[h2]at a;exact⟨a.1,by rw[<-a.2];rfl⟩
def TG(l:List (ByteArray×Rl))(sp:ByteArray)(r:Rl)(n:Nd)(tys:List Ty)(ec:ByteArray):Prop:=
 (n.kind=1/\tys=r.types/\ec=⟨#[]⟩)\/(n.kind=3/\ec=n.ec/\∃k,bV l ⟨sp,n.rel⟩=some k/\tys=(l.map (·.2.types)).getD k [])
def outs(l:List (ByteArray×Rl))(i:Nat)(ab:Bool)(ec:ByteArray)(ts:List Ty):List lS:=(eh ts).map λt=>((i:Int),fI (bV l (ji ec t)),ab)
def nz(l:List (ByteArray×Rl))(ec:ByteArray)(ts:List Ty):Bool:=(eh ts).all λt=>(bV l (ji ec t)).isSome
theorem AL{a:List Ty}{j:Nat}{t:Ty}(h:a[j]? =some t):eh (a.take (j+1))=eh (a.take j)++if t.space=⟨#[]⟩then []else [t]:=by
 unfold eh
 rw[eo h,List.filter_append]
 congr 1
 by_cases e:t.space=⟨#[]⟩
 ·simp[e]
 ·simp[e]
theorem WE.all{l:List (ByteArray×Rl)}{i:Nat}{ab:Bool}(ks:List Ty):WE (ks.all λt=>(bV l t).isSome) (ks.map λt=>((i:Int),fI (bV l t),ab)) ((findAll l ks).map λts=>ts.map λt=>(⟨i,t,ab⟩:Ed)):=by
 have h:=rL l ks
 cases h2:findAll l ks with
 |none=>rw[h2]at h;exact h
 |some o=>
  rw[h2]at h
  refine⟨h.1,?_⟩
  have:(ks.map λt=>((i:Int),fI (bV l t),ab))=(ks.map λt=>fI (bV l t)).map λz=>((i:Int),z,ab):=by rw[aeQ];rfl
  rw[this, <-h.2]
  simp[Ed.m,afc]
theorem NV{l:List (ByteArray×Rl)}{i:Nat}{g:ByteArray}{r:Rl}{ab:Bool}{n:Nd}{c:List Ty}{a:ByteArray}(h:TG l g r n c a)(m:n.kind=3->n.ec≠⟨#[]⟩):
  WE (nz l a c&&(decide (a=⟨#[]⟩)||decide (0<(outs l i ab a c).length))) (outs l i ab a c) (fv l i g r ab n):=by
 rcases h with⟨b,rfl,rfl⟩|⟨b,rfl,k,j,rfl⟩
 ·have e:∀t:Ty,ji ⟨#[]⟩ t=t:=λt=>by unfold ji;rw[aeG rfl]
  have:=WE.all (l:=l) (i:=i) (ab:=ab) (eh r.types)
  unfold fv targets nz outs
  simp only[e,b,aeP,decide_true,afg,aeK]
  exact this
 ·have d:=m b
  have e:∀t:Ty,ji n.ec t=⟨t.space,n.ec⟩:=λt=>by unfold ji;rw[aeC d]
  unfold fv targets nz outs
  simp only[e,b,j,aeS d,afh,aeC (show ¬(3:Int)=1 by decide),aeC (show ¬(3:Int)=2 by decide),aeP,aeF]
  generalize o:eh ((l.map (·.2.types)).getD k [])=zs
  have f:=WE.all (l:=l) (i:=i) (ab:=ab) (zs.map λt=>(⟨t.space,n.ec⟩:Ty))
  rw[List.all_map,aeQ]at f
  cases zs with
  |nil=>rfl
  |cons z zs=>
   simp only[ae9,Nat.zero_lt_succ,decide_true,aeK]
   exact f
theorem Bp{l:List (ByteArray×Rl)}{i:Nat}{c:ByteArray}{r:Rl}{A B:List (Nat×Bool)}{f g:Bool}{h j:List lS}
  (d:WE f h (cat (λp:Nat×Bool=>(r.nodes[p.1]?).bind λn=>fv l i c r p.2 n) A))(e:WE g j (cat (λp:Nat×Bool=>(r.nodes[p.1]?).bind λn=>fv l i c r p.2 n) B)):
  WE (f&&g) (h++j) (cat (λp:Nat×Bool=>(r.nodes[p.1]?).bind λn=>fv l i c r p.2 n) (A++B)):=by
 rw[qh]
 revert d e
 generalize cat (λp:Nat×Bool=>(r.nodes[p.1]?).bind λn=>fv l i c r p.2 n) A=a
 generalize cat (λp:Nat×Bool=>(r.nodes[p.1]?).bind λn=>fv l i c r p.2 n) B=b
 intro d e
 cases a with
 |none=>have k:f=false:=d;subst k;exact aeU _
 |some a=>
  cases b with
  |none=>have m:g=false:=e;subst m;exact aeN _
  |some b=>obtain⟨rfl,rfl⟩:=d;obtain⟨rfl,rfl⟩:=e;exact⟨rfl,by simp⟩
theorem NW{l:List (ByteArray×Rl)}{i:Nat}{a:ByteArray}{r:Rl}{ab:Bool}{n:Nd}(b:n.kind=2):
  WE (decide (0<=fI (bV l ⟨a,n.rel⟩))) [((i:Int),fI (bV l ⟨a,n.rel⟩),ab)] (fv l i a r ab n):=by
 have h:=WE.all (l:=l) (i:=i) (ab:=ab) [(⟨a,n.rel⟩:Ty)]
 unfold fv targets
 rw[aeC (by omega),aeG b]
 have e:decide (0<=fI (bV l ⟨a,n.rel⟩))=([(⟨a,n.rel⟩:Ty)].all λt=>(bV l t).isSome):=by
  simp only[aeT,ae4,aeK]
  cases bV l ⟨a,n.rel⟩with
  |none=>rfl
  |some k=>simp[fI]
 rw[e]
 exact h
theorem NU{l:List (ByteArray×Rl)}{i:Nat}{a:ByteArray}{r:Rl}{ab:Bool}{n:Nd}(b:n.kind=3)(h:fI (bV l ⟨a,n.rel⟩)<0):WE false [] (fv l i a r ab n):=by
 cases hr:bV l ⟨a,n.rel⟩with
 |none=>
  unfold fv targets
  rw[aeC (by omega),aeC (by omega),aeG b,hr]
  rfl
 |some k=>rw[hr]at h;simp only[fI]at h;omega
def rf(L:List Nm):Prop:=∀x∈L,x.2.r.types.length<=8/\x.2.r.nodes.length<=64/\fT isWord x.2.r.nodes≠0
theorem Ri{s:ByteArray}(h:isWord s=true):s≠⟨#[]⟩:=by
 intro e
 subst e
 revert h
 decide+kernel
theorem NS{L:List Nm}{k:Nat}{y:Nm}(h:L[k]? =some y):((L.map Nm.p).map (·.2.types)).getD k []=y.2.r.types:=by
 rw[aeJ,aeE,aeE,h]
 rfl
theorem PB(v:Value)(L:List Nm)(R:aA)(h:re R v L)(hL:rf L)(i:Nat)(l:ByteArray)(vt vn:Value)(r:Rl)(a0:L[i]? =some (l,⟨vt,vn,r⟩)):
  ∀(m b d:Nat),tree isWord r.nodes m=some (b,d)->∀(ab:Bool) (j:Int),j=(m:Int)-1->
  Spec prog 142 [v,iN i,.int .i64 j,.bool ab] R [] λu H'=>∃T,H'=[T]/\∃w E ok,u=.tuple [w,.bool ok].toArray/\OS 266 3 jC w E T/\E.length<=8*(m-b)/\
   WE ok E (cat (λp:Nat×Bool=>(r.nodes[p.1]?).bind λn=>fv (L.map Nm.p) i l r p.2 n) (fz r.nodes m ab)):=by
 intro m
 induction m using Nat.strongRecOn with
 |_ m ih=>
 intro b d Y ab j hj
 have U:=h.rs
 have iv:=U.ay
 have c1:=h.all _ (aR a0)
 have c0:RS R 2 Ty.enc vt r.types:=c1.t
 have b9:RS R 5 Nd.enc vn r.nodes:=c1.d
 have e5:=c0.ay
 have e4:=b9.ay
 obtain⟨b3,c5,c7⟩:=hL _ (aR a0)
 simp only at b3 c5 c7
 have d9:=nJ Y
 obtain⟨e,rfl⟩:∃e,m=e+1:=⟨m-1,by omega⟩
 have c8:j=(e:Int):=by omega
 subst c8
 obtain⟨n,W⟩:∃n,r.nodes[e]? =some n:=⟨_,bk (by omega)⟩
 have a8:∀ab,n.op=false->cat (λp:Nat×Bool=>(r.nodes[p.1]?).bind λn=>fv (L.map Nm.p) i l r p.2 n) (fz r.nodes (e+1) ab)=fv (L.map Nm.p) i l r ab n:=λab ho=>by
  rw[tf W ho]
  unfold cat
  simp only[W,ae3,cat]
  cases fv (L.map Nm.p) i l r ab n<;>simp
 have a4:n.op=false->n.leaf isWord=true/\b=e:=λho=>by
  rw[lp W ho]at Y
  split at Y
  ·rename_i hl;cases Y;exact⟨hl,rfl⟩
  ·cases Y
 refine Spec.gj (H':=[[]]) (by simp)<|Spec.body func142 rfl results142 ntmps142 rfl<|.sr<|.ag rfl<|.ag rfl<|.z<|.ag rfl<|.z<|.mo rfl<|.mo rfl ?_
 refine .bF i U a0 (λf4=>?_)
 refine .fa rfl<|.fa rfl<|.lo rfl<|.mo rfl ?_
 refine .bF e b9 W (λf5=>?_)
 refine .q (.aL rfl) ?_
 refine .cq (λa1=>?_)
 refine .bZ rfl rfl<|.zs<|.seq ?_
 refine bu.dc [(0,_),(1,_),(3,_),(10,_),(11,_)] kE.c.c.c.c.c (X:=Unit) (λ_=>True) (λ_ E=>(45,.bool n.op)::E) (λ_=>[bl a1 n.enc 199,[]]) ?_ ?_
 refine .region<|.fa rfl<|.lo rfl<|.q .cr<|.mo rfl<|.split (t:=36) rfl (λH=>?_) (λH=>?_)
 refine .gF H<|.gF H<|.gF H<|.q (.aU H)<|.mo rfl<|.gX<|.gX<|.gX<|.q .dj<|.nil ?_
 ·exact aD () aeA (kE.c.c.c.c.c.cj rfl (by clear ih;grind[Nd.op])) rH
 refine .gT H<|.fa rfl<|.gT H<|.lo rfl<|.gT H<|.q .cr<|.q (.aN H)<|.mo rfl<|.split (t:=41) rfl (λI=>?_) (λI=>?_)
 refine .gF I<|.gF I<|.gF I<|.q (.aU I)<|.nil ?_
 ·exact aD () aeA (kE.c.c.c.c.c.cj rfl (by clear ih;grind[Nd.op])) rH
 refine .gT I<|.fa rfl<|.gT I<|.lo rfl<|.gT I<|.q .cr<|.q (.aN I)<|.nil ?_
 ·exact aD () aeA (kE.c.c.c.c.c.cj rfl (by clear ih;grind[Nd.op])) rH
 intro y hy
 refine au<|.cond rfl (λA=>?_) λA=>?_
 have b8:n.op=true:=A
 obtain⟨b',x,y,V,h3,K,M,N,h7,h8,h9⟩:=nI W b8 Y
 have d8:=nJ V
 have c6:=nJ K
 simp only at K c6 h9
 have b1:=tg W b8 ⟨by omega,by omega⟩ ab
 rw[show n.a.toNat+1=b' by omega,show n.b.toNat+1=e by omega]at b1
 refine .sr<|.mo rfl<|.mo rfl<|.fa rfl<|.lo rfl<|.mo rfl<|.dx ((ih b' (by omega) b y K ab _ M).weaken dt) (λu Ta B=>?_)
 obtain⟨wa,Ea,e8,rfl,b2,e1,b5⟩:=B
 have e7:=b2.ay
 refine .mo rfl<|.q .extract<|.q .extract<|.ag rfl<|.ag rfl<|.zs ?_
 refine bu.dc [(10,_),(12,_),(13,_)] kE.c.c.c (X:=Value×List lS×Bool×av) (λy=>OS 266 3 jC y.1 y.2.1 y.2.2.2/\y.2.1.length<=8*(e-b')/\WE y.2.2.1 y.2.1 (cat (λp:Nat×Bool=>(r.nodes[p.1]?).bind λn=>fv (L.map Nm.p) i l r p.2 n) (fz r.nodes e (ab||n.kind==6)))) (λy E=>(14,y.1)::(15,.bool y.2.2.1)::E) (λy=>[bl a1 n.enc 199,[],Ta,y.2.2.2]) ?_ ?_
 refine .region<|.mo rfl<|.mo rfl<|.fa rfl<|.lo rfl<|.mo rfl<|.mo rfl<|.split (t:=61) rfl (λs=>?_) (λs=>?_)
 refine .gF s<|.gF s<|.gF s<|.q (.aU s)<|.dx ((ih e (by omega) b' x V _ _ N).weaken dt) (λu Tb B=>?_)
 obtain⟨wb,Eb,a7,rfl,J,a2,S⟩:=B
 have c3:=J.ay
 refine .mo rfl<|.q .extract<|.q .extract<|.ag rfl<|.ag rfl<|.nil ?_
 ·exact aD (wb,Eb,a7,Tb) ⟨J,a2,by simpa only[A,s,afg,afh]using S⟩ kE.c.c.c.c.c (aK [2,2,1,0])
 refine .gT s<|.fa rfl<|.gT s<|.lo rfl<|.gT s<|.q .cr<|.q (.aN s)<|.dx ((ih e (by omega) b' x V _ _ N).weaken dt) (λu Tb B=>?_)
 obtain⟨wb,Eb,a7,rfl,J,a2,S⟩:=B
 have c3:=J.ay
 refine .mo rfl<|.q .extract<|.q .extract<|.ag rfl<|.ag rfl<|.nil ?_
 ·exact aD (wb,Eb,a7,Tb) ⟨J,a2,by simpa only[A,s,afg,afh]using S⟩ kE.c.c.c.c.c (aK [2,2,1,0])
 intro y hy
 obtain⟨wb,Eb,a7,Tb⟩:=y
 obtain⟨J,a2,S⟩:=hy
 simp only at J a2 S⊢
 have c3:=J.ay
 refine au<|.sr<|.mo rfl<|.mo rfl<|.append (OS.nil (enc:=jC) (sz:=3)) b2.rx (by simp only[List.length_nil];omega) (λv1 T1 C=>?_)
 rw[List.nil_append]at C
 have c2:=C.ay
 refine .ag rfl<|.z<|.mo rfl<|.mo rfl<|.append C J.rx (by omega) (λv2 T2 b0=>?_)
 have e6:=b0.ay
 refine .mo rfl<|.mo rfl<|.split (t:=76) rfl (λO=>?_) (λO=>?_)
 refine .gT O<|.mo rfl<|.q (.aU O)<|.ag rfl<|.az rfl<|.ret (aJ (br _ (.two (.tmp rfl) (.tmp rfl)) (.one [1] _) ?_))
 ·refine⟨T2,by simp[take,bN],v2,_,_,rfl,b0,?_,?_⟩
  ·rw[aeL];omega
  ·rw[b1];have hh:=Bp b5 S;simpa only[O,aff,aeU]using hh
 refine .gF O<|.q (.aN O)<|.ag rfl<|.az rfl<|.ret (aJ (br _ (.two (.tmp rfl) (.tmp rfl)) (.one [1] _) ?_))
 ·refine⟨T2,by simp[take,bN],v2,_,_,rfl,b0,?_,?_⟩
  ·rw[aeL];omega
  ·rw[b1];have hh:=Bp b5 S;simpa only[O,aff,aeU]using hh
 refine .kn<|.seq<|.sr<|.fa rfl<|.lo rfl<|.q .cr<|.zn<|.cond rfl (λV=>?_) λV=>?_
 refine .seq<|.dY 8 mixed (by kernel_rfl) ?_
 conv=>arg 6;dsimp only[List.take]
 refine .mo rfl<|.mo rfl<|.mo rfl ?_
 refine .bF i U a0 (λf6=>?_)
 refine .fa rfl<|.lo rfl<|.fa rfl<|.lo rfl<|.nil<|.aQ ((pF v L R h l n.rel).weaken dt) (λu B=>?_)
 subst B
 refine .ag rfl<|.z<|.mo rfl<|.mo rfl<|.mo rfl<|.mo rfl<|.q .dw ?_
 refine .fq (λd7=>?_)
 refine .append (OS.nil (enc:=jC) (sz:=3)) (RS.lits (xs:=[((i:Int),fI (bV (L.map Nm.p) ⟨l,n.rel⟩),ab)]) rfl (by simp[jC]) (by simp[jC,ay])) (by simp) (λv1 T1 C=>?_)
 rw[List.nil_append]at C
 have c2:=C.ay
 refine .mo rfl<|.q .geq<|.ag rfl<|.az rfl<|.ret (aJ (br _ (.two (.tmp rfl) (.tmp rfl)) (.one [2] _) ?_))
 ·refine⟨T1,by simp[take,bN],v1,_,_,rfl,C,?_,?_⟩
  ·have:=(a4 A).2;simp only[aeM];omega
  ·rw[a8 ab A];exact NW (by simpa using V)
 have e0:n.kind=1\/n.kind=3:=by have hl:=(a4 A).1;grind[Nd.leaf]
 refine .kn<|.sr<|.mo rfl<|.mo rfl ?_
 refine .bF i U a0 (λe9=>?_)
 refine .fa rfl<|.fa rfl<|.lo rfl<|.ag rfl<|.ag rfl<|.zs<|.sr<|.fa rfl<|.lo rfl<|.q .cr<|.zn ?_
 refine bu.dc [(0,_),(1,_),(3,_),(10,_)] kE.c.c.c.c (X:=Value×List Ty×ByteArray) (λy=>RS R 2 Ty.enc y.1 y.2.1/\y.2.1.length<=8/\TG (L.map Nm.p) l r n y.2.1 y.2.2) (λy E=>(17,y.1)::(18,.string y.2.2)::E) (λy=>[bl a1 n.enc 199,[]]) ?_ ?_
 refine .cond rfl (λh3=>?_) λh3=>?_
 refine .seq<|.dY 8 mixed (by kernel_rfl) ?_
 conv=>arg 6;dsimp only[List.take]
 refine .mo rfl<|.mo rfl<|.mo rfl ?_
 refine .bF i U a0 (λf0=>?_)
 refine .fa rfl<|.lo rfl<|.fa rfl<|.lo rfl<|.nil<|.aQ ((pF v L R h l n.rel).weaken dt) (λu B=>?_)
 subst B
 refine .ag rfl<|.zs<|.sr<|.mo rfl<|.q .lss<|.zn<|.cond rfl (λK=>?_) λK=>?_
 refine .sr<|.ag rfl<|.az rfl<|.ret (aJ (pa (aJ (br _ (.two (.tmp rfl) (.tmp rfl)) (.one [1] _) ?_))))
 ·refine⟨[],by simp[take,bN],_,[],_,rfl,OS.nil,by simp,?_⟩
  rw[a8 ab A]
  exact NU (by simpa using h3) (by simpa using K)
 obtain⟨k,hk⟩:∃k,bV (L.map Nm.p) ⟨l,n.rel⟩=some k:=by
  cases hr:bV (L.map Nm.p) ⟨l,n.rel⟩with
  |none=>rw[hr]at K;simp[fI]at K
  |some k=>exact⟨k,rfl⟩
 have d1:k<L.length:=by have:=Ak hk;rwa [aeF]at this
 obtain⟨⟨sk,c4,d5,rk⟩,a3⟩:=ca d1
 have b6:=h.all _ (aR a3)
 have b7:RS R 2 Ty.enc c4 rk.types:=b6.t
 have e3:=b7.ay
 have e2:One d5:=RS.ay b6.d
 have c9:=(hL _ (aR a3)).1
 have pk:=U.pc a3
 have d0:fI (bV (L.map Nm.p) ⟨l,n.rel⟩)=(k:Int):=by rw[hk];rfl
 refine .kn<|.fX mixed (by kernel_rfl)<|.mo rfl<|.mo rfl<|.q (.bF k U a3 rfl rfl d0)<|.fa rfl<|.fa rfl<|.lo rfl<|.fa rfl<|.lo rfl<|.ag rfl<|.ag rfl<|.nil ?_
 ·exact aD (c4,rk.types,n.ec) ⟨b7,c9,.inr ⟨by simpa using h3,rfl,k,hk,(NS a3).symm⟩⟩ kE.c.c.c.c.c.c rH
 refine .skip ?_
 ·exact aD (vt,r.types,⟨#[]⟩) ⟨c0,b3,.inl ⟨by grind,rfl,rfl⟩⟩ kE.c.c.c.c.c.c rH
 intro x hx
 obtain⟨vy,D,g⟩:=x
 obtain⟨Z,d4,b4⟩:=hx
 simp only at Z d4 b4⊢
 have iy:=Z.ay
 refine au<|.sr<|.ag rfl<|.zs<|.sr<|.az rfl<|.block<|.cX [(0,_),(1,_),(3,_),(17,_),(18,_)] (X:=Nat×Value×av) (λy=>y.1<=D.length/\OS 266 3 jC y.2.1 (outs (L.map Nm.p) i ab g (D.take y.1)) y.2.2) (λy E=>(21,iN y.1)::(10,y.2.1)::(20,.bool (nz (L.map Nm.p) g (D.take y.1)))::E) (λy G=>y.2.2::G) (λy=>D.length-y.1) (0,sZ,[]) ⟨aeB _,OS.nil⟩ kE.c.c.c.c.c.c.c.c (aK [1,0]) ?_
 rintro⟨q,vo,To⟩ ⟨hq,Q⟩
 simp only at hq Q⊢
 have io:=Q.ay
 have d2:(outs (L.map Nm.p) i ab g (D.take q)).length<=8:=by
  unfold outs eh
  rw[aeF]
  exact aeR (afa _ _) (by rw[aeI];omega)
 refine .seq<|.sr<|.mo rfl<|.mo rfl<|.q (.bK Z)<|.q .lss<|.zn<|.cond rfl (λM=>?_) λM=>?_
 have a9:q<D.length:=cK M
 obtain⟨t,a6⟩:=ca a9
 have a5:=AL a6
 refine .kn<|.seq<|.block<|.seq<|.sr<|.mo rfl<|.mo rfl ?_
 refine .bF q Z a6 (λf1=>?_)
 refine .fa rfl<|.lo rfl<|.q .fb<|.zn<|.cond rfl (λN=>?_) λN=>?_
 refine .exit<|bD<|bE<|au<|.region<|.mo rfl<|.ia (q+1) .add<|.ag rfl<|.nil ?_
 ·exact bp (q+1,vo,To) ⟨a9,by simp only;unfold outs;rw[a5,aeG (by simpa using N),aeV];exact Q⟩ (by simp only;omega) (((kE.c.c.c.c.c.cj rfl (by simp only;unfold nz;rw[a5,aeG (by simpa using N),aeV])).cons rfl).cons rfl) rH
 refine .kn<|.sr<|.mo rfl<|.mo rfl ?_
 refine .bF q Z a6 (λf2=>?_)
 refine .fa rfl<|.lo rfl<|.ag rfl<|.zs<|.sr<|.mo rfl<|.q .iJ<|.zn ?_
 refine bu.dc [(0,_),(1,_),(3,_),(10,_),(17,_),(18,_),(20,_),(21,_)] kE.c.c.c.c.c.c.c.c (X:=Unit) (λ_=>True) (λ_ E=>(22,.string (ji g t).rel)::E) (λ_=>[To,bl a1 n.enc 199]) ?_ ?_
 refine .cond rfl (λh7=>?_) λh7=>?_
 refine .region<|.mo rfl<|.ag rfl<|.nil ?_
 ·exact aD () aeA (kE.c.c.c.c.c.c.c.c.xo rfl (by unfold ji;grind)) rH
 refine .skip ?_
 ·exact aD () aeA (kE.c.c.c.c.c.c.c.c.xo rfl (by unfold ji;grind)) rH
 intro x hx
 refine au<|.sr<|.mo rfl<|.mo rfl<|.mo rfl ?_
 refine .bF q Z a6 (λf3=>?_)
 refine .fa rfl<|.lo rfl<|.mo rfl<|.aQ ((pF v L R h t.space (ji g t).rel).weaken dt) (λu B=>?_)
 subst B
 rw[show(⟨t.space,(ji g t).rel⟩:Ty)=ji g t from rfl]
 refine .ag rfl<|.zs ?_
 refine bu.dc [(0,_),(1,_),(3,_),(10,_),(17,_),(18,_),(21,_),(23,_)] kE.c.c.c.c.c.c.c.c (X:=Unit) (λ_=>True) (λ_ E=>(20,.bool (nz (L.map Nm.p) g (D.take q)&&(bV (L.map Nm.p) (ji g t)).isSome))::E) (λ_=>[To,bl a1 n.enc 199]) ?_ ?_
 refine .region<|.mo rfl<|.mo rfl<|.split (t:=157) rfl (λF=>?_) (λF=>?_)
 refine .gT F<|.mo rfl<|.gT F<|.q .geq<|.q (.aU F)<|.ag rfl<|.nil ?_
 ·exact aD () aeA (kE.c.c.c.c.c.c.c.c.cj rfl (by simp only[F,aff,aeU]<;>cases bV (L.map Nm.p) (ji g t)<;>simp[fI])) rH
 refine .gF F<|.gF F<|.q (.aN F)<|.ag rfl<|.nil ?_
 ·exact aD () aeA (kE.c.c.c.c.c.c.c.c.cj rfl (by simp only[F,aff,aeU]<;>cases bV (L.map Nm.p) (ji g t)<;>simp[fI])) rH
 intro y hy
 refine au<|.region<|.mo rfl<|.mo rfl<|.mo rfl<|.mo rfl<|.q .dw ?_
 refine .fq (λd6=>?_)
 refine .append Q (RS.lits (xs:=[((i:Int),fI (bV (L.map Nm.p) (ji g t)),ab)]) rfl (by simp[jC]) (by simp[jC,ay])) (by simp only[aeM];omega) (λv1 T1 C=>?_)
 have c2:=C.ay
 refine .ag rfl<|.nil<|ba<|au<|.region<|.mo rfl<|.ia (q+1) .add<|.ag rfl<|.nil ?_
 ·exact bp (q+1,v1,T1) ⟨a9,by simp only;unfold outs;rw[a5,aeC (by simpa using N),aeH];exact C⟩ (by simp only;omega) (((kE.c.c.c.c.c.cj rfl (by simp only;unfold nz;rw[a5,aeC (by simpa using N),ae5];simp)).cons rfl).cons rfl) (aK [1,1])
 have d3:D.length<=q:=by have:=bI M;omega
 rw[dZ d3]at Q d2⊢
 refine .exit<|bD<|bG<|bE<|au<|.seq ?_
 refine bu.dc [] (dS.nil _) (X:=Unit) (λ_=>True) (λ_ E=>(8,vo)::(9,.bool (nz (L.map Nm.p) g D&&(decide (g=⟨#[]⟩)||decide (0<(outs (L.map Nm.p) i ab g D).length))))::E) (λ_=>[To]) ?_ ?_
 refine .region<|.mo rfl<|.mo rfl<|.mo rfl<|.split (t:=170) rfl (λf=>?_) (λf=>?_)
 refine .gT f<|.mo rfl<|.gT f<|.q .fb<|.gT f<|.mo rfl<|.split (t:=173) rfl (λo=>?_) (λo=>?_)
 refine .gF o<|.gF o<|.gF o<|.gT f<|.q (.aU o)<|.q (.aU f)<|.ag rfl<|.ag rfl<|.nil ?_
 ·exact aD () aeA (((dS.nil _).cj rfl (by simp[M,f,o])).cons rfl) (aK [0])
 refine .gT o<|.mo rfl<|.gT o<|.q (.eR Q)<|.gT o<|.q .gtr<|.gT f<|.q (.aN o)<|.q (.aU f)<|.ag rfl<|.ag rfl<|.nil ?_
 ·exact aD () aeA (((dS.nil _).cj rfl (by simp[M,f,o])).cons rfl) (aK [0])
 refine .gF f<|.gF f<|.gF f<|.dB rfl<|.dB rfl<|.dB rfl<|.gF f<|.q (.aN f)<|.ag rfl<|.ag rfl<|.nil ?_
 ·exact aD () aeA (((dS.nil _).cj rfl (by simp[M,f])).cons rfl) (aK [0])
 intro y hy
 refine au<|.ret (br _ (.two (.tmp rfl) (.tmp rfl)) (.one [0] _) ?_)
 ·refine⟨To,by simp[take,bN],vo,_,_,rfl,Q,?_,?_⟩
  ·have:=(a4 A).2;omega
  ·rw[a8 ab A]
   refine NV b4 λhk=>?_
   have hl:=(a4 A).1
   exact Ri (by grind[Nd.leaf])
theorem WE.nR{c d:Bool}{e f:List lS}{a b:Option (List Ed)}(g:WE c e a)(h:WE d f b):WE (c&&d) (e++f) (a.bind λx=>b.map (x++ ·)):=by
 cases a with
 |none=>have i:c=false:=g;subst i;exact aeU _
 |some a=>
  cases b with
  |none=>have j:d=false:=h;subst j;exact aeN _
  |some b=>obtain⟨rfl,rfl⟩:=g;obtain⟨rfl,rfl⟩:=h;exact⟨rfl,by simp⟩
theorem tT{α:Type}{x:α}:∀{l:List α} {i b:Nat},l[i]? =some x->jX b (l.take (i+1))=jX b (l.take i)++[(b+i,x)]
 |[],i,b,h=>by simp at h
 |y::l,0,b,h=>by simp only[ae6,ae7]at h;subst h;rfl
 |y::l,i+1,b,h=>by
  rw[afr,afr,jX,jX,tT (l:=l) (i:=i) (b:=b+1) (by simpa using h),show b+1+i=b+(i+1) by omega]
  rfl
def lP(l:List (ByteArray×Rl))(t:Ty):Bool:=decide (t.space=⟨#[]⟩)||(bV l t).isSome
theorem P2{l:List (ByteArray×Rl)}{a:List Ty}:(findAll l (eh a)).isSome=a.all (lP l):=by
 have h:=rL l (eh a)
 have e:((eh a).all λt=>(bV l t).isSome)=a.all (lP l):=by
  unfold eh
  rw[List.all_filter]
  congr 1
  funext t
  unfold lP
  cases decide (t.space=⟨#[]⟩)<;>simp
 rw[<-e]
 cases hf:findAll l (eh a)with
 |none=>rw[hf]at h;exact h.symm
 |some o=>rw[hf]at h;exact h.1.symm
theorem WE.rel{l:List (ByteArray×Rl)}{i:Nat}{a:ByteArray}{r:Rl}{ok:Bool}{E:List lS}(h:WE ok E (cat (λp:Nat×Bool=>(r.nodes[p.1]?).bind λn=>fv l i a r p.2 n) (fz r.nodes r.nodes.length false))):
  WE (r.types.all (lP l)&&ok) E (lL l i a r):=by
 unfold lL
 rw[<-P2]
 cases (findAll l (eh r.types)).isSome with
 |true=>simpa using h
 |false=>exact aeU _
def pL(l:List (ByteArray×Rl))(s:Sc):Bool:=(bV l ⟨s.kb,s.rel⟩).isSome
theorem xv{l:List Nd}(h:fT isWord l≠0):∃d,tree isWord l l.length=some (0,d):=by
 unfold fT at h
 cases ht:tree isWord l l.length with
 |none=>rw[ht]at h;exact absurd rfl h
 |some r=>
  obtain⟨b,d⟩:=r
  rw[ht]at h
  simp only at h
  split at h
  ·rename_i a;subst a;exact⟨d,rfl⟩
  ·exact absurd rfl h
theorem qt(o:Option Nat):decide (0<=fI o)=o.isSome:=by cases o<;>simp[fI]
theorem OM(c:bO)(R:aA)(h:c.is R)(hf:c.jF)(hr:rf c.fV):Spec prog 78 [.agg c.enc.toArray] R [] λu H'=>∃T,H'=[T]/\∃w E ok,u=.tuple [w,.bool ok].toArray/\OS 266 3 jC w E T/\WE ok E c.plain.gM:=by
 have b3:=vi c R h hf
 have a0:=zE h
 have c1:=hf.fV
 have a3:c.plain.gM=if c.scopes.all (pL (c.fV.map Nm.p))=true then cat (λp:Nat×(ByteArray×Rl)=>lL (c.fV.map Nm.p) p.1 p.2.1 p.2.2) (jX 0 (c.fV.map Nm.p))else none:=by
  rw[po];rfl
 rw[a3]
 clear a3
 generalize b9:c.fV=L at *
 obtain⟨vs,U,d1,j⟩:=c
 have O:RS R 4 Sc.enc U j:=h.sc
 have c0:=O.le
 refine Spec.gj (H':=[[]]) (by simp)<|Spec.body func78 rfl results78 ntmps78 rfl<|.sr ?_
 refine .cg rfl (λY=>?_)
 refine .ag rfl<|.ag rfl<|.z<|.q (.aL rfl)<|.dx (b3.weaken dt) (λu v Q=>?_)
 refine .ag rfl<|.z<|.ag rfl<|.z<|.ag rfl<|.zs<|.sr<|.az rfl<|.block<|.cX [(1,_),(4,_)] (X:=Nat×Value×List lS×Bool×av) (λy=>y.1<=L.length/\OS 266 3 jC y.2.1 y.2.2.1 y.2.2.2.2/\y.2.2.1.length<=512*y.1/\WE y.2.2.2.1 y.2.2.1 (cat (λp:Nat×(ByteArray×Rl)=>lL (L.map Nm.p) p.1 p.2.1 p.2.2) (jX 0 ((L.map Nm.p).take y.1)))) (λy E=>(7,iN y.1)::(5,y.2.1)::(6,.bool y.2.2.2.1)::E) (λy G=>y.2.2.2.2::G) (λy=>L.length-y.1) (0,sZ,[],true,[]) ⟨aeB _,OS.nil,by simp,⟨rfl,rfl⟩⟩ kE.c.c.c.c.c bz.ir ?_
 rintro⟨i,v5,E5,ok,H⟩ ⟨hi,hO,a7,J⟩
 simp only at hi hO a7 J⊢
 refine .seq<|.sr<|.mo rfl<|.mo rfl<|.q (.eR Q)<|.q .lss<|.zn<|.cond rfl (λZ=>?_) λZ=>?_
 have a4:i<L.length:=cK Z
 obtain⟨⟨S,W,V,r⟩,F⟩:=ca a4
 have a1:=a0 _ (aR F)
 have M:RS R 2 Ty.enc W r.types:=a1.t
 have b5:RS R 5 Nd.enc V r.nodes:=a1.d
 have c4:cM (List.take 3 (List.drop 1 (np (S,(⟨W,V,r⟩:cm))))):=⟨a1.dl⟩
 obtain⟨b0,a8,a2⟩:=hr _ (aR F)
 simp only at b0 a8 a2
 obtain⟨d,a5⟩:=xv a2
 have b7:(L.map Nm.p)[i]? =some (S,r):=by rw[aeE,F];rfl
 have I:re (λb o=>R b o\/(b,o)∈v) u L:=⟨Q.rs λp hp=>.inr hp,λx hx=>(a0 x hx).mono λb o g=>.inl g⟩
 have c3:1<=r.nodes.length:=by have:=(nJ a5).1;omega
 refine .kn<|.seq<|.block<|.sr<|.mo rfl<|.mo rfl ?_
 refine .bh i Q F (λc5=>?_)
 refine .fa rfl<|.q (.loadT rfl) ?_
 refine .cq (λb8=>?_)
 refine .bZ rfl rfl<|.zs<|.sr<|.az rfl<|.block<|.cX [(1,_),(4,_),(5,_),(7,_),(8,_)] (X:=Nat) (λk=>k<=r.types.length) (λk E=>(9,iN k)::(6,.bool (ok&&(r.types.take k).all (lP (L.map Nm.p))))::E) (λ_ G=>G) (λk=>r.types.length-k) 0 (aeB _) ((kE.c.c.c.c.c.cj rfl (by simp)).cons rfl) rH ?_
 rintro k hk
 refine .seq<|.sr<|.mo rfl<|.fa rfl<|.lo rfl<|.q (.bK M)<|.q .lss<|.zn<|.cond rfl (λm=>?_) λm=>?_
 have C:k<r.types.length:=cK m
 obtain⟨t,n⟩:=ca C
 refine .kn<|.seq<|.block ?_
 refine bu.dc [(1,_),(4,_),(5,_),(7,_),(8,_),(9,_)] kE.c.c.c.c.c.c (X:=Unit) (λ_=>True) (λ_ E=>(6,.bool (ok&&(r.types.take (k+1)).all (lP (L.map Nm.p))))::E) (λ_=>[bl b8 (cm.enc ⟨W,V,r⟩) 167,H,v,bl Y [vs,U] 25]) ?_ ?_
 refine .dY 23 mixed (by kernel_rfl) ?_
 conv=>arg 6;dsimp only[List.take]
 refine .mo rfl<|.mo rfl<|.split (t:=34) rfl (λf=>?_) (λf=>?_)
 refine .gT f<|.fa rfl<|.gT f<|.lo rfl<|.gT f<|.mo rfl<|.gT f ?_
 refine .bF k M n (λc6=>?_)
 refine .gT f<|.fa rfl<|.gT f<|.lo rfl<|.gT f<|.q .fb<|.gT f<|.mo rfl<|.split (t:=42) rfl (λe=>?_) (λe=>?_)
 refine .gF e<|.gF e<|.gF e<|.gF e<|.gF e<|.gF e<|.gF e<|.gF e<|.gF e<|.gF e<|.gF e<|.gF e<|.gF e<|.nil<|.gF e<|.gF e<|.gT f<|.q (.aU e)<|.q (.aU f)<|.ag rfl<|.nil ?_
 ·exact aD () aeA (kE.c.c.c.c.c.c.cj rfl (by rw[eo n,ae5];simp only[aeT,ae4,aeK,lP,m,f,e,qt];grind)) rH
 refine .gT e<|.mo rfl<|.gT e<|.fa rfl<|.gT e<|.lo rfl<|.gT e<|.mo rfl<|.gT e ?_
 refine .bF k M n (λc7=>?_)
 refine .gT e<|.fa rfl<|.gT e<|.lo rfl<|.gT e<|.fa rfl<|.gT e<|.lo rfl<|.gT e<|.mo rfl<|.gT e ?_
 refine .bF k M n (λc8=>?_)
 refine .gT e<|.fa rfl<|.gT e<|.lo rfl<|.nil<|.gT e<|.aQ ((pF u L _ I t.space t.rel).weaken λb o g=>g.elim .inl λg=>.inr (by simp[g])) (λw D=>?_)
 subst D
 rw[show(⟨t.space,t.rel⟩:Ty)=t from rfl]
 refine .gT e<|.q .geq<|.gT f<|.q (.aN e)<|.q (.aU f)<|.ag rfl<|.nil ?_
 ·exact aD () aeA (kE.c.c.c.c.c.c.cj rfl (by rw[eo n,ae5];simp only[aeT,ae4,aeK,lP,m,f,e,qt];grind)) rH
 refine .gF f<|.gF f<|.gF f<|.gF f<|.gF f<|.gF f<|.gF f<|.gF f<|.dB rfl<|.dB rfl<|.dB rfl<|.dB rfl<|.dB rfl<|.dB rfl<|.dB rfl<|.dB rfl<|.dB rfl<|.dB rfl<|.dB rfl<|.dB rfl<|.dB rfl<|.nil<|.dB rfl<|.dB rfl<|.gF f<|.q (.aN f)<|.ag rfl<|.nil ?_
 ·exact aD () aeA (kE.c.c.c.c.c.c.cj rfl (by rw[eo n,ae5];simp only[aeT,ae4,aeK,lP,m,f,qt];grind)) rH
 intro y hy
 refine ba<|au<|.region<|.mo rfl<|.ia (k+1) .add<|.ag rfl<|.nil ?_
 ·exact bp (k+1) C (by omega) kE.c.c.c.c.c.c.c rH
 rw[dZ (l:=r.types) (i:=k) (by have:=bI m;omega)]
 refine .exit<|bD<|bG<|bE<|au<|.sr<|.mo rfl<|.mo rfl<|.fa rfl<|.lo rfl<|.q (.bK b5)<|.q (.i64 ((r.nodes.length:Int)-1) .sub ⟨rfl,by omega,by omega⟩)<|.dx ((PB u L _ I hr i S W V r F _ _ _ a5 false _ rfl).weaken λb o g=>g.elim .inl λg=>.inr (by simp[g])) (λw Tw D=>?_)
 obtain⟨w,Ew,a6,rfl,a9,c2,b2⟩:=D
 refine .mo rfl<|.q .extract<|.q .extract<|.ag rfl<|.ag rfl<|.zs ?_
 refine bu.dc [(1,_),(4,_),(5,_),(7,_),(10,_)] kE.c.c.c.c.c (X:=Unit) (λ_=>True) (λ_ E=>(6,.bool (ok&&(r.types.all (lP (L.map Nm.p))&&a6)))::E) (λ_=>[Tw,H,v,bl Y [vs,U] 25]) ?_ ?_
 refine .region<|.mo rfl<|.mo rfl<|.split (t:=71) rfl (λA=>?_) (λA=>?_)
 refine .gT A<|.mo rfl<|.q (.aU A)<|.ag rfl<|.nil ?_
 ·exact aD () aeA (kE.c.c.c.c.c.cj rfl (by grind)) (aK [0,1,1,1])
 refine .gF A<|.q (.aN A)<|.ag rfl<|.nil ?_
 ·exact aD () aeA (kE.c.c.c.c.c.cj rfl (by grind)) (aK [0,1,1,1])
 intro y hy
 refine au<|.region<|.mo rfl<|.mo rfl<|.append hO a9.rx (by omega) (λv1 T1 b6=>?_)
 refine .ag rfl<|.nil<|ba<|au<|.region<|.mo rfl<|.ia (i+1) .add<|.ag rfl<|.nil ?_
 ·exact bp (i+1,v1,E5++Ew,ok&&(r.types.all (lP (L.map Nm.p))&&a6),T1) ⟨a4,b6,by simp only[aeL];omega,by
   simp only
   rw[tT b7,qh]
   refine J.nR ?_
   have K:=WE.rel b2
   simp only[afl,cat]
   revert K
   generalize lL (L.map Nm.p) i S r=o
   intro K
   cases o with
   |none=>exact K
   |some o=>simpa using K⟩ (by simp only;omega) kE.c.c.c.c.c (aK [1,1,1])
 have b4:L.length<=i:=by have:=bI Z;omega
 rw[dZ (by rw[aeF];exact b4)]at J
 have I:re (λb o=>R b o\/(b,o)∈v) u L:=⟨Q.rs λp hp=>.inr hp,λx hx=>(a0 x hx).mono λb o g=>.inl g⟩
 refine .exit<|bD<|bG<|bE<|au<|.seq<|.sr<|.az rfl<|.block<|.cX [(1,_),(4,_),(5,_)] (X:=Nat) (λk=>k<=j.length) (λk E=>(12,iN k)::(6,.bool (ok&&(j.take k).all (pL (L.map Nm.p))))::E) (λ_ G=>G) (λk=>j.length-k) 0 (aeB _) ((kE.c.c.c.cj rfl (by simp)).cons rfl) rH ?_
 rintro k hk
 refine .seq<|.sr<|.mo rfl<|.fa rfl<|.lo rfl<|.q (.bK O)<|.q .lss<|.zn<|.cond rfl (λB=>?_) λB=>?_
 have C:k<j.length:=cK B
 obtain⟨s,N⟩:=ca C
 refine .kn<|.seq<|.block ?_
 refine bu.dc [(1,_),(4,_),(5,_),(12,_)] kE.c.c.c.c (X:=Unit) (λ_=>True) (λ_ E=>(6,.bool (ok&&(j.take (k+1)).all (pL (L.map Nm.p))))::E) (λ_=>[H,v,bl Y [vs,U] 25]) ?_ ?_
 refine .dY 16 mixed (by kernel_rfl) ?_
 conv=>arg 6;dsimp only[List.take]
 refine .mo rfl<|.mo rfl<|.split (t:=85) rfl (λa=>?_) (λa=>?_)
 refine .gT a<|.mo rfl<|.gT a<|.fa rfl<|.gT a<|.lo rfl<|.gT a<|.mo rfl<|.gT a ?_
 refine .bF k O N (λc9=>?_)
 refine .gT a<|.fa rfl<|.gT a<|.fa rfl<|.gT a<|.lo rfl<|.gT a<|.fa rfl<|.gT a<|.lo rfl<|.gT a<|.mo rfl<|.gT a ?_
 refine .bF k O N (λd0=>?_)
 refine .gT a<|.fa rfl<|.gT a<|.lo rfl<|.nil<|.gT a<|.aQ ((pF u L _ I s.kb s.rel).weaken λb o g=>g.elim .inl λg=>.inr (by simp[g])) (λw D=>?_)
 subst D
 refine .gT a<|.q .geq<|.q (.aU a)<|.ag rfl<|.nil ?_
 ·exact aD () aeA (kE.c.c.c.c.cj rfl (by rw[eo N,ae5];simp only[aeT,ae4,aeK,pL,B,a,qt];grind)) rH
 refine .gF a<|.gF a<|.gF a<|.gF a<|.gF a<|.gF a<|.gF a<|.gF a<|.gF a<|.gF a<|.gF a<|.gF a<|.gF a<|.gF a<|.nil<|.gF a<|.gF a<|.q (.aN a)<|.ag rfl<|.nil ?_
 ·exact aD () aeA (kE.c.c.c.c.cj rfl (by rw[eo N,ae5];simp only[aeT,ae4,aeK,pL,B,a,qt];grind)) rH
 intro y hy
 refine ba<|au<|.region<|.mo rfl<|.ia (k+1) .add<|.ag rfl<|.nil ?_
 ·exact bp (k+1) C (by omega) kE.c.c.c.c.c rH
 rw[dZ (l:=j) (i:=k) (by have:=bI B;omega)]
 refine .exit<|bD<|bG<|bE<|au<|.sr<|.mo rfl<|.mo rfl<|.ag rfl<|.az rfl<|.ret (br _ (.two (.tmp rfl) (.tmp rfl)) (.one [0] _) ?_)
 ·refine⟨H,by simp[take,bN],v5,E5,_,rfl,hO,?_⟩
  cases j.all (pL (L.map Nm.p))with
  |true=>simpa using J
  |false=>exact aeN _
theorem RS.kZ{α:Type}{R:aA}{sz:Nat}{enc:α->List Value}:RS R sz enc (sZ) ([]:List α):=(OS.nil (E:=0) (sz:=sz) (enc:=enc)).rs λp a=>(by cases a)
abbrev fR:=Value×List Nat
def eD(q:fR):List Value:=[q.1]
structure NN(R:aA)(w:Value)(ll:List fR):Prop where
 rs:RS R 1 eD w ll
 all:∀q∈ll,RS R 1 dv q.1 q.2
theorem NN.mono{R R':aA}{w:Value}{c:List fR}(h:NN R w c)(a:∀b o,R b o->R' b o):NN R' w c:=⟨h.rs.mono a,λq d=>(h.all q d).mono a⟩
theorem NN.nil{R:aA}:NN R (sZ) []:=⟨RS.kZ,λq a=>(by cases a)⟩
theorem pA:∀{l:List Sp} {i:Nat} {s:Sp},l[i]? =some s->cO l (i+1)=cO l i+s.bS.length
 |[],i,s,h=>by simp at h
 |x::l,0,s,h=>by
  simp only[ae6,ae7]at h
  subst h
  cases l<;>simp[cO]
 |x::l,i+1,s,h=>by
  have:=pA (l:=l) (i:=i) (by simpa using h)
  rw[cO,cO,this]
  omega
theorem ug{c:bO}(h:c.plain.right isWord dd=true):c.jF/\rf c.fV:=by
 have e:=ou h
 have d:c.plain.lI isWord=false:=by
  unfold Cf.right at h
  simp only[afm,Bool.not_eq_true']at h
  exact h.2
 rw[qF]at d
 simp only[afv,afw,List.any_eq_false,aeW]at d
 refine⟨⟨by omega,λs f=>?_⟩,λx g=>?_⟩
 ·have:=d.2 s f
  unfold il at this
  simp only[afi,ae8,not_or,aeW]at this
  exact this.1
 ·have i:x.p∈c.plain.all:=by rw[<-po];exact afd.2 ⟨x,g,rfl⟩
  obtain⟨b,a⟩:=e _ i
  unfold nD at b
  unfold iI at a
  simp only[afm,bne_iff_ne,ne_eq]at b
  simp only[afv,afw,aeW]at a
  exact⟨a.1.1,a.1.2,b.1.2⟩
theorem Pd(c:bO)(R:aA)(h:c.is R):Spec prog 32 [.agg c.enc.toArray] R [] λu H'=>∃T,H'=[T]/\∃w ll,u=.tuple [w,.int .i64 (c.plain.numbers isWord dd).1].toArray/\NN (sg T) w ll/\ll.map (·.2)=(c.plain.numbers isWord dd).2:=by
 have a0:=Pm c R h
 have a1:=Pp c R h
 have a2:=OM c R h
 have a3:=vi c R h
 have c8:=po c
 have a6:=ug (c:=c)
 have W:∀(i:Nat) s,c.aV[i]? =some s->c.plain.aV[i]? =some s.plain:=λi s B=>by unfold bO.plain;simp only;rw[aeE,B];rfl
 have c1:c.plain.aV.length=c.aV.length:=by unfold bO.plain;simp
 have d:c.plain.numbers isWord dd=if c.plain.right isWord dd=false then((4:Int),([]:List (List Nat)))else if ¬c.plain.dN then(10,[])else match c.plain.gM with|none=>(14,[])|some E=>if ko E c.plain.all.length=true then(0,rows c.plain.aV (level E c.plain.all.length (c.plain.all.length+1)))else(15,[]):=rfl
 have b4:c.plain.all.length=c.fV.length:=by rw[<-c8,aeF]
 have d4:=λhh=>bO.jF.fV (c:=c) hh
 have c2:=pR c.plain
 generalize f2:c.plain.numbers isWord dd=nn at *
 generalize f3:c.plain=pl at *
 generalize e4:c.fV=L at *
 rw[b4]at d c2
 obtain⟨vs,vc,a9,g2⟩:=c
 have I:=h.ss
 have i1:=I.ay
 have i2:One vc:=RS.ay h.sc
 simp only at I i1 i2 W c1⊢
 have e9:=I.le
 refine Spec.gj (H':=[[]]) (by simp)<|Spec.body func32 rfl results32 ntmps32 rfl<|.sr ?_
 refine .cg rfl (λb1=>?_)
 refine .ag rfl<|.ag rfl<|.zs<|.sr<|.q (.aL rfl)<|.aQ (a0.weaken dt) (λu J=>?_)
 subst J
 refine .q .not<|.zn<|.cond rfl (λK=>?_) λK=>?_
 refine .sr<|.ag rfl<|.az rfl<|.ret (aJ (br _ (.two (.tmp rfl) (.tmp rfl)) (.one [1] _) ?_))
 ·refine⟨[],by simp[take,bN],sZ,[],?_,.nil,?_⟩
  ·rw[d,aeG (by simpa using K)]
  ·rw[d,aeG (by simpa using K)];rfl
 have b8:pl.right isWord dd=true:=by simpa using K
 obtain⟨v,c7⟩:=a6 b8
 have f1:=d4 v
 rw[aeC (by rw[b8];simp)]at d
 refine .kn<|.seq<|.sr<|.q (.aL rfl)<|.aQ ((a1 v).weaken dt) (λu J=>?_)
 subst J
 refine .zn<|.cond rfl (λM=>?_) λM=>?_
 refine .sr<|.ag rfl<|.az rfl<|.ret (aJ (br _ (.two (.tmp rfl) (.tmp rfl)) (.one [1] _) ?_))
 ·refine⟨[],by simp[take,bN],sZ,[],?_,.nil,?_⟩
  ·rw[d,aeG (by simpa using M)]
  ·rw[d,aeG (by simpa using M)];rfl
 have d9:pl.dN:=by simpa using M
 rw[aeC (λhh=>hh d9)]at d
 refine .kn<|.sr<|.q (.aL rfl)<|.dx ((a2 v c7).weaken dt) (λu T4 J=>?_)
 obtain⟨w4,E4,ok,rfl,b2,r⟩:=J
 refine .mo rfl<|.q .extract<|.q .extract<|.ag rfl<|.ag rfl<|.zs<|.sr<|.mo rfl<|.q .not<|.zn<|.cond rfl (λh3=>?_) λh3=>?_
 have H:ok=false:=by simpa using h3
 have Q:pl.gM=none:=by
  cases he:pl.gM with
  |none=>rfl
  |some E=>rw[he]at r;rw[r.1]at H;cases H
 rw[Q]at d
 simp only at d
 refine .sr<|.ag rfl<|.az rfl<|.ret (aJ (br _ (.two (.tmp rfl) (.tmp rfl)) (.one [2] _) ?_))
 ·refine⟨[],by simp[take,bN],sZ,[],?_,.nil,?_⟩
  ·rw[d]
  ·rw[d];rfl
 have H:ok=true:=by simpa using h3
 obtain⟨E,Q,c6⟩:∃E,pl.gM=some E/\E4=E.map Ed.m:=by
  cases he:pl.gM with
  |none=>rw[he]at r;rw[show ok=false from r]at H;cases H
  |some E=>rw[he]at r;exact⟨E,rfl,r.2⟩
 subst c6
 rw[Q]at d
 simp only at d
 have b0:∀e∈E,e.f<L.length/\e.t<L.length:=by
  have:=qn Q
  rw[b4]at this
  exact this
 have f6:(L.length+1)*(L.length+1)<=1000000:=aeR (Nat.mul_le_mul (by omega:L.length+1<=257) (by omega:L.length+1<=257)) (by decide)
 refine .kn<|.sr<|.q (.aL rfl)<|.dx ((a3 v).weaken dt) (λu T6 d7=>?_)
 refine .q (.eR d7)<|.ag rfl<|.z<|.mo rfl<|.mo rfl<|.mo rfl<|.ia (L.length+1) .add<|.dx (Ap w4 E L.length (L.length+1) _ b2.rx b0 (by omega) (by omega)) (λu T7 a8=>?_)
 refine .ag rfl<|.z<|.mo rfl<|.mo rfl<|.mo rfl<|.ia (L.length+1) .add<|.mo rfl<|.ia (L.length+1) .add<|.q (.i64 (((L.length+1)*(L.length+1):Nat):Int) .mul ⟨by rw[Int.natCast_mul],by omega,by omega⟩)<|.dx (Ap w4 E L.length ((L.length+1)*(L.length+1)) _ b2.rx b0 (by omega) (by omega)) (λu8 T8 d8=>?_)
 have e7:(level E L.length (L.length+1)).length=L.length:=kU _
 have e8:(level E L.length ((L.length+1)*(L.length+1))).length=L.length:=kU _
 refine .ag rfl<|.zs<|.sr<|.az rfl<|.block<|.cX [(1,_),(6,_),(7,_),(8,_)] (X:=Nat) (λi=>i<=L.length/\∀j,j<i->(level E L.length (L.length+1))[j]? =(level E L.length ((L.length+1)*(L.length+1)))[j]? /\(level E L.length (L.length+1)).getD j 0<L.length) (λi E=>(9,iN i)::E) (λ_ G=>G) (λi=>L.length-i) 0 ⟨aeB _,λj S=>absurd S (by omega)⟩ kE.c.c.c.c.c rH ?_
 rintro i ⟨hi,hq⟩
 refine .seq<|.sr<|.mo rfl<|.mo rfl<|.q .lss<|.zn<|.cond rfl (λh4=>?_) λh4=>?_
 have V:i<L.length:=cK h4
 obtain⟨a,p⟩:∃a,(level E L.length (L.length+1))[i]? =some a:=⟨_,bk (by omega)⟩
 obtain⟨b,l⟩:∃b,(level E L.length ((L.length+1)*(L.length+1)))[i]? =some b:=⟨_,bk (by omega)⟩
 refine .kn<|.seq<|.block<|.seq ?_
 refine bu.dc [(1,_),(6,_),(7,_),(8,_),(9,_)] kE.c.c.c.c.c (X:=Unit) (λ_=>True) (λ_ E=>(64,.bool (decide (a≠b\/L.length<=a)))::E) (λ_=>[T8,T7,T6,T4,bl b1 [vs,vc] 25,[]]) ?_ ?_
 refine .fX mixed (by kernel_rfl)<|.mo rfl<|.mo rfl ?_
 refine .bh i a8 p (λf7=>?_)
 refine .lo rfl<|.mo rfl<|.mo rfl ?_
 refine .bh i d8 l (λf8=>?_)
 refine .lo rfl<|.q .de<|.mo rfl<|.split (t:=57) rfl (λg=>?_) (λg=>?_)
 refine .gF g<|.gF g<|.gF g<|.gF g<|.gF g<|.gF g<|.q (.aU g)<|.nil ?_
 ·exact aD () aeA (kE.c.c.c.c.c.cj rfl (by clear a0 a1 a2 a3 a6 W hq;grind)) rH
 refine .gT g<|.mo rfl<|.gT g<|.mo rfl<|.gT g ?_
 refine .bh i a8 p (λf9=>?_)
 refine .gT g<|.lo rfl<|.gT g<|.mo rfl<|.gT g<|.q .geq<|.q (.aN g)<|.nil ?_
 ·exact aD () aeA (kE.c.c.c.c.c.cj rfl (by clear a0 a1 a2 a3 a6 W hq;grind)) rH
 intro y hy
 refine au<|.cond rfl (λC=>?_) λC=>?_
 refine .sr<|.ag rfl<|.az rfl<|.ret (bA (aJ (cW (bA (aJ (br _ (.two (.tmp rfl) (.tmp rfl)) (.one [5] _) ?_))))))
 ·have b5:¬ko E L.length=true:=by
   intro O
   unfold ko at O
   rw[afm,List.all_eq_true]at O
   have F:=cL O.1
   have h8:=O.2 a (aR p)
   rw[F,l]at p
   cases p
   have h5':=cL C
   have h9:=cL h8
   rcases h5' with h5'|h5'
   ·exact h5' rfl
   ·omega
  refine⟨[],by simp[take,bN],sZ,[],?_,.nil,?_⟩
  ·rw[d,aeC b5]
  ·rw[d,aeC b5];rfl
 refine .skip<|ba<|au<|.region<|.mo rfl<|.ia (i+1) .add<|.ag rfl<|.nil ?_
 ·exact bp (i+1) ⟨V,λj S=>by
   rcases ae1 j i with hh|hh
   ·exact hq j hh
   ·obtain rfl:j=i:=by omega
    have h5':=bI C
    simp only[ne_eq,not_or,Decidable.not_not,Nat.not_le]at h5'
    exact⟨by rw[p,l,h5'.1],by rw[aeJ,p];exact h5'.2⟩⟩ (by omega) kE.c.c.c.c.c rH
 have e5:i=L.length:=by have:=bI h4;omega
 have d0:ko E L.length=true:=by
  unfold ko
  rw[afm]
  refine⟨aeY (List.ext_getElem? λj=>?_),?_⟩
  ·rcases ae1 j i with hh|hh
   ·exact(hq j hh).1
   ·rw[List.getElem?_eq_none (by omega),List.getElem?_eq_none (by omega)]
  ·rw[List.all_eq_true]
   intro x hx
   obtain⟨j,S,e⟩:=ae2.1 hx
   have:=(hq j (by omega)).2
   rw[aeJ,bk S,e]at this
   exact aeY this
 rw[aeG d0]at d
 generalize f0:level E L.length (L.length+1)=A at *
 refine .exit<|bD<|bG<|bE<|au<|.sr<|.ag rfl<|.z<|.ag rfl<|.zs<|.sr<|.az rfl<|.block<|.cX [(1,_),(7,_)] (X:=Nat×Value×List fR×av×av) (λy=>y.1<=a9.length/\OS 182 1 eD y.2.1 y.2.2.1 y.2.2.2.1/\(∀q∈y.2.2.1,RS (sg y.2.2.2.2) 1 dv q.1 q.2)/\y.2.2.1.map (·.2)=(rows pl.aV A).take y.1) (λy E=>(12,iN y.1)::(11,.int .i64 (cO pl.aV y.1:Nat))::(10,y.2.1)::E) (λy G=>y.2.2.2.1::y.2.2.2.2::G) (λy=>a9.length-y.1) (0,sZ,[],[],[]) ⟨aeB _,OS.nil,λq hq=>(by cases hq),by simp⟩ ((kE.c.c.c.nk rfl (by cases pl.aV<;>rfl)).cons rfl) bz.jk ?_
 rintro⟨i,e1,ll,c4,Tp⟩ ⟨d1,a4,a5,U⟩
 simp only at d1 a4 a5 U⊢
 have e6:ll.length<=16:=by
  have C:=aeD List.length U
  rw[aeF,aeI,mR]at C
  have D:=v.1
  simp only at D
  omega
 refine .seq<|.sr<|.mo rfl<|.fa rfl<|.lo rfl<|.q (.bK I)<|.q .lss<|.zn<|.cond rfl (λD=>?_) λD=>?_
 have V:i<a9.length:=cK D
 obtain⟨s,B⟩:=ca V
 have d6:=h.all _ (aR B)
 have c0:=d6.rs
 have f4:=c0.le
 have f5:s.bS.length<=16:=v.2 s (aR B)
 have a7:=W i s B
 have b9:=pH (n:=A) a7
 have b6:=pA a7
 have b7:=sB a7
 have d5:s.plain.bS.length=s.bS.length:=by simp[cF.plain]
 rw[d5]at b9 b6 b7
 rw[c2]at b7
 refine .kn<|.seq<|.block<|.sr<|.ag rfl<|.zs<|.sr<|.az rfl<|.block<|.cX [(1,_),(7,_),(10,_),(12,_)] (X:=Nat×Value×av) (λy=>y.1<=s.bS.length/\OS 3 1 dv y.2.1 ((A.drop (cO pl.aV i)).take y.1) y.2.2) (λy E=>(14,iN y.1)::(11,.int .i64 (cO pl.aV i+y.1:Nat))::(13,y.2.1)::E) (λy G=>y.2.2::G) (λy=>s.bS.length-y.1) (0,sZ,[]) ⟨aeB _,OS.nil⟩ kE.c.c.c.c.c.c.c bz.ir ?_
 rintro⟨k,c3,c5⟩ ⟨hk,N⟩
 simp only at hk N⊢
 have e0:=N.ay
 refine .seq<|.sr<|.mo rfl<|.fa rfl<|.lo rfl<|.mo rfl ?_
 refine .bF i I B (λg0=>?_)
 refine .fa rfl<|.lo rfl<|.q (.bK c0)<|.q .lss<|.zn<|.cond rfl (λF=>?_) λF=>?_
 have d3:k<s.bS.length:=cK F
 obtain⟨a,p⟩:∃a,A[cO pl.aV i+k]? =some a:=⟨_,bk (by omega)⟩
 have c9:(A.drop (cO pl.aV i)).take (k+1)=(A.drop (cO pl.aV i)).take k++[a]:=eo (by rw[List.getElem?_drop,p])
 refine .kn<|.seq<|.block<|.sr<|.mo rfl<|.mo rfl<|.mo rfl ?_
 refine .bh (cO pl.aV i+k) a8 p (λg1=>?_)
 refine .lo rfl ?_
 refine .jB (λe2=>?_)
 refine .append N (RS.lits (xs:=[a]) rfl (by simp[dv]) (by simp[dv,ay])) (by simp only[aeI,aeM];omega) (λv1 Z Y=>?_)
 rw[<-c9]at Y
 refine .az rfl<|.region<|.mo rfl<|.ia (cO pl.aV i+(k+1)) .add<|.ag rfl<|.nil<|ba<|au<|.region<|.mo rfl<|.ia (k+1) .add<|.ag rfl<|.nil ?_
 ·exact bp (k+1,v1,Z) ⟨d3,Y⟩ (by simp only;omega) kE.c.c.c.c.c.c.c (aK [1,1,1,1,1,1,1,1,1])
 have b3:k=s.bS.length:=by have:=bI F;omega
 refine .exit<|bD<|bG<|bE<|au<|.region<|.mo rfl<|.mo rfl ?_
 refine .jB (λe3=>?_)
 refine .append a4 (RS.lits (xs:=[((c3,(A.drop (cO pl.aV i)).take k):fR)]) rfl (by simp[eD]) (by simp[eD,e0.h])) (by simp only[aeM];omega) (λv1 Z Y=>?_)
 refine .ag rfl<|.nil<|ba<|au<|.region<|.mo rfl<|.ia (i+1) .add<|.ag rfl<|.nil ?_
 ·exact bp (i+1,v1,ll++[(c3,(A.drop (cO pl.aV i)).take k)],Z,c5++Tp) ⟨V,Y,λq hq=>by
   rcases afn.1 hq with hq|hq
   ·exact(a5 q hq).mono λb o l=>ju l
   ·rw[aeZ]at hq
    subst hq
    exact N.sg.mono λb o l=>kD l,by simp only;rw[aeH,U,eo b9,b3];rfl⟩ (by simp only;omega) ((kE.c.c.c.nk rfl (by simp only;rw[b6,b3])).cons rfl) ((aK [2,1,1,1,1,1,1,1]).trans (bz.fH (by simp[take,bN])))
 refine .exit<|bD<|bG<|bE<|au<|.sr<|.mo rfl<|.ag rfl<|.az rfl<|.ret (br _ (.two (.tmp rfl) (.tmp rfl)) (.one [0,0] _) ?_)
 ·have d2:pl.aV.length<=i:=by rw[c1];have:=bI D;omega
  refine⟨c4++Tp,by simp[take,bN],e1,ll,?_,⟨a4.sg.mono λb o l=>kD l,λq hq=>(a5 q hq).mono λb o l=>ju l⟩,?_⟩
  ·rw[d]
  ·rw[d,U]
   exact dZ (by rw[mR];exact d2)
def Bg(t:rb):Prop:=t.kind≠0/\t.text.size<=9223372036854775807/\(t.kind=2\/(t.text≠QL/\t.text≠QN/\t.text≠QH/\t.text≠QK/\t.text≠QM/\t.text≠QJ/\t.text≠QO))
instance(t:rb):Decidable (Bg t):=by unfold Bg;infer_instance
theorem M5(n:Nd)(w:n.fits)(R:aA):Spec prog 226 [.agg n.enc.toArray] R [] λu H'=>u=.bool (n.leaf isWord)/\H'=[]:=by
 obtain⟨k,j,m,a,b⟩:=n
 obtain⟨i,l⟩:=w
 simp only at i l
 refine Spec.body func226 rfl results226 ntmps226 rfl<|.sr ?_
 refine .cg rfl (λo=>?_)
 refine .ag rfl<|.zs<|.seq ?_
 refine bu.dc [(1,_)] kE.c (X:=Unit) (λ_=>True) (λ_ E=>(10,.bool (!(a==0&&b==0)))::E) (λ_=>[bl o (Nd.enc ⟨k,j,m,a,b⟩) 199]) ?_ ?_
 refine .region<|.fa rfl<|.lo rfl<|.q .de<|.mo rfl<|.split (t:=6) rfl (λd=>?_) (λd=>?_)
 refine .gF d<|.gF d<|.gF d<|.q (.aU d)<|.nil ?_
 ·exact aD () aeA (kE.c.cj rfl (by grind)) rH
 refine .gT d<|.fa rfl<|.gT d<|.lo rfl<|.gT d<|.q .de<|.q (.aN d)<|.nil ?_
 ·exact aD () aeA (kE.c.cj rfl (by grind)) rH
 intro y x
 refine au<|.cond rfl (λp=>?_) λp=>?_
 refine .sr<|.az rfl<|.ret (aJ (aP rfl ?_))
 ·refine⟨aeD _ ?_,rfl⟩
  simp only[Nd.leaf]
  grind
 refine .kn<|.seq<|.sr<|.fa rfl<|.lo rfl<|.zn<|.block<|.sr<|.q .cr<|.az rfl<|.cond rfl (λr=>?_) λr=>?_
 refine .sr<|.fa rfl<|.lo rfl<|.q .fb<|.mo rfl<|.split (t:=18) rfl (λe=>?_) (λe=>?_)
 refine .gT e<|.fa rfl<|.gT e<|.lo rfl<|.gT e<|.q .fb<|.q (.aU e)<|.az rfl<|.ret (bA (aJ (aP rfl ?_)))
 ·refine⟨aeD _ ?_,rfl⟩
  simp only[Nd.leaf]
  grind
 refine .gF e<|.gF e<|.gF e<|.q (.aN e)<|.az rfl<|.ret (bA (aJ (aP rfl ?_)))
 ·refine⟨aeD _ ?_,rfl⟩
  simp only[Nd.leaf]
  grind
 refine .sr<|.q .cr<|.az rfl<|.cond rfl (λs=>?_) λs=>?_
 refine .sr<|.fa rfl<|.lo rfl<|.aQ (lq j i _) (λu h=>?_)
 subst h
 refine .mo rfl<|.split (t:=28) rfl (λf=>?_) (λf=>?_)
 refine .gT f<|.fa rfl<|.gT f<|.lo rfl<|.gT f<|.q .fb<|.q (.aU f)<|.az rfl<|.ret (bA (aJ (aP rfl ?_)))
 ·refine⟨aeD _ ?_,rfl⟩
  simp only[Nd.leaf]
  grind
 refine .gF f<|.gF f<|.gF f<|.q (.aN f)<|.az rfl<|.ret (bA (aJ (aP rfl ?_)))
 ·refine⟨aeD _ ?_,rfl⟩
  simp only[Nd.leaf]
  grind
 refine .sr<|.q .cr<|.az rfl<|.cond rfl (λv=>?_) λv=>?_
 refine .sr<|.fa rfl<|.lo rfl<|.aQ (lq j i _) (λu h=>?_)
 subst h
 refine .mo rfl<|.split (t:=38) rfl (λg=>?_) (λg=>?_)
 refine .gT g<|.fa rfl<|.gT g<|.lo rfl<|.gT g<|.aQ (lq m l _) (λu h=>?_)
 subst h
 refine .q (.aU g)<|.az rfl<|.ret (bA (aJ (aP rfl ?_)))
 ·refine⟨aeD _ ?_,rfl⟩
  simp only[Nd.leaf]
  grind
 refine .gF g<|.gF g<|.gF g<|.q (.aN g)<|.az rfl<|.ret (bA (aJ (aP rfl ?_)))
 ·refine⟨aeD _ ?_,rfl⟩
  simp only[Nd.leaf]
  grind
 refine .skip<|ba<|au<|.sr<|.az rfl<|.ret (aP rfl ?_)
 ·refine⟨aeD _ ?_,rfl⟩
  simp only[Nd.leaf]
  grind
theorem tQ(W:ByteArray->Bool):∀(a b:List Nd) (S:List (Nat×Nat)),jg W (a++b) S=(jg W a S).bind (jg W b)
 |[],b,S=>rfl
 |n::a,b,S=>by
  rw[List.cons_append,jg,jg]
  cases ib W S n with
  |none=>rfl
  |some S'=>exact tQ W a b S'
theorem jK{α:Type}{A:List α}{i k:Nat}{x z:α}(a:A.length=i):(A++List.replicate (k+1) z).set i x=(A++[x])++List.replicate k z:=by
 subst a
 rw[List.set_append_right _ _ (Nat.le_refl _),Nat.sub_self,List.replicate_succ,List.set_cons_zero]
 simp
theorem qA{A:List Nat}{j k:Nat}{a:Nat}(h:A[j]? =some a):(A++List.replicate k 0)[j]? =some a:=by
 rw[List.getElem?_append_left (aeO.1 h).1]
 exact h
def mE(S:List (Nat×Nat))(n:Nd):Prop:=n.rel≠⟨#[]⟩\/n.ec≠⟨#[]⟩\/n.b≠(S.length:Int)-1\/n.b<0\/n.a≠(S.length:Int)-1-(S.getD (S.length-1) (0,0)).1\/n.a<0
instance(S:List (Nat×Nat))(n:Nd):Decidable (mE S n):=by unfold mE;infer_instance
theorem CN{S:List (Nat×Nat)}{n:Nd}(ho:n.op=true)(h:mE S n):ib isWord S n=none:=by
 unfold ib
 rw[aeG ho]
 exact aeG h
theorem CO{S:List (Nat×Nat)}{n:Nd}(ho:n.op=true)(h:¬mE S n):ib isWord S n=some (S++[((S.getD n.a.toNat (0,0)).1+(S.getD n.b.toNat (0,0)).1+1,max (S.getD n.a.toNat (0,0)).2 (S.getD n.b.toNat (0,0)).2+1)]):=by
 unfold ib
 rw[aeG ho]
 exact aeC h
theorem xr{l:List Nd}{i:Nat}{n:Nd}{S:List (Nat×Nat)}(c:l[i]? =some n)(a:jg isWord (l.take i) []=some S)(h:ib isWord S n=none):oT isWord l=0:=by
 have b:l=l.take i++n::l.drop (i+1):=by
  rw[<-afo i l]
  congr 1
  ·rw[afo]
  ·rw[afo];exact xC c
 have:jg isWord l []=none:=by
  rw[b,tQ,a,ae3,jg,h]
  rfl
 unfold oT
 rw[this]
theorem xu(v:Value)(l:List Nd)(R:aA)(h:RS R 5 Nd.enc v l)(s:∀x∈l,x.fits)(c7:l.length<=1000000):
    Spec prog 174 [v] R [] λu H'=>u=.int .i64 (fT isWord l:Nat)/\H'=[]:=by
  rw[<-CE]
  refine Spec.body func174 rfl results174 ntmps174 rfl ?_
  refine .sr<|.ag rfl<|.zs ?_
  refine bu.dc [(0,_)] kE.c (X:=(Nat×av)×(Nat×av)) (λy=>OS 3 1 dv (.slice (some ⟨y.1.1,0,none⟩) l.length l.length) (List.replicate l.length 0) y.1.2/\OS 3 1 dv (.slice (some ⟨y.2.1,0,none⟩) l.length l.length) (List.replicate l.length 0) y.2.2) (λy E=>(3,.slice (some ⟨y.1.1,0,none⟩) l.length l.length)::(4,.slice (some ⟨y.2.1,0,none⟩) l.length l.length)::E) (λy=>[y.1.2,y.2.2]) ?_ ?_
  refine .dz [2,5] mixed ?_
  refine .tK 0 rfl .move ?_
  refine .tK 1 rfl (.bK h) ?_
  refine .tK 3 rfl .move ?_
  refine .tK 4 rfl (.bK h) ?_
  refine RA.lN 2 5 rfl rfl (by kernel_rfl) rfl ?_ ?_
  refine .makeSlice (enc:=dv) l.length 0 rfl rfl (by decide) (by simp[dv,ay]) rfl rfl (by omega) (by omega) (λL w d=>?_)
  refine .nil (Next.mod rfl ?_)
  refine .tK 6 rfl .assign ?_
  refine .sT 5 rfl ?_
  refine .makeSlice (enc:=dv) l.length 0 rfl rfl (by decide) (by simp[dv,ay]) rfl rfl (by omega) (by omega) (λM A e=>?_)
  refine .nil (Next.mod rfl ?_)
  refine .tK 7 rfl .assign ?_
  refine RA.nil (by kernel_rfl) ?_
  ·first
      |exact aD ((L,w),(M,A)) ⟨d,e⟩ kE.c.c.c (aK [0,0])
      |exact aD ((L,w),(M,A)) ⟨d,e⟩ kE.c.c.c (aK [1,0])
  refine .makeSlice (enc:=dv) l.length 0 rfl rfl (by decide) (by simp[dv,ay]) rfl rfl (by omega) (by omega) (λM A e=>?_)
  refine .nil (Next.mod rfl ?_)
  refine .sT 2 rfl ?_
  refine .makeSlice (enc:=dv) l.length 0 rfl rfl (by decide) (by simp[dv,ay]) rfl rfl (by omega) (by omega) (λL w d=>?_)
  refine .nil (Next.mod rfl ?_)
  refine .tK 6 rfl .assign<|.tK 7 rfl .assign ?_
  refine RA.nil (by kernel_rfl) ?_
  ·first
      |exact aD ((L,w),(M,A)) ⟨d,e⟩ kE.c.c.c (aK [0,0])
      |exact aD ((L,w),(M,A)) ⟨d,e⟩ kE.c.c.c (aK [1,0])
  intro y hy
  obtain⟨⟨L,w⟩,⟨M,A⟩⟩:=y
  obtain⟨d,e⟩:=hy
  simp only at d e⊢
  refine au<|.seq<|.sr<|.mo rfl<|.q (.bK h) ?_
  refine .mo rfl<|.zn<|.block ?_
  refine .cX [(0,_),(3,_),(4,_),(13,_),(14,_)] (X:=Nat×List (Nat×Nat)×av×av) (λy=>y.1<=l.length/\y.2.1.length=y.1/\jg isWord (l.take y.1) []=some y.2.1/\DI isWord l y.2.1/\OS 3 1 dv (.slice (some ⟨L,0,none⟩) l.length l.length) (y.2.1.map (·.1)++List.replicate (l.length-y.1) 0) y.2.2.1/\OS 3 1 dv (.slice (some ⟨M,0,none⟩) l.length l.length) (y.2.1.map (·.2)++List.replicate (l.length-y.1) 0) y.2.2.2) (λy E=>(15,iN y.1)::E) (λy _=>[y.2.2.1,y.2.2.2]) (λy=>l.length-y.1) (0,[],w,A) ⟨aeB _,rfl,rfl,⟨aeB _,λj hj=>absurd hj (by simp)⟩,by simpa using d,by simpa using e⟩ kE.c.c.c.c.c.c rH (G:=[]) ?_
  rintro⟨i,S,w,A⟩ ⟨hi,o,Q,m,d,e⟩
  simp only at hi o Q m d e⊢
  refine .sr<|.q .lss<|.zs ?_
  refine .cond rfl (λh1=>?_) λh1=>?_
  have W:i<l.length:=cK h1
  obtain⟨n,J⟩:=ca W
  obtain⟨k,hk⟩:∃k,l.length-i=k+1:=⟨l.length-i-1,by omega⟩
  have K:l.length-(i+1)=k:=by omega
  rw[hk]at d e
  have Y:jg isWord (l.take (i+1)) []=ib isWord S n:=by
    rw[eo J,tQ,Q,ae3,jg]
    cases ib isWord S n<;>rfl
  have a3:(S.map (·.1)).length=i:=by rw[aeF,o]
  have a4:(S.map (·.2)).length=i:=by rw[aeF,o]
  have r:∀j,j<i->(S.map (·.1))[j]? =some (S.getD j (0,0)).1/\(S.map (·.2))[j]? =some (S.getD j (0,0)).2/\(S.getD j (0,0)).1<=j+1/\(S.getD j (0,0)).2<=j+1/\1<=(S.getD j (0,0)).1:=λj hj=>by
    obtain⟨d1,d2,d3⟩:=m.t j (by omega)
    have d4:=v9 _ _ _ d3
    refine⟨?_,?_,d2,d4,d1⟩
    ·rw[aeE,bk (by omega),aeJ,bk (by omega)];rfl
    ·rw[aeE,bk (by omega),aeJ,bk (by omega)];rfl
  obtain⟨z1,a0⟩:∃z,(S.map (·.1)++List.replicate (k+1) 0)[i]? =some z:=⟨_,bk (by rw[aeL,a3,afe];omega)⟩
  obtain⟨z2,a1⟩:∃z,(S.map (·.2)++List.replicate (k+1) 0)[i]? =some z:=⟨_,bk (by rw[aeL,a4,afe];omega)⟩
  have b4:=h.le
  refine .kn<|.seq<|.block<|.sr<|.mo rfl ?_
  refine .bF i h J (λd7=>?_)
  refine .q (.aL rfl) ?_
  refine .cq (λb6=>?_)
  refine .ag rfl<|.bZ rfl rfl<|.zs<|.seq ?_
  refine bu.dc [(0,_),(3,_),(4,_),(5,_),(6,_),(13,_),(14,_),(15,_)] kE.c.c.c.c.c.c.c.c (X:=Unit) (λ_=>True) (λ_ E=>(32,.bool (!n.op))::E) (λ_=>[bl b6 n.enc 199,w,A]) ?_ ?_
  refine .region<|.fa rfl<|.lo rfl<|.q .de<|.mo rfl ?_
  refine .split (t:=23) rfl (λB=>?_) (λB=>?_)
  refine .gT B<|.fa rfl<|.gT B<|.lo rfl<|.gT B<|.q .de<|.q (.aU B) ?_
  refine .mo rfl ?_
  refine .split (t:=28) rfl (λC=>?_) (λC=>?_)
  refine .gT C<|.fa rfl<|.gT C<|.lo rfl<|.gT C<|.q .de<|.q (.aU C) ?_
  refine .nil ?_
  ·exact aD () aeA (kE.c.c.c.c.c.c.c.c.cj rfl (by clear r m d e s;grind[Nd.op])) rH
  refine .gF C<|.gF C<|.gF C<|.q (.aN C) ?_
  refine .nil ?_
  ·exact aD () aeA (kE.c.c.c.c.c.c.c.c.cj rfl (by clear r m d e s;grind[Nd.op])) rH
  refine .gF B<|.gF B<|.gF B<|.q (.aN B) ?_
  refine .mo rfl<|.gX<|.gX<|.gX<|.q .dq<|.nil ?_
  ·exact aD () aeA (kE.c.c.c.c.c.c.c.c.cj rfl (by clear r m d e s;grind[Nd.op])) rH
  intro y hy
  refine au ?_
  refine .cond rfl (λV=>?_) λV=>?_
  refine .seq<|.sr<|.q (.aL rfl) ?_
  refine .aQ (M5 n (s n (aR J)) _) (λu hu=>?_)
  subst hu
  refine .q .not<|.zn ?_
  refine .cond rfl (λh3=>?_) λh3=>?_
  refine .sr<|.az rfl ?_
  refine .ret (aJ (aJ (bA (aJ (cW (bA (aJ (aP rfl ?_))))))))
  ·refine⟨?_,rfl⟩
   rw[xr J Q (by unfold ib;rw[aeC (by have a5:n.op=false:=by simpa using V
                                      rw[a5];simp),aeC (by simpa using h3)])]
   rfl
  have a5:n.op=false:=by simpa using V
  have b5:n.leaf isWord=true:=by simpa using h3
  have I:ib isWord S n=some (S++[(1,1)]):=by unfold ib;rw[aeC (by rw[a5];simp),aeG b5]
  refine .kn<|.sr<|.mo rfl<|.mo rfl<|.mo rfl<|.mo rfl ?_
  refine .bh i d a0 (λd8=>?_)
  refine .gk i d a0 1 (λT N=>?_)
  rw[jK a3]at N
  refine .bh i e a1 (λd9=>?_)
  refine .gk i e a1 1 (λU O=>?_)
  rw[jK a4]at O
  refine .zn<|.exit<|bD<|bE<|au<|.region ?_
  refine .ia (i+1) .add ?_
  refine .mo rfl<|.nil ?_
  ·first
      |exact bp (i+1,S++[(1,1)],T,U) ⟨W,by simp[o],by simp only;rw[Y,I],m.step (by rw[o];exact J) I,by simp only;rw[K,aeH];exact N,by simp only;rw[K,aeH];exact O⟩ (by simp only;omega) kE.c.c.c.c.c.c (aK [1,1])
      |exact bp (i+1,S++[((S.getD n.a.toNat (0,0)).1+(S.getD (i-1) (0,0)).1+1,max (S.getD n.a.toNat (0,0)).2 (S.getD (i-1) (0,0)).2+1)],T,U) ⟨W,by simp[o],by simp only;rw[Y,I],m.step (by rw[o];exact J) I,by simp only;rw[K,aeH];exact N,by simp only;rw[K,aeH];exact O⟩ (by simp only;omega) kE.c.c.c.c.c.c (aK [1,1])
  refine .kn<|.seq<|.seq ?_
  refine bu.dc [(0,_),(3,_),(4,_),(5,_),(6,_),(13,_),(14,_),(15,_)] kE.c.c.c.c.c.c.c.c (X:=Unit) (λ_=>True) (λ_ E=>(79,.bool (decide (n.rel≠⟨#[]⟩\/n.ec≠⟨#[]⟩\/n.b≠(i:Int)-1\/n.b<0\/n.a≠(i:Int)-1-((S.getD (i-1) (0,0)).1:Nat)\/n.a<0)))::E) (λ_=>[bl b6 n.enc 199,w,A]) ?_ ?_
  refine .fX mixed (by kernel_rfl) ?_
  refine .fa rfl<|.lo rfl<|.q .iJ<|.mo rfl ?_
  refine .split (t:=45) rfl (λF=>?_) (λF=>?_)
  refine .gF F<|.gF F<|.gF F<|.q (.aU F) ?_
  refine .mo rfl<|.gX<|.gX<|.gX<|.gX<|.gX<|.q .dj<|.mo rfl<|.gX<|.gX<|.gX<|.q .dj<|.mo rfl<|.gX<|.gX<|.gX<|.gX<|.gX<|.gX<|.gX<|.gX<|.gX<|.gX<|.gX<|.q .dj<|.mo rfl<|.gX<|.gX<|.gX<|.q .dj<|.nil ?_
  ·exact aD () aeA (kE.c.c.c.c.c.c.c.c.cj rfl (by clear r m d e s;grind)) rH
  refine .gT F<|.fa rfl<|.gT F<|.lo rfl<|.gT F<|.q .iJ<|.q (.aN F) ?_
  refine .mo rfl ?_
  refine .split (t:=50) rfl (λp=>?_) (λp=>?_)
  refine .gF p<|.gF p<|.gF p<|.gF p<|.gF p<|.q (.aU p) ?_
  refine .mo rfl<|.gX<|.gX<|.gX<|.q .dj<|.mo rfl<|.gX<|.gX<|.gX<|.gX<|.gX<|.gX<|.gX<|.gX<|.gX<|.gX<|.gX<|.q .dj<|.mo rfl<|.gX<|.gX<|.gX<|.q .dj<|.nil ?_
  ·exact aD () aeA (kE.c.c.c.c.c.c.c.c.cj rfl (by clear r m d e s;grind)) rH
  refine .gT p<|.fa rfl<|.gT p<|.lo rfl<|.gT p<|.mo rfl<|.gT p ?_
  refine .q (.i64 ((i:Int)-1) .sub ⟨rfl,by omega,by omega⟩) ?_
  refine .gT p<|.q .de<|.q (.aN p) ?_
  refine .mo rfl ?_
  refine .split (t:=57) rfl (λD=>?_) (λD=>?_)
  refine .gF D<|.gF D<|.gF D<|.q (.aU D) ?_
  refine .mo rfl<|.gX<|.gX<|.gX<|.gX<|.gX<|.gX<|.gX<|.gX<|.gX<|.gX<|.gX<|.q .dj<|.mo rfl<|.gX<|.gX<|.gX<|.q .dj<|.nil ?_
  ·exact aD () aeA (kE.c.c.c.c.c.c.c.c.cj rfl (by clear r m d e s;grind)) rH
  refine .gT D<|.fa rfl<|.gT D<|.lo rfl<|.gT D<|.q .lss<|.q (.aN D) ?_
  refine .mo rfl ?_
  refine .split (t:=62) rfl (λf=>?_) (λf=>?_)
  refine .gF f<|.gF f<|.gF f<|.gF f<|.gF f<|.gF f<|.gF f<|.gF f<|.gF f<|.gF f<|.gF f<|.q (.aU f) ?_
  refine .mo rfl<|.gX<|.gX<|.gX<|.q .dj<|.nil ?_
  ·exact aD () aeA (kE.c.c.c.c.c.c.c.c.cj rfl (by clear r m d e s;grind)) rH
  have c6:1<=i:=by clear r m d e;grind
  obtain⟨q1,q2,q3,q4,q5⟩:=r (i-1) (by omega)
  have a7:=qA (k:=k+1) q1
  refine .gT f<|.fa rfl<|.gT f<|.lo rfl<|.gT f<|.mo rfl<|.gT f ?_
  refine .q (.i64 ((i:Int)-1) .sub ⟨rfl,by omega,by omega⟩) ?_
  refine .gT f<|.mo rfl<|.gT f<|.mo rfl<|.gT f ?_
  refine .q (.i64 ((i:Int)-1) .sub ⟨rfl,by omega,by omega⟩) ?_
  refine .gT f ?_
  refine .bh (i-1) d a7 (λe0=>?_) rfl rfl (by omega)
  refine .gT f<|.lo rfl<|.gT f ?_
  refine .q (.i64 ((i:Int)-1-((S.getD (i-1) (0,0)).1:Nat)) .sub ⟨rfl,by omega,by omega⟩) ?_
  refine .gT f<|.q .de<|.q (.aN f) ?_
  refine .mo rfl ?_
  refine .split (t:=75) rfl (λH=>?_) (λH=>?_)
  refine .gF H<|.gF H<|.gF H<|.q (.aU H) ?_
  refine .nil ?_
  ·exact aD () aeA (kE.c.c.c.c.c.c.c.c.cj rfl (by clear r m d e s;grind)) rH
  refine .gT H<|.fa rfl<|.gT H<|.lo rfl<|.gT H<|.q .lss<|.q (.aN H) ?_
  refine .nil ?_
  ·exact aD () aeA (kE.c.c.c.c.c.c.c.c.cj rfl (by clear r m d e s;grind)) rH
  intro y hy
  refine au ?_
  refine .cond rfl (λh4=>?_) λh4=>?_
  have a6:n.op=true:=by simpa using V
  have Z:mE S n:=by unfold mE;rw[o];exact cL h4
  refine .sr<|.az rfl ?_
  refine .ret (aJ (bA (aJ (cW (bA (aJ (aP rfl ?_)))))))
  ·refine⟨?_,rfl⟩
   rw[xr J Q (CN a6 Z)]
   rfl
  have a6:n.op=true:=by simpa using V
  have Z:¬mE S n:=by unfold mE;rw[o];exact bI h4
  have a2:=Z
  unfold mE at a2
  simp only[not_or,Decidable.not_not,o]at a2
  obtain⟨c0,c1,c2,c3,c4,c5⟩:=a2
  obtain⟨q1,q2,q3,q4,q5⟩:=r (i-1) (by omega)
  obtain⟨r1,r2,r3,r4,r5⟩:=r n.a.toNat (by omega)
  have a9:n.b.toNat=i-1:=by omega
  have a7:=qA (k:=k+1) q1
  have b7:=qA (k:=k+1) q2
  have b8:=qA (k:=k+1) r1
  have b9:=qA (k:=k+1) r2
  have I:ib isWord S n=some (S++[((S.getD n.a.toNat (0,0)).1+(S.getD (i-1) (0,0)).1+1,max (S.getD n.a.toNat (0,0)).2 (S.getD (i-1) (0,0)).2+1)]):=by
    rw[CO a6 Z,a9]
  refine .kn<|.seq ?_
  refine .dY 15 mixed (by kernel_rfl) ?_
  conv=>arg 6;dsimp only[List.take]
  refine .mo rfl<|.mo rfl<|.mo rfl<|.fa rfl<|.lo rfl ?_
  refine .bh n.a.toNat d b8 (λe1=>?_) rfl rfl (by omega)
  refine .lo rfl<|.mo rfl<|.fa rfl<|.lo rfl ?_
  refine .bh (i-1) d a7 (λe2=>?_) rfl rfl (by omega)
  refine .lo rfl ?_
  refine .q (.i64 (((S.getD n.a.toNat (0,0)).1+(S.getD (i-1) (0,0)).1:Nat):Int) .add ⟨by push_cast;rfl,by omega,by omega⟩) ?_
  refine .q (.i64 (((S.getD n.a.toNat (0,0)).1+(S.getD (i-1) (0,0)).1+1:Nat):Int) .add ⟨by push_cast;rfl,by omega,by omega⟩) ?_
  refine .bh i d a0 (λe3=>?_)
  refine .nil ?_
  refine .gk i d a0 ((S.getD n.a.toNat (0,0)).1+(S.getD (i-1) (0,0)).1+1) (λT N=>?_)
  rw[jK a3]at N
  refine .zn ?_
  refine .dY 15 mixed (by kernel_rfl) ?_
  conv=>arg 6;dsimp only[List.take]
  refine .mo rfl<|.mo rfl<|.mo rfl<|.fa rfl<|.lo rfl ?_
  refine .bh n.a.toNat e b9 (λc8=>?_) rfl rfl (by omega)
  refine .lo rfl<|.mo rfl<|.fa rfl<|.lo rfl ?_
  refine .bh (i-1) e b7 (λc9=>?_) rfl rfl (by omega)
  refine .lo rfl<|.q .Nj ?_
  refine .q (.i64 ((max (S.getD n.a.toNat (0,0)).2 (S.getD (i-1) (0,0)).2+1:Nat):Int) .add ⟨by omega,by omega,by omega⟩) ?_
  refine .bh i e a1 (λd0=>?_)
  refine .nil ?_
  refine .gk i e a1 (max (S.getD n.a.toNat (0,0)).2 (S.getD (i-1) (0,0)).2+1) (λU O=>?_)
  rw[jK a4]at O
  refine .nil<|ba<|au<|.region ?_
  refine .ia (i+1) .add ?_
  refine .mo rfl<|.nil ?_
  ·first
      |exact bp (i+1,S++[(1,1)],T,U) ⟨W,by simp[o],by simp only;rw[Y,I],m.step (by rw[o];exact J) I,by simp only;rw[K,aeH];exact N,by simp only;rw[K,aeH];exact O⟩ (by simp only;omega) kE.c.c.c.c.c.c (aK [1,1])
      |exact bp (i+1,S++[((S.getD n.a.toNat (0,0)).1+(S.getD (i-1) (0,0)).1+1,max (S.getD n.a.toNat (0,0)).2 (S.getD (i-1) (0,0)).2+1)],T,U) ⟨W,by simp[o],by simp only;rw[Y,I],m.step (by rw[o];exact J) I,by simp only;rw[K,aeH];exact N,by simp only;rw[K,aeH];exact O⟩ (by simp only;omega) kE.c.c.c.c.c.c (aK [1,1])
  have b2:i=l.length:=by have:=bI h1;omega
  subst b2
  rw[afb]at Q
  rw[Nat.sub_self]at d e
  simp only[List.replicate_zero,aeV]at d e
  have b4:=h.le
  refine .exit<|bD<|bG<|bE<|au<|.seq<|.seq ?_
  refine bu.dc [(0,_),(4,_)] kE.c.c (X:=Unit) (λ_=>True) (λ_ E=>(124,.bool (decide (l=[]\/(S.getD (l.length-1) (0,0)).1≠l.length)))::E) (λ_=>[w,A]) ?_ ?_
  refine .region<|.mo rfl<|.q (.bK h) ?_
  refine .q .cr<|.mo rfl ?_
  refine .split (t:=114) rfl (λg=>?_) (λg=>?_)
  refine .gF g<|.gF g<|.gF g<|.gF g<|.gF g<|.gF g<|.gF g<|.gF g<|.gF g<|.q (.aU g) ?_
  refine .nil ?_
  ·exact aD () aeA (kE.c.c.cj rfl (by clear s m d e;rcases l with _|⟨x,l⟩<;>simp at * <;>grind)) rH
  have b3:1<=l.length:=by have:=bI g;omega
  have b0:(S.map (·.1))[l.length-1]? =some (S.getD (l.length-1) (0,0)).1:=by rw[aeE,bk (by omega),aeJ,bk (by omega)];rfl
  refine .gT g<|.mo rfl<|.gT g<|.mo rfl<|.gT g<|.q (.bK h) ?_
  refine .gT g ?_
  refine .q (.i64 ((l.length:Int)-1) .sub ⟨rfl,by omega,by omega⟩) ?_
  refine .gT g ?_
  refine .bh (l.length-1) d b0 (λd5=>?_) rfl rfl (by omega)
  refine .gT g<|.lo rfl<|.gT g<|.mo rfl<|.gT g<|.q (.bK h) ?_
  refine .gT g<|.q .de<|.q (.aN g) ?_
  refine .nil ?_
  ·exact aD () aeA (kE.c.c.cj rfl (by clear s m d e;rcases l with _|⟨x,l⟩<;>simp at * <;>grind)) rH
  intro y hy
  refine au ?_
  refine .cond rfl (λh5=>?_) λh5=>?_
  refine .sr<|.az rfl ?_
  refine .ret (aJ (aP rfl ?_))
  ·refine⟨?_,rfl⟩
   unfold oT
   rw[Q]
   simp only
   rw[aeG (cL h5)]
   rfl
  have a8:=bI h5
  have b3:1<=l.length:=by rcases l with _|⟨x,l⟩<;>simp at a8⊢
  have b1:(S.map (·.2))[l.length-1]? =some (S.getD (l.length-1) (0,0)).2:=by rw[aeE,bk (by omega),aeJ,bk (by omega)];rfl
  refine .kn<|.sr<|.mo rfl<|.mo rfl<|.q (.bK h) ?_
  refine .q (.i64 ((l.length:Int)-1) .sub ⟨rfl,by omega,by omega⟩) ?_
  refine .bh (l.length-1) e b1 (λd6=>?_) rfl rfl (by omega)
  refine .lo rfl<|.az rfl ?_
  refine .ret (aP rfl ?_)
  ·refine⟨?_,rfl⟩
   unfold oT
   rw[Q]
   simp only
   rw[aeC a8]
theorem Ty.kinds(t:Ty):eM [.s,.s] t.enc:=⟨aeA,aeA,aeA⟩
theorem Ty.eq(a b:Ty):eI a.enc b.enc=decide (a=b):=by
 obtain⟨c,d⟩:=a
 obtain⟨e,f⟩:=b
 rw[Bool.eq_iff_iff]
 simp[Ty.enc,eI,mB]
theorem MY(t:Ty)(f:t.fits)(R:aA):Spec prog 177 [.agg t.enc.toArray] R [] λu H'=>u=.bool (ik isWord t)/\H'=[]:=by
 obtain⟨s,r⟩:=t
 obtain⟨d,e⟩:=f
 simp only at d e
 refine Spec.body func177 rfl results177 ntmps177 rfl<|.sr ?_
 refine .cg rfl (λg=>?_)
 refine .ag rfl<|.z<|.q (.aL rfl)<|.q .dw<|.q (.cast (.nq (xs:=Ty.enc ⟨s,r⟩) (ys:=Ty.enc ⟨⟨#[]⟩,⟨#[]⟩⟩) rfl rfl (Ty.kinds _) (Ty.kinds _)) (aeD Value.bool (Ty.eq _ _)))<|.mo rfl<|.split (t:=6) rfl (λa=>?_) (λa=>?_)
 refine .gF a<|.gF a<|.gF a<|.gF a<|.dB rfl<|.dB rfl<|.dB rfl<|.gF a<|.q (.aU a)<|.az rfl<|.ret (aP rfl ?_)
 ·refine⟨aeD _ ?_,rfl⟩
  simp only[ik]
  grind
 refine .gT a<|.fa rfl<|.gT a<|.lo rfl<|.gT a<|.aQ (lq s d _) (λu c=>?_)
 subst c
 refine .gT a<|.mo rfl<|.split (t:=10) rfl (λb=>?_) (λb=>?_)
 refine .gT b<|.fa rfl<|.gT b<|.lo rfl<|.gT b<|.aQ (lq r e _) (λu c=>?_)
 subst c
 refine .gT a<|.q (.aU b)<|.q (.aN a)<|.az rfl<|.ret (aP rfl ?_)
 ·refine⟨aeD _ ?_,rfl⟩
  simp only[ik]
  grind
 refine .gF b<|.gF b<|.gF b<|.gT a<|.q (.aN b)<|.q (.aN a)<|.az rfl<|.ret (aP rfl ?_)
 ·refine⟨aeD _ ?_,rfl⟩
  simp only[ik]
  grind
theorem OU(t:Ty)(a:t.fits)(R:aA):Spec prog 176 [.agg t.enc.toArray] R [] λu H'=>u=.bool (!ik isWord t)/\H'=[]:=by
 refine Spec.body func176 rfl results176 ntmps176 rfl<|.sr ?_
 refine .cg rfl (λc=>?_)
 refine .ag rfl<|.z<|.q (.aL rfl)<|.aQ (MY t a _) (λu b=>?_)
 subst b
 refine .q .not<|.az rfl<|.ret (aP rfl ?_)
 ·exact⟨rfl,rfl⟩
theorem OV(s:Sc)(h:s.fits)(R:aA):Spec prog 179 [.agg s.enc.toArray] R [] λu H'=>u=.bool (!kC isWord dd s)/\H'=[]:=by
 obtain⟨n,j,i,r⟩:=s
 obtain⟨d,e,f,g⟩:=h
 simp only at d e f g
 refine Spec.body func179 rfl results179 ntmps179 rfl<|.sr ?_
 refine .cg rfl (λk=>?_)
 refine .ag rfl<|.z<|.fa rfl<|.lo rfl<|.aQ (lq n d _) (λu c=>?_)
 subst c
 refine .q .not<|.mo rfl<|.split (t:=7) rfl (λb=>?_) (λb=>?_)
 refine .gF b<|.gF b<|.gF b<|.gF b<|.q (.aU b)<|.mo rfl<|.gX<|.gX<|.gX<|.gX<|.q .dj<|.az rfl<|.ret (aP rfl ?_)
 ·refine⟨aeD _ ?_,rfl⟩
  simp only[kC]
  grind
 refine .gT b<|.fa rfl<|.gT b<|.q (.loadT rfl)<|.gT b<|.aQ (tI j i e f _) (λu c=>?_)
 subst c
 refine .gT b<|.q .de<|.q (.aN b)<|.mo rfl<|.split (t:=13) rfl (λa=>?_) (λa=>?_)
 refine .gF a<|.gF a<|.gF a<|.gF a<|.q (.aU a)<|.az rfl<|.ret (aP rfl ?_)
 ·refine⟨aeD _ ?_,rfl⟩
  simp only[kC]
  grind
 refine .gT a<|.fa rfl<|.gT a<|.lo rfl<|.gT a<|.aQ (lq r g _) (λu c=>?_)
 subst c
 refine .gT a<|.q .not<|.q (.aN a)<|.az rfl<|.ret (aP rfl ?_)
 ·refine⟨aeD _ ?_,rfl⟩
  simp only[kC]
  grind
theorem Nx(p:cm)(R:aA)(h:p.is R)(R':aA)(g:∀b o,R b o->R' b o):Spec prog 161 [.agg p.enc.toArray] R' [] λu H'=>u=.bool (iI isWord p.r)/\H'=[]:=by
 obtain⟨l,f,r⟩:=p
 have j:RS R 2 Ty.enc l r.types:=h.t
 have e:RS R 5 Nd.enc f r.nodes:=h.d
 refine Spec.body func161 rfl results161 ntmps161 rfl<|.sr ?_
 refine .cg rfl (λm=>?_)
 refine .ag rfl<|.z<|.fa rfl<|.lo rfl<|.q (.bK j)<|.q .gtr<|.mo rfl<|.split (t:=7) rfl (λc=>?_) (λc=>?_)
 refine .gF c<|.gF c<|.gF c<|.gF c<|.q (.aU c)<|.mo rfl<|.gX<|.gX<|.gX<|.gX<|.q .dj<|.az rfl<|.ret (aP rfl ?_)
 ·refine⟨aeD _ ?_,rfl⟩
  simp only[iI]
  grind
 refine .gT c<|.fa rfl<|.gT c<|.lo rfl<|.gT c<|.q (.bK e)<|.gT c<|.q .gtr<|.q (.aN c)<|.mo rfl<|.split (t:=13) rfl (λa=>?_) (λa=>?_)
 refine .gF a<|.gF a<|.gF a<|.gF a<|.q (.aU a)<|.az rfl<|.ret (aP rfl ?_)
 ·refine⟨aeD _ ?_,rfl⟩
  simp only[iI]
  grind
 have n:r.nodes.length<=64:=by grind
 refine .gT a<|.fa rfl<|.gT a<|.lo rfl<|.gT a<|.aQ ((xu f r.nodes R e h.fd (by omega)).weaken λb o i=>.inl (g b o i)) (λu k=>?_)
 subst k
 refine .gT a<|.q .gtr<|.q (.aN a)<|.az rfl<|.ret (aP rfl ?_)
 ·refine⟨aeD _ ?_,rfl⟩
  simp only[iI]
  grind
theorem Rg(c:bO)(R:aA)(h:c.is R):Spec prog 100 [.agg c.enc.toArray] R [] λu H'=>u=.bool (!c.plain.lI isWord)/\H'=[]:=by
 rw[qF]
 obtain⟨H,F,e,C⟩:=c
 have g:=h.ss
 have v:=h.sc
 have S:=g.ay
 have T:=v.ay
 simp only at g v S T⊢
 have W:=g.le
 refine Spec.body func100 rfl results100 ntmps100 rfl<|.sr ?_
 refine .cg rfl (λx=>?_)
 refine .ag rfl<|.zs<|.seq ?_
 refine bu.dc [(1,_)] kE.c (X:=Unit) (λ_=>True) (λ_ E=>(14,.bool (decide (16<e.length)||decide (16<C.length)))::E) (λ_=>[bl x [H,F] 25]) ?_ ?_
 refine .region<|.fa rfl<|.lo rfl<|.q (.bK g)<|.q .gtr<|.mo rfl<|.split (t:=9) rfl (λa=>?_) (λa=>?_)
 refine .gF a<|.gF a<|.gF a<|.gF a<|.q (.aU a)<|.nil ?_
 ·exact aD () aeA (kE.c.cj rfl (by grind)) rH
 refine .gT a<|.fa rfl<|.gT a<|.lo rfl<|.gT a<|.q (.bK v)<|.gT a<|.q .gtr<|.q (.aN a)<|.nil ?_
 ·exact aD () aeA (kE.c.cj rfl (by grind)) rH
 intro y Q
 refine au<|.cond rfl (λn=>?_) λn=>?_
 refine .sr<|.az rfl<|.ret (aJ (aP rfl ?_))
 ·exact⟨by rw[n];rfl,rfl⟩
 refine .kn<|.seq<|.sr<|.fa rfl<|.lo rfl<|.q (.bK g)<|.mo rfl<|.zn<|.block<|.cX [(16,_),(17,_)] (X:=Nat) (λi=>i<=e.length/\(e.take i).any il=false) (λi E=>(18,iN i)::E) (λ_ G=>G) (λi=>e.length-i) 0 ⟨aeB _,rfl⟩ kE.c.c.c rH ?_
 rintro i ⟨V,A⟩
 refine .sr<|.q .lss<|.zs<|.cond rfl (λp=>?_) λp=>?_
 have z:i<e.length:=cK p
 obtain⟨⟨D,m,k⟩,j⟩:=ca z
 have w:=h.all _ (aR j)
 have B:RS R 3 cm.enc m k:=w.rs
 have Y:cM (cF.enc ⟨D,m,k⟩):=⟨w.dl⟩
 refine .kn<|.seq<|.block<|.sr ?_
 refine .bF i g j (λZ=>?_)
 refine .q (.aL rfl) ?_
 refine .cq (λU=>?_)
 refine .bZ rfl rfl<|.zs ?_
 refine bu.dc [(16,_),(17,_),(18,_)] kE.c.c.c (X:=Unit) (λ_=>True) (λ_ E=>(30,.bool (il ⟨D,m,k⟩))::E) (λ_=>[bl x [H,F] 25]) ?_ ?_
 refine .region<|.fa rfl<|.lo rfl<|.q (.bK B)<|.q .gtr<|.mo rfl<|.split (t:=26) rfl (λd=>?_) (λd=>?_)
 refine .gF d<|.gF d<|.gF d<|.q (.aU d)<|.nil ?_
 ·exact aD () aeA (kE.c.c.c.cj rfl (by unfold il;simp only;grind)) (aK [1])
 refine .gT d<|.fa rfl<|.gT d<|.lo rfl<|.gT d<|.aQ (LRE.jU 161 [] (λr=>iI isWord r.r) m k _ B.rx (λr N I K=>Nx r R (w.all r N) I λb o L=>K b o (.inl L))) (λu O=>?_)
 subst O
 refine .q (.aN d)<|.nil ?_
 ·exact aD () aeA (kE.c.c.c.cj rfl (by unfold il;simp only;grind)) (aK [1])
 intro y Q
 refine au<|.cond rfl (λs=>?_) λs=>?_
 refine .sr<|.az rfl<|.ret (bA (aJ (cW (bA (aJ (aP rfl ?_))))))
 ·refine⟨?_,rfl⟩
  rw[ru j (f:=il) s,afj]
  rfl
 refine .skip<|ba<|au<|.region<|.ia (i+1) .add<|.mo rfl<|.nil ?_
 ·exact bp (i+1) ⟨z,tw j A s⟩ (by omega) kE.c.c.c rH
 refine .exit<|bD<|bG<|bE<|au<|.sr<|.az rfl<|.ret (aP rfl ?_)
 ·refine⟨?_,rfl⟩
  have J:(decide (16<e.length)||decide (16<C.length))=false:=n
  have M:e.any il=false:=by rw[<-dZ (l:=e) (i:=i) (by have:=bI p;omega)];exact A
  rw[J,M]
  rfl
theorem OW(c:bO)(R:aA)(h:c.is R):Spec prog 120 [.agg c.enc.toArray] R [] λu H'=>u=.bool (c.plain.right isWord dd)/\H'=[]:=by
 have hw:=Rg c R h
 have o:c.plain.lI isWord=false->c.jF/\∀s∈c.aV,∀r∈s.bS,r.r.nodes.length<=64:=λx=>by
  rw[qF]at x
  simp only[afv,afw,List.any_eq_false,aeW]at x
  refine⟨⟨by omega,λs a=>?_⟩,λs a r o=>?_⟩
  ·have:=x.2 s a
   unfold il at this
   simp only[afi,ae8,not_or,aeW]at this
   exact this.1
  ·have:=x.2 s a
   unfold il at this
   simp only[afi,ae8,not_or,aeW,List.any_eq_true,not_exists,not_and]at this
   have p:=this.2 r o
   unfold iI at p
   simp only[afi,ae8,not_or,aeW]at p
   exact p.1.2
 rw[Am]
 generalize a9:c.plain.lI isWord=mu at *
 obtain⟨vs,W,A,a5⟩:=c
 have C:=h.ss
 have N:=h.sc
 have i1:=C.ay
 have i2:=N.ay
 simp only at C N i1 i2⊢
 have a7:=C.le
 refine Spec.body func120 rfl results120 ntmps120 rfl<|.sr ?_
 refine .cg rfl (λY=>?_)
 refine .ag rfl<|.zs<|.sr<|.q (.aL rfl)<|.aQ (hw.weaken dt) (λu g=>?_)
 subst g
 refine .q .not<|.zn<|.cond rfl (λJ=>?_) λJ=>?_
 have a2:mu=true:=by simpa using J
 refine .sr<|.az rfl<|.ret (aJ (aP rfl ?_))
 ·refine⟨?_,rfl⟩
  rw[a2]
  simp
 have S:mu=false:=by simpa using J
 obtain⟨a6,T⟩:=o S
 simp only at T
 refine .kn<|.seq<|.sr<|.fa rfl<|.lo rfl<|.q (.bK C)<|.mo rfl<|.zn<|.block<|.cX [(1,_),(11,_),(12,_)] (X:=Nat) (λi=>i<=A.length/\(A.take i).all hG=true) (λi E=>(13,iN i)::E) (λ_ G=>G) (λi=>A.length-i) 0 ⟨aeB _,rfl⟩ kE.c.c.c.c rH ?_
 rintro i ⟨hi,U⟩
 refine .sr<|.q .lss<|.zs<|.cond rfl (λp=>?_) λp=>?_
 have Q:i<A.length:=cK p
 obtain⟨⟨D,H,j⟩,a⟩:=ca Q
 have F:=h.all _ (aR a)
 have M:RS R 3 cm.enc H j:=F.rs
 have a8:=M.le
 have b3:cM (cF.enc ⟨D,H,j⟩):=⟨F.dl⟩
 refine .kn<|.seq<|.block<|.sr ?_
 refine .bF i C a (λb5=>?_)
 refine .q (.aL rfl) ?_
 refine .cq (λZ=>?_)
 refine .bZ rfl rfl<|.zs<|.sr<|.fa rfl<|.lo rfl<|.aQ (lq D F.n _) (λu g=>?_)
 subst g
 refine .q .not<|.zn<|.cond rfl (λK=>?_) λK=>?_
 refine .sr<|.az rfl<|.ret (aJ (bA (aJ (cW (bA (aJ (aP rfl ?_)))))))
 ·refine⟨?_,rfl⟩
  rw[lE a (f:=hG) (by unfold hG;simp only;rw[show isWord D=false by simpa using K];rfl)]
  rfl
 refine .kn<|.sr<|.fa rfl<|.lo rfl<|.q (.bK M)<|.mo rfl<|.zn<|.block<|.cX [(1,_),(11,_),(12,_),(13,_),(22,_),(23,_)] (X:=Nat) (λk=>k<=j.length/\(j.take k).all jr=true) (λk E=>(24,iN k)::E) (λ_ G=>G) (λk=>j.length-k) 0 ⟨aeB _,rfl⟩ kE.c.c.c.c.c.c.c rH ?_
 rintro k ⟨hk,V⟩
 refine .sr<|.q .lss<|.zs<|.cond rfl (λL=>?_) λL=>?_
 have O:k<j.length:=cK L
 obtain⟨⟨w,v,r⟩,o⟩:=ca O
 have z:=F.all _ (aR o)
 have a4:RS R 2 Ty.enc w r.types:=z.t
 have a3:RS R 5 Nd.enc v r.nodes:=z.d
 have b0:cM (cm.enc ⟨w,v,r⟩):=⟨z.dl⟩
 have b2:r.nodes.length<=64:=T _ (aR a) _ (aR o)
 refine .kn<|.seq<|.block<|.sr ?_
 refine .bF k M o (λb7=>?_)
 refine .q (.aL rfl) ?_
 refine .cq (λb6=>?_)
 refine .bZ rfl rfl<|.zs ?_
 refine bu.dc [(1,_),(11,_),(12,_),(13,_),(22,_),(23,_),(24,_)] kE.c.c.c.c.c.c.c (X:=Unit) (λ_=>True) (λ_ E=>(42,.bool (!jr ⟨w,v,r⟩))::E) (λ_=>[bl Z (cF.enc ⟨D,H,j⟩) 164,bl Y [vs,W] 25]) ?_ ?_
 refine .region<|.fa rfl<|.lo rfl<|.aQ (lq r.name z.n _) (λu g=>?_)
 subst g
 refine .q .not<|.mo rfl<|.split (t:=32) rfl (λb=>?_) (λb=>?_)
 refine .gF b<|.gF b<|.gF b<|.gF b<|.q (.aU b)<|.mo rfl<|.gX<|.gX<|.gX<|.q .dj<|.nil ?_
 ·exact aD () aeA (kE.c.c.c.c.c.c.c.cj rfl (by
   have e:(r.types.any λt=> !ik isWord t)= !mQ ⟨w,v,r⟩:=by unfold mQ;simp[afp]
   unfold jr
   simp only[e]at *
   grind)) (aK [1,1])
 refine .gT b<|.fa rfl<|.gT b<|.lo rfl<|.gT b<|.aQ ((xu v r.nodes R a3 z.fd (by omega)).weaken dt) (λu g=>?_)
 subst g
 refine .gT b<|.q .cr<|.q (.aN b)<|.mo rfl<|.split (t:=38) rfl (λm=>?_) (λm=>?_)
 refine .gF m<|.gF m<|.gF m<|.q (.aU m)<|.nil ?_
 ·exact aD () aeA (kE.c.c.c.c.c.c.c.cj rfl (by
   have e:(r.types.any λt=> !ik isWord t)= !mQ ⟨w,v,r⟩:=by unfold mQ;simp[afp]
   unfold jr
   simp only[e]at *
   grind)) (aK [1,1])
 refine .gT m<|.fa rfl<|.gT m<|.lo rfl<|.gT m<|.aQ (LTY.jU 176 [] (λt=> !ik isWord t) w r.types _ a4.rx (λt ht I a0=>OU t (z.ft t ht) I)) (λu g=>?_)
 subst g
 refine .q (.aN m)<|.nil ?_
 ·exact aD () aeA (kE.c.c.c.c.c.c.c.cj rfl (by
   have e:(r.types.any λt=> !ik isWord t)= !mQ ⟨w,v,r⟩:=by unfold mQ;simp[afp]
   unfold jr
   simp only[e]at *
   grind)) (aK [1,1])
 intro y hy
 refine au<|.cond rfl (λB=>?_) λB=>?_
 refine .sr<|.az rfl<|.ret (bA (aJ (cW (bA (bA (aJ (cW (bA (aJ (aP rfl ?_))))))))))
 ·refine⟨?_,rfl⟩
  rw[lE a (f:=hG) (by unfold hG;simp only;rw[lE o (f:=jr) (by simpa using B),aeN])]
  rfl
 refine .skip<|ba<|au<|.region<|.ia (k+1) .add<|.mo rfl<|.nil ?_
 ·exact bp (k+1) ⟨O,nh o V (by simpa using B)⟩ (by omega) kE.c.c.c.c.c.c.c rH
 have x:hG ⟨D,H,j⟩=true:=by
  have B:j.all jr=true:=by rw[<-dZ (l:=j) (i:=k) (by have:=bI L;omega)];exact V
  unfold hG
  simp only[B,aeK]
  simpa using K
 refine .exit<|bD<|bG<|bE<|ba<|au<|.region<|.ia (i+1) .add<|.mo rfl<|.nil ?_
 ·exact bp (i+1) ⟨Q,nh a U x⟩ (by omega) kE.c.c.c.c (aK [1])
 have a1:A.all hG=true:=by rw[<-dZ (l:=A) (i:=i) (by have:=bI p;omega)];exact U
 refine .exit<|bD<|bG<|bE<|au<|.sr<|.fa rfl<|.lo rfl<|.aQ (LSC.jU 179 [] (λs=> !kC isWord dd s) W a5 _ N.rx (λs a I a0=>OV s (h.fc s a) I)) (λu g=>?_)
 subst g
 refine .q .not<|.az rfl<|.ret (aP rfl ?_)
 ·refine⟨?_,rfl⟩
  rw[a1,S]
  simp[afp]
instance Ty.rU:eF prog 249 (λk:Ty=>.agg k.enc.toArray):=eF.agg xW underlying249 rfl Ty.kinds Ty.eq
abbrev gu:=Nat×Nat
def lF(p:gu):List Value:=[iN p.1,iN p.2]
instance(p:gu):cM (lF p):=⟨by simp[lF,ay]⟩
abbrev mg(k:Ty):Value:=.agg k.enc.toArray
abbrev lQ(p:gu):Value:=.agg (lF p).toArray
theorem AX(i:Nat)(a:ByteArray):∀{rs:List Rl} {b k:Nat} {r:Rl},rs[k]? =some r->(lM i a b rs)[k]? =some ((⟨a,r.name⟩:Ty),(i,b+k))
 |[],b,k,r,h=>by simp at h
 |x::rs,b,0,r,h=>by simp only[ae6,ae7]at h;subst h;rfl
 |x::rs,b,k+1,r,h=>by
  rw[lM,List.getElem?_cons_succ,AX i a (rs:=rs) (b:=b+1) (k:=k) (r:=r) (by simpa using h)]
  rw[show b+1+k=b+(k+1) by omega]
theorem AZ:∀{l:List Sp} {b i k:Nat} {s:Sp} {r:Rl},l[i]? =some s->s.bS[k]? =some r->(gQ b l)[cO l i+k]? =some ((⟨s.name,r.name⟩:Ty),(b+i,k))
 |[],b,i,k,s,r,h,_=>by simp at h
 |x::l,b,0,k,s,r,h,hr=>by
  simp only[ae6,ae7]at h
  subst h
  have a:=(aeO.1 hr).1
  rw[gQ,List.getElem?_append_left (by rw[oD];simpa[cO]using a)]
  simpa[cO]using AX b x.name (b:=0) hr
 |x::l,b,i+1,k,s,r,h,hr=>by
  rw[gQ,cO,List.getElem?_append_right (by rw[oD];omega),oD,show x.bS.length+cO l i+k-x.bS.length=cO l i+k by omega,AZ (l:=l) (b:=b+1) (by simpa using h) hr,show b+1+i=b+(i+1) by omega]
theorem vU:∀(l:List Sp) (b:Nat),(gQ b l).length=total l
 |[],b=>rfl
 |s::l,b=>by
  have:=vU l (b+1)
  unfold total at this⊢
  rw[gQ,aeL,oD,this,ae9,cO]
theorem zA(t:Ty):∀M:List (Ty×gu),cG t M=look t M
 |[]=>rfl
 |(k,x)::M=>by
  have a:=zA t M
  unfold look at a⊢
  rw[cG,List.find?_cons]
  by_cases e:t=k
  ·subst e;simp
  ·rw[aeC e,a]
   have:decide (k=t)=false:=aeS λh=>e h.symm
   simp only[this]
def mw(M:List (ByteArray×Bool))(l:List ByteArray):Prop:=∀k,cG k M=if k∈l then some true else none
theorem mw.nil:mw [] []:=λk=>by simp[cG]
theorem mw.add{M:List (ByteArray×Bool)}{l:List ByteArray}(h:mw M l)(t:ByteArray):mw (dy t true M) (l++[t]):=λk=>by
 rw[kV,h k]
 by_cases e:k=t
 ·simp[e]
 ·simp[e]
def qd(xb:Nat)(c:bO)(T:av):Prop:=∃vm Tm,T=(xb,.cells [c.vs,c.vc,vm].toArray 318 (0,0))::Tm/\MS mg lQ vm (gQ 0 c.plain.aV) Tm
theorem NL(c:bO)(R:aA)(h:c.is R):Spec prog 121 [.agg c.enc.toArray] R [] λu H'=>∃T,H'=[T]/\((c.plain.dN/\∃xb,u=.tuple [pT xb,.bool true].toArray/\qd xb c T)\/(¬c.plain.dN/\u=.tuple [.pointer none,.bool false].toArray)):=by
 have c1:∀(i:Nat) s,c.aV[i]? =some s->c.plain.aV[i]? =some s.plain:=λi s n=>by unfold bO.plain;simp only;rw[aeE,n];rfl
 have c2:c.plain.aV.length=c.aV.length:=by unfold bO.plain;simp
 have K:c.plain.dN↔(c.aV.map (·.name)).Nodup/\((gQ 0 c.plain.aV).map (·.1)).Nodup/\(c.scopes.map (·.name)).Nodup:=by
  unfold Cf.dN
  rw[vT]
  simp only[bO.plain,aeQ]
  exact Iff.rfl
 have b0:∀xb T,qd xb c T↔∃vm Tm,T=(xb,.cells [c.vs,c.vc,vm].toArray 318 (0,0))::Tm/\MS mg lQ vm (gQ 0 c.plain.aV) Tm:=λ_ _=>Iff.rfl
 have d6:=vU c.plain.aV 0
 generalize e5:c.plain=pl at *
 generalize hS:gQ 0 pl.aV=S at *
 have d5:∀i k s (r:Rl),pl.aV[i]? =some s->s.bS[k]? =some r->S[cO pl.aV i+k]? =some ((⟨s.name,r.name⟩:Ty),(i,k)):=λi k s r A B=>by
  have:=AZ (b:=0) A B
  rw[hS,afl]at this
  exact this
 obtain⟨W,V,f,o⟩:=c
 have J:=h.ss
 have I:=h.sc
 have i1:=J.ay
 have i2:=I.ay
 simp only at J I i1 i2 c1 c2 K b0⊢
 have e2:=J.le
 have e1:=I.le
 refine Spec.body func121 rfl results121 ntmps121 rfl ?_
 refine .sr ?_
 refine .cg rfl (λb1=>?_)
 refine .ag rfl<|.ag rfl<|.z<|.q (.aL rfl) ?_
 refine .makeMap (λx=>?_)
 refine .q .dw ?_
 refine .cg rfl (λY=>?_)
 refine .ag rfl<|.z ?_
 refine .makeMap (λa8=>?_)
 refine .ag rfl<|.zs<|.sr<|.fa rfl<|.lo rfl<|.q (.bK J) ?_
 refine .mo rfl<|.zn<|.block ?_
 refine .cX [(1,_),(4,_),(5,_),(22,_),(23,_)] (G:=[bl Y [W,V,.map (some x)] 318,bl b1 [W,V] 25]) (X:=Nat×List (ByteArray×Bool)×av×av) (λy=>y.1<=f.length/\((f.map (·.name)).take y.1).Nodup/\mw y.2.1 ((f.map (·.name)).take y.1)/\MS mg lQ (.map (some x)) (S.take (cO pl.aV y.1)) y.2.2.1/\MS (λs:ByteArray=>.string s) (λb:Bool=>.bool b) (.map (some a8)) y.2.1 y.2.2.2) (λy E=>(24,iN y.1)::E) (λy G=>y.2.2.1::y.2.2.2::G) (λy=>f.length-y.1) (0,[],[(x,.map #[] 0)],[(a8,.map #[] 0)]) ⟨aeB _,by simp,by simpa using mw.nil,by rw[show cO pl.aV 0=0 by cases pl.aV<;>rfl];exact MS.nil,MS.nil⟩ kE.c.c.c.c.c.c (aK [2,0,0,0]) ?_
 rintro⟨i,M,O,Tb⟩ ⟨hi,Q,a5,g,a0⟩
 simp only at hi Q a5 g a0⊢
 refine .sr<|.q .lss<|.zs ?_
 refine .cond rfl (λA=>?_) λA=>?_
 have b6:i<f.length:=cK A
 obtain⟨⟨d,N,m⟩,n⟩:=ca b6
 have a4:=h.all _ (aR n)
 have a3:RS R 3 cm.enc N m:=a4.rs
 have e3:=a3.le
 have e6:cM (cF.enc ⟨d,N,m⟩):=⟨a4.dl⟩
 have w:(f.map (·.name))[i]? =some d:=by rw[aeE,n];rfl
 have c0:=c1 i _ n
 have b8:=pA c0
 rw[show(cF.plain ⟨d,N,m⟩).bS.length=m.length by simp[cF.plain]]at b8
 refine .kn<|.seq<|.block<|.sr<|.mo rfl ?_
 refine .bF i J n (λe7=>?_)
 refine .q (.aL rfl) ?_
 refine .cq (λb7=>?_)
 refine .ag rfl<|.bZ rfl rfl<|.zs<|.sr<|.mo rfl<|.fa rfl<|.lo rfl ?_
 refine .q (.od a0.rx rfl (key:=d) rfl (show _=Value.bool (decide (d∈(f.map (·.name)).take i))from by rw[a5 d];split<;>simp_all)) ?_
 refine .zn ?_
 refine .cond rfl (λB=>?_) λB=>?_
 refine .sr<|.ag rfl<|.az rfl ?_
 refine .ret (aJ (bA (aJ (cW (bA (aJ (br _ (.two (.tmp rfl) (.tmp rfl)) (.one [0] _) ?_)))))))
 ·refine⟨_,rfl,.inr ⟨λD=>?_,rfl⟩⟩
  have v:d∈(f.map (·.name)).take i:=by simpa using B
  obtain⟨q,H,e⟩:=ae2.1 v
  rw[aeI]at H
  rw[afk]at e
  exact oq (show q<i by omega) w (bk (by omega)) e.symm (K.1 D).1
 have a2:d∉(f.map (·.name)).take i:=by simpa using B
 have d0:((f.map (·.name)).take (i+1)).Nodup:=by rw[eo w,afu];exact⟨Q,by simp,λa ha b C=>by rw[aeZ]at C;subst C;intro e;subst e;exact a2 ha⟩
 have d7:mw (dy d true M) ((f.map (·.name)).take (i+1)):=by rw[eo w];exact a5.add d
 refine .kn<|.sr<|.mo rfl<|.fa rfl<|.lo rfl ?_
 refine .update (key:=d) (u:=true) a0 rfl rfl rfl (λa7 c5 _=>?_)
 refine .z<|.fa rfl<|.lo rfl<|.q (.bK a3) ?_
 refine .mo rfl<|.zn<|.block ?_
 refine .cX [(1,_),(4,_),(5,_),(6,_),(7,_),(22,_),(23,_),(24,_),(37,_),(38,_)] (G:=[a7,bl b7 (cF.enc ⟨d,N,m⟩) 164,bl Y [W,V,.map (some x)] 318,bl b1 [W,V] 25]) (X:=Nat×av) (λy=>y.1<=m.length/\MS mg lQ (.map (some x)) (S.take (cO pl.aV i+y.1)) y.2) (λy E=>(39,iN y.1)::E) (λy G=>y.2::G) (λy=>m.length-y.1) (0,O) ⟨aeB _,g⟩ kE.c.c.c.c.c.c.c.c.c.c.c (aK [1,1,0,0,0]) ?_
 rintro⟨k,O⟩ ⟨hk,g⟩
 simp only at hk g⊢
 refine .sr<|.q .lss<|.zs ?_
 refine .cond rfl (λZ=>?_) λZ=>?_
 have b5:k<m.length:=cK Z
 obtain⟨⟨vt,vn,r⟩,hr⟩:=ca b5
 have d4:=a4.all _ (aR hr)
 have e4:cM (cm.enc ⟨vt,vn,r⟩):=⟨d4.dl⟩
 have d3:(cF.plain ⟨d,N,m⟩).bS[k]? =some r:=by unfold cF.plain;simp only;rw[aeE,hr];rfl
 have b3:S[cO pl.aV i+k]? =some ((⟨d,r.name⟩:Ty),(i,k)):=d5 i k _ r c0 d3
 obtain⟨ps,L,d1,F⟩:∃(ps:gu) (L:Bool),[((cG (⟨d,r.name⟩:Ty) (S.take (cO pl.aV i+k))).map lQ).getD (lQ (0,0)),Value.bool (cG (⟨d,r.name⟩:Ty) (S.take (cO pl.aV i+k))).isSome]=[lQ ps,.bool L]/\(cG (⟨d,r.name⟩:Ty) (S.take (cO pl.aV i+k))).isSome=L:=by
  cases cG (⟨d,r.name⟩:Ty) (S.take (cO pl.aV i+k))with
  |none=>exact⟨(0,0),false,rfl,rfl⟩
  |some p=>exact⟨p,true,rfl,rfl⟩
 refine .kn<|.seq<|.block<|.sr<|.mo rfl ?_
 refine .bF k a3 hr (λe8=>?_)
 refine .q (.aL rfl) ?_
 refine .cq (λb9=>?_)
 refine .ag rfl<|.bZ rfl rfl<|.z<|.fa rfl<|.lo rfl<|.fa rfl<|.lo rfl ?_
 refine .q .dw ?_
 refine .cq (λd8=>?_)
 refine .bZ rfl rfl<|.zs<|.seq<|.dz [10] mixed ?_
 refine .tO 0 rfl .move<|.tO 1 rfl (.nilCheck rfl)<|.tO 2 rfl (.fieldAddr rfl)<|.tO 3 rfl (.cI rfl)<|.tO 4 rfl (.aL rfl) ?_
 refine .jw 5 rfl (.cast (.ny g.rx rfl rfl) (aeD (λl:List Value=>Value.tuple l.toArray) d1)) (by kernel_rfl) ?_
 refine .tO 6 rfl .move<|.tO 7 rfl .extract<|.tK 8 rfl .extract ?_
 refine .sT 9 rfl ?_
 refine .cq (λd9=>?_)
 refine .nil (Next.sub ?_)
 refine .sT 10 rfl ?_
 refine .bZ rfl rfl ?_
 refine .nil (Next.mod rfl ?_)
 refine .tK 11 rfl .assign ?_
 refine RA.nil (by kernel_rfl) ?_
 refine au<|.sr<|.mo rfl<|.zn ?_
 refine .cond rfl (λh4=>?_) λh4=>?_
 refine .sr<|.ag rfl<|.az rfl ?_
 refine .ret (aJ (bA (aJ (cW (bA (bA (aJ (cW (bA (aJ (br _ (.two (.tmp rfl) (.tmp rfl)) (.one [0] _) ?_)))))))))))
 ·refine⟨_,rfl,.inr ⟨λD=>?_,rfl⟩⟩
  have t:L=true:=h4
  rw[t]at F
  obtain⟨p,hp⟩:=Option.isSome_iff_exists.1 F
  have v:=uO hp
  obtain⟨q,H,e⟩:=ae2.1 v
  rw[aeI]at H
  rw[afk]at e
  have c7:(S.map (·.1))[cO pl.aV i+k]? =some ⟨d,r.name⟩:=by rw[aeE,b3];rfl
  have d2:(S.map (·.1))[q]? =some ⟨d,r.name⟩:=by rw[aeE,bk (by omega),e];rfl
  exact oq (show q<cO pl.aV i+k by omega) c7 d2 rfl (K.1 D).2.1
 refine .kn ?_
 refine .dY 8 mixed (by kernel_rfl) ?_
 conv=>arg 6;dsimp only[List.take]
 refine .mo rfl<|.nc rfl<|.fa rfl<|.lo rfl<|.q (.aL rfl)<|.mo rfl<|.mo rfl ?_
 refine .q .dw ?_
 refine .nil ?_
 refine .update (key:=(⟨d,r.name⟩:Ty)) (u:=((i,k):gu)) g rfl rfl rfl (λc3 b2 _=>?_)
 rw[mM (by
  have t:L=false:=h4
  rw[t]at F
  intro v
  rw[Option.isSome_eq_false_iff,Option.isNone_iff_eq_none]at F
  exact pi.1 F v), <-eo b3]at b2
 refine .nil<|ba<|au<|.region ?_
 refine .ia (k+1) .add ?_
 refine .mo rfl<|.nil ?_
 ·exact bp (k+1,c3) ⟨b5,b2⟩ (by simp only;omega) kE.c.c.c.c.c.c.c.c.c.c.c (aK [3,3,3,3,3])
 have c9:k=m.length:=by have:=bI Z;omega
 rw[c9, <-b8]at g
 refine .exit<|bD<|bG<|bE<|ba<|au<|.region ?_
 refine .ia (i+1) .add ?_
 refine .mo rfl<|.nil ?_
 ·exact bp (i+1,dy d true M,O,a7) ⟨b6,d0,d7,g,c5⟩ (by simp only;omega) kE.c.c.c.c.c.c (aK [0,0,1,1])
 have c8:i=f.length:=by have:=bI A;omega
 subst c8
 rw[show cO pl.aV f.length=S.length by rw[<-c2,d6];rfl,afb]at g
 rw[show f.length=(f.map (·.name)).length by rw[aeF],afb]at Q
 refine .exit<|bD<|bG<|bE<|au<|.sr ?_
 refine .makeMap (λa9=>?_)
 refine .ag rfl<|.zs<|.sr<|.fa rfl<|.lo rfl<|.q (.bK I) ?_
 refine .mo rfl<|.zn<|.block ?_
 refine .cX [(4,_),(13,_),(71,_),(72,_)] (X:=Nat×List (ByteArray×Bool)×av) (λy=>y.1<=o.length/\((o.map (·.name)).take y.1).Nodup/\mw y.2.1 ((o.map (·.name)).take y.1)/\MS (λs:ByteArray=>.string s) (λb:Bool=>.bool b) (.map (some a9)) y.2.1 y.2.2) (λy E=>(73,iN y.1)::E) (λy G=>y.2.2::G) (λy=>o.length-y.1) (0,[],[(a9,.map #[] 0)]) ⟨aeB _,by simp,by simpa using mw.nil,MS.nil⟩ kE.c.c.c.c.c rH ?_
 rintro⟨j,M3,Tc⟩ ⟨hj,U,a6,a1⟩
 simp only at hj U a6 a1⊢
 refine .sr<|.q .lss<|.zs ?_
 refine .cond rfl (λt=>?_) λt=>?_
 have b4:j<o.length:=cK t
 obtain⟨s,n⟩:=ca b4
 have w:(o.map (·.name))[j]? =some s.name:=by rw[aeE,n];rfl
 refine .kn<|.seq<|.block<|.sr ?_
 refine .bF j I n (λe9=>?_)
 refine .q (.aL rfl) ?_
 refine .cq (λe0=>?_)
 refine .bZ rfl rfl<|.zs<|.sr<|.mo rfl<|.fa rfl<|.lo rfl ?_
 refine .q (.od a1.rx rfl (key:=s.name) rfl (show _=Value.bool (decide (s.name∈(o.map (·.name)).take j))from by rw[a6 s.name];split<;>simp_all)) ?_
 refine .zn ?_
 refine .cond rfl (λh6=>?_) λh6=>?_
 refine .sr<|.ag rfl<|.az rfl ?_
 refine .ret (aJ (bA (aJ (cW (bA (aJ (br _ (.two (.tmp rfl) (.tmp rfl)) (.one [0] _) ?_)))))))
 ·refine⟨_,rfl,.inr ⟨λD=>?_,rfl⟩⟩
  have v:s.name∈(o.map (·.name)).take j:=by simpa using h6
  obtain⟨q,H,e⟩:=ae2.1 v
  rw[aeI]at H
  rw[afk]at e
  exact oq (show q<j by omega) w (bk (by omega)) e.symm (K.1 D).2.2
 have a2:s.name∉(o.map (·.name)).take j:=by simpa using h6
 refine .kn<|.region<|.mo rfl<|.fa rfl<|.lo rfl ?_
 refine .update (key:=s.name) (u:=true) a1 rfl rfl rfl (λc4 c6 _=>?_)
 refine .nil<|ba<|au<|.region ?_
 refine .ia (j+1) .add ?_
 refine .mo rfl<|.nil ?_
 ·exact bp (j+1,dy s.name true M3,c4) ⟨b4,by rw[eo w,afu];exact⟨U,by simp,λa ha b C=>by rw[aeZ]at C;subst C;intro e;subst e;exact a2 ha⟩,by simp only;rw[eo w];exact a6.add s.name,c6⟩ (by simp only;omega) kE.c.c.c.c.c (aK [1,1,1,1,1])
 refine .exit<|bD<|bG<|bE<|au<|.sr<|.mo rfl<|.ag rfl<|.az rfl ?_
 refine .ret (br _ (.two (.tmp rfl) (.tmp rfl)) (.one [3,1] _) ?_)
 ·refine⟨_,rfl,.inl ⟨K.2 ⟨Q,g.nd,?_⟩,Y,rfl,(b0 _ _).2 ⟨_,O,by simp[take,bN],g⟩⟩⟩
  rw[dZ (by rw[aeF];have:=bI t;omega)]at U
  exact U
theorem bz.ka{H:aM}:bz H [[]]:=⟨H.flatten,by simp⟩
structure IX(R:aA)(xb:Nat)(vm:Value)(c:bO):Prop where
 pc:PC R (pT xb) [c.vs,c.vc,vm]
 om:One vm
 ci:c.is R
 rm:RM R mg lQ vm (gQ 0 c.plain.aV)
theorem RM.pj{κ β:Type} [DecidableEq κ]{R R':aA}{encK:κ->Value}{a:β->Value}{m:Value}{M:List (κ×β)}(h:RM R encK a m M)(i:∀b o,R b o->R' b o):RM R' encK a m M:=by
 obtain⟨b,d,c,e,f,g⟩:=h
 exact⟨b,d,c,e,i _ _ f,g⟩
theorem IX.mono{R R':aA}{xb:Nat}{vm:Value}{c:bO}(h:IX R xb vm c)(a:∀b o,R b o->R' b o):IX R' xb vm c:=⟨h.pc.mono a,h.om,h.ci.mono a,h.rm.pj a⟩
theorem qd.view{R:aA}{xb:Nat}{c:bO}{T:av}(h:qd xb c T)(e:c.is R):∃vm,IX (λb o=>R b o\/(b,o)∈T) xb vm c:=by
 obtain⟨vm,g,rfl,a⟩:=h
 refine⟨vm,⟨PC.of (E:=318) (fr:=(0,0)) ?_,a.one,e.mono λb o d=>.inl d,a.rm λp f=>.inr (by simp[f])⟩⟩
 exact .inr (by simp)
def bO.valid(c:bO)(p:gu):Prop:=∃s r,c.aV[p.1]? =some s/\s.bS[p.2]? =some r
def bO.ix(c:bO)(p:gu):Nat:=cO c.plain.aV p.1+p.2
theorem Ow{c:bO}{i:Nat}{a:Sp}(h:c.plain.aV[i]? =some a):∃s,c.aV[i]? =some s/\a=s.plain:=by
 unfold bO.plain at h
 simp only at h
 rw[aeE]at h
 cases hs:c.aV[i]? with
 |none=>rw[hs]at h;cases h
 |some s=>rw[hs]at h;exact⟨s,rfl,by simpa using h.symm⟩
theorem pC{c:bO}{i:Nat}{s:cF}(h:c.aV[i]? =some s):c.plain.aV[i]? =some s.plain:=by unfold bO.plain;simp only;rw[aeE,h];rfl
theorem z7{s:cF}{k:Nat}{r:cm}(h:s.bS[k]? =some r):s.plain.bS[k]? =some r.r:=by unfold cF.plain;simp only;rw[aeE,h];rfl
theorem OO{s:cF}{k:Nat}{a:Rl}(h:s.plain.bS[k]? =some a):∃r,s.bS[k]? =some r/\a=r.r:=by
 unfold cF.plain at h
 simp only at h
 rw[aeE]at h
 cases hs:s.bS[k]? with
 |none=>rw[hs]at h;cases h
 |some s=>rw[hs]at h;exact⟨s,rfl,by simpa using h.symm⟩
def nM(c:bO)(t:Ty)(ps:gu)(ok:Bool):Prop:=match bV c.plain.all t with
 |none=>ok=false
 |some j=>ok=true/\c.ix ps=j/\c.valid ps
theorem looked(c:bO)(t:Ty):∃(ps:gu) (ok:Bool),[((cG t (gQ 0 c.plain.aV)).map lQ).getD (lQ (0,0)),Value.bool (cG t (gQ 0 c.plain.aV)).isSome]=[lQ ps,.bool ok]/\nM c t ps ok:=by
 have h:=Na c.plain t
 rw[zA]
 unfold nM
 cases hl:look t (gQ 0 c.plain.aV)with
 |none=>rw[hl]at h;exact⟨(0,0),false,rfl,by rw[h]⟩
 |some p=>
  obtain⟨i,k⟩:=p
  rw[hl]at h
  obtain⟨a,s,r,b,d,_⟩:=h
  obtain⟨j,e,rfl⟩:=Ow b
  obtain⟨g,f,rfl⟩:=OO d
  exact⟨(i,k),true,rfl,by rw[a];exact⟨rfl,rfl,j,g,e,f⟩⟩
theorem vj{R:aA}{xb:Nat}{vm:Value}{c:bO}(h:IX R xb vm c)(p:gu)(s:cF)(r:cm)(b:c.aV[p.1]? =some s)(a:s.bS[p.2]? =some r):
  Spec prog 229 [pT xb,.agg (lF p).toArray] R [] λu H'=>u=.agg r.enc.toArray/\H'=[]:=by
 obtain⟨i,k⟩:=p
 obtain⟨B,m,A,z⟩:=c
 obtain⟨o,n,r⟩:=r
 have l:=h.pc
 have d:=h.ci.ss
 have g:=d.ay
 have j:One m:=RS.ay h.ci.sc
 simp only at d g j b a l⊢
 have e:=h.ci.all _ (aR b)
 have f:=e.all _ (aR a)
 have w:cM (cm.enc ⟨o,n,r⟩):=⟨f.dl⟩
 refine Spec.body func229 rfl results229 ntmps229 rfl<|.sr ?_
 refine .cg rfl (λt=>?_)
 refine .cq (λv=>?_)
 refine .zs<|.dY 14 mixed (by kernel_rfl) ?_
 conv=>arg 6;dsimp only[List.take]
 refine .mo rfl<|.nc rfl<|.fa rfl<|.fa rfl<|.lo rfl<|.fa rfl<|.lo rfl ?_
 refine .bF i d b (λx=>?_)
 refine .fa rfl<|.lo rfl<|.fa rfl<|.lo rfl ?_
 refine .bF k e.rs a (λy=>?_)
 refine .q (.aL rfl)<|.nil<|.bZ rfl rfl<|.zn ?_
 refine .ret (br _ (.one (.iU rfl rfl)) (.none _) ?_)
 ·exact⟨rfl,rfl⟩
theorem vP(v:Value)(l:List Ty)(R:aA)(h:RS R 2 Ty.enc v l)(w:l.length<=100000):Spec prog 230 [v] R [] λu H'=>∃T,H'=[T]/\OS 249 2 Ty.enc u (eh l) T:=by
 have C:=h.ay
 have x:=h.le
 refine Spec.body func230 rfl results230 ntmps230 rfl<|.sr<|.ag rfl<|.z<|.ag rfl<|.zs<|.sr<|.mo rfl<|.q (.bK h)<|.mo rfl<|.zn<|.block<|.cX [(6,_),(7,_)] (X:=Nat×Value×av) (λy=>y.1<=l.length/\OS 249 2 Ty.enc y.2.1 (eh (l.take y.1)) y.2.2) (λy E=>(8,iN y.1)::(3,y.2.1)::E) (λy G=>y.2.2::G) (λy=>l.length-y.1) (0,sZ,[]) ⟨aeB _,OS.nil⟩ kE.c.c.c.c bz.ir ?_
 rintro⟨i,p,f⟩ ⟨n,a⟩
 simp only at n a⊢
 have B:=a.ay
 have A:(eh (l.take i)).length<=100000:=aeR (afa _ _) (by rw[aeI];omega)
 refine .sr<|.q .lss<|.zs<|.cond rfl (λb=>?_) λb=>?_
 have e:i<l.length:=cK b
 obtain⟨t,j⟩:=ca e
 have g:=AL j
 refine .kn<|.seq<|.block<|.sr ?_
 refine .bF i h j (λF=>?_)
 refine .q (.aL rfl) ?_
 refine .cq (λs=>?_)
 refine .bZ rfl rfl<|.z<|.fa rfl<|.lo rfl<|.q .iJ<|.zn<|.cond rfl (λd=>?_) λd=>?_
 refine .region<|.mo rfl<|.q (.aL rfl) ?_
 refine .fq (λr=>?_)
 refine .append a (RS.lits (xs:=[t]) rfl (by simp[Ty.enc]) (by simp[Ty.enc,ay])) (by simp only[aeM];omega) (λo m k=>?_)
 have D:=k.ay
 refine .ag rfl<|.nil<|ba<|au<|.region<|.ia (i+1) .add<|.mo rfl<|.nil ?_
 ·exact bp (i+1,o,m) ⟨e,by simp only;rw[g,aeC (by simpa using d)];exact k⟩ (by simp only;omega) kE.c.c.c.c (aK [2])
 refine .skip<|ba<|au<|.region<|.ia (i+1) .add<|.mo rfl<|.nil ?_
 ·exact bp (i+1,p,f) ⟨e,by simp only;rw[g,aeG (by simpa using d),aeV];exact a⟩ (by simp only;omega) kE.c.c.c.c (aK [1])
 refine .exit<|bD<|bG<|bE<|au<|.sr<|.mo rfl<|.az rfl<|.ret (br _ (.one (.tmp rfl)) (.one [0] _) ?_)
 ·refine⟨f,by simp[take],?_⟩
  rw[dZ (kS b)]at a
  exact a
def oX(b:Bool):List Value:=[.bool b]
theorem BF(v:Value)(l:List Nd)(R:aA)(h:RS R 5 Nd.enc v l)(U:fT isWord l≠0)(hl:l.length<=100000):Spec prog 231 [v] R [] λu H'=>∃T,H'=[T]/\OS 4 1 oX u (nb l) T:=by
 have iv:=h.ay
 have a9:=h.le
 obtain⟨d,a2⟩:=xv U
 obtain⟨_,_,_,S⟩:=iY _ _ a2
 have a0:(List.replicate l.length false).length=l.length:=afe
 generalize K:List.replicate l.length false=out0 at *
 refine Spec.body func231 rfl results231 ntmps231 rfl<|.sr<|.ag rfl<|.z<|.mo rfl<|.q (.bK h)<|.makeSlice (enc:=oX) l.length false rfl rfl (by decide) (by simp[oX,ay]) rfl rfl (by omega) (by omega) (λA O F=>?_)
 rw[K]at F
 refine .ag rfl<|.zs<|.sr<|.mo rfl<|.q (.bK h)<|.q (.i64 ((l.length:Int)-1) .sub ⟨rfl,by omega,by omega⟩)<|.az rfl<|.block<|.cX [(0,_),(3,_)] (X:=Nat×av) (λy=>y.1<=l.length/\OS 4 1 oX (.slice (some ⟨A,0,none⟩) l.length l.length) (down l y.1 (l.length-y.1) out0) y.2) (λy E=>(4,.int .i64 ((y.1:Int)-1))::E) (λy G=>y.2::G) (λy=>y.1) (l.length,O) ⟨Nat.le_refl _,by simp only;rw[Nat.sub_self];exact F⟩ kE.c.c.c rH ?_
 rintro⟨m,D⟩ ⟨W,g⟩
 simp only at W g⊢
 refine .seq<|.sr<|.mo rfl<|.q .geq<|.zn<|.cond rfl (λj=>?_) λj=>?_
 obtain⟨e,rfl⟩:∃e,m=e+1:=⟨m-1,by have:=cL j;omega⟩
 obtain⟨n,r⟩:∃n,l[e]? =some n:=⟨_,bk (by omega)⟩
 have V:((e+1:Nat):Int)-1=(e:Int):=by omega
 have s:=S e (aeB _) (by omega)
 have H:down l e (l.length-e) out0=gU l (down l (e+1) (l.length-(e+1)) out0) e:=by
  rw[show l.length-e=1+(l.length-(e+1)) by omega,tN]
  rfl
 have a8:(down l (e+1) (l.length-(e+1)) out0).length=l.length:=by rw[rF,a0]
 generalize hX:down l (e+1) (l.length-(e+1)) out0=X at *
 have i:gU l X e=if n.op then(X.set n.a.toNat (X.getD e false)).set n.b.toNat ((X.set n.a.toNat (X.getD e false)).getD e false||n.kind==6)else X:=by unfold gU;rw[r]
 have I:decide (4<=n.kind)=n.op:=by
  cases ho:n.op with
  |true=>unfold Nd.op at ho;simp only[afi,beq_iff_eq]at ho;exact aeY (by omega)
  |false=>
   rw[lp r ho]at s
   split at s
   ·rename_i C
    unfold Nd.leaf at C
    refine aeS λh4=>?_
    rw[aeC (by omega),aeC (by omega),aeC (by omega),aeN]at C
    cases C
   ·cases s
 rw[V]
 refine .kn<|.seq<|.block<|.sr<|.mo rfl<|.mo rfl ?_
 refine .bF e h r (λb0=>?_)
 refine .q (.aL rfl) ?_
 refine .cq (λb5=>?_)
 refine .bZ rfl rfl<|.z<|.fa rfl<|.lo rfl<|.q .geq<|.zn<|.cond rfl (λk=>?_) λk=>?_
 have J:n.op=true:=by rw[<-I];exact k
 obtain⟨rr,a1⟩:=Option.isSome_iff_exists.1 s
 obtain⟨b',x',y',t1,t2,t3,t4,t5,_,_,_⟩:=nI r J a1
 have a6:=nJ t1
 have a7:=(iY _ _ t3).1
 obtain⟨za,M⟩:∃z,X[n.a.toNat]? =some z:=⟨_,bk (by omega)⟩
 obtain⟨p,N⟩:∃z,X[e]? =some z:=⟨_,bk (by omega)⟩
 have a3:X.getD e false=p:=by rw[aeJ,N];rfl
 rw[aeG J,a3]at i
 obtain⟨z2,L⟩:∃z,(X.set n.a.toNat p)[e]? =some z:=⟨_,bk (by rw[List.length_set];omega)⟩
 obtain⟨z3,w⟩:∃z,(X.set n.a.toNat p)[n.b.toNat]? =some z:=⟨_,bk (by rw[List.length_set];omega)⟩
 have a4:(X.set n.a.toNat p).getD e false=z2:=by rw[aeJ,L];rfl
 rw[a4]at i
 refine .seq<|.dY 8 mixed (by kernel_rfl) ?_
 conv=>arg 6;dsimp only[List.take]
 refine .mo rfl<|.fa rfl<|.lo rfl<|.mo rfl<|.mo rfl ?_
 refine .bh e g N (λb1=>?_)
 refine .lo rfl<|.bh n.a.toNat g M (λb2=>?_) rfl rfl (by omega)
 refine .nil ?_
 refine .gk n.a.toNat g M p (λT1 o=>?_)
 refine .zn ?_
 refine bu.dc [(0,_),(3,_),(4,_)] kE.c.c.c (X:=av) (λT=>OS 4 1 oX (.slice (some ⟨A,0,none⟩) l.length l.length) (gU l X e) T) (λ_ E=>E) (λT=>[T]) ?_ ?_
 refine .dY 13 mixed (by kernel_rfl) ?_
 conv=>arg 6;dsimp only[List.take]
 refine .mo rfl<|.fa rfl<|.lo rfl<|.mo rfl<|.mo rfl ?_
 refine .bh e o L (λb3=>?_)
 refine .lo rfl<|.mo rfl<|.split (t:=38) rfl (λf=>?_) (λf=>?_)
 refine .gF f<|.gF f<|.gF f<|.q (.aU f)<|.bh n.b.toNat o w (λa5=>?_) rfl rfl (by omega)
 refine .nil ?_
 refine .gk n.b.toNat o w _ (λx B=>?_)
 refine .nil ?_
 ·exact aD x (by rw[i];simpa only[j,k,f,afg,afh]using B) kE.c.c.c (aK [1])
 refine .gT f<|.fa rfl<|.gT f<|.lo rfl<|.gT f<|.q .cr<|.q (.aN f)<|.bh n.b.toNat o w (λa5=>?_) rfl rfl (by omega)
 refine .nil ?_
 refine .gk n.b.toNat o w _ (λx B=>?_)
 refine .nil ?_
 ·exact aD x (by rw[i];simpa only[j,k,f,afg,afh]using B) kE.c.c.c (aK [1])
 intro y hy
 have Q:OS 4 1 oX (.slice (some ⟨A,0,none⟩) l.length l.length) (gU l X e) y:=hy
 refine ba<|au<|.region<|.mo rfl<|.q (.i64 ((e:Int)-1) .sub ⟨rfl,by omega,by omega⟩)<|.ag rfl<|.nil ?_
 ·exact bp (e,y) ⟨by simp only;omega,by simp only;rw[H];exact Q⟩ (by simp only;omega) kE.c.c.c rH
 have Z:¬n.op=true:=by rw[<-I,k];simp
 rw[aeC Z]at i
 refine .skip<|ba<|au<|.region<|.mo rfl<|.q (.i64 ((e:Int)-1) .sub ⟨rfl,by omega,by omega⟩)<|.ag rfl<|.nil ?_
 ·exact bp (e,D) ⟨by simp only;omega,by simp only;rw[H,i];exact g⟩ (by simp only;omega) kE.c.c.c (aK [1])
 refine .exit<|bD<|bG<|bE<|au<|.sr<|.mo rfl<|.az rfl<|.ret (br _ (.one (.tmp rfl)) (.one [0] _) ?_)
 ·refine⟨D,by simp[take],?_⟩
  have Y:m=0:=by have:=bI j;omega
  subst Y
  unfold nb
  rw[K]
  exact g
def NA(c:bO)(ok:Bool)(S:List gu)(o:Option (List Nat)):Prop:=match o with
 |none=>ok=false
 |some ts=>ok=true/\S.map c.ix=ts/\∀p∈S,c.valid p
def TN(l:List (ByteArray×Rl))(sp:ByteArray)(r:Rl)(n:Nd)(tys:List Ty):Prop:=targets l sp r.types n=findAll l tys/\tys.length<=8
theorem vO{a:List Ty}{n:Nat}(h:a.length<=n):(eh a).length<=n:=aeR (afa _ _) h
theorem yt(l:List (ByteArray×Rl)):∀(a:List Ty) (t:Ty),findAll l (a++[t])=(findAll l a).bind λx=>(bV l t).map λi=>x++[i]
 |[],t=>by
  rw[List.nil_append,findAll,findAll]
  cases bV l t<;>rfl
 |x::a,t=>by
  rw[List.cons_append,findAll,findAll,yt l a t]
  cases bV l x with
  |none=>rfl
  |some i=>
   cases findAll l a with
   |none=>rfl
   |some u=>cases bV l t<;>rfl
theorem yu{l:List (ByteArray×Rl)}{t:Ty}{a:List Ty}(h:t∈a)(c:bV l t=none):findAll l a=none:=by
 cases hf:findAll l a with
 |none=>rfl
 |some o=>obtain⟨i,b,_⟩:=qw hf h;rw[c]at b;cases b
theorem pz{c:bO}{p:gu}{s:cF}{r:cm}(b:c.aV[p.1]? =some s)(a:s.bS[p.2]? =some r):c.plain.all[c.ix p]? =some (s.name,r.r):=by
 have:=wS (pC b) (z7 a)
 unfold bO.ix Cf.all
 exact this
def bO.qu(c:bO):Prop:=∀s∈c.aV,∀r∈s.bS,r.r.types.length<=8/\r.r.nodes.length<=64/\fT isWord r.r.nodes≠0
theorem Ny{R:aA}{xb:Nat}{vm:Value}{c:bO}(h:IX R xb vm c)(I:c.qu)(p:gu)(s:cF)(r:cm)(J:c.aV[p.1]? =some s)(hr:s.bS[p.2]? =some r)(n:Nd):
  Spec prog 232 [pT xb,.agg (lF p).toArray,.agg n.enc.toArray] R [] λu H'=>∃T,H'=[T]/\∃w S ok,u=.tuple [w,.bool ok].toArray/\OS 321 2 lF w S T/\S.length<=8/\
   NA c ok S (targets c.plain.all s.name r.r.types n):=by
 have b3:=vj h p s r J hr
 have a2:=h
 have b8:=(I s (aR J) r (aR hr)).1
 have b2:=looked c
 obtain⟨i,k⟩:=p
 have pc:=h.pc
 have om:=h.om
 have a7:=h.ci.ss
 have i1:=a7.ay
 have i2:One c.vc:=RS.ay h.ci.sc
 have b7:=h.ci.all _ (aR J)
 have a6:=b7.all _ (aR hr)
 have e0:One s.v:=RS.ay b7.rs
 have d8:cM (cm.enc r):=⟨a6.dl⟩
 simp only at J hr
 have e5:=a7.pc J
 generalize Y:c.plain.all=A at *
 refine Spec.body func232 rfl results232 ntmps232 rfl<|.sr ?_
 refine .cg rfl (λb4=>?_)
 refine .cg rfl (λb5=>?_)
 refine .ag rfl<|.ag rfl<|.zs ?_
 refine bu.dc [(0,_),(5,_)] kE.c.c (X:=Nat) (λ_=>True) (λy E=>(9,pT y)::(8,.string s.name)::E) (λy=>[bl y r.enc 167,bl b5 n.enc 199,bl b4 (lF (i,k)) 321]) ?_ ?_
 refine .dz [15] mixed<|.tO 0 rfl .move<|.tO 1 rfl (.nilCheck rfl)<|.tO 2 rfl (.fieldAddr rfl)<|.tO 3 rfl (.fieldAddr rfl)<|.tO 4 rfl (.cI rfl)<|.tO 5 rfl (.fieldAddr rfl)<|.tO 6 rfl (.cI rfl)<|.tO 7 rfl (.bF i a7 J rfl rfl rfl)<|.tO 8 rfl (.fieldAddr rfl)<|.tO 9 rfl (.cI rfl)<|.tO 10 rfl .move<|.tO 11 rfl (.aL rfl)<|RA.lN 12 13 rfl rfl (by kernel_rfl) rfl ?_ ?_
 refine .aQ (b3.weaken dt) (λu B=>?_)
 subst B
 refine .nil<|Next.sub<|.sT 13 rfl ?_
 refine .cq (λb9=>?_)
 refine .nil<|Next.sub<|.tO 14 rfl .assign<|.sT 15 rfl<|.bZ rfl rfl<|.nil<|Next.mod rfl<|RA.nil (by kernel_rfl) ?_
 ·exact aD b9 aeA kE.c.c.c.c rH
 refine .cq (λb9=>?_)
 refine .nil<|Next.sub<|.sT 12 rfl<|.aQ (b3.weaken dt) (λu B=>?_)
 subst B
 refine .nil<|Next.sub<|.tO 14 rfl .assign<|.sT 15 rfl<|.bZ rfl rfl<|.nil<|Next.mod rfl<|RA.nil (by kernel_rfl) ?_
 ·exact aD b9 aeA kE.c.c.c.c rH
 intro y hy
 obtain⟨vt,vn,r⟩:=r
 have b6:RS R 2 Ty.enc vt r.types:=a6.t
 have e1:One vt:=b6.ay
 have d9:One vn:=RS.ay a6.d
 refine au<|.sr<|.ag rfl<|.zs<|.sr<|.fa rfl<|.lo rfl<|.zn<|.block<|.sr<|.q .cr<|.az rfl ?_
 refine bu.dc [(0,_)] kE.c (X:=Value×List Ty×av) (λy=>OS 249 2 Ty.enc y.1 y.2.1 y.2.2/\TN A s.name r n y.2.1) (λy E=>(10,y.1)::E) (λy=>[y.2.2]) ?_ ?_
 refine .cond rfl (λD=>?_) λD=>?_
 refine .region<|.fa rfl<|.lo rfl<|.dx (vP vt r.types _ b6.rx (by simp only at b8;omega)) (λu L B=>?_)
 have iu:=B.ay
 refine .ag rfl<|.nil ?_
 ·exact aD (u,eh r.types,L) ⟨B,by unfold targets;rw[aeG (by simpa using D)],vO b8⟩ kE.c.c (aK [0])
 refine .sr<|.q .cr<|.az rfl<|.cond rfl (λH=>?_) λH=>?_
 refine .region<|.mo rfl<|.fa rfl<|.lo rfl ?_
 refine .q .dw ?_
 refine .fq (λd6=>?_)
 refine .ag rfl<|.nil ?_
 ·exact aD (_,[(⟨s.name,n.rel⟩:Ty)],_) ⟨OS.lits (xs:=[(⟨s.name,n.rel⟩:Ty)]) rfl (by simp[Ty.enc]) (by simp[Ty.enc,ay]),by unfold targets;rw[aeC (by simpa using D),aeG (by simpa using H)],by simp⟩ ((kE.d rfl).d rfl) (aK [0])
 refine .sr<|.q .cr<|.az rfl<|.cond rfl (λM=>?_) λM=>?_
 obtain⟨C,ok,a5,a⟩:=b2 (⟨s.name,n.rel⟩:Ty)
 refine .seq<|.dz [13] mixed<|.tO 0 rfl .move<|.tO 1 rfl (.nilCheck rfl)<|.tO 2 rfl (.fieldAddr rfl)<|.tO 3 rfl (.cI rfl)<|.tO 4 rfl .move<|.tO 5 rfl (.fieldAddr rfl)<|.tO 6 rfl (.cI rfl)<|.tO 7 rfl .dw<|.jw 8 rfl (.cast (.ny (a2.rm.pj λb o hb=>.inl hb) rfl rfl) (aeD (λl:List Value=>Value.tuple l.toArray) a5)) (by kernel_rfl)<|.tO 9 rfl .move<|.tO 10 rfl .extract<|.tK 11 rfl .extract<|.sT 12 rfl ?_
 refine .cq (λd2=>?_)
 refine .nil<|Next.sub<|.sT 13 rfl<|.bZ rfl rfl<|.nil<|Next.mod rfl<|.tK 14 rfl .assign<|RA.nil (by kernel_rfl)<|au<|.seq<|.sr<|.mo rfl<|.q .not<|.zn<|.cond rfl (λh4=>?_) λh4=>?_
 refine .sr<|.ag rfl<|.az rfl<|.ret (aJ (pa (bA (aJ (br _ (.two (.tmp rfl) (.tmp rfl)) bz.ka ?_)))))
 ·refine⟨[],rfl,_,[],false,rfl,OS.nil,by simp,?_⟩
  have O:ok=false:=by simpa using h4
  have m:bV A ⟨s.name,n.rel⟩=none:=by
   unfold nM at a
   rw[Y]at a
   cases hf:bV A ⟨s.name,n.rel⟩with
   |none=>rfl
   |some j=>rw[hf]at a;rw[a.1]at O;cases O
  unfold targets
  rw[aeC (by simpa using D),aeC (by simpa using H),aeG (by simpa using M),m]
  rfl
 have a4:ok=true:=by simpa using h4
 subst a4
 obtain⟨j,m,a3,s2,f,a1,a0⟩:∃j,bV A ⟨s.name,n.rel⟩=some j/\c.ix C=j/\c.valid C:=by
  unfold nM at a
  rw[Y]at a
  cases hf:bV A ⟨s.name,n.rel⟩with
  |none=>rw[hf]at a;cases a
  |some j=>rw[hf]at a;exact⟨j,rfl,a.2.1,a.2.2⟩
 have c4:=vj a2 C s2 f a1 a0
 obtain⟨c0,e6,f⟩:=f
 have c5:=(h.ci.all _ (aR a1)).all _ (aR a0)
 have c6:RS R 2 Ty.enc c0 f.types:=c5.t
 have c7:f.types.length<=8:=(I _ (aR a1) _ (aR a0)).1
 have a9:(A.map (·.2.types)).getD j []=f.types:=by
  have:=pz a1 a0
  rw[Y,a3]at this
  rw[aeJ,aeE,this]
  rfl
 refine .kn<|.seq<|.sr<|.mo rfl<|.q (.aL rfl)<|.aQ (c4.weaken dt) (λu B=>?_)
 subst B
 refine .q (.L7 underlying167 rfl rfl xM rfl)<|.dx (vP c0 f.types _ c6.rx (by omega)) (λu T2 a8=>?_)
 have e2:=a8.ay
 have c9:=vO c7
 refine .q (.eR a8)<|.mo rfl<|.zn<|.block<|.cX [(0,_),(5,_),(67,_),(68,_)] (X:=Nat×Value×av) (λy=>y.1<=(eh f.types).length/\OS 249 2 Ty.enc y.2.1 (((eh f.types).take y.1).map λt=>(⟨t.space,n.ec⟩:Ty)) y.2.2) (λy E=>(69,iN y.1)::(10,y.2.1)::E) (λy G=>y.2.2::G) (λy=>(eh f.types).length-y.1) (0,sZ,[]) ⟨aeB _,OS.nil⟩ kE.c.c.c.c.c.c bz.ir ?_
 rintro⟨q,vo,To⟩ ⟨hq,g⟩
 simp only at hq g⊢
 have io:=g.ay
 refine .sr<|.q .lss<|.zs<|.cond rfl (λh5=>?_) λh5=>?_
 have Q:q<(eh f.types).length:=by have:=cL h5;omega
 obtain⟨t,K⟩:=ca Q
 refine .kn<|.seq<|.block<|.sr ?_
 refine .bh q a8 K (λe3=>?_)
 refine .q (.aL rfl) ?_
 refine .cq (λd3=>?_)
 refine .bZ rfl rfl<|.zn<|.region<|.mo rfl<|.fa rfl<|.lo rfl<|.fa rfl<|.lo rfl ?_
 refine .q .dw ?_
 refine .fq (λd7=>?_)
 refine .append g (RS.lits (xs:=[(⟨t.space,n.ec⟩:Ty)]) rfl (by simp[Ty.enc]) (by simp[Ty.enc,ay])) (by simp only[aeF,aeI,aeM];omega) (λv1 L U=>?_)
 have d0:=U.ay
 refine .ag rfl<|.nil<|ba<|au<|.region<|.ia (q+1) .add<|.mo rfl<|.nil ?_
 ·exact bp (q+1,v1,L) ⟨Q,by simp only;rw[eo K,aeH];exact U⟩ (by simp only;omega) kE.c.c.c.c.c.c (aK [2,2,2,2,2,2])
 rw[dZ (kS h5)]at g
 refine .exit<|bD<|bG<|bE<|au<|.sr<|.mo rfl<|.q (.eR g)<|.q .cr<|.zn<|.cond rfl (λW=>?_) λW=>?_
 have c3:eh f.types=[]:=by have N:=eq_of_beq W;rw[aeF]at N;exact List.eq_nil_of_length_eq_zero (by omega)
 refine .sr<|.ag rfl<|.az rfl<|.ret (pa (bA (aJ (br _ (.two (.tmp rfl) (.tmp rfl)) bz.ka ?_))))
 ·refine⟨[],rfl,_,[],false,rfl,OS.nil,by simp,?_⟩
  unfold targets
  rw[aeC (by simpa using D),aeC (by simpa using H),aeG (by simpa using M),m]
  simp only
  rw[a9,c3]
  rfl
 have c2:eh f.types≠[]:=by intro e;rw[e]at W;simp at W
 refine .skip ?_
 ·exact aD (vo,(eh f.types).map λt=>(⟨t.space,n.ec⟩:Ty),To) ⟨g,by
   unfold targets
   rw[aeC (by simpa using D),aeC (by simpa using H),aeG (by simpa using M),m]
   simp only
   rw[a9]
   cases hz:eh f.types with
   |nil=>exact absurd hz c2
   |cons z zs=>rfl,by rw[aeF];exact c9⟩ kE.c.c (aK [0])
 refine .skip ?_
 ·exact aD (sZ,[],[]) ⟨OS.nil,by unfold targets;rw[aeC (by simpa using D),aeC (by simpa using H),aeC (by simpa using M)];rfl,by simp⟩ kE.c.c bz.ka
 intro x hx
 obtain⟨w,V,Tt⟩:=x
 obtain⟨Z,b1,c1⟩:=hx
 simp only at Z b1 c1⊢
 have iw:=Z.ay
 rw[b1]
 refine ba<|au<|.sr<|.ag rfl<|.zs<|.sr<|.mo rfl<|.q (.eR Z)<|.mo rfl<|.zn<|.block<|.cX [(0,_),(85,_),(86,_)] (X:=Nat×Value×List gu×av) (λy=>y.1<=V.length/\OS 321 2 lF y.2.1 y.2.2.1 y.2.2.2/\y.2.2.1.length=y.1/\NA c true y.2.2.1 (findAll A (V.take y.1))) (λy E=>(87,iN y.1)::(15,y.2.1)::E) (λy G=>y.2.2.2::G) (λy=>V.length-y.1) (0,sZ,[],[]) ⟨aeB _,OS.nil,rfl,⟨rfl,rfl,λp hp=>(by cases hp)⟩⟩ kE.c.c.c.c.c bz.ir ?_
 rintro⟨q,vo,S,To⟩ ⟨hq,g,b0,F⟩
 simp only at hq g b0 F⊢
 have io:=g.ay
 refine .sr<|.q .lss<|.zs<|.cond rfl (λN=>?_) λN=>?_
 have Q:q<V.length:=cK N
 obtain⟨t,K⟩:=ca Q
 obtain⟨C,ok,a5,a⟩:=b2 t
 unfold nM at a
 rw[Y]at a
 refine .kn<|.seq<|.block<|.sr ?_
 refine .bh q Z K (λe4=>?_)
 refine .q (.aL rfl) ?_
 refine .cq (λd4=>?_)
 refine .bZ rfl rfl<|.zs<|.dz [10] mixed<|.tO 0 rfl .move<|.tO 1 rfl (.nilCheck rfl)<|.tO 2 rfl (.fieldAddr rfl)<|.tO 3 rfl (.cI rfl)<|.tO 4 rfl (.aL rfl)<|.jw 5 rfl (.cast (.ny (a2.rm.pj λb o hb=>.inl hb) rfl rfl) (aeD (λl:List Value=>Value.tuple l.toArray) a5)) (by kernel_rfl)<|.tO 6 rfl .move<|.tO 7 rfl .extract<|.tK 8 rfl .extract<|.sT 9 rfl ?_
 refine .cq (λd5=>?_)
 refine .nil<|Next.sub<|.sT 10 rfl<|.bZ rfl rfl<|.nil<|Next.mod rfl<|.tK 11 rfl .assign<|RA.nil (by kernel_rfl)<|au<|.seq<|.sr<|.mo rfl<|.q .not<|.zn<|.cond rfl (λI=>?_) λI=>?_
 refine .sr<|.ag rfl<|.az rfl<|.ret (aJ (bA (aJ (cW (bA (aJ (br _ (.two (.tmp rfl) (.tmp rfl)) bz.ka ?_)))))))
 ·refine⟨[],rfl,_,[],false,rfl,OS.nil,by simp,?_⟩
  have O:ok=false:=by simpa using I
  have m:bV A t=none:=by
   cases hf:bV A t with
   |none=>rfl
   |some j=>rw[hf]at a;rw[a.1]at O;cases O
  rw[yu (aR K) m]
  rfl
 have a4:ok=true:=by simpa using I
 subst a4
 obtain⟨j,m,a3,c8⟩:∃j,bV A t=some j/\c.ix C=j/\c.valid C:=by
  cases hf:bV A t with
  |none=>rw[hf]at a;cases a
  |some j=>rw[hf]at a;exact⟨j,rfl,a.2.1,a.2.2⟩
 refine .kn<|.region<|.mo rfl<|.q (.aL rfl) ?_
 refine .fq (λd1=>?_)
 refine .append g (RS.lits (xs:=[C]) rfl (by simp[lF]) (by simp[lF,ay])) (by simp only[aeM];omega) (λv1 L U=>?_)
 have d0:=U.ay
 refine .ag rfl<|.nil<|ba<|au<|.region<|.ia (q+1) .add<|.mo rfl<|.nil ?_
 ·exact bp (q+1,v1,S++[C],L) ⟨Q,U,by simp[b0],by
   simp only
   rw[eo K,yt,m]
   cases hf:findAll A (V.take q)with
   |none=>rw[hf]at F;cases F
   |some o=>
    rw[hf]at F
    obtain⟨_,n1,n2⟩:=F
    refine⟨rfl,by rw[aeH,n1];simp[a3],λp hp=>?_⟩
    rcases afn.1 hp with hp|hp
    ·exact n2 p hp
    ·rw[aeZ]at hp;subst hp;exact c8⟩ (by simp only;omega) kE.c.c.c.c.c (aK [3,3])
 rw[dZ (kS N)]at F
 refine .exit<|bD<|bG<|bE<|au<|.sr<|.mo rfl<|.ag rfl<|.az rfl<|.ret (br _ (.two (.tmp rfl) (.tmp rfl)) (.one [0] _) ?_)
 ·exact⟨To,by simp[take],vo,S,true,rfl,g,by omega,F⟩
abbrev jN:=gu×gu×Bool
def jD(e:jN):List Value:=[iN e.1.1,iN e.1.2,iN e.2.1.1,iN e.2.1.2,.bool e.2.2]
instance(e:jN):cM (jD e):=⟨by simp[jD,ay]⟩
def bO.ed(c:bO)(e:jN):Ed:=⟨c.ix e.1,c.ix e.2.1,e.2.2⟩
def EA(c:bO)(ok:Bool)(Es:List jN)(o:Option (List Ed)):Prop:=match o with
 |none=>ok=false
 |some E=>ok=true/\Es.map c.ed=E/\∀e∈Es,c.valid e.1/\c.valid e.2.1
theorem tH{α β:Type}{f:α->Option (List β)}{x:α}:∀{l:List α},x∈l->f x=none->cat f l=none
 |[],hx,_=>by cases hx
 |y::l,hx,h=>by
  rw[cat]
  rcases List.mem_cons.1 hx with rfl|hx
  ·rw[h];rfl
  ·rw[tH hx h]
   cases f y<;>rfl
theorem EA.nR{c:bO}{d f:List jN}{a b:Option (List Ed)}(g:EA c true d a)(h:EA c true f b):EA c true (d++f) (a.bind λx=>b.map (x++ ·)):=by
 cases a with
 |none=>cases g
 |some a=>
  cases b with
  |none=>cases h
  |some b=>
   obtain⟨_,i,j⟩:=g
   obtain⟨_,k,l⟩:=h
   refine⟨rfl,by rw[aeH,i,k],λe he=>?_⟩
   rcases afn.1 he with he|he
   ·exact j e he
   ·exact l e he
theorem EA.nil{c:bO}:EA c true [] (some []):=⟨rfl,rfl,λe a=>(by cases a)⟩
theorem CQ{R:aA}{xb:Nat}{vm:Value}{c:bO}(h:IX R xb vm c)(h8:c.qu)(p:gu)(s:cF)(r:cm)(H:c.aV[p.1]? =some s)(F:s.bS[p.2]? =some r):
  Spec prog 181 [pT xb,.agg (lF p).toArray] R [] λu H'=>∃T,H'=[T]/\∃w Es ok,u=.tuple [w,.bool ok].toArray/\OS 325 5 jD w Es T/\Es.length<=512/\
   EA c ok Es (ld c.plain.all (c.ix p) s.name r.r):=by
 have c9:=vj h p s r H F
 have a6:=λn=>Ny h h8 p s r H F n
 have c2:=h
 obtain⟨b1,c6,a3⟩:=h8 s (aR H) r (aR F)
 have c4:=looked c
 have d6:c.valid p:=⟨s,r,H,F⟩
 have pc:=h.pc
 have Z:=(h.ci.all _ (aR H)).all _ (aR F)
 generalize hA:c.plain.all=A at *
 generalize c3:c.ix p=j0 at *
 have M:ld A j0 s.name r.r=if(findAll A (eh r.r.types)).isSome then cat (λk:Nat=>(r.r.nodes[k]?).bind λn=>fv A j0 s.name r.r ((nb r.r.nodes).getD k false) n) (List.range' 0 r.r.nodes.length)else none:=rfl
 obtain⟨vt,vn,r⟩:=r
 have d1:RS R 2 Ty.enc vt r.types:=Z.t
 have Y:RS R 5 Nd.enc vn r.nodes:=Z.d
 have e3:cM (cm.enc ⟨vt,vn,r⟩):=⟨Z.dl⟩
 have d7:=vO b1
 simp only at b1 c6 a3 M a6 d7⊢
 have e2:(nb r.nodes).length=r.nodes.length:=by unfold nb;rw[rF,afe]
 refine Spec.body func181 rfl results181 ntmps181 rfl<|.sr ?_
 refine .cg rfl (λb3=>?_)
 refine .ag rfl<|.ag rfl<|.z<|.mo rfl<|.q (.aL rfl)<|.aQ (c9.weaken dt) (λu hu=>?_)
 subst hu
 refine .cq (λb6=>?_)
 refine .bZ rfl rfl<|.zs<|.sr<|.fa rfl<|.lo rfl<|.dx (vP vt r.types _ d1.rx (by omega)) (λu T2 b2=>?_)
 refine .q (.eR b2)<|.mo rfl<|.zn<|.block<|.cX [(0,_),(3,_),(6,_),(24,_),(25,_)] (X:=Nat) (λq=>q<=(eh r.types).length/\((eh r.types).take q).all (λt=>(bV A t).isSome)=true) (λq E=>(26,iN q)::E) (λ_ G=>G) (λq=>(eh r.types).length-q) 0 ⟨aeB _,rfl⟩ kE.c.c.c.c.c.c rH ?_
 rintro q ⟨hq,L⟩
 refine .sr<|.q .lss<|.zs<|.cond rfl (λN=>?_) λN=>?_
 have a9:q<(eh r.types).length:=by have:=cL N;omega
 obtain⟨t,a0⟩:=ca a9
 obtain⟨ps,ok,c7,v⟩:=c4 t
 unfold nM at v
 rw[hA]at v
 refine .kn<|.seq<|.block<|.sr ?_
 refine .bh q b2 a0 (λe4=>?_)
 refine .q (.aL rfl) ?_
 refine .cq (λb8=>?_)
 refine .bZ rfl rfl<|.zs<|.dz [10] mixed<|.tO 0 rfl .move<|.tO 1 rfl (.nilCheck rfl)<|.tO 2 rfl (.fieldAddr rfl)<|.tO 3 rfl (.cI rfl)<|.tO 4 rfl (.aL rfl)<|.jw 5 rfl (.cast (.ny (c2.rm.pj λb o hb=>.inl hb) rfl rfl) (aeD (λl:List Value=>Value.tuple l.toArray) c7)) (by kernel_rfl)<|.tO 6 rfl .move<|.tO 7 rfl .extract<|.tK 8 rfl .extract<|.sT 9 rfl ?_
 refine .cq (λb9=>?_)
 refine .nil<|Next.sub<|.sT 10 rfl<|.bZ rfl rfl<|.nil<|Next.mod rfl<|.tK 11 rfl .assign<|RA.nil (by kernel_rfl)<|au<|.sr<|.mo rfl<|.q .not<|.zn<|.cond rfl (λO=>?_) λO=>?_
 refine .sr<|.ag rfl<|.az rfl<|.ret (bA (aJ (cW (bA (aJ (br _ (.two (.tmp rfl) (.tmp rfl)) bz.ka ?_))))))
 ·refine⟨[],rfl,_,[],false,rfl,OS.nil,by simp,?_⟩
  have D:ok=false:=by simpa using O
  have hj:bV A t=none:=by
   cases f:bV A t with
   |none=>rfl
   |some j=>rw[f]at v;rw[v.1]at D;cases D
  rw[M,yu (aR a0) hj]
  rfl
 have f:(bV A t).isSome=true:=by
  have K:ok=true:=by simpa using O
  cases f:bV A t with
  |none=>rw[f]at v;rw[v]at K;cases K
  |some j=>rfl
 refine .skip<|ba<|au<|.region<|.ia (q+1) .add<|.mo rfl<|.nil ?_
 ·exact bp (q+1) ⟨a9,nh a0 L f⟩ (by omega) kE.c.c.c.c.c.c (aK [2,2,2,2])
 have c1:(findAll A (eh r.types)).isSome=true:=by
  have i:=rL A (eh r.types)
  rw[dZ (kS N)]at L
  cases f:findAll A (eh r.types)with
  |none=>rw[f]at i;rw[show _=false from i]at L;cases L
  |some o=>rfl
 rw[aeG c1]at M
 rw[M]
 generalize hg:(λk:Nat=>(r.nodes[k]?).bind λn=>fv A j0 s.name r ((nb r.nodes).getD k false) n)=g at *
 refine .exit<|bD<|bG<|bE<|au<|.sr<|.fa rfl<|.lo rfl<|.dx (BF vn r.nodes _ Y.rx a3 (by omega)) (λu T9 d4=>?_)
 refine .ag rfl<|.z<|.ag rfl<|.zs<|.sr<|.fa rfl<|.lo rfl<|.q (.bK Y)<|.mo rfl<|.zn<|.block<|.cX [(0,_),(3,_),(11,_),(46,_),(47,_)] (X:=Nat×Value×List jN×av) (λy=>y.1<=r.nodes.length/\OS 325 5 jD y.2.1 y.2.2.1 y.2.2.2/\y.2.2.1.length<=8*y.1/\EA c true y.2.2.1 (cat g (List.range' 0 y.1))) (λy E=>(48,iN y.1)::(12,y.2.1)::E) (λy G=>y.2.2.2::G) (λy=>r.nodes.length-y.1) (0,sZ,[],[]) ⟨aeB _,OS.nil,by simp,EA.nil⟩ kE.c.c.c.c.c.c.c bz.ir ?_
 rintro⟨m,vo,Es,To⟩ ⟨hm,W,b5,V⟩
 simp only at hm W b5 V⊢
 refine .sr<|.q .lss<|.zs<|.cond rfl (λQ=>?_) λQ=>?_
 have a5:m<r.nodes.length:=cK Q
 obtain⟨n,a7⟩:=ca a5
 obtain⟨I,a2⟩:∃b,(nb r.nodes)[m]? =some b:=⟨_,bk (by omega)⟩
 have a4:g m=fv A j0 s.name r I n:=by
  rw[<-hg]
  simp only[a7,ae3]
  rw[aeJ,a2]
  rfl
 have d0:List.range' 0 (m+1)=List.range' 0 m++[m]:=by rw[List.range'_1_concat];simp
 refine .kn<|.seq<|.block<|.sr<|.mo rfl ?_
 refine .bF m Y a7 (λe5=>?_)
 refine .q (.aL rfl) ?_
 refine .cq (λb4=>?_)
 refine .ag rfl<|.bZ rfl rfl<|.z<|.mo rfl<|.q (.aL rfl)<|.q (.aL rfl)<|.dx ((a6 n).weaken dt) (λu T4 d3=>?_)
 obtain⟨w4,S,ok,rfl,a1,e1,a⟩:=d3
 refine .mo rfl<|.q .extract<|.q .extract<|.ag rfl<|.ag rfl<|.zs<|.sr<|.mo rfl<|.q .not<|.zn<|.cond rfl (λU=>?_) λU=>?_
 refine .sr<|.ag rfl<|.az rfl<|.ret (aJ (bA (aJ (cW (bA (aJ (br _ (.two (.tmp rfl) (.tmp rfl)) bz.ka ?_)))))))
 ·refine⟨[],rfl,_,[],false,rfl,OS.nil,by simp,?_⟩
  have D:ok=false:=by simpa using U
  have B:targets A s.name r.types n=none:=by
   cases B:targets A s.name r.types n with
   |none=>rfl
   |some C=>rw[B]at a;rw[a.1]at D;cases D
  rw[tH (x:=m) (by rw[List.mem_range'_1];omega) (by rw[a4];unfold fv;rw[B];rfl)]
  rfl
 have K:ok=true:=by simpa using U
 subst K
 obtain⟨C,d2,b7,c0⟩:∃C,targets A s.name r.types n=some C/\S.map c.ix=C/\∀q∈S,c.valid q:=by
  cases B:targets A s.name r.types n with
  |none=>rw[B]at a;cases a
  |some C=>rw[B]at a;exact⟨C,rfl,a.2.1,a.2.2⟩
 refine .kn<|.sr<|.mo rfl<|.q (.eR a1)<|.mo rfl<|.zn<|.block<|.cX [(0,_),(3,_),(11,_),(13,_),(46,_),(47,_),(48,_),(62,_),(63,_)] (X:=Nat×Value×av) (λy=>y.1<=S.length/\OS 325 5 jD y.2.1 (Es++(S.take y.1).map λq=>((p,q,I):jN)) y.2.2) (λy E=>(64,iN y.1)::(12,y.2.1)::E) (λy G=>T4::bl b4 n.enc 199::y.2.2::G) (λy=>S.length-y.1) (0,vo,To) ⟨aeB _,by simpa using W⟩ kE.c.c.c.c.c.c.c.c.c.c.c rH ?_
 rintro⟨q,v3,T3⟩ ⟨c8,J⟩
 simp only at c8 J⊢
 refine .sr<|.q .lss<|.zs<|.cond rfl (λi=>?_) λi=>?_
 have b0:q<S.length:=cK i
 obtain⟨d8,a8⟩:=ca b0
 refine .kn<|.seq<|.block<|.sr ?_
 refine .bh q a1 a8 (λe6=>?_)
 refine .q (.aL rfl) ?_
 refine .cq (λd9=>?_)
 refine .bZ rfl rfl<|.zn<|.dz [9] mixed<|.tO 0 rfl .move<|.tO 1 rfl (.aL rfl)<|.tO 2 rfl (.aL rfl)<|.tO 3 rfl .move<|.tO 4 rfl .move ?_
 refine RA.bh 5 rfl m d4 a2 rfl rfl rfl (by kernel_rfl) (λe7=>?_)
 refine .tO 6 rfl (.cI rfl)<|.tO 7 rfl .dw<|.sT 8 rfl ?_
 refine .fq (λe0=>?_)
 refine .nil<|Next.sub<|.sT 9 rfl<|.append J (RS.lits (xs:=[((p,d8,I):jN)]) rfl (by simp[jD]) (by simp[jD,ay])) (by simp only[aeL,aeF,aeI,aeM];omega) (λv1 T1 d5=>?_)
 refine .nil<|Next.mod rfl<|.tK 10 rfl .assign<|RA.nil (by kernel_rfl)<|ba<|au<|.region<|.ia (q+1) .add<|.mo rfl<|.nil ?_
 ·exact bp (q+1,v1,T1) ⟨b0,by simp only;rw[eo a8,aeH, <-ae0];exact d5⟩ (by simp only;omega) kE.c.c.c.c.c.c.c.c.c.c.c (aK [2,2,2,2,2,2,2])
 rw[dZ (kS i)]at J
 refine .exit<|bD<|bG<|bE<|ba<|au<|.region<|.ia (m+1) .add<|.mo rfl<|.nil ?_
 ·exact bp (m+1,v3,Es++S.map (λq=>((p,q,I):jN)),T3) ⟨a5,J,by simp only[aeL,aeF];omega,by
   simp only
   rw[d0,qh]
   refine V.nR ?_
   rw[cat,a4]
   unfold fv
   rw[d2]
   simp only[cat,Option.map_some,ae3,aeV]
   refine⟨rfl,?_,λe he=>?_⟩
   ·rw[<-b7,aeQ,aeQ]
    congr 1
    funext q
    simp only[afc,bO.ed,c3]
   ·obtain⟨q,hq,rfl⟩:=afd.1 he
    exact⟨d6,c0 q hq⟩⟩ (by simp only;omega) kE.c.c.c.c.c.c.c (aK [2,2,2,2,2])
 have c5:m=r.nodes.length:=by have:=bI Q;omega
 refine .exit<|bD<|bG<|bE<|au<|.sr<|.mo rfl<|.ag rfl<|.az rfl<|.ret (br _ (.two (.tmp rfl) (.tmp rfl)) (.one [0] _) ?_)
 ·refine⟨To,by simp[take],vo,Es,true,rfl,W,by omega,?_⟩
  rw[<-c5]
  exact V
theorem yk{c:bO}(h:rf c.fV):c.qu:=λs b r a=>h (s.name,r) (aft.2 ⟨s,b,afd.2 ⟨r,a,rfl⟩⟩)
theorem PJ{R:aA}{xb:Nat}{vm:Value}{c:bO}(h:IX R xb vm c)(h8:c.qu)(t:c.jF):
  Spec prog 122 [pT xb] R [] λu H'=>∃T,H'=[T]/\∃w Es ok,u=.tuple [w,.bool ok].toArray/\OS 325 5 jD w Es T/\Es.length<=131072/\EA c ok Es c.plain.ma:=by
 have b3:=λp s r a J=>CQ h h8 p s r a J
 have b5:=h
 have c0:=looked c
 have pc:=h.pc
 have Y:=h.ci.ss
 have W:=h.ci.sc
 have d3:=Y.le
 have d2:=W.le
 have b2:=h.ci.all
 have b0:=pR c.plain
 have d6:=t.fV
 have b9:c.plain.all.length=c.fV.length:=by rw[<-po,aeF]
 have c5:c.plain.aV.length=c.aV.length:=by unfold bO.plain;simp
 have c3:∀(i:Nat) (s:cF),c.aV[i]? =some s->c.plain.aV[i]? =some s.plain:=λi s a=>pC a
 have c6:=λ(p:gu) (s:cF) (r:cm)=>pz (c:=c) (p:=p) (s:=s) (r:=r)
 have U:c.plain.ma=if sV c.plain then cat (λp:Nat×(ByteArray×Rl)=>ld c.plain.all p.1 p.2.1 p.2.2) (jX 0 c.plain.all)else none:=rfl
 have a8:sV c.plain=c.scopes.all λs:Sc=>(bV c.plain.all ⟨s.kb,s.rel⟩).isSome:=rfl
 have b7:∀i k,c.ix (i,k)=cO c.plain.aV i+k:=λ_ _=>rfl
 generalize hA:c.plain.all=A at *
 generalize S:cO c.plain.aV=of at *
 generalize hg:(λp:Nat×(ByteArray×Rl)=>ld A p.1 p.2.1 p.2.2)=g at *
 have c1:of 0=0:=by rw[<-S];cases c.plain.aV<;>rfl
 refine Spec.body func122 rfl results122 ntmps122 rfl<|.sr<|.ag rfl<|.ag rfl<|.z<|.ag rfl<|.zs<|.sr<|.mo rfl<|.nc rfl<|.fa rfl<|.fa rfl<|.lo rfl<|.q (.bK Y)<|.mo rfl<|.zn<|.block<|.cX [(0,_),(18,_),(19,_)] (X:=Nat×Value×List jN×av) (λy=>y.1<=c.aV.length/\OS 325 5 jD y.2.1 y.2.2.1 y.2.2.2/\y.2.2.1.length<=512*of y.1/\EA c true y.2.2.1 (cat g (jX 0 (A.take (of y.1))))) (λy E=>(20,iN y.1)::(4,y.2.1)::E) (λy G=>y.2.2.2::G) (λy=>c.aV.length-y.1) (0,sZ,[],[]) ⟨aeB _,OS.nil,by simp,by simp only;rw[c1];exact EA.nil⟩ kE.c.c.c.c.c bz.ir ?_
 rintro⟨i,K,Es,F⟩ ⟨hi,n,m,f⟩
 simp only at hi n m f⊢
 refine .sr<|.q .lss<|.zs<|.cond rfl (λL=>?_) λL=>?_
 have a3:i<c.aV.length:=cK L
 obtain⟨⟨e,v,d⟩,a⟩:=ca a3
 have a9:=b2 _ (aR a)
 have a7:RS R 3 cm.enc v d:=a9.rs
 have d4:=a7.le
 have d7:cM (cF.enc ⟨e,v,d⟩):=⟨a9.dl⟩
 have a6:=c3 i _ a
 have a5:=pA a6
 have a4:=sB a6
 rw[S,show(cF.plain ⟨e,v,d⟩).bS.length=d.length by simp[cF.plain]]at a5 a4
 rw[b0,b9]at a4
 refine .kn<|.seq<|.block<|.sr<|.mo rfl ?_
 refine .bF i Y a (λd8=>?_)
 refine .q (.aL rfl) ?_
 refine .cq (λb6=>?_)
 refine .ag rfl<|.bZ rfl rfl<|.z<|.fa rfl<|.lo rfl<|.q (.bK a7)<|.mo rfl<|.zn<|.block<|.cX [(0,_),(5,_),(18,_),(19,_),(20,_),(27,_)] (X:=Nat×Value×List jN×av) (λy=>y.1<=d.length/\OS 325 5 jD y.2.1 y.2.2.1 y.2.2.2/\y.2.2.1.length<=512*(of i+y.1)/\EA c true y.2.2.1 (cat g (jX 0 (A.take (of i+y.1))))) (λy E=>(28,iN y.1)::(4,y.2.1)::E) (λy G=>bl b6 (cF.enc ⟨e,v,d⟩) 164::y.2.2.2::G) (λy=>d.length-y.1) (0,K,Es,F) ⟨aeB _,n,m,f⟩ kE.c.c.c.c.c.c.c.c rH ?_
 rintro⟨k,K,Es,F⟩ ⟨hk,n,m,f⟩
 simp only at hk n m f⊢
 refine .sr<|.q .lss<|.zs<|.cond rfl (λM=>?_) λM=>?_
 have a2:k<d.length:=cK M
 obtain⟨r,J⟩:=ca a2
 have Z:=b3 (i,k) _ r a J
 have H:=c6 (i,k) _ r a J
 rw[b7]at Z H
 have a0:g (of i+k,(e,r.r))=ld A (of i+k) e r.r:=by rw[<-hg]
 have d5:of i+k<A.length:=(aeO.1 H).1
 refine .kn<|.seq<|.block<|.sr<|.mo rfl<|.ag rfl<|.z<|.mo rfl<|.mo rfl<|.mo rfl<|.q .dw<|.dx (Z.weaken dt) (λu T4 c7=>?_)
 obtain⟨w4,Fs,ok,rfl,b1,d1,B⟩:=c7
 refine .mo rfl<|.q .extract<|.q .extract<|.ag rfl<|.ag rfl<|.zs<|.sr<|.mo rfl<|.q .not<|.zn<|.cond rfl (λN=>?_) λN=>?_
 refine .sr<|.ag rfl<|.az rfl<|.ret (aJ (bA (aJ (cW (bA (bA (aJ (cW (bA (aJ (br _ (.two (.tmp rfl) (.tmp rfl)) bz.ka ?_)))))))))))
 ·refine⟨[],rfl,_,[],false,rfl,OS.nil,by simp,?_⟩
  have D:ok=false:=by simpa using N
  rw[U]
  split
  ·rw[tH (x:=(of i+k,(e,r.r))) (by have:=rG (i:=0) H;rwa [afl]at this) (by
    rw[a0]
    cases hrc:ld A (of i+k) e r.r with
    |none=>rfl
    |some o=>rw[show ld A (of i+k) (⟨e,v,d⟩:cF).name r.r=some o from hrc]at B;rw[B.1]at D;cases D)]
   rfl
  ·rfl
 have I:ok=true:=by simpa using N
 subst I
 refine .kn<|.region<|.mo rfl<|.mo rfl<|.append n b1.rx (by omega) (λv1 T1 c8=>?_)
 refine .ag rfl<|.nil<|ba<|au<|.region<|.ia (k+1) .add<|.mo rfl<|.nil ?_
 ·exact bp (k+1,v1,Es++Fs,T1) ⟨a2,c8,by simp only[aeL];omega,by
   simp only
   rw[show of i+(k+1)=of i+k+1 by omega,tT H,qh]
   refine f.nR ?_
   rw[cat,afl,show g (of i+k,(⟨e,v,d⟩:cF).name,r.r)=ld A (of i+k) e r.r from a0]
   revert B
   generalize ld A (of i+k) (⟨e,v,d⟩:cF).name r.r=o
   intro B
   cases o with
   |none=>exact B
   |some o=>simpa[cat]using B⟩ (by simp only;omega) kE.c.c.c.c.c.c.c.c (aK [1,1,1])
 have b8:k=d.length:=by have:=bI M;omega
 rw[b8, <-a5]at m f
 refine .exit<|bD<|bG<|bE<|ba<|au<|.region<|.ia (i+1) .add<|.mo rfl<|.nil ?_
 ·exact bp (i+1,K,Es,F) ⟨a3,n,m,f⟩ (by simp only;omega) kE.c.c.c.c.c (aK [1])
 have b4:i=c.aV.length:=by have:=bI L;omega
 have c2:of i=A.length:=by rw[b4, <-c5, <-S, <-b0];rfl
 rw[c2,afb]at f
 refine .exit<|bD<|bG<|bE<|au<|.seq<|.sr<|.mo rfl<|.nc rfl<|.fa rfl<|.fa rfl<|.lo rfl<|.q (.bK W)<|.mo rfl<|.zn<|.block<|.cX [(0,_),(4,_),(50,_),(51,_)] (X:=Nat) (λj=>j<=c.scopes.length/\(c.scopes.take j).all (λs:Sc=>(bV A ⟨s.kb,s.rel⟩).isSome)=true) (λj E=>(52,iN j)::E) (λ_ G=>G) (λj=>c.scopes.length-j) 0 ⟨aeB _,rfl⟩ kE.c.c.c.c.c rH ?_
 rintro j ⟨hj,V⟩
 refine .sr<|.q .lss<|.zs<|.cond rfl (λO=>?_) λO=>?_
 have a1:j<c.scopes.length:=cK O
 obtain⟨s,a⟩:=ca a1
 obtain⟨ps,ok,c4,C⟩:=c0 (⟨s.kb,s.rel⟩:Ty)
 unfold nM at C
 rw[hA]at C
 refine .kn<|.seq<|.block<|.sr ?_
 refine .bF j W a (λd9=>?_)
 refine .q (.aL rfl) ?_
 refine .cq (λc9=>?_)
 refine .bZ rfl rfl<|.zs<|.dz [15] mixed<|.tO 0 rfl .move<|.tO 1 rfl (.nilCheck rfl)<|.tO 2 rfl (.fieldAddr rfl)<|.tO 3 rfl (.cI rfl)<|.tO 4 rfl (.fieldAddr rfl)<|.tO 5 rfl (.fieldAddr rfl)<|.tO 6 rfl (.cI rfl)<|.tO 7 rfl (.fieldAddr rfl)<|.tO 8 rfl (.cI rfl)<|.tO 9 rfl .dw<|.jw 10 rfl (.cast (.ny (b5.rm.pj λb o hb=>.inl hb) rfl rfl) (aeD (λl:List Value=>Value.tuple l.toArray) c4)) (by kernel_rfl)<|.tO 11 rfl .move<|.tO 12 rfl .extract<|.tK 13 rfl .extract<|.sT 14 rfl ?_
 refine .cq (λd0=>?_)
 refine .nil<|Next.sub<|.sT 15 rfl<|.bZ rfl rfl<|.nil<|Next.mod rfl<|.tK 16 rfl .assign<|RA.nil (by kernel_rfl)<|au<|.sr<|.mo rfl<|.q .not<|.zn<|.cond rfl (λQ=>?_) λQ=>?_
 refine .sr<|.ag rfl<|.az rfl<|.ret (bA (aJ (cW (bA (aJ (br _ (.two (.tmp rfl) (.tmp rfl)) bz.ka ?_))))))
 ·refine⟨[],rfl,_,[],false,rfl,OS.nil,by simp,?_⟩
  have D:ok=false:=by simpa using Q
  have hj:bV A ⟨s.kb,s.rel⟩=none:=by
   cases t:bV A ⟨s.kb,s.rel⟩with
   |none=>rfl
   |some j=>rw[t]at C;rw[C.1]at D;cases D
  rw[U,a8,lE a (by rw[hj];rfl)]
  rfl
 have t:(bV A ⟨s.kb,s.rel⟩).isSome=true:=by
  have I:ok=true:=by simpa using Q
  cases t:bV A ⟨s.kb,s.rel⟩with
  |none=>rw[t]at C;rw[C]at I;cases I
  |some j=>rfl
 refine .skip<|ba<|au<|.region<|.ia (j+1) .add<|.mo rfl<|.nil ?_
 ·exact bp (j+1) ⟨a1,nh a V t⟩ (by omega) kE.c.c.c.c.c (aK [2])
 refine .exit<|bD<|bG<|bE<|au<|.sr<|.mo rfl<|.ag rfl<|.az rfl<|.ret (br _ (.two (.tmp rfl) (.tmp rfl)) (.one [0] _) ?_)
 ·refine⟨F,by simp[take],K,Es,true,rfl,n,aeR m (Nat.mul_le_mul_left 512 (show of i<=256 by omega)),?_⟩
  rw[dZ (kS O)]at V
  rw[U,a8,V,aeG rfl]
  exact f
abbrev iD:=fR×av
def oK(w:Value)(LL:List iD)(To:av):Prop:=OS 182 1 eD w (LL.map (·.1)) To/\∀q∈LL,OS 3 1 dv q.1.1 q.1.2 q.2
def nO(w:Value)(LL:List iD)(T:av):Prop:=∃To,T=To++LL.flatMap (·.2)/\oK w LL To
theorem zk{α:Type}{l:List α}{i:Nat}{x:α}(h:l[i]? =some x):∃A B,l=A++x::B/\A.length=i/\∀y,l.set i y=A++y::B:=by
 refine⟨l.take i,l.drop (i+1),?_,?_,λy=>?_⟩
 ·have:=xC h
  rw[<-this,afo]
 ·rw[aeI];have:=(aeO.1 h).1;omega
 ·exact List.set_eq_take_append_cons_drop.trans (aeG (aeO.1 h).1)
theorem O5(w:Value)(d:List iD)(T:av)(h:nO w d T)(e:jN)(a b:Nat)(t I:iD)(s:d[e.1.1]? =some t)(A:d[e.2.1.1]? =some I)(r:t.1.2[e.1.2]? =some a)(i:I.1.2[e.2.1.2]? =some b)(a1:b<=1000000000)(R:aA):
  Spec prog 182 [w,.agg (jD e).toArray] R [T] λu H'=>∃T',H'=[T']/\((u=.bool false/\b+(if e.2.2 then 1 else 0)<=a/\nO w d T')\/(u=.bool true/\a<b+(if e.2.2 then 1 else 0)/\∃Tn,nO w (d.set e.1.1 ((t.1.1,t.1.2.set e.1.2 (b+(if e.2.2 then 1 else 0))),Tn)) T')):=by
 obtain⟨f,rfl,g,m⟩:=h
 obtain⟨⟨k,l⟩,⟨v,B⟩,j⟩:=e
 obtain⟨⟨J,S⟩,V⟩:=t
 obtain⟨⟨K,U⟩,Z⟩:=I
 simp only at s A r i⊢
 have n:=m _ (aR s)
 have F:=m _ (aR A)
 simp only at n F
 have G:(d.map (·.1))[k]? =some (J,S):=by rw[aeE,s];rfl
 have Q:(d.map (·.1))[v]? =some (K,U):=by rw[aeE,A];rfl
 have O:∀(q:iD),q∈d->∀p∈q.2,p∈d.flatMap (·.2):=λq hq p Y=>aft.2 ⟨q,hq,Y⟩
 obtain⟨L,M,y,a0,H⟩:=zk s
 have a2:RC R [f,d.flatMap (·.2)] (eO J (l*1)) (dv a):=⟨(n.pc r).mono λb o i=>.inr (by have:=O _ (aR s) _ i;simp[this])⟩
 have a3:RC R [f,d.flatMap (·.2)] (eO K (B*1)) (dv b):=⟨(F.pc i).mono λb o i=>.inr (by have:=O _ (aR A) _ i;simp[this])⟩
 have a4:PS f (eO w (k*1)) (eD (J,S)):=⟨g.pc G⟩
 have a5:PS f (eO w (v*1)) (eD (K,U)):=⟨g.pc Q⟩
 refine Spec.gj (H':=[f,d.flatMap (·.2)]) (by simp)<|Spec.body func182 rfl results182 ntmps182 rfl<|.sr ?_
 refine .cg rfl (λN=>?_)
 refine .ag rfl<|.zs<|.fX mixed (by kernel_rfl)<|.mo rfl<|.fa rfl<|.fa rfl<|.lo rfl<|.q (.bF v g.sg Q rfl rfl rfl)<|.lo rfl<|.fa rfl<|.fa rfl<|.lo rfl<|.q (.bF B F.sg i rfl rfl rfl)<|.lo rfl<|.ag rfl<|.zs<|.sr<|.fa rfl<|.lo rfl<|.zn ?_
 refine bu.dc [(0,_),(3,_)] kE.c.c (X:=Unit) (λ_=>True) (λ_ E=>(5,.int .i64 ((b+(if j then 1 else 0):Nat):Int))::E) (λ_=>[bl N (jD ((k,l),(v,B),j)) 325,f,d.flatMap (·.2)]) ?_ ?_
 refine .cond rfl (λC=>?_) λC=>?_
 refine .region<|.mo rfl<|.ia (b+1) .add<|.ag rfl<|.nil ?_
 ·exact aD () aeA (kE.c.c.nk rfl (by have h:j=_:=C;simp[h])) rH
 refine .skip ?_
 ·exact aD () aeA (kE.c.c.nk rfl (by have h:j=_:=C;simp[h])) rH
 intro x hx
 refine au<|.seq<|.seq<|.fX mixed (by kernel_rfl)<|.mo rfl<|.fa rfl<|.fa rfl<|.lo rfl<|.q (.bF k g.sg G rfl rfl rfl)<|.lo rfl<|.fa rfl<|.fa rfl<|.lo rfl<|.q (.bF l n.sg r rfl rfl rfl)<|.lo rfl<|.mo rfl<|.q .geq<|.zn<|.cond rfl (λD=>?_) λD=>?_
 refine .sr<|.az rfl<|.ret (aJ (br _ (.one (.tmp rfl)) (.one [1,1] _) ?_))
 ·refine⟨_,rfl,.inl ⟨rfl,by have:=cL D;omega,f,by simp[take,bN],g,m⟩⟩
 refine .kn<|.seq<|.dY 11 mixed (by kernel_rfl) ?_
 conv=>arg 6;dsimp only[List.take]
 refine .mo rfl<|.fa rfl<|.fa rfl<|.lo rfl<|.q (.bF k g.sg G rfl rfl rfl)<|.lo rfl<|.fa rfl<|.fa rfl<|.lo rfl<|.mo rfl<|.q (.bF l n.sg r rfl rfl rfl)<|.nil ?_
 refine .sub (H':=[bl N (jD ((k,l),(v,B),j)) 325,f,V,L.flatMap (·.2)++M.flatMap (·.2)]) (bz.fH (by
  rw[y]
  simp only[List.flatMap_append,List.flatMap_cons,List.flatten_cons,List.flatten_nil,aeV]
  refine .append_left _ (.append_left _ ?_)
  rw[<-ae0, <-ae0]
  exact List.perm_append_comm.append_right _)) ?_
 refine .gk l n r (b+(if j then 1 else 0)) (λTn W=>?_)
 refine .z<|.az rfl<|.ret (br _ (.one (.tmp rfl)) ((aK [1,1,1]).trans (bz.fH (H':=[f++(L.flatMap (·.2)++(Tn++M.flatMap (·.2)))]) (by simp only[take,bN,List.getD_cons_zero,List.getD_cons_succ,List.flatten_cons,List.flatten_nil,aeV];refine .append_left _ ?_;rw[<-ae0, <-ae0];exact List.perm_append_comm.append_right _))) ?_)
 ·refine⟨_,rfl,.inr ⟨rfl,by have:=bI D;omega,Tn,f,?_,?_,λq hq=>?_⟩⟩
  ·rw[H];simp
  ·refine g.congr ?_
   rw[H,y]
   simp[eD]
  ·rw[H]at hq
   rcases afn.1 hq with hq|hq
   ·exact m q (by rw[y];exact List.mem_append_left _ hq)
   ·rcases List.mem_cons.1 hq with rfl|hq
    ·exact W
    ·exact m q (by rw[y];exact List.mem_append_right _ (List.mem_cons_of_mem _ hq))
end Go.Proofs.YtdljmchhecoakaaGreat

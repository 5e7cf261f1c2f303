/- What the law 'ExpandRight' uses. No condition. -/
import Derived.Test.YtenilfmlfldogaaGreatDoorKExpandRightA
import Derived.Test.YtenilfmlfldogaaGreatDoorKExpandRightB
import Derived.Test.YtenilfmlfldogaaGreatDoorKExpandRightD
import Derived.Test.YtenilfmlfldogaaGreatDoorKExpandRightE
import Derived.Test.YtenilfmlfldogaaGreatDoorKExpandRightH
import Derived.Test.YtenilfmlfldogaaGreatDoorKExpandRightI
import Derived.Test.YtenilfmlfldogaaGreatDoorKExpandRightK
import Derived.Test.YtenilfmlfldogaaGreatDoorKExpandRightM
namespace Go.Proofs.YtenilfmlfldogaaGreatDoor
set_option linter.defProp false
def aej:=@trivial
def aek:=@if_neg
def ael:=@Nat.zero_le
def aem:=@if_pos
def aen:=@List.length_map
def aeo:=@congrArg
def aep:=@List.getElem?_map
def aeq:=@List.map_append
def aer:=@List.getD_eq_getElem?_getD
def aes:=@List.length_take
def aet:=@List.length_append
def aeu:=@List.append_nil
def aev:=@Bool.and_true
def aew:=@List.length_singleton
def aex:=@List.getElem?_eq_some_iff
def aey:=@List.map_map
def aez:=@Bool.and_false
def aeA:=@if_true
def aeB:=@Nat.le_trans
def aeC:=@decide_eq_false
def aeD:=@List.mem_singleton
def aeE:=@List.length_replicate
def aeF:=@List.all_cons
def aeG:=@Bool.false_and
def aeH:=@List.all_append
def aeI:=@Nat.not_lt
def aeJ:=@if_false
def aeK:=@List.take_length
def aeL:=@decide_eq_true
def aeM:=@List.mem_map
def aeN:=@List.append_assoc
def aeO:=@Nat.lt_or_ge
def aeP:=@List.mem_iff_getElem
def aeQ:=@Option.bind_some
def aeR:=@List.all_nil
def aeS:=@List.getElem?_cons_zero
def aeT:=@Option.some.injEq
def aeU:=@decide_eq_true_eq
def aeV:=@List.length_cons
def aeW:=@List.length_filter_le
def aeX:=@Function.comp_def
def aeY:=@Bool.true_and
def aeZ:=@Bool.true_or
def ae0:=@Bool.false_or
def ae1:=@Bool.or_eq_true
def ae2:=@List.mem_append
def ae3:=@Nat.sub_self
def ae4:=@Bool.or_true
def ae5:=@List.mem_flatMap
def ae6:=@List.getElem_take
def ae7:=@List.nil_append
def ae8:=@Nat.zero_add
def ae9:=@Bool.and_eq_true
def afa:=@List.take_append_drop
def afb:=@List.not_all_eq_any_not
def afc:=@List.zipWith_cons_cons
def afd:=@List.take_succ_cons
def afe:=@List.take_add_one
def aff:=@List.nodup_append
def afg:=@Bool.or_eq_false_iff
def afh:=@decide_eq_false_iff_not
def afi:=@Decidable.not_not
def afj:=@List.flatten_cons
def afk:=@List.flatten_nil
def afl:=@List.findIdx?_eq_some_iff_getElem
open Tryz
set_option linter.unusedVariables false
set_option linter.unusedSimpArgs false
set_option maxRecDepth 4000
def mK(t:aA):ByteArray:=if t.us=⟨#[]⟩then⟨#[49]⟩else⟨#[48]⟩
def gi(t:aA):List ByteArray:=[t.os,t.oi,t.rel,mK t,t.us,t.ss,t.si,t.sr]
theorem O9(a b:aA):fx (mK a) (mK b)=ki (kx a.us) (kx b.us):=by
 unfold mK kx
 split<;>split<;>decide
theorem Qc(a b:aA):kz a b=ey (List.zipWith fx (gi a) (gi b)):=by
 unfold kz gi
 simp only[afc,List.zipWith_nil_left]
 rw[O9]
theorem yQ:∀{X Y:List ByteArray} {i:Nat} {x y:ByteArray},X.take i=Y.take i->X[i]? =some x->Y[i]? =some y->x≠y->ey (List.zipWith fx X Y)=fx x y
 |x0::X,y0::Y,0,x,y,_,hx,hy,hn=>by
  simp only[aeS,aeT]at hx hy
  subst hx hy
  rw[afc,m7,aek λe=>hn (oS.1 e)]
 |x0::X,y0::Y,i+1,x,y,ht,hx,hy,hn=>by
  simp only[afd,List.cons.injEq]at ht
  simp only[List.getElem?_cons_succ]at hx hy
  rw[afc,m7,aem (oS.2 ht.1)]
  exact yQ ht.2 hx hy hn
 |[],_,i,x,y,_,hx,_,_=>by simp at hx
 |_::_,[],i,x,y,_,_,hy,_=>by simp at hy
theorem P9{a b:aA}{i:Nat}{x y:ByteArray}(d:(gi a).take i=(gi b).take i)(e:(gi a)[i]? =some x)(f:(gi b)[i]? =some y)(c:x≠y):gj a b=gR x y:=by
 unfold gj
 rw[Qc,yQ d e f c,Bool.eq_iff_iff,aeU,nW]
theorem P5{a b:aA}(h:gi a=gi b):a=b:=by
 obtain⟨k,l,m,n,o,p,q⟩:=a
 obtain⟨r,s,t,u,v,w,x⟩:=b
 simp only[gi,List.cons.injEq]at h
 obtain⟨c,d,e,y,f,g,i,j,_⟩:=h
 simp only[aA.mk.injEq]
 exact⟨c,d,e,f,g,i,j⟩
theorem xh(t:aA)(R:aw):Spec prog 173 [.agg t.enc.toArray] R [] λu H'=>∃T,H'=[T]/\OS 9 1 dV u (gi t) T:=by
 refine Spec.fP (H':=[]) (by simp) ?_
 refine Spec.body func173 rfl results173 ntmps173 rfl ?_
 refine .sr ?_
 refine .cj rfl (λb=>?_)
 refine .ag rfl<|.z<|.ag rfl<|.zs<|.sr<|.fa rfl<|.fa rfl<|.lo rfl<|.q .gd<|.zn ?_
 refine bF.cut (X:=ByteArray) (λk=>k=mK t) (λk=>[(1,pT b),(3,.string k)]) (λk=>[bl b t.enc 132]) ?_ ?_
 refine .cond rfl (λa=>?_) λa=>?_
 refine .region<|.ag rfl<|.nil ?_
 ·first
   |exact aG ⟨#[48]⟩ (by unfold mK;rw[aek (by simpa using a)]) kE.c.c rH
   |exact aG ⟨#[49]⟩ (by unfold mK;rw[aem (by simpa using a)]) kE.c.c rH
 refine .skip ?_
 ·first
   |exact aG ⟨#[48]⟩ (by unfold mK;rw[aek (by simpa using a)]) kE.c.c rH
   |exact aG ⟨#[49]⟩ (by unfold mK;rw[aem (by simpa using a)]) kE.c.c rH
 intro x d
 subst d
 refine ay<|.sr<|.fa rfl<|.fa rfl<|.lo rfl<|.fa rfl<|.fa rfl<|.lo rfl<|.fa rfl<|.lo rfl<|.mo rfl<|.fa rfl<|.fa rfl<|.lo rfl<|.fa rfl<|.fa rfl<|.fa rfl<|.lo rfl<|.fa rfl<|.fa rfl<|.fa rfl<|.lo rfl<|.fa rfl<|.fa rfl<|.lo rfl ?_
 refine .v8 [_,_,_,_,_,_,_,_] (λe=>?_)
 refine .az rfl ?_
 refine .ret (bu _ (.one (.tmp rfl)) (.one [0] _) ?_)
 ·refine⟨_,by simp[take];rfl,?_⟩
  exact OS.lits (E:=9) (xs:=gi t) (enc:=dV) rfl (by simp[gi,dV]) (by simp[gi,dV,aq])
theorem On(a b:aA)(R:aw):Spec prog 138 [.agg a.enc.toArray,.agg b.enc.toArray] R [] λv H'=>v=.bool (gj a b)/\H'=[]:=by
 refine Spec.body func138 rfl results138 ntmps138 rfl ?_
 refine .sr ?_
 refine .cj rfl (λs=>?_)
 refine .cj rfl (λt=>?_)
 refine .ag rfl<|.zs<|.dg [] mixed ?_
 refine .tO 0 rfl (.aP rfl)<|.tO 2 rfl (.aP rfl) ?_
 refine .sT 1 rfl ?_
 refine .dq (xh a _) (λu n d=>?_)
 have A:=d.aq
 refine .nil (Next.sub ?_)
 refine .sT 3 rfl ?_
 refine .dq (xh b _) (λw o k=>?_)
 have B:=k.aq
 refine .nil (Next.sub ?_)
 refine .tO 4 rfl .assign<|.tO 5 rfl .assign ?_
 refine RA.nil (by kernel_rfl) ?_
 refine ay<|.seq<|.sr<|.az rfl<|.block ?_
 refine .loop (X:=Nat) (λi=>i<=8/\(gi a).take i=(gi b).take i) (λi=>[(5,u),(6,w),(7,iN i)]) (λ_=>[n,o]) (λi=>8-i) 0 ⟨by omega,by simp⟩ kE.c.c.c (aQ [1,0]) ?_
 rintro i ⟨x,m⟩
 refine .seq<|.sr<|.mo rfl<|.mo rfl<|.q (.fD d) ?_
 refine .q .lss<|.zn ?_
 refine .cond rfl (λh=>?_) λh=>?_
 have l:i<8:=by have:=cq h;simp only[gi,aeV,List.length_nil]at this;omega
 obtain⟨z,g⟩:∃z,(gi a)[i]? =some z:=⟨_,bE (by simpa[gi]using l)⟩
 obtain⟨y,f⟩:∃y,(gi b)[i]? =some y:=⟨_,bE (by simpa[gi]using l)⟩
 refine .kn<|.seq<|.block<|.seq ?_
 refine .eo mixed (by kernel_rfl) ?_
 refine .mo rfl<|.mo rfl ?_
 refine .bH i d g (λC=>?_)
 refine .lo rfl<|.mo rfl<|.mo rfl ?_
 refine .bH i k f (λD=>?_)
 refine .lo rfl<|.q .gd<|.zn ?_
 refine .cond rfl (λj=>?_) λj=>?_
 refine .seq ?_
 refine .eo mixed (by kernel_rfl) ?_
 refine .mo rfl<|.mo rfl ?_
 refine .bH i d g (λE=>?_)
 refine .lo rfl<|.mo rfl<|.mo rfl ?_
 refine .bH i k f (λF=>?_)
 refine .lo rfl<|.q .Mu<|.az rfl ?_
 refine .ret (bf (aI (cK (bf (aI (aM rfl ?_))))))
 ·have r:z≠y:=by simpa using j
  exact⟨by rw[P9 m g f r],rfl⟩
 refine .skip<|bi<|ay<|.region<|.mo rfl ?_
 refine .ia (i+1) .add ?_
 refine .ag rfl<|.nil ?_
 ·exact aW (i+1) ⟨l,by
   have e:z=y:=by simpa using j
   rw[afe,afe,m,g,f,e]⟩ (by omega) kE.c.c.c rH
 refine .exit<|bz<|bG<|bB<|ay<|.sr<|.az rfl ?_
 refine .ret (aM rfl ?_)
 ·have p:i=8:=by have:=bC h;simp only[gi,aeV,List.length_nil]at this;omega
  subst p
  have:a=b:=P5 (by simpa[gi]using m)
  exact⟨by rw[this,sA],rfl⟩
structure DV(R:aw)(b:Nat)(S:dd)(vL:Value)(L:List bA):Prop where
 pc:PC R (pT b) [vL,.int .u64 S.head,.int .u64 S.dM]
 rs:RS R 9 bA.enc vL L
theorem DV.mono{R R':aw}{b:Nat}{S:dd}{c:Value}{L:List bA}(h:DV R b S c L)(a:∀b o,R b o->R' b o):DV R' b S c L:=⟨h.pc.mono a,h.rs.mono a⟩
theorem rZ(s i:ByteArray)(d:s.size<=9223372036854775807)(c:i.size<=9223372036854775807)(R:aw):Spec prog 5 [.agg [.string s,.string i].toArray] R [] λv H'=>v=.bool (de s i)/\H'=[]:=by
 refine Spec.body func5 rfl results5 ntmps5 rfl ?_
 refine .sr ?_
 refine .cj rfl (λe=>?_)
 refine .ag rfl<|.z<|.fa rfl<|.lo rfl ?_
 refine .aR (jJ s d _) (λv b=>?_)
 subst b
 refine .mo rfl ?_
 refine .split (t:=6) rfl (λa=>?_) (λa=>?_)
 refine .gT a<|.fa rfl<|.gT a<|.lo rfl<|.gT a ?_
 refine .aR (zw i c _) (λv b=>?_)
 subst b
 refine .q (.aZ a) ?_
 refine .az rfl ?_
 refine .ret (aM rfl ?_)
 ·exact⟨by unfold de;simp_all,rfl⟩
 refine .gF a<|.gF a<|.gF a<|.q (.aX a) ?_
 refine .az rfl ?_
 refine .ret (aM rfl ?_)
 ·exact⟨by unfold de;simp_all,rfl⟩
theorem Of(s:Sub)(g:s.us.size<=9223372036854775807)(h:s.ss.size<=9223372036854775807)(i:s.si.size<=9223372036854775807)(j:s.sr.size<=9223372036854775807)(R:aw):Spec prog 137 [.agg s.enc.toArray] R [] λv H'=>v=.bool (gv s)/\H'=[]:=by
 obtain⟨us,ss,si,sr⟩:=s
 simp only at g h i j
 refine Spec.body func137 rfl results137 ntmps137 rfl ?_
 refine .sr ?_
 refine .cj rfl (λl=>?_)
 refine .ag rfl<|.zs<|.sr<|.fa rfl<|.lo rfl<|.q .ec<|.zn ?_
 refine .cond rfl (λk=>?_) λk=>?_
 refine .sr<|.fa rfl<|.q (.loadT rfl) ?_
 refine .aR (rZ ss si h i _) (λv f=>?_)
 subst f
 refine .mo rfl ?_
 refine .split (t:=9) rfl (λd=>?_) (λd=>?_)
 refine .gT d<|.fa rfl<|.gT d<|.lo rfl<|.gT d ?_
 refine .aR (jJ sr j _) (λv f=>?_)
 subst f
 refine .q (.aZ d) ?_
 refine .az rfl ?_
 refine .ret (aI (aM rfl ?_))
 ·refine⟨aeo _ ?_,rfl⟩
  unfold gv
  by_cases a:us=⟨#[]⟩
  ·simp only[a,aeA]
   simp_all
  ·simp only[a,aeJ]
   simp_all
 refine .gF d<|.gF d<|.gF d<|.q (.aX d) ?_
 refine .az rfl ?_
 refine .ret (aI (aM rfl ?_))
 ·refine⟨aeo _ ?_,rfl⟩
  unfold gv
  by_cases a:us=⟨#[]⟩
  ·simp only[a,aeA]
   simp_all
  ·simp only[a,aeJ]
   simp_all
 refine .kn<|.sr<|.fa rfl<|.lo rfl ?_
 refine .aR (zw us g _) (λv f=>?_)
 subst f
 refine .mo rfl ?_
 refine .split (t:=17) rfl (λb=>?_) (λb=>?_)
 refine .gT b<|.fa rfl<|.gT b<|.fa rfl<|.gT b<|.lo rfl<|.gT b<|.q .ec<|.q (.aZ b) ?_
 refine .mo rfl ?_
 refine .split (t:=23) rfl (λc=>?_) (λc=>?_)
 refine .gT c<|.fa rfl<|.gT c<|.fa rfl<|.gT c<|.lo rfl<|.gT c<|.q .ec<|.q (.aZ c) ?_
 refine .mo rfl ?_
 refine .split (t:=29) rfl (λe=>?_) (λe=>?_)
 refine .gT e<|.fa rfl<|.gT e<|.lo rfl<|.gT e<|.q .ec<|.q (.aZ e) ?_
 refine .az rfl ?_
 refine .ret (aM rfl ?_)
 ·refine⟨aeo _ ?_,rfl⟩
  unfold gv
  by_cases a:us=⟨#[]⟩
  ·simp only[a,aeA]
   simp_all
  ·simp only[a,aeJ]
   simp_all
 refine .gF e<|.gF e<|.gF e<|.q (.aX e) ?_
 refine .az rfl ?_
 refine .ret (aM rfl ?_)
 ·refine⟨aeo _ ?_,rfl⟩
  unfold gv
  by_cases a:us=⟨#[]⟩
  ·simp only[a,aeA]
   simp_all
  ·simp only[a,aeJ]
   simp_all
 refine .gF c<|.gF c<|.gF c<|.gF c<|.q (.aX c) ?_
 refine .mo rfl<|.gX<|.gX<|.gX<|.q .cb<|.az rfl ?_
 refine .ret (aM rfl ?_)
 ·refine⟨aeo _ ?_,rfl⟩
  unfold gv
  by_cases a:us=⟨#[]⟩
  ·simp only[a,aeA]
   simp_all
  ·simp only[a,aeJ]
   simp_all
 refine .gF b<|.gF b<|.gF b<|.gF b<|.q (.aX b) ?_
 refine .mo rfl<|.gX<|.gX<|.gX<|.gX<|.q .cb<|.mo rfl<|.gX<|.gX<|.gX<|.q .cb<|.az rfl ?_
 refine .ret (aM rfl ?_)
 ·refine⟨aeo _ ?_,rfl⟩
  unfold gv
  by_cases a:us=⟨#[]⟩
  ·simp only[a,aeA]
   simp_all
  ·simp only[a,aeJ]
   simp_all
theorem uB(t:aA)(k:t.fits)(R:aw):Spec prog 97 [.agg t.enc.toArray] R [] λv H'=>v=.bool (et t)/\H'=[]:=by
 obtain⟨d,e,f,g,h,i,j⟩:=k
 refine Spec.body func97 rfl results97 ntmps97 rfl ?_
 refine .sr ?_
 refine .cj rfl (λl=>?_)
 refine .ag rfl<|.z<|.fa rfl<|.q (.loadT rfl) ?_
 refine .aR (rZ t.os t.oi d e _) (λv c=>?_)
 subst c
 refine .mo rfl ?_
 refine .split (t:=6) rfl (λa=>?_) (λa=>?_)
 refine .gT a<|.fa rfl<|.gT a<|.lo rfl<|.gT a ?_
 refine .aR (jJ t.rel f _) (λv c=>?_)
 subst c
 refine .q (.aZ a) ?_
 refine .mo rfl ?_
 refine .split (t:=11) rfl (λb=>?_) (λb=>?_)
 refine .gT b<|.fa rfl<|.gT b<|.q (.loadT rfl) ?_
 refine .gT b ?_
 refine .aR (Of t.sub g h i j _) (λv c=>?_)
 subst c
 refine .q (.aZ b) ?_
 refine .az rfl ?_
 refine .ret (aM rfl ?_)
 ·exact⟨by unfold et;simp_all,rfl⟩
 refine .gF b<|.gF b<|.gF b<|.q (.aX b) ?_
 refine .az rfl ?_
 refine .ret (aM rfl ?_)
 ·exact⟨by unfold et;simp_all,rfl⟩
 refine .gF a<|.gF a<|.gF a<|.q (.aX a) ?_
 refine .mo rfl<|.gX<|.gX<|.gX<|.q .cb<|.az rfl ?_
 refine .ret (aM rfl ?_)
 ·exact⟨by unfold et;simp_all,rfl⟩
theorem SV.PV{R:aw}{g:Nat}{S:dd}{ps:List RB}{vf vr:Value}{B:List (bc×(Value×aH))}{C:List (Sub×(Value×aH))}(h:SV R g S ps vf vr B C)(s:S.rows.length<=4096)(k:bc)(r:Int){L:List bA}(J:fM S L):
  Spec prog 144 [pT g,.agg [.string k.os,.string k.oi].toArray,.string k.rel,.int .u64 r] R [] λu H'=>∃T,H'=[T]/\OS 130 4 Sub.enc u (if scan S r then(L.filter λx=>x.there r&&decide (x.t.dc=k)).map (·.t.sub)else []) T:=by
 have pc:=h.pc
 have a5:=h.of
 have a6:=h.or
 have U:ps.length<=4096:=by rw[<-h.eq,aen]at s;exact s
 obtain⟨pf,G,O,V⟩:=h.lf k
 have H:RS R 1 s8 (.slice pf (ids (λx=>x.t.dc) k ps).length G) (kH (λx=>x.t.dc) k ps):=RS.of_map (enc:=jP) (f:=λp:RB=>p.1) V
 have I:(kH (λx=>x.t.dc) k ps).length<=4096:=aeB (aeW _ _) U
 refine Spec.fP (H':=[[]]) (by simp) ?_
 refine Spec.body func144 rfl results144 ntmps144 rfl ?_
 refine .sr ?_
 refine .cj rfl (λb5=>?_)
 refine .ag rfl<|.zs<|.sr<|.mo rfl<|.mo rfl ?_
 refine .aR ((h.mono λb o e=>.inl e).can r) (λv Z=>?_)
 subst Z
 refine .q .not<|.zn ?_
 refine .cond rfl (λj=>?_) λj=>?_
 have n:scan S r=false:=by simpa using j
 refine .sr<|.az rfl ?_
 refine .ret (aI (bu _ (.one (.tmp rfl)) ((aQ [1])) ?_))
 ·exact⟨_,by simp[take];rfl,by rw[n];exact OS.nil⟩
 have n:scan S r=true:=by simpa using j
 refine .kn<|.sr<|.ag rfl<|.zs<|.seq<|.dg [] mixed ?_
 refine .tO 0 rfl .move<|.tO 1 rfl (.nilCheck rfl)<|.tO 2 rfl (.fieldAddr rfl)<|.tO 3 rfl (.cO rfl)<|.tO 4 rfl (.aP rfl)<|.tO 5 rfl .move ?_
 refine .tO 6 rfl .da ?_
 refine .tO 7 rfl (.m3 (h.mono λb o e=>.inl e).mf rfl rfl (key:=k) O) ?_
 refine .tO 8 rfl .move<|.tO 11 rfl .move ?_
 refine .sT 9 rfl ?_
 refine .dq (vU _ (kH (λx=>x.t.dc) k ps) r _ H.rx (λp Q=>(h.pr p (List.mem_filter.1 Q).1).mono λb o e=>.inl e) (by omega)) (λu D Y=>?_)
 obtain⟨a,m,A,a1⟩:=Y
 have iu:=m.aq
 have a4:a.length<=4096:=by
  rw[A.length_eq,aen]
  exact aeB (aeW _ _) I
 have a0:a=(L.filter λx=>x.there r&&decide (x.t.dc=k)).map (·.t):=J.at_ (by
  refine A.trans (.of_eq ?_)
  rw[<-h.eq,List.filter_map,aey]
  unfold kH
  rw[List.filter_filter];rfl) a1
 refine .nil (Next.sub ?_)
 refine .tO 10 rfl (.fD m) ?_
 refine RA.nil (by kernel_rfl) ?_
 refine ay<|.block ?_
 refine .loop (X:=Nat×Value×aH) (λy=>y.1<=a.length/\OS 130 4 Sub.enc y.2.1 ((a.take y.1).map aA.sub) y.2.2) (λy=>[(9,y.2.1),(25,u),(26,iN a.length),(27,iN y.1)]) (λy=>[D,y.2.2]) (λy=>a.length-y.1) (0,sZ,[]) ⟨ael _,OS.nil⟩ kE.c.c.c.c (aQ [0,1]) ?_
 rintro⟨i,vo,F⟩ ⟨M,d⟩
 simp only at M d⊢
 have io:=d.aq
 refine .sr<|.q .lss<|.zs ?_
 refine .cond rfl (λl=>?_) λl=>?_
 have w:i<a.length:=cF l
 obtain⟨x,z⟩:=cm w
 have W:a.take (i+1)=a.take i++[x]:=by rw[afe,z];rfl
 refine .kn<|.seq<|.block<|.sr ?_
 refine .bH i m z (λa7=>?_)
 refine .q (.aP rfl) ?_
 refine .bV (λa2=>?_)
 refine .bN rfl rfl<|.zn<|.region<|.mo rfl<|.fa rfl<|.q (.loadT rfl) ?_
 refine .ez (λa3=>?_)
 refine .append d (RS.lits (xs:=[x.sub]) rfl (by simp[Sub.enc]) (by simp[Sub.enc,aq])) (by simp only[aew,aen,aes];omega) (λv5 E K=>?_)
 refine .ag rfl<|.nil<|bi<|ay<|.region ?_
 refine .ia (i+1) .add ?_
 refine .mo rfl<|.nil ?_
 ·exact aW (i+1,v5,E) ⟨w,by simp only;rw[W,aeq];exact K⟩ (by simp only;omega) kE.c.c.c.c (aQ [2,2])
 refine .exit<|bz<|bG<|bB<|ay<|.sr<|.mo rfl<|.az rfl ?_
 refine .ret (bu _ (.one (.tmp rfl)) ((aQ [1])) ?_)
 ·have N:i=a.length:=by have:=bC l;omega
  subst N
  rw[aeK,a0,aey]at d
  exact⟨F,by simp[take,bK],by rw[n];exact d⟩
def hB(s:cC):Bool:=decide (16<s.bU.length)||s.bU.any λr=>hG isWord r.r
theorem pU(c:bP):c.plain.lp isWord=(decide (16<c.bd.length)||decide (16<c.scopes.length)||c.bd.any hB):=by
 unfold Cf.lp bP.plain
 simp only[aen,List.any_map]
 congr 1
 congr 1
 funext s
 simp[hB,cC.plain,List.any_map,aeX]
def mG(r:cv):Bool:=r.r.types.all (gZ isWord)
def jo(r:cv):Bool:=isWord r.r.name&&fC isWord r.r.nodes !=0&&mG r
def gQ(s:cC):Bool:=isWord s.name&&s.bU.all jo
theorem zx(c:bP):c.plain.right isWord de=(c.bd.all gQ&&c.scopes.all (ku isWord de)&& !c.plain.lp isWord):=by
 unfold Cf.right
 congr 1
 congr 1
 unfold bP.plain
 simp only[List.all_map]
 congr 1
 funext s
 simp only[gQ,mH,cC.plain,List.all_map,aeX]
 rfl
theorem Ov(c:bP)(R:aw)(h:c.is R):Spec prog 79 [.agg c.enc.toArray] R [] λu H'=>u=.bool (c.plain.lp isWord)/\H'=[]:=by
 rw[pU]
 obtain⟨Q,O,j,N⟩:=c
 have g:=h.ss
 have C:=h.sc
 have Z:=g.aq
 have i2:=C.aq
 simp only at g C Z i2⊢
 have a1:=g.le
 refine Spec.body func79 rfl results79 ntmps79 rfl ?_
 refine .sr ?_
 refine .cj rfl (λF=>?_)
 refine .ag rfl<|.zs<|.seq ?_
 refine bF.dt [(1,_)] kE.c (X:=Unit) (λ_=>True) (λ_ E=>(15,.bool (decide (16<j.length)||decide (16<N.length)))::E) (λ_=>[bl F [Q,O] 25]) ?_ ?_
 refine .region<|.fa rfl<|.lo rfl<|.q (.bL g) ?_
 refine .q .gtr<|.mo rfl ?_
 refine .split (t:=10) rfl (λe=>?_) (λe=>?_)
 refine .gF e<|.gF e<|.gF e<|.gF e<|.q (.aZ e) ?_
 refine .nil ?_
 ·exact aG () aej (kE.c.cy rfl (by grind)) rH
 refine .gT e<|.fa rfl<|.gT e<|.lo rfl<|.gT e<|.q (.bL C) ?_
 refine .gT e<|.q .gtr<|.q (.aX e) ?_
 refine .nil ?_
 ·exact aG () aej (kE.c.cy rfl (by grind)) rH
 intro y Y
 refine ay ?_
 refine .cond rfl (λw=>?_) λw=>?_
 refine .sr<|.az rfl ?_
 refine .ret (aI (aM rfl ?_))
 ·exact⟨by rw[w];rfl,rfl⟩
 refine .kn<|.seq<|.sr<|.az rfl<|.block ?_
 refine .cL [(1,_)] (X:=Nat) (λi=>i<=j.length/\(j.take i).any hB=false) (λi E=>(3,iN i)::E) (λ_ G=>G) (λi=>j.length-i) 0 ⟨ael _,rfl⟩ kE.c.c rH ?_
 rintro i ⟨hi,J⟩
 refine .seq<|.sr<|.mo rfl<|.fa rfl<|.lo rfl<|.q (.bL g) ?_
 refine .q .lss<|.zn ?_
 refine .cond rfl (λx=>?_) λx=>?_
 have I:i<j.length:=cF x
 obtain⟨s,m⟩:=cm I
 have M:=h.all s (aV m)
 have o:=M.rs
 have a5:=o.aq
 have a2:=o.le
 refine .kn<|.seq<|.block<|.seq<|.sr<|.fa rfl<|.lo rfl<|.mo rfl ?_
 refine .bI i g m (λa7=>?_)
 refine .fa rfl<|.lo rfl<|.q (.bL o) ?_
 refine .q .gtr<|.zn ?_
 refine .cond rfl (λz=>?_) λz=>?_
 refine .sr<|.az rfl ?_
 refine .ret (aI (bf (aI (cK (bf (aI (aM rfl ?_)))))))
 ·refine⟨?_,rfl⟩
  rw[qF m (f:=hB) (by unfold hB;have:=cq z;rw[aeL (by omega)];rfl),ae4]
 refine .kn<|.sr<|.az rfl<|.block ?_
 refine .cL [(1,_),(3,_)] (X:=Nat) (λk=>k<=s.bU.length/\((s.bU.take k).any λr=>hG isWord r.r)=false) (λk E=>(4,iN k)::E) (λ_ G=>G) (λk=>s.bU.length-k) 0 ⟨ael _,rfl⟩ kE.c.c.c rH ?_
 rintro k ⟨hk,K⟩
 refine .seq<|.sr<|.mo rfl<|.fa rfl<|.lo rfl<|.mo rfl ?_
 refine .bI i g m (λa8=>?_)
 refine .fa rfl<|.lo rfl<|.q (.bL o) ?_
 refine .q .lss<|.zn ?_
 refine .cond rfl (λA=>?_) λA=>?_
 have H:k<s.bU.length:=cF A
 obtain⟨⟨S,D,r⟩,p⟩:=cm H
 have v:=M.all _ (aV p)
 have L:RS R 2 Ty.enc S r.types:=v.t
 have B:RS R 5 Nd.enc D r.nodes:=v.d
 have a6:=L.aq
 have a4:=B.aq
 have a3:bZ (cv.enc ⟨S,D,r⟩):=⟨v.cN⟩
 refine .kn<|.seq<|.block<|.sr<|.fa rfl<|.lo rfl<|.mo rfl ?_
 refine .bI i g m (λa9=>?_)
 refine .fa rfl<|.lo rfl<|.mo rfl ?_
 refine .bI k o p (λb0=>?_)
 refine .q (.aP rfl) ?_
 refine .bV (λb5=>?_)
 refine .bN rfl rfl<|.zs ?_
 refine bF.dt [(1,_),(3,_),(4,_)] kE.c.c.c (X:=Unit) (λ_=>True) (λ_ E=>(66,.bool (hG isWord r))::E) (λ_=>[bl F [Q,O] 25]) ?_ ?_
 refine .region<|.fa rfl<|.lo rfl<|.q (.bL L) ?_
 refine .q .gtr<|.mo rfl ?_
 refine .split (t:=55) rfl (λb=>?_) (λb=>?_)
 refine .gF b<|.gF b<|.gF b<|.gF b<|.q (.aZ b) ?_
 refine .mo rfl<|.gX<|.gX<|.gX<|.gX<|.q .ca<|.nil ?_
 ·exact aG () aej (kE.c.c.c.cy rfl (by grind[hG])) (aQ [1])
 refine .gT b<|.fa rfl<|.gT b<|.lo rfl<|.gT b<|.q (.bL B) ?_
 refine .gT b<|.q .gtr<|.q (.aX b) ?_
 refine .mo rfl ?_
 refine .split (t:=61) rfl (λa=>?_) (λa=>?_)
 refine .gF a<|.gF a<|.gF a<|.gF a<|.q (.aZ a) ?_
 refine .nil ?_
 ·exact aG () aej (kE.c.c.c.cy rfl (by grind[hG])) (aQ [1])
 refine .gT a<|.fa rfl<|.gT a<|.lo rfl<|.gT a ?_
 refine .aR ((zq D r.nodes R B v.fd).weaken cZ) (λu W=>?_)
 subst W
 refine .gT a<|.q .gtr<|.q (.aX a) ?_
 refine .nil ?_
 ·exact aG () aej (kE.c.c.c.cy rfl (by grind[hG])) (aQ [1])
 intro y Y
 refine ay ?_
 refine .cond rfl (λn=>?_) λn=>?_
 refine .sr<|.az rfl ?_
 refine .ret (bf (aI (cK (bf (bf (aI (cK (bf (aI (aM rfl ?_))))))))))
 ·refine⟨?_,rfl⟩
  rw[qF m (f:=hB) (by unfold hB;rw[qF p n,ae4]),ae4]
 refine .skip<|bi<|ay<|.region<|.mo rfl ?_
 refine .ia (k+1) .add ?_
 refine .ag rfl<|.nil ?_
 ·exact aW (k+1) ⟨H,sS p K n⟩ (by omega) kE.c.c.c rH
 have V:hB s=false:=by
  have n:(s.bU.any λr=>hG isWord r.r)=false:=by rw[<-dN (l:=s.bU) (i:=k) (by have:=bC A;omega)];exact K
  have a0:=bC z
  unfold hB
  rw[n,Bool.or_false]
  exact aeC (by omega)
 refine .exit<|bz<|bG<|bB<|bi<|ay<|.region<|.mo rfl ?_
 refine .ia (i+1) .add ?_
 refine .ag rfl<|.nil ?_
 ·exact aW (i+1) ⟨I,sS m J V⟩ (by omega) kE.c.c rH
 have U:j.any hB=false:=by rw[<-dN (l:=j) (i:=i) (by have:=bC x;omega)];exact J
 refine .exit<|bz<|bG<|bB<|ay<|.sr<|.az rfl ?_
 refine .ret (aM rfl ?_)
 ·refine⟨?_,rfl⟩
  have T:(decide (16<j.length)||decide (16<N.length))=false:=w
  rw[T,U]
  rfl
theorem OC(c:bP)(R:aw)(h:c.is R):Spec prog 33 [.agg c.enc.toArray] R [] λu H'=>u=.bool (c.plain.right isWord de)/\H'=[]:=by
 rw[zx]
 obtain⟨V,U,A,z⟩:=c
 have K:=h.ss
 have J:=h.sc
 have i1:=K.aq
 have i2:=J.aq
 simp only at K J i1 i2⊢
 have b7:=K.le
 have b5:=J.le
 refine Spec.body func33 rfl results33 ntmps33 rfl ?_
 refine .sr ?_
 refine .cj rfl (λW=>?_)
 refine .ag rfl<|.zs<|.sr<|.az rfl<|.block ?_
 refine .cL [(1,_)] (X:=Nat) (λi=>i<=A.length/\(A.take i).all gQ=true) (λi E=>(3,iN i)::E) (λ_ G=>G) (λi=>A.length-i) 0 ⟨ael _,rfl⟩ kE.c.c rH ?_
 rintro i ⟨hi,hq⟩
 refine .seq<|.sr<|.mo rfl<|.fa rfl<|.lo rfl<|.q (.bL K) ?_
 refine .q .lss<|.zn ?_
 refine .cond rfl (λY=>?_) λY=>?_
 have a2:i<A.length:=cF Y
 obtain⟨⟨C,L,w⟩,v⟩:=cm a2
 have Q:=h.all _ (aV v)
 have N:RS R 3 cv.enc L w:=Q.rs
 have c3:=N.aq
 have b9:=N.le
 have c5:bZ (cC.enc ⟨C,L,w⟩):=⟨Q.cN⟩
 refine .kn<|.seq<|.block<|.sr<|.fa rfl<|.lo rfl<|.mo rfl ?_
 refine .bI i K v (λc6=>?_)
 refine .q (.aP rfl) ?_
 refine .bV (λb4=>?_)
 refine .bN rfl rfl<|.zs<|.sr<|.fa rfl<|.lo rfl ?_
 refine .aR (jJ C Q.n _) (λu a=>?_)
 subst a
 refine .q .not<|.zn ?_
 refine .cond rfl (λZ=>?_) λZ=>?_
 refine .sr<|.az rfl ?_
 refine .ret (aI (bf (aI (cK (bf (aI (aM rfl ?_)))))))
 ·refine⟨?_,rfl⟩
  rw[k3 v (f:=gQ) (by unfold gQ;simp only;rw[show isWord C=false by simpa using Z];rfl)]
  rfl
 refine .kn<|.sr<|.az rfl<|.block ?_
 refine .cL [(1,_),(3,_),(4,_)] (X:=Nat) (λk=>k<=w.length/\(w.take k).all jo=true) (λk E=>(5,iN k)::E) (λ_ G=>G) (λk=>w.length-k) 0 ⟨ael _,rfl⟩ kE.c.c.c.c rH ?_
 rintro k ⟨hk,a5⟩
 refine .seq<|.sr<|.mo rfl<|.fa rfl<|.lo rfl<|.q (.bL N) ?_
 refine .q .lss<|.zn ?_
 refine .cond rfl (λh3=>?_) λh3=>?_
 have a1:k<w.length:=cF h3
 obtain⟨⟨M,D,r⟩,I⟩:=cm a1
 have B:=Q.all _ (aV I)
 have O:RS R 2 Ty.enc M r.types:=B.t
 have a7:RS R 5 Nd.enc D r.nodes:=B.d
 have c4:=O.aq
 have c2:=a7.aq
 have c0:=O.le
 have c1:bZ (cv.enc ⟨M,D,r⟩):=⟨B.cN⟩
 refine .kn<|.seq<|.block<|.sr<|.fa rfl<|.lo rfl<|.mo rfl ?_
 refine .bI k N I (λc7=>?_)
 refine .q (.aP rfl) ?_
 refine .bV (λb6=>?_)
 refine .bN rfl rfl<|.zs<|.seq ?_
 refine bF.dt [(1,_),(3,_),(4,_),(5,_),(6,_)] kE.c.c.c.c.c (X:=Unit) (λ_=>True) (λ_ E=>(48,.bool (!(isWord r.name&&fC isWord r.nodes !=0)))::E) (λ_=>[bl b6 (cv.enc ⟨M,D,r⟩) 104,bl b4 (cC.enc ⟨C,L,w⟩) 101,bl W [V,U] 25]) ?_ ?_
 refine .region<|.fa rfl<|.lo rfl ?_
 refine .aR (jJ r.name B.n _) (λu a=>?_)
 subst a
 refine .q .not<|.mo rfl ?_
 refine .split (t:=43) rfl (λg=>?_) (λg=>?_)
 refine .gF g<|.gF g<|.gF g<|.gF g<|.q (.aZ g) ?_
 refine .nil ?_
 ·exact aG () aej (kE.c.c.c.c.c.cy rfl (by grind)) rH
 refine .gT g<|.fa rfl<|.gT g<|.lo rfl<|.gT g ?_
 refine .aR ((zq D r.nodes R a7 B.fd).weaken cZ) (λu a=>?_)
 subst a
 refine .gT g<|.q .bw<|.q (.aX g) ?_
 refine .nil ?_
 ·exact aG () aej (kE.c.c.c.c.c.cy rfl (by grind)) rH
 intro y hy
 refine ay ?_
 refine .cond rfl (λh4=>?_) λh4=>?_
 refine .sr<|.az rfl ?_
 refine .ret (aI (bf (aI (cK (bf (bf (aI (cK (bf (aI (aM rfl ?_)))))))))))
 ·refine⟨?_,rfl⟩
  rw[k3 v (f:=gQ) (by unfold gQ;simp only;rw[k3 I (f:=jo) (by unfold jo;rw[show(isWord r.name&&fC isWord r.nodes !=0)=false by grind];rfl),aez])]
  rfl
 refine .kn<|.sr<|.az rfl<|.block ?_
 refine .cL [(1,_),(3,_),(4,_),(5,_),(6,_)] (X:=Nat) (λm=>m<=r.types.length/\(r.types.take m).all (gZ isWord)=true) (λm E=>(7,iN m)::E) (λ_ G=>G) (λm=>r.types.length-m) 0 ⟨ael _,rfl⟩ kE.c.c.c.c.c.c rH ?_
 rintro m ⟨hm,a6⟩
 refine .seq<|.sr<|.mo rfl<|.fa rfl<|.lo rfl<|.q (.bL O) ?_
 refine .q .lss<|.zn ?_
 refine .cond rfl (λF=>?_) λF=>?_
 have a3:m<r.types.length:=cF F
 obtain⟨t,S⟩:=cm a3
 have T:=B.ft t (aV S)
 refine .kn<|.seq<|.block<|.sr<|.fa rfl<|.lo rfl<|.mo rfl ?_
 refine .bI m O S (λc8=>?_)
 refine .q (.aP rfl) ?_
 refine .bV (λb8=>?_)
 refine .bN rfl rfl<|.zs ?_
 refine bF.dt [(1,_),(3,_),(4,_),(5,_),(6,_),(7,_)] kE.c.c.c.c.c.c (X:=Unit) (λ_=>True) (λ_ E=>(79,.bool (!gZ isWord t))::E) (λ_=>[bl b6 (cv.enc ⟨M,D,r⟩) 104,bl b4 (cC.enc ⟨C,L,w⟩) 101,bl W [V,U] 25]) ?_ ?_
 refine .region<|.fa rfl<|.lo rfl<|.q .ec<|.mo rfl ?_
 refine .split (t:=64) rfl (λx=>?_) (λx=>?_)
 refine .gT x<|.fa rfl<|.gT x<|.lo rfl<|.gT x<|.q .ec<|.q (.aZ x) ?_
 refine .mo rfl ?_
 refine .split (t:=69) rfl (λe=>?_) (λe=>?_)
 refine .gF e<|.gF e<|.gF e<|.gF e<|.du rfl ?_
 refine .du rfl ?_
 refine .du rfl ?_
 refine .gF e<|.q (.aZ e) ?_
 refine .q .not<|.nil ?_
 ·exact aG () aej (kE.c.c.c.c.c.c.cy rfl (by grind[gZ])) (aQ [1,1,1])
 refine .gT e<|.fa rfl<|.gT e<|.lo rfl<|.gT e ?_
 refine .aR (jJ t.space T.1 _) (λu a=>?_)
 subst a
 refine .gT e<|.mo rfl ?_
 refine .split (t:=73) rfl (λb=>?_) (λb=>?_)
 refine .gT b<|.fa rfl<|.gT b<|.lo rfl<|.gT b ?_
 refine .aR (jJ t.rel T.2 _) (λu a=>?_)
 subst a
 refine .gT e<|.q (.aZ b) ?_
 refine .q (.aX e) ?_
 refine .q .not<|.nil ?_
 ·exact aG () aej (kE.c.c.c.c.c.c.cy rfl (by grind[gZ])) (aQ [1,1,1])
 refine .gF b<|.gF b<|.gF b<|.gT e<|.q (.aX b) ?_
 refine .q (.aX e) ?_
 refine .q .not<|.nil ?_
 ·exact aG () aej (kE.c.c.c.c.c.c.cy rfl (by grind[gZ])) (aQ [1,1,1])
 refine .gF x<|.gF x<|.gF x<|.q (.aX x) ?_
 refine .mo rfl<|.gt rfl ?_
 refine .fa rfl<|.gt rfl ?_
 refine .lo rfl<|.gt rfl ?_
 refine .aR (jJ t.space T.1 _) (λu a=>?_)
 subst a
 refine .gt rfl ?_
 refine .mo rfl ?_
 refine .split (t:=73) rfl (λb=>?_) (λb=>?_)
 refine .gT b<|.fa rfl<|.gT b<|.lo rfl<|.gT b ?_
 refine .aR (jJ t.rel T.2 _) (λu a=>?_)
 subst a
 refine .gt rfl ?_
 refine .q (.aZ b) ?_
 refine .q .cb<|.q .not<|.nil ?_
 ·exact aG () aej (kE.c.c.c.c.c.c.cy rfl (by grind[gZ])) (aQ [1,1,1])
 refine .gF b<|.gF b<|.gF b<|.gt rfl ?_
 refine .q (.aX b) ?_
 refine .q .cb<|.q .not<|.nil ?_
 ·exact aG () aej (kE.c.c.c.c.c.c.cy rfl (by grind[gZ])) (aQ [1,1,1])
 intro y hy
 refine ay ?_
 refine .cond rfl (λH=>?_) λH=>?_
 refine .sr<|.az rfl ?_
 refine .ret (bf (aI (cK (bf (bf (aI (cK (bf (bf (aI (cK (bf (aI (aM rfl ?_))))))))))))))
 ·refine⟨?_,rfl⟩
  rw[k3 v (f:=gQ) (by unfold gQ;simp only;rw[k3 I (f:=jo) (by unfold jo mG;rw[k3 S (by simpa using H),aez]),aez])]
  rfl
 refine .skip<|bi<|ay<|.region<|.mo rfl ?_
 refine .ia (m+1) .add ?_
 refine .ag rfl<|.nil ?_
 ·exact aW (m+1) ⟨a3,mR S a6 (by simpa using H)⟩ (by omega) kE.c.c.c.c.c.c rH
 have b0:jo ⟨M,D,r⟩=true:=by
  have H:r.types.all (gZ isWord)=true:=by rw[<-dN (l:=r.types) (i:=m) (by have:=bC F;omega)];exact a6
  have a8:(!(isWord r.name&&fC isWord r.nodes !=0))=false:=h4
  unfold jo mG
  simp only[H,aev]
  simpa using a8
 refine .exit<|bz<|bG<|bB<|bi<|ay<|.region<|.mo rfl ?_
 refine .ia (k+1) .add ?_
 refine .ag rfl<|.nil ?_
 ·exact aW (k+1) ⟨a1,mR I a5 b0⟩ (by omega) kE.c.c.c.c (aQ [1,1])
 have hm:gQ ⟨C,L,w⟩=true:=by
  have F:w.all jo=true:=by rw[<-dN (l:=w) (i:=k) (by have:=bC h3;omega)];exact a5
  unfold gQ
  simp only[F,aev]
  simpa using Z
 refine .exit<|bz<|bG<|bB<|bi<|ay<|.region<|.mo rfl ?_
 refine .ia (i+1) .add ?_
 refine .ag rfl<|.nil ?_
 ·exact aW (i+1) ⟨a2,mR v hq hm⟩ (by omega) kE.c.c (aQ [1])
 have a9:A.all gQ=true:=by rw[<-dN (l:=A) (i:=i) (by have:=bC Y;omega)];exact hq
 refine .exit<|bz<|bG<|bB<|ay<|.seq<|.sr<|.az rfl<|.block ?_
 refine .cL [(1,_)] (X:=Nat) (λj=>j<=z.length/\(z.take j).all (ku isWord de)=true) (λj E=>(9,iN j)::E) (λ_ G=>G) (λj=>z.length-j) 0 ⟨ael _,rfl⟩ kE.c.c rH ?_
 rintro j ⟨hj,a4⟩
 refine .seq<|.sr<|.mo rfl<|.fa rfl<|.lo rfl<|.q (.bL J) ?_
 refine .q .lss<|.zn ?_
 refine .cond rfl (λh7=>?_) λh7=>?_
 have a0:j<z.length:=cF h7
 obtain⟨s,v⟩:=cm a0
 have b2:=h.fc s (aV v)
 obtain⟨f1,f2,f3,f4⟩:=b2
 refine .kn<|.seq<|.block<|.sr<|.fa rfl<|.lo rfl<|.mo rfl ?_
 refine .bI j J v (λc9=>?_)
 refine .q (.aP rfl) ?_
 refine .bV (λb3=>?_)
 refine .bN rfl rfl<|.zs ?_
 refine bF.dt [(1,_),(9,_)] kE.c.c (X:=Unit) (λ_=>True) (λ_ E=>(107,.bool (!ku isWord de s))::E) (λ_=>[bl W [V,U] 25]) ?_ ?_
 refine .region<|.fa rfl<|.lo rfl ?_
 refine .aR (jJ s.name f1 _) (λu a=>?_)
 subst a
 refine .q .not<|.mo rfl ?_
 refine .split (t:=96) rfl (λp=>?_) (λp=>?_)
 refine .gF p<|.gF p<|.gF p<|.gF p<|.q (.aZ p) ?_
 refine .mo rfl<|.gX<|.gX<|.gX<|.gX<|.q .ca<|.nil ?_
 ·exact aG () aej (kE.c.c.cy rfl (by grind[ku])) (aQ [1])
 refine .gT p<|.fa rfl<|.gT p<|.q (.loadT rfl) ?_
 refine .gT p ?_
 refine .aR (rZ s.jV s.rM f2 f3 _) (λu a=>?_)
 subst a
 refine .gT p<|.q .not<|.q (.aX p) ?_
 refine .mo rfl ?_
 refine .split (t:=102) rfl (λo=>?_) (λo=>?_)
 refine .gF o<|.gF o<|.gF o<|.gF o<|.q (.aZ o) ?_
 refine .nil ?_
 ·exact aG () aej (kE.c.c.cy rfl (by grind[ku])) (aQ [1])
 refine .gT o<|.fa rfl<|.gT o<|.lo rfl<|.gT o ?_
 refine .aR (jJ s.rel f4 _) (λu a=>?_)
 subst a
 refine .gT o<|.q .not<|.q (.aX o) ?_
 refine .nil ?_
 ·exact aG () aej (kE.c.c.cy rfl (by grind[ku])) (aQ [1])
 intro y hy
 refine ay ?_
 refine .cond rfl (λh8=>?_) λh8=>?_
 refine .sr<|.az rfl ?_
 refine .ret (bf (aI (cK (bf (aI (aM rfl ?_))))))
 ·refine⟨?_,rfl⟩
  rw[k3 v (by simpa using h8),aez]
  rfl
 refine .skip<|bi<|ay<|.region<|.mo rfl ?_
 refine .ia (j+1) .add ?_
 refine .ag rfl<|.nil ?_
 ·exact aW (j+1) ⟨a0,mR v a4 (by simpa using h8)⟩ (by omega) kE.c.c rH
 refine .exit<|bz<|bG<|bB<|ay<|.sr<|.q (.aP rfl) ?_
 refine .aR ((Ov ⟨V,U,A,z⟩ R h).weaken cZ) (λu a=>?_)
 subst a
 refine .q .not<|.az rfl ?_
 refine .ret (aM rfl ?_)
 ·refine⟨?_,rfl⟩
  have h9:z.all (ku isWord de)=true:=by rw[<-dN (l:=z) (i:=j) (by have:=bC h7;omega)];exact a4
  rw[a9,h9]
  rfl
abbrev Nm:=ByteArray×cv
def mX(x:Nm):List Value:=.string x.1::x.2.enc
def Nm.p(x:Nm):ByteArray×Rl:=(x.1,x.2.r)
def bP.fN(c:bP):List Nm:=c.bd.flatMap λs=>s.bU.map λr=>(s.name,r)
theorem oD(c:bP):c.fN.map Nm.p=c.plain.all:=by
 unfold bP.fN Cf.all bP.plain
 simp[List.map_flatMap,List.flatMap_map,cC.plain,Nm.p,aeX]
def bP.jF(c:bP):Prop:=c.bd.length<=16/\∀s∈c.bd,s.bU.length<=16
theorem tp{α β:Type}{f:α->List β}{n:Nat}:∀{l:List α},(∀x∈l,(f x).length<=n)->(l.flatMap f).length<=l.length*n
 |[],_=>by simp
 |x::l,h=>by
  have b:=h x List.mem_cons_self
  have c:=tp λy a=>h y (List.mem_cons_of_mem _ a)
  rw[List.flatMap_cons,aet,aeV,Nat.succ_mul]
  omega
theorem bP.jF.fN{c:bP}(h:c.jF):c.fN.length<=256:=by
 have:=tp (f:=λs:cC=>s.bU.map λr=>(s.name,r)) (n:=16) (l:=c.bd) λs a=>by rw[aen];exact h.2 s a
 have b:=h.1
 unfold bP.fN
 omega
structure qt(R:aw)(v:Value)(L:List Nm):Prop where
 rs:RS R 4 mX v L
 all:∀x∈L,x.2.is R
theorem MU{R:aw}{x:Nm}(h:x.2.is R):∀u∈mX x,aq u=true:=by
 intro u hu
 rcases List.mem_cons.1 hu with rfl|hu
 ·rfl
 ·exact h.cN u hu
theorem yH{c:bP}{R:aw}(h:c.is R):∀x∈c.fN,x.2.is R:=by
 intro x a
 obtain⟨s,d,a⟩:=ae5.1 a
 obtain⟨r,b,rfl⟩:=aeM.1 a
 exact(h.all s d).all r b
theorem uy(c:bP)(R:aw)(h:c.is R)(v:c.jF):Spec prog 36 [.agg c.enc.toArray] R [] λu H'=>∃T,H'=[T]/\OS 189 4 mX u c.fN T:=by
 have hN:=v.fN
 obtain⟨vs,vc,b,a7⟩:=c
 have e:=h.ss
 have U:=e.aq
 have V:=h.sc.aq
 simp only at e U V⊢
 have a1:=e.le
 have S:∀i s k,b[i]? =some s->((b.take i).flatMap (λs=>s.bU.map λr=>((s.name,r):Nm))++(s.bU.take k).map λr=>((s.name,r):Nm)).length<=512:=λi s k a=>by
  rw[aet,aen]
  have o:=tp (f:=λs:cC=>s.bU.map λr=>((s.name,r):Nm)) (n:=16) (l:=b.take i) λs a=>by rw[aen];exact v.2 s (List.mem_of_mem_take a)
  have p:(b.take i).length<=16:=by rw[aes];have:=v.1;simp only at this;omega
  have h3:=v.2 s (aV a)
  have h4:(s.bU.take k).length<=16:=by rw[aes];omega
  omega
 refine Spec.body func36 rfl results36 ntmps36 rfl ?_
 refine .sr ?_
 refine .cj rfl (λb1=>?_)
 refine .ag rfl<|.z<|.ag rfl<|.zs<|.sr<|.az rfl<|.block ?_
 refine .cL [(1,_)] (X:=Nat×Value×aH) (λy=>y.1<=b.length/\OS 189 4 mX y.2.1 ((b.take y.1).flatMap λs=>s.bU.map λr=>((s.name,r):Nm)) y.2.2) (λy E=>(4,iN y.1)::(3,y.2.1)::E) (λy G=>y.2.2::G) (λy=>b.length-y.1) (0,sZ,[]) ⟨ael _,OS.nil⟩ kE.c.c.c bp.jT ?_
 rintro⟨i,Z,B⟩ ⟨N,g⟩
 simp only at N g⊢
 have io:=g.aq
 refine .seq<|.sr<|.mo rfl<|.fa rfl<|.lo rfl<|.q (.bL e) ?_
 refine .q .lss<|.zn ?_
 refine .cond rfl (λo=>?_) λo=>?_
 have F:i<b.length:=cF o
 obtain⟨s,a⟩:=cm F
 have H:=h.all _ (aV a)
 have m:=H.rs
 have a4:=m.aq
 have a2:=m.le
 refine .kn<|.seq<|.block<|.sr<|.az rfl<|.block ?_
 refine .cL [(1,_),(4,_)] (X:=Nat×Value×aH) (λy=>y.1<=s.bU.length/\OS 189 4 mX y.2.1 (((b.take i).flatMap λs=>s.bU.map λr=>((s.name,r):Nm))++(s.bU.take y.1).map λr=>((s.name,r):Nm)) y.2.2) (λy E=>(5,iN y.1)::(3,y.2.1)::E) (λy G=>y.2.2::G) (λy=>s.bU.length-y.1) (0,Z,B) ⟨ael _,by simpa using g⟩ kE.c.c.c.c rH ?_
 rintro⟨k,W,L⟩ ⟨O,j⟩
 simp only at O j⊢
 have i3:=j.aq
 refine .seq<|.sr<|.mo rfl<|.fa rfl<|.lo rfl<|.mo rfl ?_
 refine .bI i e a (λa6=>?_)
 refine .fa rfl<|.lo rfl<|.q (.bL m) ?_
 refine .q .lss<|.zn ?_
 refine .cond rfl (λp=>?_) λp=>?_
 have D:k<s.bU.length:=cF p
 obtain⟨⟨K,J,r⟩,w⟩:=cm D
 have A:=H.all _ (aV w)
 have a5:One K:=RS.aq A.t
 have a3:One J:=RS.aq A.d
 have p1:=e.pc a
 have p2:=m.pc w
 refine .kn<|.seq<|.block<|.dg [18] mixed ?_
 refine .tO 0 rfl .move<|.tO 1 rfl (.fieldAddr rfl)<|.tO 2 rfl (.cO rfl)<|.tO 3 rfl .move ?_
 refine .tO 4 rfl (.bI i e a rfl rfl rfl) ?_
 refine .tO 5 rfl (.fieldAddr rfl)<|.tO 6 rfl (.cO rfl)<|.tO 7 rfl (.fieldAddr rfl)<|.tO 8 rfl (.cO rfl)<|.tO 9 rfl .move ?_
 refine .tO 10 rfl (.bI i e a rfl rfl rfl) ?_
 refine .tO 11 rfl (.fieldAddr rfl)<|.tO 12 rfl (.cO rfl)<|.tO 13 rfl .move ?_
 refine .tO 14 rfl (.bI k m w rfl rfl rfl) ?_
 refine .tO 15 rfl (.aP rfl) ?_
 refine .tO 16 rfl .da ?_
 refine .sT 17 rfl ?_
 refine .ez (λa0=>?_)
 refine .nil (Next.sub ?_)
 refine .sT 18 rfl ?_
 refine .append j (RS.lits (xs:=[((s.name,⟨K,J,r⟩):Nm)]) rfl (by simp[mX,cv.enc]) (by intro x I;rw[aeD]at I;subst I;exact MU A)) (by have:=S i s k a;simp only[aew];omega) (λY M C=>?_)
 have i5:=C.aq
 refine .nil (Next.mod rfl ?_)
 refine .tK 19 rfl .assign ?_
 refine RA.nil (by kernel_rfl) ?_
 refine bi<|ay<|.region<|.mo rfl ?_
 refine .ia (k+1) .add ?_
 refine .ag rfl<|.nil ?_
 ·exact aW (k+1,Y,M) ⟨D,by simp only;rw[er w,aeq, <-aeN];exact C⟩ (by simp only;omega) kE.c.c.c.c (aQ [1,1])
 have Q:s.bU.length<=k:=by have:=bC p;omega
 rw[dN Q]at j
 refine .exit<|bz<|bG<|bB<|bi<|ay<|.region<|.mo rfl ?_
 refine .ia (i+1) .add ?_
 refine .ag rfl<|.nil ?_
 ·exact aW (i+1,W,L) ⟨F,by simp only;rw[er a,List.flatMap_append];simpa using j⟩ (by simp only;omega) kE.c.c.c rH
 refine .exit<|bz<|bG<|bB<|ay<|.sr<|.mo rfl<|.az rfl ?_
 refine .ret (bu _ (.one (.tmp rfl)) (.one [0] _) ?_)
 ·refine⟨B,by simp[take],?_⟩
  rw[dN (jh o)]at g
  exact g
def fI(o:Option Nat):Int:=match o with|none=> -1|some i=>i
theorem oK(v:Value)(L:List Nm)(R:aw)(h:qt R v L)(f b:ByteArray):
  Spec prog 80 [v,.string f,.string b] R [] λu H'=>u=.int .i64 (fI (bX (L.map Nm.p) ⟨f,b⟩))/\H'=[]:=by
 have k:=h.rs
 have M:=k.le
 have Q:=k.aq
 refine Spec.body func80 rfl results80 ntmps80 rfl ?_
 refine .sr<|.ag rfl<|.zs<|.sr<|.az rfl<|.block ?_
 refine .cL [(0,_),(1,_),(2,_)] (X:=Nat) (λi=>i<=L.length/\∀j x,j<i->L[j]? =some x->eg x.p≠⟨f,b⟩) (λi E=>(7,iN i)::E) (λ_ G=>G) (λi=>L.length-i) 0 ⟨ael _,λj x g=>absurd g (by omega)⟩ kE.c.c.c.c rH ?_
 rintro i ⟨K,z⟩
 refine .seq<|.sr<|.mo rfl<|.mo rfl<|.q (.bL k) ?_
 refine .q .lss<|.zn ?_
 refine .cond rfl (λo=>?_) λo=>?_
 have w:i<L.length:=cF o
 obtain⟨⟨n,J,I,r⟩,l⟩:=cm w
 have B:=h.all _ (aV l)
 have O:One J:=RS.aq B.t
 have N:One I:=RS.aq B.d
 refine .kn<|.seq<|.block<|.seq ?_
 refine bF.dt [(0,_),(1,_),(2,_),(7,_)] kE.c.c.c.c (X:=Unit) (λ_=>True) (λ_ E=>(30,.bool (decide (n=f)&&decide (r.name=b)))::E) (λ_=>[]) ?_ ?_
 refine .region<|.mo rfl<|.mo rfl ?_
 refine .bI i k l (λS=>?_)
 refine .fa rfl<|.lo rfl<|.mo rfl<|.q .ec<|.mo rfl ?_
 refine .split (t:=21) rfl (λa=>?_) (λa=>?_)
 refine .gT a<|.mo rfl<|.gT a<|.mo rfl<|.gT a ?_
 refine .bI i k l (λT=>?_)
 refine .gT a<|.fa rfl<|.gT a<|.fa rfl<|.gT a<|.lo rfl<|.gT a<|.mo rfl<|.gT a<|.q .ec<|.q (.aZ a) ?_
 refine .nil ?_
 ·exact aG () aej (kE.c.c.c.c.cy rfl (by grind)) rH
 refine .gF a<|.gF a<|.gF a<|.gF a<|.gF a<|.gF a<|.gF a<|.gF a<|.q (.aX a) ?_
 refine .nil ?_
 ·exact aG () aej (kE.c.c.c.c.cy rfl (by grind)) rH
 intro y C
 refine ay ?_
 refine .cond rfl (λs=>?_) λs=>?_
 refine .sr<|.mo rfl<|.az rfl ?_
 refine .ret (bf (aI (cK (bf (aI (aM rfl ?_))))))
 ·refine⟨?_,rfl⟩
  have A:n=f/\r.name=b:=by simpa using s
  have:bX (L.map Nm.p) ⟨f,b⟩=some i:=by
   unfold bX
   rw[afl]
   refine⟨by rw[aen];exact w,?_,λj g=>?_⟩
   ·have e:=(aex.1 l).2
    rw[List.getElem_map,e]
    exact aeL (by show(⟨n,r.name⟩:Ty)=_;rw[A.1,A.2])
   ·rw[List.getElem_map]
    have:=z j _ g (bE (by omega))
    simpa using this
  rw[this]
  rfl
 refine .skip<|bi<|ay<|.region<|.mo rfl ?_
 refine .ia (i+1) .add ?_
 refine .ag rfl<|.nil ?_
 ·exact aW (i+1) ⟨w,λj x g m=>by
   rcases aeO j i with hh|hh
   ·exact z j x hh m
   ·obtain rfl:j=i:=by omega
    rw[l]at m
    cases m
    intro D
    injection D with k1 k2
    have F:n=f:=k1
    have H:r.name=b:=k2
    subst F;subst H
    simp at s⟩ (by omega) kE.c.c.c.c rH
 refine .exit<|bz<|bG<|bB<|ay<|.sr<|.az rfl ?_
 refine .ret (aM rfl ?_)
 ·refine⟨?_,rfl⟩
  have:bX (L.map Nm.p) ⟨f,b⟩=none:=by
   unfold bX
   rw[List.findIdx?_eq_none_iff]
   intro x m
   obtain⟨y,C,rfl⟩:=aeM.1 m
   obtain⟨j,g,e⟩:=aeP.1 C
   have:=z j y (by have:=bC o;omega) (by rw[bE g,e])
   simpa using this
  rw[this]
  rfl
theorem ue{α:Type}{l:List α}{i:Nat}{x:α}(j:l[i]? =some x)(h:(l.take i).Nodup)(g:∀k y,k<i->l[k]? =some y->y≠x):(l.take (i+1)).Nodup:=by
 rw[er j,aff]
 refine⟨h,by simp,λa d b c=>?_⟩
 rw[aeD]at c
 subst c
 obtain⟨k,f,e⟩:=aeP.1 d
 rw[aes]at f
 exact g k a (by omega) (by rw[ae6]at e;rw[bE (by omega),e])
theorem mD{α:Type}{l:List α}{i k:Nat}{x y:α}(f:k<i)(g:l[i]? =some x)(j:l[k]? =some y)(e:x=y):¬l.Nodup:=by
 intro h
 obtain⟨a,b⟩:=aex.1 g
 obtain⟨c,d⟩:=aex.1 j
 have:=(List.nodup_iff_pairwise_ne.1 h)
 rw[List.pairwise_iff_getElem]at this
 exact this k i c a f (by rw[d,b,e])
theorem zu{L:List (ByteArray×Rl)}{i:Nat}{x:ByteArray×Rl}(a:L[i]? =some x):∃j,bX L (eg x)=some j/\j<=i/\∃y,L[j]? =some y/\eg y=eg x:=by
 cases h:bX L (eg x)with
 |none=>
  unfold bX at h
  rw[List.findIdx?_eq_none_iff]at h
  have:=h x (aV a)
  simp at this
 |some j=>
  unfold bX at h
  rw[afl]at h
  obtain⟨b,c,d⟩:=h
  refine⟨j,rfl,?_,_,bE b,cq c⟩
  rcases aeO i j with h4|h4
  ·have:=d i h4
   rw[(aex.1 a).2]at this
   simp at this
  ·exact h4
theorem OE(c:bP)(R:aw)(h:c.is R)(hf:c.jF):Spec prog 34 [.agg c.enc.toArray] R [] λu H'=>u=.bool (!decide c.plain.dZ)/\H'=[]:=by
 have a8:=oD c
 have a4:=yH h
 have a9:=uy c R h hf
 have U:c.plain.dZ↔(c.bd.map (·.name)).Nodup/\((c.fN.map Nm.p).map eg).Nodup/\(c.scopes.map (·.name)).Nodup:=by
  unfold Cf.dZ
  rw[<-a8]
  simp only[bP.plain,aey]
  exact Iff.rfl
 generalize hL:c.fN=L at *
 obtain⟨vs,vc,l,g⟩:=c
 have H:=h.ss
 have F:=h.sc
 have i1:=H.aq
 have a:=F.aq
 simp only at H F i1 a U⊢
 have c3:=H.le
 have c2:=F.le
 refine Spec.body func34 rfl results34 ntmps34 rfl ?_
 refine .sr ?_
 refine .cj rfl (λb1=>?_)
 refine .ag rfl<|.zs<|.sr<|.az rfl<|.block ?_
 refine .cL [(1,_)] (X:=Nat) (λi=>i<=l.length/\((l.map (·.name)).take i).Nodup) (λi E=>(3,iN i)::E) (λ_ G=>G) (λi=>l.length-i) 0 ⟨ael _,by simp⟩ kE.c.c rH ?_
 rintro i ⟨hi,w⟩
 refine .seq<|.sr<|.mo rfl<|.fa rfl<|.lo rfl<|.q (.bL H) ?_
 refine .q .lss<|.zn ?_
 refine .cond rfl (λW=>?_) λW=>?_
 have M:i<l.length:=cF W
 obtain⟨s,N⟩:=cm M
 have O:(l.map (·.name))[i]? =some s.name:=by rw[aep,N];rfl
 refine .kn<|.seq<|.block<|.sr<|.az rfl<|.block ?_
 refine .cL [(1,_),(3,_)] (X:=Nat) (λk=>k<=i/\∀j y,j<k->(l.map (·.name))[j]? =some y->y≠s.name) (λk E=>(4,iN k)::E) (λ_ G=>G) (λk=>i-k) 0 ⟨ael _,λj y J=>absurd J (by omega)⟩ kE.c.c.c rH ?_
 rintro k ⟨hk,A⟩
 refine .seq<|.sr<|.mo rfl<|.mo rfl<|.q .lss<|.zn ?_
 refine .cond rfl (λY=>?_) λY=>?_
 have K:k<i:=cF Y
 obtain⟨t,S⟩:∃t,l[k]? =some t:=⟨_,bE (by omega)⟩
 have T:(l.map (·.name))[k]? =some t.name:=by rw[aep,S];rfl
 refine .kn<|.seq<|.block<|.seq ?_
 refine .eo mixed (by kernel_rfl) ?_
 refine .fa rfl<|.lo rfl<|.mo rfl ?_
 refine .bI i H N (λc8=>?_)
 refine .fa rfl<|.lo rfl<|.fa rfl<|.lo rfl<|.mo rfl ?_
 refine .bI k H S (λc9=>?_)
 refine .fa rfl<|.lo rfl<|.q .ec<|.zn ?_
 refine .cond rfl (λV=>?_) λV=>?_
 refine .sr<|.az rfl ?_
 refine .ret (bf (aI (cK (bf (bf (aI (cK (bf (aI (aM rfl ?_))))))))))
 ·refine⟨?_,rfl⟩
  rw[aeC λhh=>mD K O T (by simpa using V) (U.1 hh).1]
  rfl
 refine .skip<|bi<|ay<|.region<|.mo rfl ?_
 refine .ia (k+1) .add ?_
 refine .ag rfl<|.nil ?_
 ·exact aW (k+1) ⟨K,λj y J f=>by
   rcases aeO j k with hh|hh
   ·exact A j y hh f
   ·obtain rfl:j=k:=by omega
    rw[T]at f
    cases f
    intro e
    rw[e]at V
    simp at V⟩ (by omega) kE.c.c.c rH
 have a0:k=i:=by have:=bC Y;omega
 rw[a0]at A
 refine .exit<|bz<|bG<|bB<|bi<|ay<|.region<|.mo rfl ?_
 refine .ia (i+1) .add ?_
 refine .ag rfl<|.nil ?_
 ·exact aW (i+1) ⟨M,ue O w A⟩ (by omega) kE.c.c rH
 have b0:(l.map (·.name)).Nodup:=by rw[dN (by rw[aen];have:=bC W;omega)]at w;exact w
 refine .exit<|bz<|bG<|bB<|ay<|.sr<|.q (.aP rfl) ?_
 refine .dq (a9.weaken cZ) (λu T5 B=>?_)
 have i5:=B.aq
 have c4:=B.le
 refine .ag rfl<|.zs<|.sr<|.az rfl<|.block ?_
 refine .cL [(1,_),(5,_)] (X:=Nat) (λi=>i<=L.length/\(((L.map Nm.p).map eg).take i).Nodup) (λi E=>(6,iN i)::E) (λ_ G=>G) (λi=>L.length-i) 0 ⟨ael _,by simp⟩ kE.c.c.c rH ?_
 rintro a ⟨c0,a1⟩
 refine .seq<|.sr<|.mo rfl<|.mo rfl<|.q (.fD B) ?_
 refine .q .lss<|.zn ?_
 refine .cond rfl (λZ=>?_) λZ=>?_
 have a3:a<L.length:=cF Z
 obtain⟨⟨C,vt,vn,r⟩,Q⟩:=cm a3
 have a7:=a4 _ (aV Q)
 have c7:One vt:=RS.aq a7.t
 have c6:One vn:=RS.aq a7.d
 have a5:(L.map Nm.p)[a]? =some (C,r):=by rw[aep,Q];rfl
 have a6:((L.map Nm.p).map eg)[a]? =some ⟨C,r.name⟩:=by rw[aep,a5];rfl
 obtain⟨n,b5,c1,yf,b7,b9⟩:=zu a5
 have a2:bX (L.map Nm.p) ⟨C,r.name⟩=some n:=b5
 have pq:PS T5 (fB u (a*4)) (mX (C,⟨vt,vn,r⟩)):=⟨B.pc Q⟩
 refine .kn<|.seq<|.block<|.seq<|.dg [12] mixed ?_
 refine .tO 0 rfl .move<|.tO 1 rfl .move<|.tO 2 rfl .move ?_
 refine RA.bH 3 rfl a B Q rfl rfl rfl (by kernel_rfl) (λd0=>?_)
 refine .tO 4 rfl (.fieldAddr rfl)<|.tO 5 rfl (.cO rfl)<|.tO 6 rfl .move<|.tO 7 rfl .move ?_
 refine RA.bH 8 rfl a B Q rfl rfl rfl (by kernel_rfl) (λd1=>?_)
 refine .tO 9 rfl (.fieldAddr rfl)<|.tO 10 rfl (.fieldAddr rfl)<|.tO 11 rfl (.cO rfl)<|.tK 13 rfl .move ?_
 refine .sT 12 rfl ?_
 refine .aR (oK u L _ ⟨B.rx,λx hx=>(a4 x hx).mono λb o hb=>.inl hb⟩ C r.name) (λv hv=>?_)
 subst hv
 rw[a2]
 refine .nil (Next.mod rfl ?_)
 refine .tK 14 rfl .eT ?_
 refine RA.nil (by kernel_rfl) ?_
 refine ay ?_
 refine .cond rfl (λh5=>?_) λh5=>?_
 refine .sr<|.az rfl ?_
 refine .ret (bf (aI (cK (bf (aI (aM rfl ?_))))))
 ·refine⟨?_,rfl⟩
  have c5:n≠a:=by
   intro e
   subst e
   simp[fI]at h5
  have b8:((L.map Nm.p).map eg)[n]? =some ⟨C,r.name⟩:=by rw[aep,b7];exact aeo some b9
  rw[aeC λhh=>mD (show n<a by omega) a6 b8 rfl (U.1 hh).2.1]
  rfl
 have b4:n=a:=by
  have m:(fI (some n)==(a:Int))=true:=by simpa using h5
  have D:fI (some n)=(a:Int):=by simpa using m
  have I:(n:Int)=(a:Int):=D
  omega
 refine .skip<|bi<|ay<|.region<|.mo rfl ?_
 refine .ia (a+1) .add ?_
 refine .ag rfl<|.nil ?_
 ·exact aW (a+1) ⟨a3,ue a6 a1 λk y hk f=>by
   intro e
   subst e
   rw[aep]at f
   cases hz:(L.map Nm.p)[k]? with
   |none=>rw[hz]at f;cases f
   |some z=>
    rw[hz]at f
    have b6:eg z=⟨C,r.name⟩:=by simpa using f
    obtain⟨j2,m,D,_⟩:=zu hz
    rw[b6,a2,b4]at m
    cases m
    omega⟩ (by omega) kE.c.c.c rH
 have b2:((L.map Nm.p).map eg).Nodup:=by rw[dN (by simp only[aen];have:=bC Z;omega)]at a1;exact a1
 refine .exit<|bz<|bG<|bB<|ay<|.seq<|.sr<|.az rfl<|.block ?_
 refine .cL [(1,_)] (X:=Nat) (λi=>i<=g.length/\((g.map (·.name)).take i).Nodup) (λi E=>(7,iN i)::E) (λ_ G=>G) (λi=>g.length-i) 0 ⟨ael _,by simp⟩ kE.c.c rH ?_
 rintro i ⟨hi,w⟩
 refine .seq<|.sr<|.mo rfl<|.fa rfl<|.lo rfl<|.q (.bL F) ?_
 refine .q .lss<|.zn ?_
 refine .cond rfl (λm=>?_) λm=>?_
 have M:i<g.length:=cF m
 obtain⟨s,N⟩:=cm M
 have O:(g.map (·.name))[i]? =some s.name:=by rw[aep,N];rfl
 refine .kn<|.seq<|.block<|.sr<|.az rfl<|.block ?_
 refine .cL [(1,_),(7,_)] (X:=Nat) (λk=>k<=i/\∀j y,j<k->(g.map (·.name))[j]? =some y->y≠s.name) (λk E=>(8,iN k)::E) (λ_ G=>G) (λk=>i-k) 0 ⟨ael _,λj y J=>absurd J (by omega)⟩ kE.c.c.c rH ?_
 rintro k ⟨hk,A⟩
 refine .seq<|.sr<|.mo rfl<|.mo rfl<|.q .lss<|.zn ?_
 refine .cond rfl (λD=>?_) λD=>?_
 have K:k<i:=cF D
 obtain⟨t,S⟩:∃t,g[k]? =some t:=⟨_,bE (by omega)⟩
 have T:(g.map (·.name))[k]? =some t.name:=by rw[aep,S];rfl
 refine .kn<|.seq<|.block<|.seq ?_
 refine .eo mixed (by kernel_rfl) ?_
 refine .fa rfl<|.lo rfl<|.mo rfl ?_
 refine .bI i F N (λd2=>?_)
 refine .fa rfl<|.lo rfl<|.fa rfl<|.lo rfl<|.mo rfl ?_
 refine .bI k F S (λd3=>?_)
 refine .fa rfl<|.lo rfl<|.q .ec<|.zn ?_
 refine .cond rfl (λI=>?_) λI=>?_
 refine .sr<|.az rfl ?_
 refine .ret (bf (aI (cK (bf (bf (aI (cK (bf (aI (aM rfl ?_))))))))))
 ·refine⟨?_,rfl⟩
  rw[aeC λhh=>mD K O T (by simpa using I) (U.1 hh).2.2]
  rfl
 refine .skip<|bi<|ay<|.region<|.mo rfl ?_
 refine .ia (k+1) .add ?_
 refine .ag rfl<|.nil ?_
 ·exact aW (k+1) ⟨K,λj y J f=>by
   rcases aeO j k with hh|hh
   ·exact A j y hh f
   ·obtain rfl:j=k:=by omega
    rw[T]at f
    cases f
    intro e
    rw[e]at I
    simp at I⟩ (by omega) kE.c.c.c rH
 have a0:k=i:=by have:=bC D;omega
 rw[a0]at A
 refine .exit<|bz<|bG<|bB<|bi<|ay<|.region<|.mo rfl ?_
 refine .ia (i+1) .add ?_
 refine .ag rfl<|.nil ?_
 ·exact aW (i+1) ⟨M,ue O w A⟩ (by omega) kE.c.c rH
 have b3:(g.map (·.name)).Nodup:=by rw[dN (by rw[aen];have:=bC m;omega)]at w;exact w
 refine .exit<|bz<|bG<|bB<|ay<|.sr<|.az rfl ?_
 refine .ret (aM rfl ?_)
 ·refine⟨?_,rfl⟩
  rw[aeL (U.2 ⟨b0,b2,b3⟩)]
  rfl
def dC(n:Nat):List Value:=[iN n]
abbrev lB:=Int×Int×Bool
def jC(e:lB):List Value:=[.int .i64 e.1,.int .i64 e.2.1,.bool e.2.2]
instance(e:lB):bZ (jC e):=⟨by simp[jC,aq]⟩
def Ed.m(e:Ed):lB:=(e.f,e.t,e.a)
theorem Mj{E:List Ed}{now:List Nat}{n j:Nat}{e:Ed}(a:E[j]? =some e):(E.take (j+1)).foldl (eS now) (List.replicate n 0)=eS now ((E.take j).foldl (eS now) (List.replicate n 0)) e:=by rw[er a,List.foldl_append];rfl
theorem zA(v:Value)(E:List Ed)(n o:Nat)(R:aw)(h:RS R 3 jC v (E.map Ed.m))(O:∀e∈E,e.f<n/\e.t<n)(hn:n<=1000000)(hs:o<=1000000):
  Spec prog 37 [v,iN n,iN o] R [] λu H'=>∃T,H'=[T]/\OS 3 1 dC u (level E n o) T:=by
 have a5:=h.le
 have iv:=h.aq
 have Y:∀e∈E,e.f<n:=λe C=>(O e C).1
 rw[aen]at a5
 refine Spec.body func37 rfl results37 ntmps37 rfl ?_
 refine .sr<|.ag rfl<|.z<|.mo rfl ?_
 refine .makeSlice (enc:=dC) n 0 rfl rfl (by decide) (by simp[dC,aq]) rfl rfl (by omega) (by omega) (λb7 r Z=>?_)
 refine .ag rfl<|.zs<|.sr<|.az rfl<|.block ?_
 refine .cL [(0,_),(1,_),(2,_)] (X:=Nat×Value×aH) (λy=>y.1<=o/\OS 3 1 dC y.2.1 (level E n y.1) y.2.2) (λy E=>(8,iN y.1)::(7,y.2.1)::E) (λy G=>y.2.2::G) (λy=>o-y.1) (0,_,r) ⟨ael _,Z⟩ kE.c.c.c.c.c rH ?_
 rintro⟨s,v7,r⟩ ⟨b0,D⟩
 simp only at b0 D⊢
 have i7:=D.aq
 have a6:∀i,(level E n s).getD i 0<=s:=tL Y s
 have b3:(level E n s).length=n:=kM s
 generalize U:level E n s=now at *
 refine .seq<|.sr<|.mo rfl<|.mo rfl<|.q .lss<|.zn ?_
 refine .cond rfl (λJ=>?_) λJ=>?_
 have b1:s<o:=cF J
 refine .kn<|.seq<|.block<|.sr<|.mo rfl ?_
 refine .makeSlice (enc:=dC) n 0 rfl rfl (by decide) (by simp[dC,aq]) rfl rfl (by omega) (by omega) (λI p b=>?_)
 refine .ag rfl<|.zs<|.sr<|.az rfl<|.block ?_
 refine .cL [(0,_),(1,_),(2,_),(7,_),(8,_),(9,_)] (X:=Nat×aH) (λy=>y.1<=E.length/\OS 3 1 dC (.slice (some ⟨I,0,none⟩) n n) ((E.take y.1).foldl (eS now) (List.replicate n 0)) y.2) (λy E=>(10,iN y.1)::E) (λy G=>y.2::G) (λy=>E.length-y.1) (0,p) ⟨ael _,b⟩ kE.c.c.c.c.c.c.c rH ?_
 rintro⟨j,p⟩ ⟨hj,b⟩
 simp only at hj b⊢
 refine .seq<|.sr<|.mo rfl<|.mo rfl<|.q (.bL h) ?_
 rw[aen]
 refine .q .lss<|.zn ?_
 refine .cond rfl (λK=>?_) λK=>?_
 have S:j<E.length:=cF K
 obtain⟨e,C⟩:=cm S
 have a1:(E.map Ed.m)[j]? =some e.m:=by rw[aep,C];rfl
 obtain⟨a2,a3⟩:=O e (aV C)
 obtain⟨g,l,k⟩:=e
 simp only at a2 a3
 have b4:((E.take j).foldl (eS now) (List.replicate n 0)).length=n:=by rw[tC,aeE]
 generalize a8:(E.take j).foldl (eS now) (List.replicate n 0)=nx at *
 have a7:(E.take (j+1)).foldl (eS now) (List.replicate n 0)=eS now nx ⟨g,l,k⟩:=by rw[Mj C,a8]
 obtain⟨a,Q⟩:∃a,now[l]? =some a:=⟨_,bE (by omega)⟩
 obtain⟨z,F⟩:∃z,nx[g]? =some z:=⟨_,bE (by omega)⟩
 have B:now.getD l 0=a:=by rw[aer,Q];rfl
 have H:nx.getD g 0=z:=by rw[aer,F];rfl
 have a0:=a6 l
 rw[B]at a0
 refine .kn<|.seq<|.block<|.sr<|.mo rfl<|.mo rfl ?_
 refine .bI j h a1 (λb5=>?_)
 refine .q (.aP rfl) ?_
 refine .bV (λW=>?_)
 refine .bN rfl rfl<|.z<|.mo rfl<|.fa rfl<|.lo rfl ?_
 refine .bH l D Q (λb6=>?_)
 refine .lo rfl<|.ag rfl<|.zs<|.sr<|.fa rfl<|.lo rfl<|.zn ?_
 refine bF.dt [(0,_),(1,_),(2,_),(7,_),(8,_),(9,_),(10,_),(11,_)] kE.c.c.c.c.c.c.c.c (X:=Unit) (λ_=>True) (λ_ E=>(12,.int .i64 ((a+(if k then 1 else 0):Nat):Int))::E) (λ_=>[bl W (jC (Ed.m ⟨g,l,k⟩)) 192,p,r]) ?_ ?_
 refine .cond rfl (λL=>?_) λL=>?_
 refine .region<|.mo rfl ?_
 refine .ia (a+1) .add ?_
 refine .ag rfl<|.nil ?_
 ·exact aG () aej (kE.c.c.c.c.c.c.c.c.mW rfl (by have h:k=_:=L;simp[h])) rH
 refine .skip ?_
 ·exact aG () aej (kE.c.c.c.c.c.c.c.c.mW rfl (by have h:k=_:=L;simp[h])) rH
 intro x V
 refine ay<|.sr<|.mo rfl<|.mo rfl<|.fa rfl<|.lo rfl ?_
 refine .bH g b F (λb8=>?_)
 refine .lo rfl<|.q .gtr<|.zn ?_
 refine bF.dt [(0,_),(1,_),(2,_),(7,_),(8,_),(9,_),(10,_)] kE.c.c.c.c.c.c.c (X:=aH) (λT=>OS 3 1 dC (.slice (some ⟨I,0,none⟩) n n) (eS now nx ⟨g,l,k⟩) T) (λ_ E=>E) (λT=>[T,r]) ?_ ?_
 refine .cond rfl (λA=>?_) λA=>?_
 refine .region<|.mo rfl<|.fa rfl<|.lo rfl<|.mo rfl ?_
 refine .bH g b F (λc0=>?_)
 refine .l8 g b F (a+(if k then 1 else 0)) (λM N=>?_)
 refine .nil ?_
 ·first
   |exact aG M (by unfold eS Ed.w;simp only;rw[B,H,aem (by have:=cq A;omega)];exact N) kE.c.c.c.c.c.c.c (aQ [1,1])
   |exact aG p (by unfold eS Ed.w;simp only;rw[B,H,aek (by have:=bC A;omega)];exact b) kE.c.c.c.c.c.c.c (aQ [1,1])
 refine .skip ?_
 ·first
   |exact aG M (by unfold eS Ed.w;simp only;rw[B,H,aem (by have:=cq A;omega)];exact N) kE.c.c.c.c.c.c.c (aQ [1,1])
   |exact aG p (by unfold eS Ed.w;simp only;rw[B,H,aek (by have:=bC A;omega)];exact b) kE.c.c.c.c.c.c.c (aQ [1,1])
 intro x V
 have b2:OS 3 1 dC (.slice (some ⟨I,0,none⟩) n n) (eS now nx ⟨g,l,k⟩) x:=V
 refine bi<|ay<|.region<|.mo rfl ?_
 refine .ia (j+1) .add ?_
 refine .ag rfl<|.nil ?_
 ·exact aW (j+1,x) ⟨S,by simp only;rw[a7];exact b2⟩ (by simp only;omega) kE.c.c.c.c.c.c.c rH
 have a4:E.length<=j:=by have:=bC K;omega
 rw[dN a4]at b
 refine .exit<|bz<|bG<|bB<|ay<|.region<|.mo rfl<|.ag rfl<|.nil<|bi<|ay<|.region<|.mo rfl ?_
 refine .ia (s+1) .add ?_
 refine .ag rfl<|.nil ?_
 ·exact aW (s+1,_,p) ⟨b1,by simp only;unfold level;rw[U];exact b⟩ (by simp only;omega) (((((kE.d rfl).d rfl).d rfl).d rfl).d rfl) (aQ [0])
 have a9:s=o:=by have:=bC J;omega
 refine .exit<|bz<|bG<|bB<|ay<|.sr<|.mo rfl<|.az rfl ?_
 refine .ret (bu _ (.one (.tmp rfl)) (.one [0] _) ?_)
 ·refine⟨r,by simp[take],?_⟩
  rw[<-a9,U]
  exact D
def WE(ok:Bool)(E:List lB)(o:Option (List Ed)):Prop:=match o with
 |some E'=>ok=true/\E=E'.map Ed.m
 |none=>ok=false
def ji(dx:ByteArray)(t:Ty):Ty:=⟨t.space,if dx=⟨#[]⟩then t.rel else dx⟩
theorem qV(l:List (ByteArray×Rl)):∀ks:List Ty,match findAll l ks with
  |some o=>(ks.all λt=>(bX l t).isSome)=true/\(o.map λk:Nat=>(k:Int))=ks.map λt=>fI (bX l t)
  |none=>(ks.all λt=>(bX l t).isSome)=false
 |[]=>⟨rfl,rfl⟩
 |t::ks=>by
  have a:=qV l ks
  unfold findAll
  cases h:bX l t with
  |none=>simp[h]
  |some i=>
   simp only[aeQ,aeF,h,Option.isSome_some,aeY,List.map_cons]
   cases h2:findAll l ks with
   |none=>rw[h2]at a;exact a
   |some o=>rw[h2]at a;exact⟨a.1,by rw[<-a.2];rfl⟩
def TG(l:List (ByteArray×Rl))(sp:ByteArray)(r:Rl)(n:Nd)(tys:List Ty)(dx:ByteArray):Prop:=
 (n.kind=1/\tys=r.types/\dx=⟨#[]⟩)\/(n.kind=3/\dx=n.dx/\∃k,bX l ⟨sp,n.rel⟩=some k/\tys=(l.map (·.2.types)).getD k [])
def outs(l:List (ByteArray×Rl))(i:Nat)(ab:Bool)(dx:ByteArray)(ts:List Ty):List lB:=(dE ts).map λt=>((i:Int),fI (bX l (ji dx t)),ab)
def lX(l:List (ByteArray×Rl))(dx:ByteArray)(ts:List Ty):Bool:=(dE ts).all λt=>(bX l (ji dx t)).isSome
theorem zO{a:List Ty}{j:Nat}{t:Ty}(h:a[j]? =some t):dE (a.take (j+1))=dE (a.take j)++if t.space=⟨#[]⟩then []else [t]:=by
 unfold dE
 rw[er h,List.filter_append]
 congr 1
 by_cases e:t.space=⟨#[]⟩
 ·simp[e]
 ·simp[e]
theorem WE.all{l:List (ByteArray×Rl)}{i:Nat}{ab:Bool}(ks:List Ty):WE (ks.all λt=>(bX l t).isSome) (ks.map λt=>((i:Int),fI (bX l t),ab)) ((findAll l ks).map λts=>ts.map λt=>(⟨i,t,ab⟩:Ed)):=by
 have h:=qV l ks
 cases h2:findAll l ks with
 |none=>rw[h2]at h;exact h
 |some o=>
  rw[h2]at h
  refine⟨h.1,?_⟩
  have:(ks.map λt=>((i:Int),fI (bX l t),ab))=(ks.map λt=>fI (bX l t)).map λz=>((i:Int),z,ab):=by rw[aey];rfl
  rw[this, <-h.2]
  simp[Ed.m,aeX]
theorem MZ{l:List (ByteArray×Rl)}{i:Nat}{g:ByteArray}{r:Rl}{ab:Bool}{n:Nd}{c:List Ty}{a:ByteArray}(h:TG l g r n c a)(m:n.kind=3->n.dx≠⟨#[]⟩):
  WE (lX l a c&&(decide (a=⟨#[]⟩)||decide (0<(outs l i ab a c).length))) (outs l i ab a c) (fi l i g r ab n):=by
 rcases h with⟨b,rfl,rfl⟩|⟨b,rfl,k,j,rfl⟩
 ·have e:∀t:Ty,ji ⟨#[]⟩ t=t:=λt=>by unfold ji;rw[aem rfl]
  have:=WE.all (l:=l) (i:=i) (ab:=ab) (dE r.types)
  unfold fi targets lX outs
  simp only[e,b,aeA,decide_true,aeZ,aev]
  exact this
 ·have d:=m b
  have e:∀t:Ty,ji n.dx t=⟨t.space,n.dx⟩:=λt=>by unfold ji;rw[aek d]
  unfold fi targets lX outs
  simp only[e,b,j,aeC d,ae0,aek (show ¬(3:Int)=1 by decide),aek (show ¬(3:Int)=2 by decide),aeA,aen]
  generalize o:dE ((l.map (·.2.types)).getD k [])=zs
  have f:=WE.all (l:=l) (i:=i) (ab:=ab) (zs.map λt=>(⟨t.space,n.dx⟩:Ty))
  rw[List.all_map,aey]at f
  cases zs with
  |nil=>rfl
  |cons z zs=>
   simp only[aeV,Nat.zero_lt_succ,decide_true,aev]
   exact f
theorem Aw{l:List (ByteArray×Rl)}{i:Nat}{c:ByteArray}{r:Rl}{A B:List (Nat×Bool)}{f g:Bool}{h j:List lB}
  (d:WE f h (cat (λp:Nat×Bool=>(r.nodes[p.1]?).bind λn=>fi l i c r p.2 n) A))(e:WE g j (cat (λp:Nat×Bool=>(r.nodes[p.1]?).bind λn=>fi l i c r p.2 n) B)):
  WE (f&&g) (h++j) (cat (λp:Nat×Bool=>(r.nodes[p.1]?).bind λn=>fi l i c r p.2 n) (A++B)):=by
 rw[pb]
 revert d e
 generalize cat (λp:Nat×Bool=>(r.nodes[p.1]?).bind λn=>fi l i c r p.2 n) A=a
 generalize cat (λp:Nat×Bool=>(r.nodes[p.1]?).bind λn=>fi l i c r p.2 n) B=b
 intro d e
 cases a with
 |none=>have k:f=false:=d;subst k;exact aeG _
 |some a=>
  cases b with
  |none=>have m:g=false:=e;subst m;exact aez _
  |some b=>obtain⟨rfl,rfl⟩:=d;obtain⟨rfl,rfl⟩:=e;exact⟨rfl,by simp⟩
theorem M4{l:List (ByteArray×Rl)}{i:Nat}{a:ByteArray}{r:Rl}{ab:Bool}{n:Nd}(b:n.kind=2):
  WE (decide (0<=fI (bX l ⟨a,n.rel⟩))) [((i:Int),fI (bX l ⟨a,n.rel⟩),ab)] (fi l i a r ab n):=by
 have h:=WE.all (l:=l) (i:=i) (ab:=ab) [(⟨a,n.rel⟩:Ty)]
 unfold fi targets
 rw[aek (by omega),aem b]
 have e:decide (0<=fI (bX l ⟨a,n.rel⟩))=([(⟨a,n.rel⟩:Ty)].all λt=>(bX l t).isSome):=by
  simp only[aeF,aeR,aev]
  cases bX l ⟨a,n.rel⟩with
  |none=>rfl
  |some k=>simp[fI]
 rw[e]
 exact h
theorem MW{l:List (ByteArray×Rl)}{i:Nat}{a:ByteArray}{r:Rl}{ab:Bool}{n:Nd}(b:n.kind=3)(h:fI (bX l ⟨a,n.rel⟩)<0):WE false [] (fi l i a r ab n):=by
 cases hr:bX l ⟨a,n.rel⟩with
 |none=>
  unfold fi targets
  rw[aek (by omega),aek (by omega),aem b,hr]
  rfl
 |some k=>rw[hr]at h;simp only[fI]at h;omega
def qu(L:List Nm):Prop:=∀x∈L,x.2.r.types.length<=8/\x.2.r.nodes.length<=64/\fC isWord x.2.r.nodes≠0
theorem Qm{s:ByteArray}(h:isWord s=true):s≠⟨#[]⟩:=by
 intro e
 subst e
 revert h
 decide+kernel
theorem yI{L:List Nm}{k:Nat}{y:Nm}(h:L[k]? =some y):((L.map Nm.p).map (·.2.types)).getD k []=y.2.r.types:=by
 rw[aer,aep,aep,h]
 rfl
theorem OT(v:Value)(L:List Nm)(R:aw)(h:qt R v L)(hL:qu L)(i:Nat)(l:ByteArray)(vt vn:Value)(r:Rl)(a1:L[i]? =some (l,⟨vt,vn,r⟩)):
  ∀(m b d:Nat),tree isWord r.nodes m=some (b,d)->∀(ab:Bool) (j:Int),j=(m:Int)-1->
  Spec prog 81 [v,iN i,.int .i64 j,.bool ab] R [] λu H'=>∃T,H'=[T]/\∃w E ok,u=.tuple [w,.bool ok].toArray/\OS 192 3 jC w E T/\E.length<=8*(m-b)/\
   WE ok E (cat (λp:Nat×Bool=>(r.nodes[p.1]?).bind λn=>fi (L.map Nm.p) i l r p.2 n) (fk r.nodes m ab)):=by
 intro m
 induction m using Nat.strongRecOn with
 |_ m ih=>
 intro b d ht ab j hj
 have V:=h.rs
 have iv:=V.aq
 have c3:=h.all _ (aV a1)
 have b2:RS R 2 Ty.enc vt r.types:=c3.t
 have c2:RS R 5 Nd.enc vn r.nodes:=c3.d
 have e5:=b2.aq
 have e4:=c2.aq
 obtain⟨a9,c6,c8⟩:=hL _ (aV a1)
 simp only at a9 c6 c8
 have d9:=nj ht
 obtain⟨e,rfl⟩:∃e,m=e+1:=⟨m-1,by omega⟩
 have c9:j=(e:Int):=by omega
 subst c9
 obtain⟨n,Z⟩:∃n,r.nodes[e]? =some n:=⟨_,bE (by omega)⟩
 have b1:∀ab,n.op=false->cat (λp:Nat×Bool=>(r.nodes[p.1]?).bind λn=>fi (L.map Nm.p) i l r p.2 n) (fk r.nodes (e+1) ab)=fi (L.map Nm.p) i l r ab n:=λab ho=>by
  rw[sC Z ho]
  unfold cat
  simp only[Z,aeQ,cat]
  cases fi (L.map Nm.p) i l r ab n<;>simp
 have a6:n.op=false->n.leaf isWord=true/\b=e:=λho=>by
  rw[kT Z ho]at ht
  split at ht
  ·rename_i hl;cases ht;exact⟨hl,rfl⟩
  ·cases ht
 refine Spec.fP (H':=[[]]) (by simp) ?_
 refine Spec.body func81 rfl results81 ntmps81 rfl ?_
 refine .sr<|.ag rfl<|.ag rfl<|.z<|.ag rfl<|.z<|.mo rfl<|.mo rfl ?_
 refine .bI i V a1 (λf4=>?_)
 refine .fa rfl<|.fa rfl<|.lo rfl<|.mo rfl ?_
 refine .bI e c2 Z (λf5=>?_)
 refine .q (.aP rfl) ?_
 refine .bV (λa3=>?_)
 refine .bN rfl rfl<|.zs<|.seq ?_
 refine bF.dt [(0,_),(1,_),(3,_),(10,_),(11,_)] kE.c.c.c.c.c (X:=Unit) (λ_=>True) (λ_ E=>(45,.bool n.op)::E) (λ_=>[bl a3 n.enc 204,[]]) ?_ ?_
 refine .region<|.fa rfl<|.lo rfl<|.q .bw<|.mo rfl ?_
 refine .split (t:=36) rfl (λI=>?_) (λI=>?_)
 refine .gF I<|.gF I<|.gF I<|.q (.aZ I) ?_
 refine .mo rfl<|.gX<|.gX<|.gX<|.q .ca<|.nil ?_
 ·exact aG () aej (kE.c.c.c.c.c.cy rfl (by clear ih;grind[Nd.op])) rH
 refine .gT I<|.fa rfl<|.gT I<|.lo rfl<|.gT I<|.q .bw<|.q (.aX I) ?_
 refine .mo rfl ?_
 refine .split (t:=41) rfl (λJ=>?_) (λJ=>?_)
 refine .gF J<|.gF J<|.gF J<|.q (.aZ J) ?_
 refine .nil ?_
 ·exact aG () aej (kE.c.c.c.c.c.cy rfl (by clear ih;grind[Nd.op])) rH
 refine .gT J<|.fa rfl<|.gT J<|.lo rfl<|.gT J<|.q .bw<|.q (.aX J) ?_
 refine .nil ?_
 ·exact aG () aej (kE.c.c.c.c.c.cy rfl (by clear ih;grind[Nd.op])) rH
 intro y hy
 refine ay ?_
 refine .cond rfl (λB=>?_) λB=>?_
 have c1:n.op=true:=B
 obtain⟨b',x,y,Y,h3,M,N,o,h7,h8,h9⟩:=ni Z c1 ht
 have d8:=nj Y
 have c7:=nj M
 simp only at M c7 h9
 have b4:=sD Z c1 ⟨by omega,by omega⟩ ab
 rw[show n.a.toNat+1=b' by omega,show n.b.toNat+1=e by omega]at b4
 refine .sr<|.mo rfl<|.mo rfl<|.fa rfl<|.lo rfl<|.mo rfl ?_
 refine .dq ((ih b' (by omega) b y M ab _ N).weaken cZ) (λu Ta C=>?_)
 obtain⟨wa,Ea,e8,rfl,b6,e1,b8⟩:=C
 have e7:=b6.aq
 refine .mo rfl<|.q .extract<|.q .extract<|.ag rfl<|.ag rfl<|.zs ?_
 refine bF.dt [(10,_),(12,_),(13,_)] kE.c.c.c (X:=Value×List lB×Bool×aH) (λy=>OS 192 3 jC y.1 y.2.1 y.2.2.2/\y.2.1.length<=8*(e-b')/\WE y.2.2.1 y.2.1 (cat (λp:Nat×Bool=>(r.nodes[p.1]?).bind λn=>fi (L.map Nm.p) i l r p.2 n) (fk r.nodes e (ab||n.kind==6)))) (λy E=>(14,y.1)::(15,.bool y.2.2.1)::E) (λy=>[bl a3 n.enc 204,[],Ta,y.2.2.2]) ?_ ?_
 refine .region<|.mo rfl<|.mo rfl<|.fa rfl<|.lo rfl<|.mo rfl<|.mo rfl ?_
 refine .split (t:=61) rfl (λA=>?_) (λA=>?_)
 refine .gF A<|.gF A<|.gF A<|.q (.aZ A) ?_
 refine .dq ((ih e (by omega) b' x Y _ _ o).weaken cZ) (λu Tb C=>?_)
 obtain⟨wb,Eb,a8,rfl,K,a4,U⟩:=C
 have c5:=K.aq
 refine .mo rfl<|.q .extract<|.q .extract<|.ag rfl<|.ag rfl<|.nil ?_
 ·exact aG (wb,Eb,a8,Tb) ⟨K,a4,by simpa only[B,A,aeZ,ae0]using U⟩ kE.c.c.c.c.c (aQ [2,2,1,0])
 refine .gT A<|.fa rfl<|.gT A<|.lo rfl<|.gT A<|.q .bw<|.q (.aX A) ?_
 refine .dq ((ih e (by omega) b' x Y _ _ o).weaken cZ) (λu Tb C=>?_)
 obtain⟨wb,Eb,a8,rfl,K,a4,U⟩:=C
 have c5:=K.aq
 refine .mo rfl<|.q .extract<|.q .extract<|.ag rfl<|.ag rfl<|.nil ?_
 ·exact aG (wb,Eb,a8,Tb) ⟨K,a4,by simpa only[B,A,aeZ,ae0]using U⟩ kE.c.c.c.c.c (aQ [2,2,1,0])
 intro y hy
 obtain⟨wb,Eb,a8,Tb⟩:=y
 obtain⟨K,a4,U⟩:=hy
 simp only at K a4 U⊢
 have c5:=K.aq
 refine ay<|.sr<|.mo rfl<|.mo rfl ?_
 refine .append (OS.nil (enc:=jC) (sz:=3)) b6.rx (by simp only[List.length_nil];omega) (λv1 T1 D=>?_)
 rw[ae7]at D
 have c4:=D.aq
 refine .ag rfl<|.z<|.mo rfl<|.mo rfl ?_
 refine .append D K.rx (by omega) (λv2 T2 b3=>?_)
 have e6:=b3.aq
 refine .mo rfl<|.mo rfl ?_
 refine .split (t:=76) rfl (λS=>?_) (λS=>?_)
 refine .gT S<|.mo rfl<|.q (.aZ S) ?_
 refine .ag rfl<|.az rfl ?_
 refine .ret (aI (bu _ (.two (.tmp rfl) (.tmp rfl)) (.one [1] _) ?_))
 ·refine⟨T2,by simp[take,bK],v2,_,_,rfl,b3,?_,?_⟩
  ·rw[aet];omega
  ·rw[b4];have hh:=Aw b8 U;simpa only[S,aeY,aeG]using hh
 refine .gF S<|.q (.aX S) ?_
 refine .ag rfl<|.az rfl ?_
 refine .ret (aI (bu _ (.two (.tmp rfl) (.tmp rfl)) (.one [1] _) ?_))
 ·refine⟨T2,by simp[take,bK],v2,_,_,rfl,b3,?_,?_⟩
  ·rw[aet];omega
  ·rw[b4];have hh:=Aw b8 U;simpa only[S,aeY,aeG]using hh
 refine .kn<|.seq<|.sr<|.fa rfl<|.lo rfl<|.q .bw<|.zn ?_
 refine .cond rfl (λY=>?_) λY=>?_
 refine .seq ?_
 refine .dY 8 mixed (by kernel_rfl) ?_
 conv=>arg 6;dsimp only[List.take]
 refine .mo rfl<|.mo rfl<|.mo rfl ?_
 refine .bI i V a1 (λf6=>?_)
 refine .fa rfl<|.lo rfl<|.fa rfl<|.lo rfl<|.nil ?_
 refine .aR ((oK v L R h l n.rel).weaken cZ) (λu C=>?_)
 subst C
 refine .ag rfl<|.z<|.mo rfl<|.mo rfl<|.mo rfl<|.mo rfl ?_
 refine .q .da ?_
 refine .ez (λd7=>?_)
 refine .append (OS.nil (enc:=jC) (sz:=3)) (RS.lits (xs:=[((i:Int),fI (bX (L.map Nm.p) ⟨l,n.rel⟩),ab)]) rfl (by simp[jC]) (by simp[jC,aq])) (by simp) (λv1 T1 D=>?_)
 rw[ae7]at D
 have c4:=D.aq
 refine .mo rfl<|.q .geq<|.ag rfl<|.az rfl ?_
 refine .ret (aI (bu _ (.two (.tmp rfl) (.tmp rfl)) (.one [2] _) ?_))
 ·refine⟨T1,by simp[take,bK],v1,_,_,rfl,D,?_,?_⟩
  ·have:=(a6 B).2;simp only[aew];omega
  ·rw[b1 ab B];exact M4 (by simpa using Y)
 have e0:n.kind=1\/n.kind=3:=by have hl:=(a6 B).1;grind[Nd.leaf]
 refine .kn<|.sr<|.mo rfl<|.mo rfl ?_
 refine .bI i V a1 (λe9=>?_)
 refine .fa rfl<|.fa rfl<|.lo rfl<|.ag rfl<|.ag rfl<|.zs<|.sr<|.fa rfl<|.lo rfl<|.q .bw<|.zn ?_
 refine bF.dt [(0,_),(1,_),(3,_),(10,_)] kE.c.c.c.c (X:=Value×List Ty×ByteArray) (λy=>RS R 2 Ty.enc y.1 y.2.1/\y.2.1.length<=8/\TG (L.map Nm.p) l r n y.2.1 y.2.2) (λy E=>(17,y.1)::(18,.string y.2.2)::E) (λy=>[bl a3 n.enc 204,[]]) ?_ ?_
 refine .cond rfl (λh3=>?_) λh3=>?_
 refine .seq ?_
 refine .dY 8 mixed (by kernel_rfl) ?_
 conv=>arg 6;dsimp only[List.take]
 refine .mo rfl<|.mo rfl<|.mo rfl ?_
 refine .bI i V a1 (λf0=>?_)
 refine .fa rfl<|.lo rfl<|.fa rfl<|.lo rfl<|.nil ?_
 refine .aR ((oK v L R h l n.rel).weaken cZ) (λu C=>?_)
 subst C
 refine .ag rfl<|.zs<|.sr<|.mo rfl<|.q .lss<|.zn ?_
 refine .cond rfl (λM=>?_) λM=>?_
 refine .sr<|.ag rfl<|.az rfl ?_
 refine .ret (aI (gW (aI (bu _ (.two (.tmp rfl) (.tmp rfl)) (.one [1] _) ?_))))
 ·refine⟨[],by simp[take,bK],_,[],_,rfl,OS.nil,by simp,?_⟩
  rw[b1 ab B]
  exact MW (by simpa using h3) (by simpa using M)
 obtain⟨k,hk⟩:∃k,bX (L.map Nm.p) ⟨l,n.rel⟩=some k:=by
  cases hr:bX (L.map Nm.p) ⟨l,n.rel⟩with
  |none=>rw[hr]at M;simp[fI]at M
  |some k=>exact⟨k,rfl⟩
 have d1:k<L.length:=by have:=zv hk;rwa [aen]at this
 obtain⟨⟨sk,b5,d5,rk⟩,a2⟩:=cm d1
 have c0:=h.all _ (aV a2)
 have b0:RS R 2 Ty.enc b5 rk.types:=c0.t
 have e3:=b0.aq
 have e2:One d5:=RS.aq c0.d
 have b9:=(hL _ (aV a2)).1
 have pk:=V.pc a2
 have d0:fI (bX (L.map Nm.p) ⟨l,n.rel⟩)=(k:Int):=by rw[hk];rfl
 refine .kn ?_
 refine .eo mixed (by kernel_rfl) ?_
 refine .mo rfl<|.mo rfl<|.q (.bI k V a2 rfl rfl d0) ?_
 refine .fa rfl<|.fa rfl<|.lo rfl<|.fa rfl<|.lo rfl<|.ag rfl<|.ag rfl<|.nil ?_
 ·first
   |exact aG (b5,rk.types,n.dx) ⟨b0,b9,.inr ⟨by simpa using h3,rfl,k,hk,(yI a2).symm⟩⟩ kE.c.c.c.c.c.c rH
   |exact aG (vt,r.types,⟨#[]⟩) ⟨b2,a9,.inl ⟨by grind,rfl,rfl⟩⟩ kE.c.c.c.c.c.c rH
 refine .skip ?_
 ·first
   |exact aG (b5,rk.types,n.dx) ⟨b0,b9,.inr ⟨by simpa using h3,rfl,k,hk,(yI a2).symm⟩⟩ kE.c.c.c.c.c.c rH
   |exact aG (vt,r.types,⟨#[]⟩) ⟨b2,a9,.inl ⟨by grind,rfl,rfl⟩⟩ kE.c.c.c.c.c.c rH
 intro x hx
 obtain⟨vy,F,g⟩:=x
 obtain⟨a0,d4,b7⟩:=hx
 simp only at a0 d4 b7⊢
 have iy:=a0.aq
 refine ay<|.sr<|.ag rfl<|.zs<|.sr<|.az rfl<|.block ?_
 refine .cL [(0,_),(1,_),(3,_),(17,_),(18,_)] (X:=Nat×Value×aH) (λy=>y.1<=F.length/\OS 192 3 jC y.2.1 (outs (L.map Nm.p) i ab g (F.take y.1)) y.2.2) (λy E=>(21,iN y.1)::(10,y.2.1)::(20,.bool (lX (L.map Nm.p) g (F.take y.1)))::E) (λy G=>y.2.2::G) (λy=>F.length-y.1) (0,sZ,[]) ⟨ael _,OS.nil⟩ kE.c.c.c.c.c.c.c.c (aQ [1,0]) ?_
 rintro⟨q,vo,W⟩ ⟨hq,O⟩
 simp only at hq O⊢
 have io:=O.aq
 have d2:(outs (L.map Nm.p) i ab g (F.take q)).length<=8:=by
  unfold outs dE
  rw[aen]
  exact aeB (aeW _ _) (by rw[aes];omega)
 refine .seq<|.sr<|.mo rfl<|.mo rfl<|.q (.bL a0) ?_
 refine .q .lss<|.zn ?_
 refine .cond rfl (λN=>?_) λN=>?_
 have a5:q<F.length:=cF N
 obtain⟨t,a7⟩:=cm a5
 have Q:=zO a7
 refine .kn<|.seq<|.block<|.seq<|.sr<|.mo rfl<|.mo rfl ?_
 refine .bI q a0 a7 (λf1=>?_)
 refine .fa rfl<|.lo rfl<|.q .ec<|.zn ?_
 refine .cond rfl (λo=>?_) λo=>?_
 refine .exit<|bz<|bB<|ay<|.region<|.mo rfl ?_
 refine .ia (q+1) .add ?_
 refine .ag rfl<|.nil ?_
 ·first
   |exact aW (q+1,v1,T1) ⟨a5,by simp only;unfold outs;rw[Q,aek (by simpa using o),aeq];exact D⟩ (by simp only;omega) (((kE.c.c.c.c.c.cy rfl (by simp only;unfold lX;rw[Q,aek (by simpa using o),aeH];simp)).cons rfl).cons rfl) (aQ [1,1])
   |exact aW (q+1,vo,W) ⟨a5,by simp only;unfold outs;rw[Q,aem (by simpa using o),aeu];exact O⟩ (by simp only;omega) (((kE.c.c.c.c.c.cy rfl (by simp only;unfold lX;rw[Q,aem (by simpa using o),aeu])).cons rfl).cons rfl) rH
 refine .kn<|.sr<|.mo rfl<|.mo rfl ?_
 refine .bI q a0 a7 (λf2=>?_)
 refine .fa rfl<|.lo rfl<|.ag rfl<|.zs<|.sr<|.mo rfl<|.q .gd<|.zn ?_
 refine bF.dt [(0,_),(1,_),(3,_),(10,_),(17,_),(18,_),(20,_),(21,_)] kE.c.c.c.c.c.c.c.c (X:=Unit) (λ_=>True) (λ_ E=>(22,.string (ji g t).rel)::E) (λ_=>[W,bl a3 n.enc 204]) ?_ ?_
 refine .cond rfl (λh7=>?_) λh7=>?_
 refine .region<|.mo rfl<|.ag rfl<|.nil ?_
 ·exact aG () aej (kE.c.c.c.c.c.c.c.c.wy rfl (by unfold ji;grind)) rH
 refine .skip ?_
 ·exact aG () aej (kE.c.c.c.c.c.c.c.c.wy rfl (by unfold ji;grind)) rH
 intro x hx
 refine ay<|.sr<|.mo rfl<|.mo rfl<|.mo rfl ?_
 refine .bI q a0 a7 (λf3=>?_)
 refine .fa rfl<|.lo rfl<|.mo rfl ?_
 refine .aR ((oK v L R h t.space (ji g t).rel).weaken cZ) (λu C=>?_)
 subst C
 rw[show(⟨t.space,(ji g t).rel⟩:Ty)=ji g t from rfl]
 refine .ag rfl<|.zs ?_
 refine bF.dt [(0,_),(1,_),(3,_),(10,_),(17,_),(18,_),(21,_),(23,_)] kE.c.c.c.c.c.c.c.c (X:=Unit) (λ_=>True) (λ_ E=>(20,.bool (lX (L.map Nm.p) g (F.take q)&&(bX (L.map Nm.p) (ji g t)).isSome))::E) (λ_=>[W,bl a3 n.enc 204]) ?_ ?_
 refine .region<|.mo rfl<|.mo rfl ?_
 refine .split (t:=157) rfl (λH=>?_) (λH=>?_)
 refine .gT H<|.mo rfl<|.gT H<|.q .geq<|.q (.aZ H) ?_
 refine .ag rfl<|.nil ?_
 ·exact aG () aej (kE.c.c.c.c.c.c.c.c.cy rfl (by simp only[H,aeY,aeG]<;>cases bX (L.map Nm.p) (ji g t)<;>simp[fI])) rH
 refine .gF H<|.gF H<|.q (.aX H) ?_
 refine .ag rfl<|.nil ?_
 ·exact aG () aej (kE.c.c.c.c.c.c.c.c.cy rfl (by simp only[H,aeY,aeG]<;>cases bX (L.map Nm.p) (ji g t)<;>simp[fI])) rH
 intro y hy
 refine ay<|.region<|.mo rfl<|.mo rfl<|.mo rfl<|.mo rfl ?_
 refine .q .da ?_
 refine .ez (λd6=>?_)
 refine .append O (RS.lits (xs:=[((i:Int),fI (bX (L.map Nm.p) (ji g t)),ab)]) rfl (by simp[jC]) (by simp[jC,aq])) (by simp only[aew];omega) (λv1 T1 D=>?_)
 have c4:=D.aq
 refine .ag rfl<|.nil<|bi<|ay<|.region<|.mo rfl ?_
 refine .ia (q+1) .add ?_
 refine .ag rfl<|.nil ?_
 ·first
   |exact aW (q+1,v1,T1) ⟨a5,by simp only;unfold outs;rw[Q,aek (by simpa using o),aeq];exact D⟩ (by simp only;omega) (((kE.c.c.c.c.c.cy rfl (by simp only;unfold lX;rw[Q,aek (by simpa using o),aeH];simp)).cons rfl).cons rfl) (aQ [1,1])
   |exact aW (q+1,vo,W) ⟨a5,by simp only;unfold outs;rw[Q,aem (by simpa using o),aeu];exact O⟩ (by simp only;omega) (((kE.c.c.c.c.c.cy rfl (by simp only;unfold lX;rw[Q,aem (by simpa using o),aeu])).cons rfl).cons rfl) rH
 have d3:F.length<=q:=by have:=bC N;omega
 rw[dN d3]at O d2⊢
 refine .exit<|bz<|bG<|bB<|ay<|.seq ?_
 refine bF.dt [] (dK.nil _) (X:=Unit) (λ_=>True) (λ_ E=>(8,vo)::(9,.bool (lX (L.map Nm.p) g F&&(decide (g=⟨#[]⟩)||decide (0<(outs (L.map Nm.p) i ab g F).length))))::E) (λ_=>[W]) ?_ ?_
 refine .region<|.mo rfl<|.mo rfl<|.mo rfl ?_
 refine .split (t:=170) rfl (λf=>?_) (λf=>?_)
 refine .gT f<|.mo rfl<|.gT f<|.q .ec<|.gT f<|.mo rfl ?_
 refine .split (t:=173) rfl (λs=>?_) (λs=>?_)
 refine .gF s<|.gF s<|.gF s<|.gT f<|.q (.aZ s) ?_
 refine .q (.aZ f) ?_
 refine .ag rfl<|.ag rfl<|.nil ?_
 ·exact aG () aej (((dK.nil _).cy rfl (by simp[N,f,s])).cons rfl) (aQ [0])
 refine .gT s<|.mo rfl<|.gT s<|.q (.fD O) ?_
 refine .gT s<|.q .gtr<|.gT f<|.q (.aX s) ?_
 refine .q (.aZ f) ?_
 refine .ag rfl<|.ag rfl<|.nil ?_
 ·exact aG () aej (((dK.nil _).cy rfl (by simp[N,f,s])).cons rfl) (aQ [0])
 refine .gF f<|.gF f<|.gF f<|.du rfl ?_
 refine .du rfl ?_
 refine .du rfl ?_
 refine .gF f<|.q (.aX f) ?_
 refine .ag rfl<|.ag rfl<|.nil ?_
 ·exact aG () aej (((dK.nil _).cy rfl (by simp[N,f])).cons rfl) (aQ [0])
 intro y hy
 refine ay ?_
 refine .ret (bu _ (.two (.tmp rfl) (.tmp rfl)) (.one [0] _) ?_)
 ·refine⟨W,by simp[take,bK],vo,_,_,rfl,O,?_,?_⟩
  ·have:=(a6 B).2;omega
  ·rw[b1 ab B]
   refine MZ b7 λhk=>?_
   have hl:=(a6 B).1
   exact Qm (by grind[Nd.leaf])
theorem WE.gq{c d:Bool}{e f:List lB}{a b:Option (List Ed)}(g:WE c e a)(h:WE d f b):WE (c&&d) (e++f) (a.bind λx=>b.map (x++ ·)):=by
 cases a with
 |none=>have i:c=false:=g;subst i;exact aeG _
 |some a=>
  cases b with
  |none=>have j:d=false:=h;subst j;exact aez _
  |some b=>obtain⟨rfl,rfl⟩:=g;obtain⟨rfl,rfl⟩:=h;exact⟨rfl,by simp⟩
theorem s9{α:Type}{x:α}:∀{l:List α} {i b:Nat},l[i]? =some x->jQ b (l.take (i+1))=jQ b (l.take i)++[(b+i,x)]
 |[],i,b,h=>by simp at h
 |y::l,0,b,h=>by simp only[aeS,aeT]at h;subst h;rfl
 |y::l,i+1,b,h=>by
  rw[afd,afd,jQ,jQ,s9 (l:=l) (i:=i) (b:=b+1) (by simpa using h),show b+1+i=b+(i+1) by omega]
  rfl
def lz(l:List (ByteArray×Rl))(t:Ty):Bool:=decide (t.space=⟨#[]⟩)||(bX l t).isSome
theorem Pk{l:List (ByteArray×Rl)}{a:List Ty}:(findAll l (dE a)).isSome=a.all (lz l):=by
 have h:=qV l (dE a)
 have e:((dE a).all λt=>(bX l t).isSome)=a.all (lz l):=by
  unfold dE
  rw[List.all_filter]
  congr 1
  funext t
  unfold lz
  cases decide (t.space=⟨#[]⟩)<;>simp
 rw[<-e]
 cases hf:findAll l (dE a)with
 |none=>rw[hf]at h;exact h.symm
 |some o=>rw[hf]at h;exact h.1.symm
theorem WE.rel{l:List (ByteArray×Rl)}{i:Nat}{a:ByteArray}{r:Rl}{ok:Bool}{E:List lB}(h:WE ok E (cat (λp:Nat×Bool=>(r.nodes[p.1]?).bind λn=>fi l i a r p.2 n) (fk r.nodes r.nodes.length false))):
  WE (r.types.all (lz l)&&ok) E (ls l i a r):=by
 unfold ls
 rw[<-Pk]
 cases (findAll l (dE r.types)).isSome with
 |true=>simpa using h
 |false=>exact aeG _
def oQ(l:List (ByteArray×Rl))(s:Sc):Bool:=(bX l ⟨s.jV,s.rel⟩).isSome
theorem wC{l:List Nd}(h:fC isWord l≠0):∃d,tree isWord l l.length=some (0,d):=by
 unfold fC at h
 cases ht:tree isWord l l.length with
 |none=>rw[ht]at h;exact absurd rfl h
 |some r=>
  obtain⟨b,d⟩:=r
  rw[ht]at h
  simp only at h
  split at h
  ·rename_i a;subst a;exact⟨d,rfl⟩
  ·exact absurd rfl h
theorem px(o:Option Nat):decide (0<=fI o)=o.isSome:=by cases o<;>simp[fI]
theorem N1(c:bP)(R:aw)(h:c.is R)(hf:c.jF)(hr:qu c.fN):Spec prog 35 [.agg c.enc.toArray] R [] λu H'=>∃T,H'=[T]/\∃w E ok,u=.tuple [w,.bool ok].toArray/\OS 192 3 jC w E T/\WE ok E c.plain.gz:=by
 have b4:=uy c R h hf
 have a0:=yH h
 have c0:=hf.fN
 have a3:c.plain.gz=if c.scopes.all (oQ (c.fN.map Nm.p))=true then cat (λp:Nat×(ByteArray×Rl)=>ls (c.fN.map Nm.p) p.1 p.2.1 p.2.2) (jQ 0 (c.fN.map Nm.p))else none:=by
  rw[oD];rfl
 rw[a3]
 clear a3
 generalize b7:c.fN=L at *
 obtain⟨vs,Z,d4,j⟩:=c
 have i1:One vs:=RS.aq h.ss
 have F:RS R 4 Sc.enc Z j:=h.sc
 have i2:=F.aq
 have b9:=F.le
 refine Spec.fP (H':=[[]]) (by simp) ?_
 refine Spec.body func35 rfl results35 ntmps35 rfl ?_
 refine .sr ?_
 refine .cj rfl (λb1=>?_)
 refine .ag rfl<|.ag rfl<|.z<|.q (.aP rfl) ?_
 refine .dq (b4.weaken cZ) (λu v H=>?_)
 have i4:=H.aq
 refine .ag rfl<|.z<|.ag rfl<|.z<|.ag rfl<|.zs<|.sr<|.az rfl<|.block ?_
 refine .cL [(1,_),(4,_)] (X:=Nat×Value×List lB×Bool×aH) (λy=>y.1<=L.length/\OS 192 3 jC y.2.1 y.2.2.1 y.2.2.2.2/\y.2.2.1.length<=512*y.1/\WE y.2.2.2.1 y.2.2.1 (cat (λp:Nat×(ByteArray×Rl)=>ls (L.map Nm.p) p.1 p.2.1 p.2.2) (jQ 0 ((L.map Nm.p).take y.1)))) (λy E=>(7,iN y.1)::(5,y.2.1)::(6,.bool y.2.2.2.1)::E) (λy G=>y.2.2.2.2::G) (λy=>L.length-y.1) (0,sZ,[],true,[]) ⟨ael _,OS.nil,by simp,⟨rfl,rfl⟩⟩ kE.c.c.c.c.c bp.jT ?_
 rintro⟨i,v5,E5,ok,N⟩ ⟨hi,Q,a9,S⟩
 simp only at hi Q a9 S⊢
 have i5:=Q.aq
 refine .seq<|.sr<|.mo rfl<|.mo rfl<|.q (.fD H) ?_
 refine .q .lss<|.zn ?_
 refine .cond rfl (λh1=>?_) λh1=>?_
 have a4:i<L.length:=cF h1
 obtain⟨⟨Y,M,K,r⟩,J⟩:=cm a4
 have W:=a0 _ (aV J)
 have D:RS R 2 Ty.enc M r.types:=W.t
 have a5:RS R 5 Nd.enc K r.nodes:=W.d
 have c6:=D.aq
 have c5:=a5.aq
 have c3:bZ (cv.enc ⟨M,K,r⟩):=⟨W.cN⟩
 have c4:bZ (List.take 3 (List.drop 1 (mX (Y,(⟨M,K,r⟩:cv))))):=⟨W.cN⟩
 obtain⟨b2,b0,a2⟩:=hr _ (aV J)
 simp only at b2 b0 a2
 obtain⟨d,a6⟩:=wC a2
 have b6:(L.map Nm.p)[i]? =some (Y,r):=by rw[aep,J];rfl
 have O:qt (λb o=>R b o\/(b,o)∈v) u L:=⟨H.rs λp hp=>.inr hp,λx hx=>(a0 x hx).mono λb o g=>.inl g⟩
 have c2:1<=r.nodes.length:=by have:=(nj a6).1;omega
 refine .kn<|.seq<|.block<|.sr<|.mo rfl<|.mo rfl ?_
 refine .bH i H J (λc8=>?_)
 refine .fa rfl<|.q (.loadT rfl) ?_
 refine .bV (λb8=>?_)
 refine .bN rfl rfl<|.zs<|.sr<|.az rfl<|.block ?_
 refine .cL [(1,_),(4,_),(5,_),(7,_),(8,_)] (X:=Nat) (λk=>k<=r.types.length) (λk E=>(9,iN k)::(6,.bool (ok&&(r.types.take k).all (lz (L.map Nm.p))))::E) (λ_ G=>G) (λk=>r.types.length-k) 0 (ael _) ((kE.c.c.c.c.c.cy rfl (by simp)).cons rfl) rH ?_
 rintro k hk
 refine .seq<|.sr<|.mo rfl<|.fa rfl<|.lo rfl<|.q (.bL D) ?_
 refine .q .lss<|.zn ?_
 refine .cond rfl (λm=>?_) λm=>?_
 have C:k<r.types.length:=cF m
 obtain⟨t,n⟩:=cm C
 refine .kn<|.seq<|.block ?_
 refine bF.dt [(1,_),(4,_),(5,_),(7,_),(8,_),(9,_)] kE.c.c.c.c.c.c (X:=Unit) (λ_=>True) (λ_ E=>(6,.bool (ok&&(r.types.take (k+1)).all (lz (L.map Nm.p))))::E) (λ_=>[bl b8 (cv.enc ⟨M,K,r⟩) 104,N,v,bl b1 [vs,Z] 25]) ?_ ?_
 refine .dY 23 mixed (by kernel_rfl) ?_
 conv=>arg 6;dsimp only[List.take]
 refine .mo rfl<|.mo rfl ?_
 refine .split (t:=34) rfl (λf=>?_) (λf=>?_)
 refine .gT f<|.fa rfl<|.gT f<|.lo rfl<|.gT f<|.mo rfl<|.gT f ?_
 refine .bI k D n (λc9=>?_)
 refine .gT f<|.fa rfl<|.gT f<|.lo rfl<|.gT f<|.q .ec<|.gT f<|.mo rfl ?_
 refine .split (t:=42) rfl (λe=>?_) (λe=>?_)
 refine .gF e<|.gF e<|.gF e<|.gF e<|.gF e<|.gF e<|.gF e<|.gF e<|.gF e<|.gF e<|.gF e<|.gF e<|.gF e<|.nil<|.gF e<|.gF e<|.gT f<|.q (.aZ e) ?_
 refine .q (.aZ f) ?_
 refine .ag rfl<|.nil ?_
 ·exact aG () aej (kE.c.c.c.c.c.c.cy rfl (by rw[er n,aeH];simp only[aeF,aeR,aev,lz,m,f,e,px];grind)) rH
 refine .gT e<|.mo rfl<|.gT e<|.fa rfl<|.gT e<|.lo rfl<|.gT e<|.mo rfl<|.gT e ?_
 refine .bI k D n (λd0=>?_)
 refine .gT e<|.fa rfl<|.gT e<|.lo rfl<|.gT e<|.fa rfl<|.gT e<|.lo rfl<|.gT e<|.mo rfl<|.gT e ?_
 refine .bI k D n (λd1=>?_)
 refine .gT e<|.fa rfl<|.gT e<|.lo rfl<|.nil<|.gT e ?_
 refine .aR ((oK u L _ O t.space t.rel).weaken λb o g=>g.elim .inl λg=>.inr (by simp[g])) (λw I=>?_)
 subst I
 rw[show(⟨t.space,t.rel⟩:Ty)=t from rfl]
 refine .gT e<|.q .geq<|.gT f<|.q (.aX e) ?_
 refine .q (.aZ f) ?_
 refine .ag rfl<|.nil ?_
 ·exact aG () aej (kE.c.c.c.c.c.c.cy rfl (by rw[er n,aeH];simp only[aeF,aeR,aev,lz,m,f,e,px];grind)) rH
 refine .gF f<|.gF f<|.gF f<|.gF f<|.gF f<|.gF f<|.gF f<|.gF f<|.du rfl ?_
 refine .du rfl ?_
 refine .du rfl ?_
 refine .du rfl ?_
 refine .du rfl ?_
 refine .du rfl ?_
 refine .du rfl ?_
 refine .du rfl ?_
 refine .du rfl ?_
 refine .du rfl ?_
 refine .du rfl ?_
 refine .du rfl ?_
 refine .du rfl ?_
 refine .nil<|.du rfl ?_
 refine .du rfl ?_
 refine .gF f<|.q (.aX f) ?_
 refine .ag rfl<|.nil ?_
 ·exact aG () aej (kE.c.c.c.c.c.c.cy rfl (by rw[er n,aeH];simp only[aeF,aeR,aev,lz,m,f,px];grind)) rH
 intro y hy
 refine bi<|ay<|.region<|.mo rfl ?_
 refine .ia (k+1) .add ?_
 refine .ag rfl<|.nil ?_
 ·exact aW (k+1) C (by omega) kE.c.c.c.c.c.c.c rH
 rw[dN (l:=r.types) (i:=k) (by have:=bC m;omega)]
 refine .exit<|bz<|bG<|bB<|ay<|.sr<|.mo rfl<|.mo rfl<|.fa rfl<|.lo rfl<|.q (.bL a5) ?_
 refine .q (.i64 ((r.nodes.length:Int)-1) .sub ⟨rfl,by omega,by omega⟩) ?_
 refine .dq ((OT u L _ O hr i Y M K r J _ _ _ a6 false _ rfl).weaken λb o g=>g.elim .inl λg=>.inr (by simp[g])) (λw Tw I=>?_)
 obtain⟨w,Ew,a8,rfl,a1,c1,b3⟩:=I
 have iw:=a1.aq
 refine .mo rfl<|.q .extract<|.q .extract<|.ag rfl<|.ag rfl<|.zs ?_
 refine bF.dt [(1,_),(4,_),(5,_),(7,_),(10,_)] kE.c.c.c.c.c (X:=Unit) (λ_=>True) (λ_ E=>(6,.bool (ok&&(r.types.all (lz (L.map Nm.p))&&a8)))::E) (λ_=>[Tw,N,v,bl b1 [vs,Z] 25]) ?_ ?_
 refine .region<|.mo rfl<|.mo rfl ?_
 refine .split (t:=71) rfl (λA=>?_) (λA=>?_)
 refine .gT A<|.mo rfl<|.q (.aZ A) ?_
 refine .ag rfl<|.nil ?_
 ·exact aG () aej (kE.c.c.c.c.c.cy rfl (by grind)) (aQ [0,1,1,1])
 refine .gF A<|.q (.aX A) ?_
 refine .ag rfl<|.nil ?_
 ·exact aG () aej (kE.c.c.c.c.c.cy rfl (by grind)) (aQ [0,1,1,1])
 intro y hy
 refine ay<|.region<|.mo rfl<|.mo rfl ?_
 refine .append Q a1.rx (by omega) (λv1 T1 a7=>?_)
 have c7:=a7.aq
 refine .ag rfl<|.nil<|bi<|ay<|.region<|.mo rfl ?_
 refine .ia (i+1) .add ?_
 refine .ag rfl<|.nil ?_
 ·exact aW (i+1,v1,E5++Ew,ok&&(r.types.all (lz (L.map Nm.p))&&a8),T1) ⟨a4,a7,by simp only[aet];omega,by
   simp only
   rw[s9 b6,pb]
   refine S.gq ?_
   have U:=WE.rel b3
   simp only[ae8,cat]
   revert U
   generalize ls (L.map Nm.p) i Y r=o
   intro U
   cases o with
   |none=>exact U
   |some o=>simpa using U⟩ (by simp only;omega) kE.c.c.c.c.c (aQ [1,1,1])
 have b5:L.length<=i:=by have:=bC h1;omega
 rw[dN (by rw[aen];exact b5)]at S
 have O:qt (λb o=>R b o\/(b,o)∈v) u L:=⟨H.rs λp hp=>.inr hp,λx hx=>(a0 x hx).mono λb o g=>.inl g⟩
 refine .exit<|bz<|bG<|bB<|ay<|.seq<|.sr<|.az rfl<|.block ?_
 refine .cL [(1,_),(4,_),(5,_)] (X:=Nat) (λk=>k<=j.length) (λk E=>(12,iN k)::(6,.bool (ok&&(j.take k).all (oQ (L.map Nm.p))))::E) (λ_ G=>G) (λk=>j.length-k) 0 (ael _) ((kE.c.c.c.cy rfl (by simp)).cons rfl) rH ?_
 rintro k hk
 refine .seq<|.sr<|.mo rfl<|.fa rfl<|.lo rfl<|.q (.bL F) ?_
 refine .q .lss<|.zn ?_
 refine .cond rfl (λB=>?_) λB=>?_
 have C:k<j.length:=cF B
 obtain⟨s,V⟩:=cm C
 refine .kn<|.seq<|.block ?_
 refine bF.dt [(1,_),(4,_),(5,_),(12,_)] kE.c.c.c.c (X:=Unit) (λ_=>True) (λ_ E=>(6,.bool (ok&&(j.take (k+1)).all (oQ (L.map Nm.p))))::E) (λ_=>[N,v,bl b1 [vs,Z] 25]) ?_ ?_
 refine .dY 16 mixed (by kernel_rfl) ?_
 conv=>arg 6;dsimp only[List.take]
 refine .mo rfl<|.mo rfl ?_
 refine .split (t:=85) rfl (λa=>?_) (λa=>?_)
 refine .gT a<|.mo rfl<|.gT a<|.fa rfl<|.gT a<|.lo rfl<|.gT a<|.mo rfl<|.gT a ?_
 refine .bI k F V (λd2=>?_)
 refine .gT a<|.fa rfl<|.gT a<|.fa rfl<|.gT a<|.lo rfl<|.gT a<|.fa rfl<|.gT a<|.lo rfl<|.gT a<|.mo rfl<|.gT a ?_
 refine .bI k F V (λd3=>?_)
 refine .gT a<|.fa rfl<|.gT a<|.lo rfl<|.nil<|.gT a ?_
 refine .aR ((oK u L _ O s.jV s.rel).weaken λb o g=>g.elim .inl λg=>.inr (by simp[g])) (λw I=>?_)
 subst I
 refine .gT a<|.q .geq<|.q (.aZ a) ?_
 refine .ag rfl<|.nil ?_
 ·exact aG () aej (kE.c.c.c.c.cy rfl (by rw[er V,aeH];simp only[aeF,aeR,aev,oQ,B,a,px];grind)) rH
 refine .gF a<|.gF a<|.gF a<|.gF a<|.gF a<|.gF a<|.gF a<|.gF a<|.gF a<|.gF a<|.gF a<|.gF a<|.gF a<|.gF a<|.nil<|.gF a<|.gF a<|.q (.aX a) ?_
 refine .ag rfl<|.nil ?_
 ·exact aG () aej (kE.c.c.c.c.cy rfl (by rw[er V,aeH];simp only[aeF,aeR,aev,oQ,B,a,px];grind)) rH
 intro y hy
 refine bi<|ay<|.region<|.mo rfl ?_
 refine .ia (k+1) .add ?_
 refine .ag rfl<|.nil ?_
 ·exact aW (k+1) C (by omega) kE.c.c.c.c.c rH
 rw[dN (l:=j) (i:=k) (by have:=bC B;omega)]
 refine .exit<|bz<|bG<|bB<|ay<|.sr<|.mo rfl<|.mo rfl<|.ag rfl<|.az rfl ?_
 refine .ret (bu _ (.two (.tmp rfl) (.tmp rfl)) (.one [0] _) ?_)
 ·refine⟨N,by simp[take,bK],v5,E5,_,rfl,Q,?_⟩
  cases j.all (oQ (L.map Nm.p))with
  |true=>simpa using S
  |false=>exact aez _
theorem RS.fH{α:Type}{R:aw}{sz:Nat}{enc:α->List Value}:RS R sz enc (sZ) ([]:List α):=(OS.nil (E:=0) (sz:=sz) (enc:=enc)).rs λp a=>(by cases a)
abbrev iA:=Value×List Nat
def gL(q:iA):List Value:=[q.1]
structure NN(R:aw)(w:Value)(ll:List iA):Prop where
 rs:RS R 1 gL w ll
 all:∀q∈ll,RS R 1 dC q.1 q.2
theorem NN.mono{R R':aw}{w:Value}{c:List iA}(h:NN R w c)(a:∀b o,R b o->R' b o):NN R' w c:=⟨h.rs.mono a,λq d=>(h.all q d).mono a⟩
theorem NN.nil{R:aw}:NN R (sZ) []:=⟨RS.fH,λq a=>(by cases a)⟩
theorem oF:∀{l:List Sp} {i:Nat} {s:Sp},l[i]? =some s->cM l (i+1)=cM l i+s.bU.length
 |[],i,s,h=>by simp at h
 |x::l,0,s,h=>by
  simp only[aeS,aeT]at h
  subst h
  cases l<;>simp[cM]
 |x::l,i+1,s,h=>by
  have:=oF (l:=l) (i:=i) (by simpa using h)
  rw[cM,cM,this]
  omega
theorem ti{c:bP}(h:c.plain.right isWord de=true):c.jF/\qu c.fN:=by
 have e:=m9 h
 have d:c.plain.lp isWord=false:=by
  unfold Cf.right at h
  simp only[ae9,Bool.not_eq_true']at h
  exact h.2
 rw[pU]at d
 simp only[afg,afh,List.any_eq_false,aeI]at d
 refine⟨⟨by omega,λs f=>?_⟩,λx g=>?_⟩
 ·have:=d.2 s f
  unfold hB at this
  simp only[ae1,aeU,not_or,aeI]at this
  exact this.1
 ·have i:x.p∈c.plain.all:=by rw[<-oD];exact aeM.2 ⟨x,g,rfl⟩
  obtain⟨b,a⟩:=e _ i
  unfold mH at b
  unfold hG at a
  simp only[ae9,bne_iff_ne,ne_eq]at b
  simp only[afg,afh,aeI]at a
  exact⟨a.1.1,a.1.2,b.1.2⟩
theorem Ox(c:bP)(R:aw)(h:c.is R):Spec prog 14 [.agg c.enc.toArray] R [] λu H'=>∃T,H'=[T]/\∃w ll,u=.tuple [w,.int .i64 (c.plain.numbers isWord de).1].toArray/\NN (sg T) w ll/\ll.map (·.2)=(c.plain.numbers isWord de).2:=by
 have a1:=OC c R h
 have a2:=OE c R h
 have a3:=N1 c R h
 have a4:=uy c R h
 have c9:=oD c
 have a7:=ti (c:=c)
 have Z:∀(i:Nat) s,c.bd[i]? =some s->c.plain.bd[i]? =some s.plain:=λi s B=>by unfold bP.plain;simp only;rw[aep,B];rfl
 have c0:c.plain.bd.length=c.bd.length:=by unfold bP.plain;simp
 have d:c.plain.numbers isWord de=if c.plain.right isWord de=false then((4:Int),([]:List (List Nat)))else if ¬c.plain.dZ then(10,[])else match c.plain.gz with|none=>(14,[])|some E=>if kb E c.plain.all.length=true then(0,rows c.plain.bd (level E c.plain.all.length (c.plain.all.length+1)))else(15,[]):=rfl
 have b3:c.plain.all.length=c.fN.length:=by rw[<-c9,aen]
 have d5:=λhh=>bP.jF.fN (c:=c) hh
 have c1:=oX c.plain
 generalize f2:c.plain.numbers isWord de=nn at *
 generalize f3:c.plain=pl at *
 generalize e4:c.fN=L at *
 rw[b3]at d c1
 obtain⟨vs,vc,a9,g3⟩:=c
 have J:=h.ss
 have i1:=J.aq
 have i2:One vc:=RS.aq h.sc
 simp only at J i1 i2 Z c0⊢
 have e9:=J.le
 refine Spec.fP (H':=[[]]) (by simp) ?_
 refine Spec.body func14 rfl results14 ntmps14 rfl ?_
 refine .sr ?_
 refine .cj rfl (λb1=>?_)
 refine .ag rfl<|.ag rfl<|.zs<|.sr<|.q (.aP rfl) ?_
 refine .aR (a1.weaken cZ) (λu K=>?_)
 subst K
 refine .q .not<|.zn ?_
 refine .cond rfl (λM=>?_) λM=>?_
 refine .sr<|.ag rfl<|.az rfl ?_
 refine .ret (aI (bu _ (.two (.tmp rfl) (.tmp rfl)) (.one [1] _) ?_))
 ·refine⟨[],by simp[take,bK],sZ,[],?_,.nil,?_⟩
  ·rw[d,aem (by simpa using M)]
  ·rw[d,aem (by simpa using M)];rfl
 have b7:pl.right isWord de=true:=by simpa using M
 obtain⟨v,c8⟩:=a7 b7
 have f1:=d5 v
 rw[aek (by rw[b7];simp)]at d
 refine .kn<|.seq<|.sr<|.q (.aP rfl) ?_
 refine .aR ((a2 v).weaken cZ) (λu K=>?_)
 subst K
 refine .zn ?_
 refine .cond rfl (λN=>?_) λN=>?_
 refine .sr<|.ag rfl<|.az rfl ?_
 refine .ret (aI (bu _ (.two (.tmp rfl) (.tmp rfl)) (.one [1] _) ?_))
 ·refine⟨[],by simp[take,bK],sZ,[],?_,.nil,?_⟩
  ·rw[d,aem (by simpa using N)]
  ·rw[d,aem (by simpa using N)];rfl
 have d8:pl.dZ:=by simpa using N
 rw[aek (λhh=>hh d8)]at d
 refine .kn<|.sr<|.q (.aP rfl) ?_
 refine .dq ((a3 v c8).weaken cZ) (λu T4 K=>?_)
 obtain⟨w4,E4,ok,rfl,a5,r⟩:=K
 have i4:=a5.aq
 refine .mo rfl<|.q .extract<|.q .extract<|.ag rfl<|.ag rfl<|.zs<|.sr<|.mo rfl<|.q .not<|.zn ?_
 refine .cond rfl (λh3=>?_) λh3=>?_
 have I:ok=false:=by simpa using h3
 have U:pl.gz=none:=by
  cases he:pl.gz with
  |none=>rfl
  |some E=>rw[he]at r;rw[r.1]at I;cases I
 rw[U]at d
 simp only at d
 refine .sr<|.ag rfl<|.az rfl ?_
 refine .ret (aI (bu _ (.two (.tmp rfl) (.tmp rfl)) (.one [2] _) ?_))
 ·refine⟨[],by simp[take,bK],sZ,[],?_,.nil,?_⟩
  ·rw[d]
  ·rw[d];rfl
 have I:ok=true:=by simpa using h3
 obtain⟨E,U,c7⟩:∃E,pl.gz=some E/\E4=E.map Ed.m:=by
  cases he:pl.gz with
  |none=>rw[he]at r;rw[show ok=false from r]at I;cases I
  |some E=>rw[he]at r;exact⟨E,rfl,r.2⟩
 subst c7
 rw[U]at d
 simp only at d
 have b0:∀e∈E,e.f<L.length/\e.t<L.length:=by
  have:=pi U
  rw[b3]at this
  exact this
 have f6:(L.length+1)*(L.length+1)<=1000000:=aeB (Nat.mul_le_mul (by omega:L.length+1<=257) (by omega:L.length+1<=257)) (by decide)
 refine .kn<|.sr<|.q (.aP rfl) ?_
 refine .dq ((a4 v).weaken cZ) (λu T6 c2=>?_)
 have i6:=c2.aq
 refine .q (.fD c2) ?_
 refine .ag rfl<|.z<|.mo rfl<|.mo rfl<|.mo rfl ?_
 refine .ia (L.length+1) .add ?_
 refine .dq (zA w4 E L.length (L.length+1) _ a5.rx b0 (by omega) (by omega)) (λu T7 a0=>?_)
 have i7:=a0.aq
 refine .ag rfl<|.z<|.mo rfl<|.mo rfl<|.mo rfl ?_
 refine .ia (L.length+1) .add ?_
 refine .mo rfl ?_
 refine .ia (L.length+1) .add ?_
 refine .q (.i64 (((L.length+1)*(L.length+1):Nat):Int) .mul ⟨by rw[Int.natCast_mul],by omega,by omega⟩) ?_
 refine .dq (zA w4 E L.length ((L.length+1)*(L.length+1)) _ a5.rx b0 (by omega) (by omega)) (λu8 T8 c3=>?_)
 have i8:=c3.aq
 have e7:(level E L.length (L.length+1)).length=L.length:=kM _
 have e8:(level E L.length ((L.length+1)*(L.length+1))).length=L.length:=kM _
 refine .ag rfl<|.zs<|.sr<|.az rfl<|.block ?_
 refine .cL [(1,_),(6,_),(7,_),(8,_)] (X:=Nat) (λi=>i<=L.length/\∀j,j<i->(level E L.length (L.length+1))[j]? =(level E L.length ((L.length+1)*(L.length+1)))[j]? /\(level E L.length (L.length+1)).getD j 0<L.length) (λi E=>(9,iN i)::E) (λ_ G=>G) (λi=>L.length-i) 0 ⟨ael _,λj V=>absurd V (by omega)⟩ kE.c.c.c.c.c rH ?_
 rintro i ⟨hi,hq⟩
 refine .seq<|.sr<|.mo rfl<|.mo rfl<|.q .lss<|.zn ?_
 refine .cond rfl (λh4=>?_) λh4=>?_
 have Y:i<L.length:=cF h4
 obtain⟨a,p⟩:∃a,(level E L.length (L.length+1))[i]? =some a:=⟨_,bE (by omega)⟩
 obtain⟨b,l⟩:∃b,(level E L.length ((L.length+1)*(L.length+1)))[i]? =some b:=⟨_,bE (by omega)⟩
 refine .kn<|.seq<|.block<|.seq ?_
 refine bF.dt [(1,_),(6,_),(7,_),(8,_),(9,_)] kE.c.c.c.c.c (X:=Unit) (λ_=>True) (λ_ E=>(64,.bool (decide (a≠b\/L.length<=a)))::E) (λ_=>[T8,T7,T6,T4,bl b1 [vs,vc] 25,[]]) ?_ ?_
 refine .eo mixed (by kernel_rfl) ?_
 refine .mo rfl<|.mo rfl ?_
 refine .bH i a0 p (λf8=>?_)
 refine .lo rfl<|.mo rfl<|.mo rfl ?_
 refine .bH i c3 l (λf9=>?_)
 refine .lo rfl<|.q .eT<|.mo rfl ?_
 refine .split (t:=57) rfl (λg=>?_) (λg=>?_)
 refine .gF g<|.gF g<|.gF g<|.gF g<|.gF g<|.gF g<|.q (.aZ g) ?_
 refine .nil ?_
 ·exact aG () aej (kE.c.c.c.c.c.cy rfl (by clear a1 a2 a3 a4 a7 Z hq;grind)) rH
 refine .gT g<|.mo rfl<|.gT g<|.mo rfl<|.gT g ?_
 refine .bH i a0 p (λg0=>?_)
 refine .gT g<|.lo rfl<|.gT g<|.mo rfl<|.gT g<|.q .geq<|.q (.aX g) ?_
 refine .nil ?_
 ·exact aG () aej (kE.c.c.c.c.c.cy rfl (by clear a1 a2 a3 a4 a7 Z hq;grind)) rH
 intro y hy
 refine ay ?_
 refine .cond rfl (λD=>?_) λD=>?_
 refine .sr<|.ag rfl<|.az rfl ?_
 refine .ret (bf (aI (cK (bf (aI (bu _ (.two (.tmp rfl) (.tmp rfl)) (.one [5] _) ?_))))))
 ·have b4:¬kb E L.length=true:=by
   intro S
   unfold kb at S
   rw[ae9,List.all_eq_true]at S
   have H:=cq S.1
   have h8:=S.2 a (aV p)
   rw[H,l]at p
   cases p
   have h5':=cq D
   have h9:=cq h8
   rcases h5' with h5'|h5'
   ·exact h5' rfl
   ·omega
  refine⟨[],by simp[take,bK],sZ,[],?_,.nil,?_⟩
  ·rw[d,aek b4]
  ·rw[d,aek b4];rfl
 refine .skip<|bi<|ay<|.region<|.mo rfl ?_
 refine .ia (i+1) .add ?_
 refine .ag rfl<|.nil ?_
 ·exact aW (i+1) ⟨Y,λj V=>by
   rcases aeO j i with hh|hh
   ·exact hq j hh
   ·obtain rfl:j=i:=by omega
    have h5':=bC D
    simp only[ne_eq,not_or,afi,Nat.not_le]at h5'
    exact⟨by rw[p,l,h5'.1],by rw[aer,p];exact h5'.2⟩⟩ (by omega) kE.c.c.c.c.c rH
 have e5:i=L.length:=by have:=bC h4;omega
 have d1:kb E L.length=true:=by
  unfold kb
  rw[ae9]
  refine⟨aeL (List.ext_getElem? λj=>?_),?_⟩
  ·rcases aeO j i with hh|hh
   ·exact(hq j hh).1
   ·rw[List.getElem?_eq_none (by omega),List.getElem?_eq_none (by omega)]
  ·rw[List.all_eq_true]
   intro x hx
   obtain⟨j,V,e⟩:=aeP.1 hx
   have:=(hq j (by omega)).2
   rw[aer,bE V,e]at this
   exact aeL this
 rw[aem d1]at d
 generalize f0:level E L.length (L.length+1)=A at *
 refine .exit<|bz<|bG<|bB<|ay<|.sr<|.ag rfl<|.z<|.ag rfl<|.zs<|.sr<|.az rfl<|.block ?_
 refine .cL [(1,_),(7,_)] (X:=Nat×Value×List iA×aH×aH) (λy=>y.1<=a9.length/\OS 113 1 gL y.2.1 y.2.2.1 y.2.2.2.1/\(∀q∈y.2.2.1,RS (sg y.2.2.2.2) 1 dC q.1 q.2)/\y.2.2.1.map (·.2)=(rows pl.bd A).take y.1) (λy E=>(12,iN y.1)::(11,.int .i64 (cM pl.bd y.1:Nat))::(10,y.2.1)::E) (λy G=>y.2.2.2.1::y.2.2.2.2::G) (λy=>a9.length-y.1) (0,sZ,[],[],[]) ⟨ael _,OS.nil,λq hq=>(by cases hq),by simp⟩ ((kE.c.c.c.mW rfl (by cases pl.bd<;>rfl)).cons rfl) bp.iG ?_
 rintro⟨i,e1,ll,c5,Tp⟩ ⟨d2,O,a6,W⟩
 simp only at d2 O a6 W⊢
 have f7:=O.aq
 have e6:ll.length<=16:=by
  have D:=aeo List.length W
  rw[aen,aes,oM]at D
  have F:=v.1
  simp only at F
  omega
 refine .seq<|.sr<|.mo rfl<|.fa rfl<|.lo rfl<|.q (.bL J) ?_
 refine .q .lss<|.zn ?_
 refine .cond rfl (λF=>?_) λF=>?_
 have Y:i<a9.length:=cF F
 obtain⟨s,B⟩:=cm Y
 have d7:=h.all _ (aV B)
 have b9:=d7.rs
 have f4:=b9.le
 have f5:s.bU.length<=16:=v.2 s (aV B)
 have a8:=Z i s B
 have b8:=qb (n:=A) a8
 have b5:=oF a8
 have b6:=rL a8
 have d6:s.plain.bU.length=s.bU.length:=by simp[cC.plain]
 rw[d6]at b8 b5 b6
 rw[c1]at b6
 refine .kn<|.seq<|.block<|.sr<|.ag rfl<|.zs<|.sr<|.az rfl<|.block ?_
 refine .cL [(1,_),(7,_),(10,_),(12,_)] (X:=Nat×Value×aH) (λy=>y.1<=s.bU.length/\OS 3 1 dC y.2.1 ((A.drop (cM pl.bd i)).take y.1) y.2.2) (λy E=>(14,iN y.1)::(11,.int .i64 (cM pl.bd i+y.1:Nat))::(13,y.2.1)::E) (λy G=>y.2.2::G) (λy=>s.bU.length-y.1) (0,sZ,[]) ⟨ael _,OS.nil⟩ kE.c.c.c.c.c.c.c bp.jT ?_
 rintro⟨k,c4,c6⟩ ⟨hk,Q⟩
 simp only at hk Q⊢
 have d9:=Q.aq
 refine .seq<|.sr<|.mo rfl<|.fa rfl<|.lo rfl<|.mo rfl ?_
 refine .bI i J B (λg1=>?_)
 refine .fa rfl<|.lo rfl<|.q (.bL b9) ?_
 refine .q .lss<|.zn ?_
 refine .cond rfl (λH=>?_) λH=>?_
 have d4:k<s.bU.length:=cF H
 obtain⟨a,p⟩:∃a,A[cM pl.bd i+k]? =some a:=⟨_,bE (by omega)⟩
 have d0:(A.drop (cM pl.bd i)).take (k+1)=(A.drop (cM pl.bd i)).take k++[a]:=er (by rw[List.getElem?_drop,p])
 refine .kn<|.seq<|.block<|.sr<|.mo rfl<|.mo rfl<|.mo rfl ?_
 refine .bH (cM pl.bd i+k) a0 p (λg2=>?_)
 refine .lo rfl ?_
 refine .jB (λe2=>?_)
 refine .append Q (RS.lits (xs:=[a]) rfl (by simp[dC]) (by simp[dC,aq])) (by simp only[aes,aew];omega) (λv1 T1 C=>?_)
 rw[<-d0]at C
 have e0:=C.aq
 refine .az rfl<|.region<|.mo rfl ?_
 refine .ia (cM pl.bd i+(k+1)) .add ?_
 refine .ag rfl<|.nil<|bi<|ay<|.region<|.mo rfl ?_
 refine .ia (k+1) .add ?_
 refine .ag rfl<|.nil ?_
 ·exact aW (k+1,v1,T1) ⟨d4,C⟩ (by simp only;omega) kE.c.c.c.c.c.c.c (aQ [1,1,1,1,1,1,1,1,1])
 have b2:k=s.bU.length:=by have:=bC H;omega
 refine .exit<|bz<|bG<|bB<|ay<|.region<|.mo rfl<|.mo rfl ?_
 refine .jB (λe3=>?_)
 refine .append O (RS.lits (xs:=[((c4,(A.drop (cM pl.bd i)).take k):iA)]) rfl (by simp[gL]) (by simp[gL,d9.h])) (by simp only[aew];omega) (λv1 T1 C=>?_)
 have e0:=C.aq
 refine .ag rfl<|.nil<|bi<|ay<|.region<|.mo rfl ?_
 refine .ia (i+1) .add ?_
 refine .ag rfl<|.nil ?_
 ·exact aW (i+1,v1,ll++[(c4,(A.drop (cM pl.bd i)).take k)],T1,c6++Tp) ⟨Y,C,λq hq=>by
   rcases ae2.1 hq with hq|hq
   ·exact(a6 q hq).mono λb o l=>gh l
   ·rw[aeD]at hq
    subst hq
    exact Q.sg.mono λb o l=>hU l,by simp only;rw[aeq,W,er b8,b2];rfl⟩ (by simp only;omega) ((kE.c.c.c.mW rfl (by simp only;rw[b5,b2])).cons rfl) ((aQ [2,1,1,1,1,1,1,1]).trans (bp.eu (by simp[take,bK])))
 refine .exit<|bz<|bG<|bB<|ay<|.sr<|.mo rfl<|.ag rfl<|.az rfl ?_
 refine .ret (bu _ (.two (.tmp rfl) (.tmp rfl)) (.one [0,0] _) ?_)
 ·have d3:pl.bd.length<=i:=by rw[c0];have:=bC F;omega
  refine⟨c5++Tp,by simp[take,bK],e1,ll,?_,⟨O.sg.mono λb o l=>hU l,λq hq=>(a6 q hq).mono λb o l=>gh l⟩,?_⟩
  ·rw[d]
  ·rw[d,W]
   exact dN (by rw[oM];exact d3)
theorem Mh(n:Nd)(w:n.fits)(R:aw):Spec prog 163 [.agg n.enc.toArray] R [] λu H'=>u=.bool (n.leaf isWord)/\H'=[]:=by
 obtain⟨k,j,m,a,b⟩:=n
 obtain⟨i,l⟩:=w
 simp only at i l
 refine Spec.body func163 rfl results163 ntmps163 rfl ?_
 refine .sr ?_
 refine .cj rfl (λo=>?_)
 refine .ag rfl<|.zs<|.seq ?_
 refine bF.dt [(1,_)] kE.c (X:=Unit) (λ_=>True) (λ_ E=>(10,.bool (!(a==0&&b==0)))::E) (λ_=>[bl o (Nd.enc ⟨k,j,m,a,b⟩) 204]) ?_ ?_
 refine .region<|.fa rfl<|.lo rfl<|.q .eT<|.mo rfl ?_
 refine .split (t:=6) rfl (λd=>?_) (λd=>?_)
 refine .gF d<|.gF d<|.gF d<|.q (.aZ d) ?_
 refine .nil ?_
 ·exact aG () aej (kE.c.cy rfl (by grind)) rH
 refine .gT d<|.fa rfl<|.gT d<|.lo rfl<|.gT d<|.q .eT<|.q (.aX d) ?_
 refine .nil ?_
 ·exact aG () aej (kE.c.cy rfl (by grind)) rH
 intro y x
 refine ay ?_
 refine .cond rfl (λp=>?_) λp=>?_
 refine .sr<|.az rfl ?_
 refine .ret (aI (aM rfl ?_))
 ·refine⟨aeo _ ?_,rfl⟩
  simp only[Nd.leaf]
  grind
 refine .kn<|.seq<|.sr<|.fa rfl<|.lo rfl<|.zn<|.block<|.sr<|.q .bw<|.az rfl ?_
 refine .cond rfl (λr=>?_) λr=>?_
 refine .sr<|.fa rfl<|.lo rfl<|.q .ec<|.mo rfl ?_
 refine .split (t:=18) rfl (λe=>?_) (λe=>?_)
 refine .gT e<|.fa rfl<|.gT e<|.lo rfl<|.gT e<|.q .ec<|.q (.aZ e) ?_
 refine .az rfl ?_
 refine .ret (bf (aI (aM rfl ?_)))
 ·refine⟨aeo _ ?_,rfl⟩
  simp only[Nd.leaf]
  grind
 refine .gF e<|.gF e<|.gF e<|.q (.aX e) ?_
 refine .az rfl ?_
 refine .ret (bf (aI (aM rfl ?_)))
 ·refine⟨aeo _ ?_,rfl⟩
  simp only[Nd.leaf]
  grind
 refine .sr<|.q .bw<|.az rfl ?_
 refine .cond rfl (λs=>?_) λs=>?_
 refine .sr<|.fa rfl<|.lo rfl ?_
 refine .aR (kU j i _) (λu h=>?_)
 subst h
 refine .mo rfl ?_
 refine .split (t:=28) rfl (λf=>?_) (λf=>?_)
 refine .gT f<|.fa rfl<|.gT f<|.lo rfl<|.gT f<|.q .ec<|.q (.aZ f) ?_
 refine .az rfl ?_
 refine .ret (bf (aI (aM rfl ?_)))
 ·refine⟨aeo _ ?_,rfl⟩
  simp only[Nd.leaf]
  grind
 refine .gF f<|.gF f<|.gF f<|.q (.aX f) ?_
 refine .az rfl ?_
 refine .ret (bf (aI (aM rfl ?_)))
 ·refine⟨aeo _ ?_,rfl⟩
  simp only[Nd.leaf]
  grind
 refine .sr<|.q .bw<|.az rfl ?_
 refine .cond rfl (λv=>?_) λv=>?_
 refine .sr<|.fa rfl<|.lo rfl ?_
 refine .aR (kU j i _) (λu h=>?_)
 subst h
 refine .mo rfl ?_
 refine .split (t:=38) rfl (λg=>?_) (λg=>?_)
 refine .gT g<|.fa rfl<|.gT g<|.lo rfl<|.gT g ?_
 refine .aR (kU m l _) (λu h=>?_)
 subst h
 refine .q (.aZ g) ?_
 refine .az rfl ?_
 refine .ret (bf (aI (aM rfl ?_)))
 ·refine⟨aeo _ ?_,rfl⟩
  simp only[Nd.leaf]
  grind
 refine .gF g<|.gF g<|.gF g<|.q (.aX g) ?_
 refine .az rfl ?_
 refine .ret (bf (aI (aM rfl ?_)))
 ·refine⟨aeo _ ?_,rfl⟩
  simp only[Nd.leaf]
  grind
 refine .skip<|bi<|ay<|.sr<|.az rfl ?_
 refine .ret (aM rfl ?_)
 ·refine⟨aeo _ ?_,rfl⟩
  simp only[Nd.leaf]
  grind
theorem s6(W:ByteArray->Bool):∀(a b:List Nd) (S:List (Nat×Nat)),je W (a++b) S=(je W a S).bind (je W b)
 |[],b,S=>rfl
 |n::a,b,S=>by
  rw[List.cons_append,je,je]
  cases gU W S n with
  |none=>rfl
  |some S'=>exact s6 W a b S'
theorem qf{α:Type}{A:List α}{i k:Nat}{x z:α}(a:A.length=i):(A++List.replicate (k+1) z).set i x=(A++[x])++List.replicate k z:=by
 subst a
 rw[List.set_append_right _ _ (Nat.le_refl _),ae3,List.replicate_succ,List.set_cons_zero]
 simp
theorem pK{A:List Nat}{j k:Nat}{a:Nat}(h:A[j]? =some a):(A++List.replicate k 0)[j]? =some a:=by
 rw[List.getElem?_append_left (aex.1 h).1]
 exact h
def ml(S:List (Nat×Nat))(n:Nd):Prop:=n.rel≠⟨#[]⟩\/n.dx≠⟨#[]⟩\/n.b≠(S.length:Int)-1\/n.b<0\/n.a≠(S.length:Int)-1-(S.getD (S.length-1) (0,0)).1\/n.a<0
instance(S:List (Nat×Nat))(n:Nd):Decidable (ml S n):=by unfold ml;infer_instance
theorem BU{S:List (Nat×Nat)}{n:Nd}(ho:n.op=true)(h:ml S n):gU isWord S n=none:=by
 unfold gU
 rw[aem ho]
 exact aem h
theorem BV{S:List (Nat×Nat)}{n:Nd}(ho:n.op=true)(h:¬ml S n):gU isWord S n=some (S++[((S.getD n.a.toNat (0,0)).1+(S.getD n.b.toNat (0,0)).1+1,max (S.getD n.a.toNat (0,0)).2 (S.getD n.b.toNat (0,0)).2+1)]):=by
 unfold gU
 rw[aem ho]
 exact aek h
theorem wA{l:List Nd}{i:Nat}{n:Nd}{S:List (Nat×Nat)}(c:l[i]? =some n)(a:je isWord (l.take i) []=some S)(h:gU isWord S n=none):oh isWord l=0:=by
 have b:l=l.take i++n::l.drop (i+1):=by
  rw[<-afa i l]
  congr 1
  ·rw[afa]
  ·rw[afa];exact wF c
 have:je isWord l []=none:=by
  rw[b,s6,a,aeQ,je,h]
  rfl
 unfold oh
 rw[this]
theorem wB(v:Value)(l:List Nd)(R:aw)(h:RS R 5 Nd.enc v l)(s:∀x∈l,x.fits)(c7:l.length<=1000000):
    Spec prog 125 [v] R [] λu H'=>u=.int .i64 (fC isWord l:Nat)/\H'=[]:=by
  rw[<-BH]
  have iv:=h.aq
  refine Spec.body func125 rfl results125 ntmps125 rfl ?_
  refine .sr<|.ag rfl<|.zs ?_
  refine bF.dt [(0,_)] kE.c (X:=(Nat×aH)×(Nat×aH)) (λy=>OS 3 1 dC (.slice (some ⟨y.1.1,0,none⟩) l.length l.length) (List.replicate l.length 0) y.1.2/\OS 3 1 dC (.slice (some ⟨y.2.1,0,none⟩) l.length l.length) (List.replicate l.length 0) y.2.2) (λy E=>(3,.slice (some ⟨y.1.1,0,none⟩) l.length l.length)::(4,.slice (some ⟨y.2.1,0,none⟩) l.length l.length)::E) (λy=>[y.1.2,y.2.2]) ?_ ?_
  refine .dg [2,5] mixed ?_
  refine .tK 0 rfl .move ?_
  refine .tK 1 rfl (.bL h) ?_
  refine .tK 3 rfl .move ?_
  refine .tK 4 rfl (.bL h) ?_
  refine RA.kR 2 5 rfl rfl (by kernel_rfl) rfl ?_ ?_
  refine .makeSlice (enc:=dC) l.length 0 rfl rfl (by decide) (by simp[dC,aq]) rfl rfl (by omega) (by omega) (λL w d=>?_)
  refine .nil (Next.mod rfl ?_)
  refine .tK 6 rfl .assign ?_
  refine .sT 5 rfl ?_
  refine .makeSlice (enc:=dC) l.length 0 rfl rfl (by decide) (by simp[dC,aq]) rfl rfl (by omega) (by omega) (λM A e=>?_)
  refine .nil (Next.mod rfl ?_)
  refine .tK 7 rfl .assign ?_
  refine RA.nil (by kernel_rfl) ?_
  ·first
      |exact aG ((L,w),(M,A)) ⟨d,e⟩ kE.c.c.c (aQ [0,0])
      |exact aG ((L,w),(M,A)) ⟨d,e⟩ kE.c.c.c (aQ [1,0])
  refine .makeSlice (enc:=dC) l.length 0 rfl rfl (by decide) (by simp[dC,aq]) rfl rfl (by omega) (by omega) (λM A e=>?_)
  refine .nil (Next.mod rfl ?_)
  refine .sT 2 rfl ?_
  refine .makeSlice (enc:=dC) l.length 0 rfl rfl (by decide) (by simp[dC,aq]) rfl rfl (by omega) (by omega) (λL w d=>?_)
  refine .nil (Next.mod rfl ?_)
  refine .tK 6 rfl .assign<|.tK 7 rfl .assign ?_
  refine RA.nil (by kernel_rfl) ?_
  ·first
      |exact aG ((L,w),(M,A)) ⟨d,e⟩ kE.c.c.c (aQ [0,0])
      |exact aG ((L,w),(M,A)) ⟨d,e⟩ kE.c.c.c (aQ [1,0])
  intro y hy
  obtain⟨⟨L,w⟩,⟨M,A⟩⟩:=y
  obtain⟨d,e⟩:=hy
  simp only at d e⊢
  refine ay<|.seq<|.sr<|.mo rfl<|.q (.bL h) ?_
  refine .mo rfl<|.zn<|.block ?_
  refine .cL [(0,_),(3,_),(4,_),(13,_),(14,_)] (X:=Nat×List (Nat×Nat)×aH×aH) (λy=>y.1<=l.length/\y.2.1.length=y.1/\je isWord (l.take y.1) []=some y.2.1/\DI isWord l y.2.1/\OS 3 1 dC (.slice (some ⟨L,0,none⟩) l.length l.length) (y.2.1.map (·.1)++List.replicate (l.length-y.1) 0) y.2.2.1/\OS 3 1 dC (.slice (some ⟨M,0,none⟩) l.length l.length) (y.2.1.map (·.2)++List.replicate (l.length-y.1) 0) y.2.2.2) (λy E=>(15,iN y.1)::E) (λy _=>[y.2.2.1,y.2.2.2]) (λy=>l.length-y.1) (0,[],w,A) ⟨ael _,rfl,rfl,⟨ael _,λj hj=>absurd hj (by simp)⟩,by simpa using d,by simpa using e⟩ kE.c.c.c.c.c.c rH (G:=[]) ?_
  rintro⟨i,S,w,A⟩ ⟨hi,o,Q,m,d,e⟩
  simp only at hi o Q m d e⊢
  refine .sr<|.q .lss<|.zs ?_
  refine .cond rfl (λh1=>?_) λh1=>?_
  have W:i<l.length:=cF h1
  obtain⟨n,J⟩:=cm W
  obtain⟨k,hk⟩:∃k,l.length-i=k+1:=⟨l.length-i-1,by omega⟩
  have K:l.length-(i+1)=k:=by omega
  rw[hk]at d e
  have Y:je isWord (l.take (i+1)) []=gU isWord S n:=by
    rw[er J,s6,Q,aeQ,je]
    cases gU isWord S n<;>rfl
  have a3:(S.map (·.1)).length=i:=by rw[aen,o]
  have a4:(S.map (·.2)).length=i:=by rw[aen,o]
  have r:∀j,j<i->(S.map (·.1))[j]? =some (S.getD j (0,0)).1/\(S.map (·.2))[j]? =some (S.getD j (0,0)).2/\(S.getD j (0,0)).1<=j+1/\(S.getD j (0,0)).2<=j+1/\1<=(S.getD j (0,0)).1:=λj hj=>by
    obtain⟨d1,d2,d3⟩:=m.t j (by omega)
    have d4:=uW _ _ _ d3
    refine⟨?_,?_,d2,d4,d1⟩
    ·rw[aep,bE (by omega),aer,bE (by omega)];rfl
    ·rw[aep,bE (by omega),aer,bE (by omega)];rfl
  obtain⟨z1,a0⟩:∃z,(S.map (·.1)++List.replicate (k+1) 0)[i]? =some z:=⟨_,bE (by rw[aet,a3,aeE];omega)⟩
  obtain⟨z2,a1⟩:∃z,(S.map (·.2)++List.replicate (k+1) 0)[i]? =some z:=⟨_,bE (by rw[aet,a4,aeE];omega)⟩
  have b4:=h.le
  refine .kn<|.seq<|.block<|.sr<|.mo rfl ?_
  refine .bI i h J (λd7=>?_)
  refine .q (.aP rfl) ?_
  refine .bV (λb6=>?_)
  refine .ag rfl<|.bN rfl rfl<|.zs<|.seq ?_
  refine bF.dt [(0,_),(3,_),(4,_),(5,_),(6,_),(13,_),(14,_),(15,_)] kE.c.c.c.c.c.c.c.c (X:=Unit) (λ_=>True) (λ_ E=>(32,.bool (!n.op))::E) (λ_=>[bl b6 n.enc 204,w,A]) ?_ ?_
  refine .region<|.fa rfl<|.lo rfl<|.q .eT<|.mo rfl ?_
  refine .split (t:=23) rfl (λB=>?_) (λB=>?_)
  refine .gT B<|.fa rfl<|.gT B<|.lo rfl<|.gT B<|.q .eT<|.q (.aZ B) ?_
  refine .mo rfl ?_
  refine .split (t:=28) rfl (λC=>?_) (λC=>?_)
  refine .gT C<|.fa rfl<|.gT C<|.lo rfl<|.gT C<|.q .eT<|.q (.aZ C) ?_
  refine .nil ?_
  ·exact aG () aej (kE.c.c.c.c.c.c.c.c.cy rfl (by clear r m d e s;grind[Nd.op])) rH
  refine .gF C<|.gF C<|.gF C<|.q (.aX C) ?_
  refine .nil ?_
  ·exact aG () aej (kE.c.c.c.c.c.c.c.c.cy rfl (by clear r m d e s;grind[Nd.op])) rH
  refine .gF B<|.gF B<|.gF B<|.q (.aX B) ?_
  refine .mo rfl<|.gX<|.gX<|.gX<|.q .cb<|.nil ?_
  ·exact aG () aej (kE.c.c.c.c.c.c.c.c.cy rfl (by clear r m d e s;grind[Nd.op])) rH
  intro y hy
  refine ay ?_
  refine .cond rfl (λV=>?_) λV=>?_
  refine .seq<|.sr<|.q (.aP rfl) ?_
  refine .aR (Mh n (s n (aV J)) _) (λu hu=>?_)
  subst hu
  refine .q .not<|.zn ?_
  refine .cond rfl (λh3=>?_) λh3=>?_
  refine .sr<|.az rfl ?_
  refine .ret (aI (aI (bf (aI (cK (bf (aI (aM rfl ?_))))))))
  ·refine⟨?_,rfl⟩
   rw[wA J Q (by unfold gU;rw[aek (by have a5:n.op=false:=by simpa using V
                                      rw[a5];simp),aek (by simpa using h3)])]
   rfl
  have a5:n.op=false:=by simpa using V
  have b5:n.leaf isWord=true:=by simpa using h3
  have I:gU isWord S n=some (S++[(1,1)]):=by unfold gU;rw[aek (by rw[a5];simp),aem b5]
  refine .kn<|.sr<|.mo rfl<|.mo rfl<|.mo rfl<|.mo rfl ?_
  refine .bH i d a0 (λd8=>?_)
  refine .l8 i d a0 1 (λT N=>?_)
  rw[qf a3]at N
  refine .bH i e a1 (λd9=>?_)
  refine .l8 i e a1 1 (λU O=>?_)
  rw[qf a4]at O
  refine .zn<|.exit<|bz<|bB<|ay<|.region ?_
  refine .ia (i+1) .add ?_
  refine .mo rfl<|.nil ?_
  ·first
      |exact aW (i+1,S++[(1,1)],T,U) ⟨W,by simp[o],by simp only;rw[Y,I],m.step (by rw[o];exact J) I,by simp only;rw[K,aeq];exact N,by simp only;rw[K,aeq];exact O⟩ (by simp only;omega) kE.c.c.c.c.c.c (aQ [1,1])
      |exact aW (i+1,S++[((S.getD n.a.toNat (0,0)).1+(S.getD (i-1) (0,0)).1+1,max (S.getD n.a.toNat (0,0)).2 (S.getD (i-1) (0,0)).2+1)],T,U) ⟨W,by simp[o],by simp only;rw[Y,I],m.step (by rw[o];exact J) I,by simp only;rw[K,aeq];exact N,by simp only;rw[K,aeq];exact O⟩ (by simp only;omega) kE.c.c.c.c.c.c (aQ [1,1])
  refine .kn<|.seq<|.seq ?_
  refine bF.dt [(0,_),(3,_),(4,_),(5,_),(6,_),(13,_),(14,_),(15,_)] kE.c.c.c.c.c.c.c.c (X:=Unit) (λ_=>True) (λ_ E=>(79,.bool (decide (n.rel≠⟨#[]⟩\/n.dx≠⟨#[]⟩\/n.b≠(i:Int)-1\/n.b<0\/n.a≠(i:Int)-1-((S.getD (i-1) (0,0)).1:Nat)\/n.a<0)))::E) (λ_=>[bl b6 n.enc 204,w,A]) ?_ ?_
  refine .eo mixed (by kernel_rfl) ?_
  refine .fa rfl<|.lo rfl<|.q .gd<|.mo rfl ?_
  refine .split (t:=45) rfl (λF=>?_) (λF=>?_)
  refine .gF F<|.gF F<|.gF F<|.q (.aZ F) ?_
  refine .mo rfl<|.gX<|.gX<|.gX<|.gX<|.gX<|.q .ca<|.mo rfl<|.gX<|.gX<|.gX<|.q .ca<|.mo rfl<|.gX<|.gX<|.gX<|.gX<|.gX<|.gX<|.gX<|.gX<|.gX<|.gX<|.gX<|.q .ca<|.mo rfl<|.gX<|.gX<|.gX<|.q .ca<|.nil ?_
  ·exact aG () aej (kE.c.c.c.c.c.c.c.c.cy rfl (by clear r m d e s;grind)) rH
  refine .gT F<|.fa rfl<|.gT F<|.lo rfl<|.gT F<|.q .gd<|.q (.aX F) ?_
  refine .mo rfl ?_
  refine .split (t:=50) rfl (λp=>?_) (λp=>?_)
  refine .gF p<|.gF p<|.gF p<|.gF p<|.gF p<|.q (.aZ p) ?_
  refine .mo rfl<|.gX<|.gX<|.gX<|.q .ca<|.mo rfl<|.gX<|.gX<|.gX<|.gX<|.gX<|.gX<|.gX<|.gX<|.gX<|.gX<|.gX<|.q .ca<|.mo rfl<|.gX<|.gX<|.gX<|.q .ca<|.nil ?_
  ·exact aG () aej (kE.c.c.c.c.c.c.c.c.cy rfl (by clear r m d e s;grind)) rH
  refine .gT p<|.fa rfl<|.gT p<|.lo rfl<|.gT p<|.mo rfl<|.gT p ?_
  refine .q (.i64 ((i:Int)-1) .sub ⟨rfl,by omega,by omega⟩) ?_
  refine .gT p<|.q .eT<|.q (.aX p) ?_
  refine .mo rfl ?_
  refine .split (t:=57) rfl (λD=>?_) (λD=>?_)
  refine .gF D<|.gF D<|.gF D<|.q (.aZ D) ?_
  refine .mo rfl<|.gX<|.gX<|.gX<|.gX<|.gX<|.gX<|.gX<|.gX<|.gX<|.gX<|.gX<|.q .ca<|.mo rfl<|.gX<|.gX<|.gX<|.q .ca<|.nil ?_
  ·exact aG () aej (kE.c.c.c.c.c.c.c.c.cy rfl (by clear r m d e s;grind)) rH
  refine .gT D<|.fa rfl<|.gT D<|.lo rfl<|.gT D<|.q .lss<|.q (.aX D) ?_
  refine .mo rfl ?_
  refine .split (t:=62) rfl (λf=>?_) (λf=>?_)
  refine .gF f<|.gF f<|.gF f<|.gF f<|.gF f<|.gF f<|.gF f<|.gF f<|.gF f<|.gF f<|.gF f<|.q (.aZ f) ?_
  refine .mo rfl<|.gX<|.gX<|.gX<|.q .ca<|.nil ?_
  ·exact aG () aej (kE.c.c.c.c.c.c.c.c.cy rfl (by clear r m d e s;grind)) rH
  have c6:1<=i:=by clear r m d e;grind
  obtain⟨q1,q2,q3,q4,q5⟩:=r (i-1) (by omega)
  have a7:=pK (k:=k+1) q1
  refine .gT f<|.fa rfl<|.gT f<|.lo rfl<|.gT f<|.mo rfl<|.gT f ?_
  refine .q (.i64 ((i:Int)-1) .sub ⟨rfl,by omega,by omega⟩) ?_
  refine .gT f<|.mo rfl<|.gT f<|.mo rfl<|.gT f ?_
  refine .q (.i64 ((i:Int)-1) .sub ⟨rfl,by omega,by omega⟩) ?_
  refine .gT f ?_
  refine .bH (i-1) d a7 (λe0=>?_) rfl rfl (by omega)
  refine .gT f<|.lo rfl<|.gT f ?_
  refine .q (.i64 ((i:Int)-1-((S.getD (i-1) (0,0)).1:Nat)) .sub ⟨rfl,by omega,by omega⟩) ?_
  refine .gT f<|.q .eT<|.q (.aX f) ?_
  refine .mo rfl ?_
  refine .split (t:=75) rfl (λH=>?_) (λH=>?_)
  refine .gF H<|.gF H<|.gF H<|.q (.aZ H) ?_
  refine .nil ?_
  ·exact aG () aej (kE.c.c.c.c.c.c.c.c.cy rfl (by clear r m d e s;grind)) rH
  refine .gT H<|.fa rfl<|.gT H<|.lo rfl<|.gT H<|.q .lss<|.q (.aX H) ?_
  refine .nil ?_
  ·exact aG () aej (kE.c.c.c.c.c.c.c.c.cy rfl (by clear r m d e s;grind)) rH
  intro y hy
  refine ay ?_
  refine .cond rfl (λh4=>?_) λh4=>?_
  have a6:n.op=true:=by simpa using V
  have Z:ml S n:=by unfold ml;rw[o];exact cq h4
  refine .sr<|.az rfl ?_
  refine .ret (aI (bf (aI (cK (bf (aI (aM rfl ?_)))))))
  ·refine⟨?_,rfl⟩
   rw[wA J Q (BU a6 Z)]
   rfl
  have a6:n.op=true:=by simpa using V
  have Z:¬ml S n:=by unfold ml;rw[o];exact bC h4
  have a2:=Z
  unfold ml at a2
  simp only[not_or,afi,o]at a2
  obtain⟨c0,c1,c2,c3,c4,c5⟩:=a2
  obtain⟨q1,q2,q3,q4,q5⟩:=r (i-1) (by omega)
  obtain⟨r1,r2,r3,r4,r5⟩:=r n.a.toNat (by omega)
  have a9:n.b.toNat=i-1:=by omega
  have a7:=pK (k:=k+1) q1
  have b7:=pK (k:=k+1) q2
  have b8:=pK (k:=k+1) r1
  have b9:=pK (k:=k+1) r2
  have I:gU isWord S n=some (S++[((S.getD n.a.toNat (0,0)).1+(S.getD (i-1) (0,0)).1+1,max (S.getD n.a.toNat (0,0)).2 (S.getD (i-1) (0,0)).2+1)]):=by
    rw[BV a6 Z,a9]
  refine .kn<|.seq ?_
  refine .dY 15 mixed (by kernel_rfl) ?_
  conv=>arg 6;dsimp only[List.take]
  refine .mo rfl<|.mo rfl<|.mo rfl<|.fa rfl<|.lo rfl ?_
  refine .bH n.a.toNat d b8 (λe1=>?_) rfl rfl (by omega)
  refine .lo rfl<|.mo rfl<|.fa rfl<|.lo rfl ?_
  refine .bH (i-1) d a7 (λe2=>?_) rfl rfl (by omega)
  refine .lo rfl ?_
  refine .q (.i64 (((S.getD n.a.toNat (0,0)).1+(S.getD (i-1) (0,0)).1:Nat):Int) .add ⟨by push_cast;rfl,by omega,by omega⟩) ?_
  refine .q (.i64 (((S.getD n.a.toNat (0,0)).1+(S.getD (i-1) (0,0)).1+1:Nat):Int) .add ⟨by push_cast;rfl,by omega,by omega⟩) ?_
  refine .bH i d a0 (λe3=>?_)
  refine .nil ?_
  refine .l8 i d a0 ((S.getD n.a.toNat (0,0)).1+(S.getD (i-1) (0,0)).1+1) (λT N=>?_)
  rw[qf a3]at N
  refine .zn ?_
  refine .dY 15 mixed (by kernel_rfl) ?_
  conv=>arg 6;dsimp only[List.take]
  refine .mo rfl<|.mo rfl<|.mo rfl<|.fa rfl<|.lo rfl ?_
  refine .bH n.a.toNat e b9 (λc8=>?_) rfl rfl (by omega)
  refine .lo rfl<|.mo rfl<|.fa rfl<|.lo rfl ?_
  refine .bH (i-1) e b7 (λc9=>?_) rfl rfl (by omega)
  refine .lo rfl<|.q .Mx ?_
  refine .q (.i64 ((max (S.getD n.a.toNat (0,0)).2 (S.getD (i-1) (0,0)).2+1:Nat):Int) .add ⟨by omega,by omega,by omega⟩) ?_
  refine .bH i e a1 (λd0=>?_)
  refine .nil ?_
  refine .l8 i e a1 (max (S.getD n.a.toNat (0,0)).2 (S.getD (i-1) (0,0)).2+1) (λU O=>?_)
  rw[qf a4]at O
  refine .nil<|bi<|ay<|.region ?_
  refine .ia (i+1) .add ?_
  refine .mo rfl<|.nil ?_
  ·first
      |exact aW (i+1,S++[(1,1)],T,U) ⟨W,by simp[o],by simp only;rw[Y,I],m.step (by rw[o];exact J) I,by simp only;rw[K,aeq];exact N,by simp only;rw[K,aeq];exact O⟩ (by simp only;omega) kE.c.c.c.c.c.c (aQ [1,1])
      |exact aW (i+1,S++[((S.getD n.a.toNat (0,0)).1+(S.getD (i-1) (0,0)).1+1,max (S.getD n.a.toNat (0,0)).2 (S.getD (i-1) (0,0)).2+1)],T,U) ⟨W,by simp[o],by simp only;rw[Y,I],m.step (by rw[o];exact J) I,by simp only;rw[K,aeq];exact N,by simp only;rw[K,aeq];exact O⟩ (by simp only;omega) kE.c.c.c.c.c.c (aQ [1,1])
  have b2:i=l.length:=by have:=bC h1;omega
  subst b2
  rw[aeK]at Q
  rw[ae3]at d e
  simp only[List.replicate_zero,aeu]at d e
  have b4:=h.le
  refine .exit<|bz<|bG<|bB<|ay<|.seq<|.seq ?_
  refine bF.dt [(0,_),(4,_)] kE.c.c (X:=Unit) (λ_=>True) (λ_ E=>(124,.bool (decide (l=[]\/(S.getD (l.length-1) (0,0)).1≠l.length)))::E) (λ_=>[w,A]) ?_ ?_
  refine .region<|.mo rfl<|.q (.bL h) ?_
  refine .q .bw<|.mo rfl ?_
  refine .split (t:=114) rfl (λg=>?_) (λg=>?_)
  refine .gF g<|.gF g<|.gF g<|.gF g<|.gF g<|.gF g<|.gF g<|.gF g<|.gF g<|.q (.aZ g) ?_
  refine .nil ?_
  ·exact aG () aej (kE.c.c.cy rfl (by clear s m d e;rcases l with _|⟨x,l⟩<;>simp at * <;>grind)) rH
  have b3:1<=l.length:=by have:=bC g;omega
  have b0:(S.map (·.1))[l.length-1]? =some (S.getD (l.length-1) (0,0)).1:=by rw[aep,bE (by omega),aer,bE (by omega)];rfl
  refine .gT g<|.mo rfl<|.gT g<|.mo rfl<|.gT g<|.q (.bL h) ?_
  refine .gT g ?_
  refine .q (.i64 ((l.length:Int)-1) .sub ⟨rfl,by omega,by omega⟩) ?_
  refine .gT g ?_
  refine .bH (l.length-1) d b0 (λd5=>?_) rfl rfl (by omega)
  refine .gT g<|.lo rfl<|.gT g<|.mo rfl<|.gT g<|.q (.bL h) ?_
  refine .gT g<|.q .eT<|.q (.aX g) ?_
  refine .nil ?_
  ·exact aG () aej (kE.c.c.cy rfl (by clear s m d e;rcases l with _|⟨x,l⟩<;>simp at * <;>grind)) rH
  intro y hy
  refine ay ?_
  refine .cond rfl (λh5=>?_) λh5=>?_
  refine .sr<|.az rfl ?_
  refine .ret (aI (aM rfl ?_))
  ·refine⟨?_,rfl⟩
   unfold oh
   rw[Q]
   simp only
   rw[aem (cq h5)]
   rfl
  have a8:=bC h5
  have b3:1<=l.length:=by rcases l with _|⟨x,l⟩<;>simp at a8⊢
  have b1:(S.map (·.2))[l.length-1]? =some (S.getD (l.length-1) (0,0)).2:=by rw[aep,bE (by omega),aer,bE (by omega)];rfl
  refine .kn<|.sr<|.mo rfl<|.mo rfl<|.q (.bL h) ?_
  refine .q (.i64 ((l.length:Int)-1) .sub ⟨rfl,by omega,by omega⟩) ?_
  refine .bH (l.length-1) e b1 (λd6=>?_) rfl rfl (by omega)
  refine .lo rfl<|.az rfl ?_
  refine .ret (aM rfl ?_)
  ·refine⟨?_,rfl⟩
   unfold oh
   rw[Q]
   simp only
   rw[aek a8]
theorem Ty.kinds(t:Ty):eJ [.s,.s] t.enc:=⟨aej,aej,aej⟩
theorem Ty.eq(a b:Ty):eP a.enc b.enc=decide (a=b):=by
 obtain⟨c,d⟩:=a
 obtain⟨e,f⟩:=b
 rw[Bool.eq_iff_iff]
 simp[Ty.enc,eP,mU]
theorem Mc(t:Ty)(f:t.fits)(R:aw):Spec prog 128 [.agg t.enc.toArray] R [] λu H'=>u=.bool (gZ isWord t)/\H'=[]:=by
 obtain⟨s,r⟩:=t
 obtain⟨d,e⟩:=f
 simp only at d e
 refine Spec.body func128 rfl results128 ntmps128 rfl ?_
 refine .sr ?_
 refine .cj rfl (λg=>?_)
 refine .ag rfl<|.z<|.q (.aP rfl) ?_
 refine .q .da ?_
 refine .q (.cast (.nE (xs:=Ty.enc ⟨s,r⟩) (ys:=Ty.enc ⟨⟨#[]⟩,⟨#[]⟩⟩) rfl rfl (Ty.kinds _) (Ty.kinds _)) (aeo Value.bool (Ty.eq _ _))) ?_
 refine .mo rfl ?_
 refine .split (t:=6) rfl (λa=>?_) (λa=>?_)
 refine .gF a<|.gF a<|.gF a<|.gF a<|.du rfl ?_
 refine .du rfl ?_
 refine .du rfl ?_
 refine .gF a<|.q (.aZ a) ?_
 refine .az rfl ?_
 refine .ret (aM rfl ?_)
 ·refine⟨aeo _ ?_,rfl⟩
  simp only[gZ]
  grind
 refine .gT a<|.fa rfl<|.gT a<|.lo rfl<|.gT a ?_
 refine .aR (kU s d _) (λu c=>?_)
 subst c
 refine .gT a<|.mo rfl ?_
 refine .split (t:=10) rfl (λb=>?_) (λb=>?_)
 refine .gT b<|.fa rfl<|.gT b<|.lo rfl<|.gT b ?_
 refine .aR (kU r e _) (λu c=>?_)
 subst c
 refine .gT a<|.q (.aZ b) ?_
 refine .q (.aX a) ?_
 refine .az rfl ?_
 refine .ret (aM rfl ?_)
 ·refine⟨aeo _ ?_,rfl⟩
  simp only[gZ]
  grind
 refine .gF b<|.gF b<|.gF b<|.gT a<|.q (.aX b) ?_
 refine .q (.aX a) ?_
 refine .az rfl ?_
 refine .ret (aM rfl ?_)
 ·refine⟨aeo _ ?_,rfl⟩
  simp only[gZ]
  grind
theorem Ob(t:Ty)(a:t.fits)(R:aw):Spec prog 127 [.agg t.enc.toArray] R [] λu H'=>u=.bool (!gZ isWord t)/\H'=[]:=by
 refine Spec.body func127 rfl results127 ntmps127 rfl ?_
 refine .sr ?_
 refine .cj rfl (λc=>?_)
 refine .ag rfl<|.z<|.q (.aP rfl) ?_
 refine .aR (Mc t a _) (λu b=>?_)
 subst b
 refine .q .not<|.az rfl ?_
 refine .ret (aM rfl ?_)
 ·exact⟨rfl,rfl⟩
theorem Oc(s:Sc)(h:s.fits)(R:aw):Spec prog 130 [.agg s.enc.toArray] R [] λu H'=>u=.bool (!ku isWord de s)/\H'=[]:=by
 obtain⟨n,j,i,r⟩:=s
 obtain⟨d,e,f,g⟩:=h
 simp only at d e f g
 refine Spec.body func130 rfl results130 ntmps130 rfl ?_
 refine .sr ?_
 refine .cj rfl (λk=>?_)
 refine .ag rfl<|.z<|.fa rfl<|.lo rfl ?_
 refine .aR (kU n d _) (λu c=>?_)
 subst c
 refine .q .not<|.mo rfl ?_
 refine .split (t:=7) rfl (λb=>?_) (λb=>?_)
 refine .gF b<|.gF b<|.gF b<|.gF b<|.q (.aZ b) ?_
 refine .mo rfl<|.gX<|.gX<|.gX<|.gX<|.q .ca<|.az rfl ?_
 refine .ret (aM rfl ?_)
 ·refine⟨aeo _ ?_,rfl⟩
  simp only[ku]
  grind
 refine .gT b<|.fa rfl<|.gT b<|.q (.loadT rfl) ?_
 refine .gT b ?_
 refine .aR (s0 j i e f _) (λu c=>?_)
 subst c
 refine .gT b<|.q .eT<|.q (.aX b) ?_
 refine .mo rfl ?_
 refine .split (t:=13) rfl (λa=>?_) (λa=>?_)
 refine .gF a<|.gF a<|.gF a<|.gF a<|.q (.aZ a) ?_
 refine .az rfl ?_
 refine .ret (aM rfl ?_)
 ·refine⟨aeo _ ?_,rfl⟩
  simp only[ku]
  grind
 refine .gT a<|.fa rfl<|.gT a<|.lo rfl<|.gT a ?_
 refine .aR (kU r g _) (λu c=>?_)
 subst c
 refine .gT a<|.q .not<|.q (.aX a) ?_
 refine .az rfl ?_
 refine .ret (aM rfl ?_)
 ·refine⟨aeo _ ?_,rfl⟩
  simp only[ku]
  grind
theorem MF(p:cv)(R:aw)(h:p.is R)(R':aw)(i:∀b o,R b o->R' b o):Spec prog 158 [.agg p.enc.toArray] R' [] λu H'=>u=.bool (hG isWord p.r)/\H'=[]:=by
 obtain⟨l,g,r⟩:=p
 have f:RS R 2 Ty.enc l r.types:=h.t
 have e:RS R 5 Nd.enc g r.nodes:=h.d
 have v:=f.aq
 have s:=e.aq
 refine Spec.body func158 rfl results158 ntmps158 rfl ?_
 refine .sr ?_
 refine .cj rfl (λm=>?_)
 refine .ag rfl<|.z<|.fa rfl<|.lo rfl<|.q (.bL f) ?_
 refine .q .gtr<|.mo rfl ?_
 refine .split (t:=7) rfl (λc=>?_) (λc=>?_)
 refine .gF c<|.gF c<|.gF c<|.gF c<|.q (.aZ c) ?_
 refine .mo rfl<|.gX<|.gX<|.gX<|.gX<|.q .ca<|.az rfl ?_
 refine .ret (aM rfl ?_)
 ·refine⟨aeo _ ?_,rfl⟩
  simp only[hG]
  grind
 refine .gT c<|.fa rfl<|.gT c<|.lo rfl<|.gT c<|.q (.bL e) ?_
 refine .gT c<|.q .gtr<|.q (.aX c) ?_
 refine .mo rfl ?_
 refine .split (t:=13) rfl (λa=>?_) (λa=>?_)
 refine .gF a<|.gF a<|.gF a<|.gF a<|.q (.aZ a) ?_
 refine .az rfl ?_
 refine .ret (aM rfl ?_)
 ·refine⟨aeo _ ?_,rfl⟩
  simp only[hG]
  grind
 have n:r.nodes.length<=64:=by grind
 refine .gT a<|.fa rfl<|.gT a<|.lo rfl<|.gT a ?_
 refine .aR ((wB g r.nodes R e h.fd (by omega)).weaken λb o j=>.inl (i b o j)) (λu k=>?_)
 subst k
 refine .gT a<|.q .gtr<|.q (.aX a) ?_
 refine .az rfl ?_
 refine .ret (aM rfl ?_)
 ·refine⟨aeo _ ?_,rfl⟩
  simp only[hG]
  grind
theorem Qk(c:bP)(R:aw)(h:c.is R):Spec prog 123 [.agg c.enc.toArray] R [] λu H'=>u=.bool (!c.plain.lp isWord)/\H'=[]:=by
 rw[pU]
 obtain⟨H,F,e,C⟩:=c
 have g:=h.ss
 have w:=h.sc
 have S:=g.aq
 have T:=w.aq
 simp only at g w S T⊢
 have W:=g.le
 refine Spec.body func123 rfl results123 ntmps123 rfl ?_
 refine .sr ?_
 refine .cj rfl (λz=>?_)
 refine .ag rfl<|.zs<|.seq ?_
 refine bF.dt [(1,_)] kE.c (X:=Unit) (λ_=>True) (λ_ E=>(14,.bool (decide (16<e.length)||decide (16<C.length)))::E) (λ_=>[bl z [H,F] 25]) ?_ ?_
 refine .region<|.fa rfl<|.lo rfl<|.q (.bL g) ?_
 refine .q .gtr<|.mo rfl ?_
 refine .split (t:=9) rfl (λa=>?_) (λa=>?_)
 refine .gF a<|.gF a<|.gF a<|.gF a<|.q (.aZ a) ?_
 refine .nil ?_
 ·exact aG () aej (kE.c.cy rfl (by grind)) rH
 refine .gT a<|.fa rfl<|.gT a<|.lo rfl<|.gT a<|.q (.bL w) ?_
 refine .gT a<|.q .gtr<|.q (.aX a) ?_
 refine .nil ?_
 ·exact aG () aej (kE.c.cy rfl (by grind)) rH
 intro y Q
 refine ay ?_
 refine .cond rfl (λn=>?_) λn=>?_
 refine .sr<|.az rfl ?_
 refine .ret (aI (aM rfl ?_))
 ·exact⟨by rw[n];rfl,rfl⟩
 refine .kn<|.seq<|.sr<|.fa rfl<|.lo rfl<|.q (.bL g) ?_
 refine .mo rfl<|.zn<|.block ?_
 refine .cL [(16,_),(17,_)] (X:=Nat) (λi=>i<=e.length/\(e.take i).any hB=false) (λi E=>(18,iN i)::E) (λ_ G=>G) (λi=>e.length-i) 0 ⟨ael _,rfl⟩ kE.c.c.c rH ?_
 rintro i ⟨V,B⟩
 refine .sr<|.q .lss<|.zs ?_
 refine .cond rfl (λp=>?_) λp=>?_
 have A:i<e.length:=cF p
 obtain⟨⟨D,m,k⟩,j⟩:=cm A
 have x:=h.all _ (aV j)
 have v:RS R 3 cv.enc m k:=x.rs
 have Y:=v.aq
 have Z:bZ (cC.enc ⟨D,m,k⟩):=⟨x.cN⟩
 refine .kn<|.seq<|.block<|.sr ?_
 refine .bI i g j (λa0=>?_)
 refine .q (.aP rfl) ?_
 refine .bV (λU=>?_)
 refine .bN rfl rfl<|.zs ?_
 refine bF.dt [(16,_),(17,_),(18,_)] kE.c.c.c (X:=Unit) (λ_=>True) (λ_ E=>(30,.bool (hB ⟨D,m,k⟩))::E) (λ_=>[bl z [H,F] 25]) ?_ ?_
 refine .region<|.fa rfl<|.lo rfl<|.q (.bL v) ?_
 refine .q .gtr<|.mo rfl ?_
 refine .split (t:=26) rfl (λd=>?_) (λd=>?_)
 refine .gF d<|.gF d<|.gF d<|.q (.aZ d) ?_
 refine .nil ?_
 ·exact aG () aej (kE.c.c.c.cy rfl (by unfold hB;simp only;grind)) (aQ [1])
 refine .gT d<|.fa rfl<|.gT d<|.lo rfl<|.gT d ?_
 refine .aR (LRE.jd 158 [] (λr=>hG isWord r.r) m k _ v.rx (λr N I K=>MF r R (x.all r N) I λb o L=>K b o (.inl L))) (λu O=>?_)
 subst O
 refine .q (.aX d) ?_
 refine .nil ?_
 ·exact aG () aej (kE.c.c.c.cy rfl (by unfold hB;simp only;grind)) (aQ [1])
 intro y Q
 refine ay ?_
 refine .cond rfl (λs=>?_) λs=>?_
 refine .sr<|.az rfl ?_
 refine .ret (bf (aI (cK (bf (aI (aM rfl ?_))))))
 ·refine⟨?_,rfl⟩
  rw[qF j (f:=hB) s,ae4]
  rfl
 refine .skip<|bi<|ay<|.region ?_
 refine .ia (i+1) .add ?_
 refine .mo rfl<|.nil ?_
 ·exact aW (i+1) ⟨A,sS j B s⟩ (by omega) kE.c.c.c rH
 refine .exit<|bz<|bG<|bB<|ay<|.sr<|.az rfl ?_
 refine .ret (aM rfl ?_)
 ·refine⟨?_,rfl⟩
  have J:(decide (16<e.length)||decide (16<C.length))=false:=n
  have M:e.any hB=false:=by rw[<-dN (l:=e) (i:=i) (by have:=bC p;omega)];exact B
  rw[J,M]
  rfl
theorem Od(c:bP)(R:aw)(h:c.is R):Spec prog 82 [.agg c.enc.toArray] R [] λu H'=>u=.bool (c.plain.right isWord de)/\H'=[]:=by
 have hw:=Qk c R h
 have o:c.plain.lp isWord=false->c.jF/\∀s∈c.bd,∀r∈s.bU,r.r.nodes.length<=64:=λx=>by
  rw[pU]at x
  simp only[afg,afh,List.any_eq_false,aeI]at x
  refine⟨⟨by omega,λs a=>?_⟩,λs a r o=>?_⟩
  ·have:=x.2 s a
   unfold hB at this
   simp only[ae1,aeU,not_or,aeI]at this
   exact this.1
  ·have:=x.2 s a
   unfold hB at this
   simp only[ae1,aeU,not_or,aeI,List.any_eq_true,not_exists,not_and]at this
   have p:=this.2 r o
   unfold hG at p
   simp only[ae1,aeU,not_or,aeI]at p
   exact p.1.2
 rw[zx]
 generalize a7:c.plain.lp isWord=mu at *
 obtain⟨vs,Z,A,a3⟩:=c
 have C:=h.ss
 have N:=h.sc
 have i1:=C.aq
 have i2:=N.aq
 simp only at C N i1 i2⊢
 have a5:=C.le
 refine Spec.body func82 rfl results82 ntmps82 rfl ?_
 refine .sr ?_
 refine .cj rfl (λb1=>?_)
 refine .ag rfl<|.zs<|.sr<|.q (.aP rfl) ?_
 refine .aR (hw.weaken cZ) (λu g=>?_)
 subst g
 refine .q .not<|.zn ?_
 refine .cond rfl (λK=>?_) λK=>?_
 have a2:mu=true:=by simpa using K
 refine .sr<|.az rfl ?_
 refine .ret (aI (aM rfl ?_))
 ·refine⟨?_,rfl⟩
  rw[a2]
  simp
 have S:mu=false:=by simpa using K
 obtain⟨a4,T⟩:=o S
 simp only at T
 refine .kn<|.seq<|.sr<|.fa rfl<|.lo rfl<|.q (.bL C) ?_
 refine .mo rfl<|.zn<|.block ?_
 refine .cL [(1,_),(11,_),(12,_)] (X:=Nat) (λi=>i<=A.length/\(A.take i).all gQ=true) (λi E=>(13,iN i)::E) (λ_ G=>G) (λi=>A.length-i) 0 ⟨ael _,rfl⟩ kE.c.c.c.c rH ?_
 rintro i ⟨hi,U⟩
 refine .sr<|.q .lss<|.zs ?_
 refine .cond rfl (λp=>?_) λp=>?_
 have Q:i<A.length:=cF p
 obtain⟨⟨D,I,j⟩,a⟩:=cm Q
 have H:=h.all _ (aV a)
 have F:RS R 3 cv.enc I j:=H.rs
 have b2:=F.aq
 have a6:=F.le
 have b5:bZ (cC.enc ⟨D,I,j⟩):=⟨H.cN⟩
 refine .kn<|.seq<|.block<|.sr ?_
 refine .bI i C a (λb7=>?_)
 refine .q (.aP rfl) ?_
 refine .bV (λb4=>?_)
 refine .bN rfl rfl<|.zs<|.sr<|.fa rfl<|.lo rfl ?_
 refine .aR (kU D H.n _) (λu g=>?_)
 subst g
 refine .q .not<|.zn ?_
 refine .cond rfl (λL=>?_) λL=>?_
 refine .sr<|.az rfl ?_
 refine .ret (aI (bf (aI (cK (bf (aI (aM rfl ?_)))))))
 ·refine⟨?_,rfl⟩
  rw[k3 a (f:=gQ) (by unfold gQ;simp only;rw[show isWord D=false by simpa using L];rfl)]
  rfl
 refine .kn<|.sr<|.fa rfl<|.lo rfl<|.q (.bL F) ?_
 refine .mo rfl<|.zn<|.block ?_
 refine .cL [(1,_),(11,_),(12,_),(13,_),(22,_),(23,_)] (X:=Nat) (λk=>k<=j.length/\(j.take k).all jo=true) (λk E=>(24,iN k)::E) (λ_ G=>G) (λk=>j.length-k) 0 ⟨ael _,rfl⟩ kE.c.c.c.c.c.c.c rH ?_
 rintro k ⟨hk,V⟩
 refine .sr<|.q .lss<|.zs ?_
 refine .cond rfl (λM=>?_) λM=>?_
 have O:k<j.length:=cF M
 obtain⟨⟨w,v,r⟩,o⟩:=cm O
 have z:=H.all _ (aV o)
 have Y:RS R 2 Ty.enc w r.types:=z.t
 have W:RS R 5 Nd.enc v r.nodes:=z.d
 have b3:=Y.aq
 have b0:=W.aq
 have a8:bZ (cv.enc ⟨w,v,r⟩):=⟨z.cN⟩
 have a9:r.nodes.length<=64:=T _ (aV a) _ (aV o)
 refine .kn<|.seq<|.block<|.sr ?_
 refine .bI k F o (λb8=>?_)
 refine .q (.aP rfl) ?_
 refine .bV (λb6=>?_)
 refine .bN rfl rfl<|.zs ?_
 refine bF.dt [(1,_),(11,_),(12,_),(13,_),(22,_),(23,_),(24,_)] kE.c.c.c.c.c.c.c (X:=Unit) (λ_=>True) (λ_ E=>(42,.bool (!jo ⟨w,v,r⟩))::E) (λ_=>[bl b4 (cC.enc ⟨D,I,j⟩) 101,bl b1 [vs,Z] 25]) ?_ ?_
 refine .region<|.fa rfl<|.lo rfl ?_
 refine .aR (kU r.name z.n _) (λu g=>?_)
 subst g
 refine .q .not<|.mo rfl ?_
 refine .split (t:=32) rfl (λb=>?_) (λb=>?_)
 refine .gF b<|.gF b<|.gF b<|.gF b<|.q (.aZ b) ?_
 refine .mo rfl<|.gX<|.gX<|.gX<|.q .ca<|.nil ?_
 ·exact aG () aej (kE.c.c.c.c.c.c.c.cy rfl (by
   have e:(r.types.any λt=> !gZ isWord t)= !mG ⟨w,v,r⟩:=by unfold mG;simp[afb]
   unfold jo
   simp only[e]at *
   grind)) (aQ [1,1])
 refine .gT b<|.fa rfl<|.gT b<|.lo rfl<|.gT b ?_
 refine .aR ((wB v r.nodes R W z.fd (by omega)).weaken cZ) (λu g=>?_)
 subst g
 refine .gT b<|.q .bw<|.q (.aX b) ?_
 refine .mo rfl ?_
 refine .split (t:=38) rfl (λm=>?_) (λm=>?_)
 refine .gF m<|.gF m<|.gF m<|.q (.aZ m) ?_
 refine .nil ?_
 ·exact aG () aej (kE.c.c.c.c.c.c.c.cy rfl (by
   have e:(r.types.any λt=> !gZ isWord t)= !mG ⟨w,v,r⟩:=by unfold mG;simp[afb]
   unfold jo
   simp only[e]at *
   grind)) (aQ [1,1])
 refine .gT m<|.fa rfl<|.gT m<|.lo rfl<|.gT m ?_
 refine .aR (LTY.jd 127 [] (λt=> !gZ isWord t) w r.types _ Y.rx (λt ht J a0=>Ob t (z.ft t ht) J)) (λu g=>?_)
 subst g
 refine .q (.aX m) ?_
 refine .nil ?_
 ·exact aG () aej (kE.c.c.c.c.c.c.c.cy rfl (by
   have e:(r.types.any λt=> !gZ isWord t)= !mG ⟨w,v,r⟩:=by unfold mG;simp[afb]
   unfold jo
   simp only[e]at *
   grind)) (aQ [1,1])
 intro y hy
 refine ay ?_
 refine .cond rfl (λB=>?_) λB=>?_
 refine .sr<|.az rfl ?_
 refine .ret (bf (aI (cK (bf (bf (aI (cK (bf (aI (aM rfl ?_))))))))))
 ·refine⟨?_,rfl⟩
  rw[k3 a (f:=gQ) (by unfold gQ;simp only;rw[k3 o (f:=jo) (by simpa using B),aez])]
  rfl
 refine .skip<|bi<|ay<|.region ?_
 refine .ia (k+1) .add ?_
 refine .mo rfl<|.nil ?_
 ·exact aW (k+1) ⟨O,mR o V (by simpa using B)⟩ (by omega) kE.c.c.c.c.c.c.c rH
 have x:gQ ⟨D,I,j⟩=true:=by
  have B:j.all jo=true:=by rw[<-dN (l:=j) (i:=k) (by have:=bC M;omega)];exact V
  unfold gQ
  simp only[B,aev]
  simpa using L
 refine .exit<|bz<|bG<|bB<|bi<|ay<|.region ?_
 refine .ia (i+1) .add ?_
 refine .mo rfl<|.nil ?_
 ·exact aW (i+1) ⟨Q,mR a U x⟩ (by omega) kE.c.c.c.c (aQ [1])
 have a1:A.all gQ=true:=by rw[<-dN (l:=A) (i:=i) (by have:=bC p;omega)];exact U
 refine .exit<|bz<|bG<|bB<|ay<|.sr<|.fa rfl<|.lo rfl ?_
 refine .aR (LSC.jd 130 [] (λs=> !ku isWord de s) Z a3 _ N.rx (λs a J a0=>Oc s (h.fc s a) J)) (λu g=>?_)
 subst g
 refine .q .not<|.az rfl ?_
 refine .ret (aM rfl ?_)
 ·refine⟨?_,rfl⟩
  rw[a1,S]
  simp[afb]
instance Ty.tI:fq prog 186 (λk:Ty=>.agg k.enc.toArray):=fq.agg wV underlying186 rfl Ty.kinds Ty.eq
abbrev fW:=Nat×Nat
def lg(p:fW):List Value:=[iN p.1,iN p.2]
instance(p:fW):bZ (lg p):=⟨by simp[lg,aq]⟩
abbrev lT(k:Ty):Value:=.agg k.enc.toArray
abbrev lA(p:fW):Value:=.agg (lg p).toArray
theorem zZ(i:Nat)(a:ByteArray):∀{rs:List Rl} {b k:Nat} {r:Rl},rs[k]? =some r->(lv i a b rs)[k]? =some ((⟨a,r.name⟩:Ty),(i,b+k))
 |[],b,k,r,h=>by simp at h
 |x::rs,b,0,r,h=>by simp only[aeS,aeT]at h;subst h;rfl
 |x::rs,b,k+1,r,h=>by
  rw[lv,List.getElem?_cons_succ,zZ i a (rs:=rs) (b:=b+1) (k:=k) (r:=r) (by simpa using h)]
  rw[show b+1+k=b+(k+1) by omega]
theorem z4:∀{l:List Sp} {b i k:Nat} {s:Sp} {r:Rl},l[i]? =some s->s.bU[k]? =some r->(gG b l)[cM l i+k]? =some ((⟨s.name,r.name⟩:Ty),(b+i,k))
 |[],b,i,k,s,r,h,_=>by simp at h
 |x::l,b,0,k,s,r,h,hr=>by
  simp only[aeS,aeT]at h
  subst h
  have a:=(aex.1 hr).1
  rw[gG,List.getElem?_append_left (by rw[n4];simpa[cM]using a)]
  simpa[cM]using zZ b x.name (b:=0) hr
 |x::l,b,i+1,k,s,r,h,hr=>by
  rw[gG,cM,List.getElem?_append_right (by rw[n4];omega),n4,show x.bU.length+cM l i+k-x.bU.length=cM l i+k by omega,z4 (l:=l) (b:=b+1) (by simpa using h) hr,show b+1+i=b+(i+1) by omega]
theorem uP:∀(l:List Sp) (b:Nat),(gG b l).length=total l
 |[],b=>rfl
 |s::l,b=>by
  have:=uP l (b+1)
  unfold total at this⊢
  rw[gG,aet,n4,this,aeV,cM]
theorem yy(t:Ty):∀M:List (Ty×fW),db t M=look t M
 |[]=>rfl
 |(k,x)::M=>by
  have a:=yy t M
  unfold look at a⊢
  rw[db,List.find?_cons]
  by_cases e:t=k
  ·subst e;simp
  ·rw[aek e,a]
   have:decide (k=t)=false:=aeC λh=>e h.symm
   simp only[this]
def l9(M:List (ByteArray×Bool))(l:List ByteArray):Prop:=∀k,db k M=if k∈l then some true else none
theorem l9.nil:l9 [] []:=λk=>by simp[db]
theorem l9.add{M:List (ByteArray×Bool)}{l:List ByteArray}(h:l9 M l)(t:ByteArray):l9 (dD t true M) (l++[t]):=λk=>by
 rw[nR,h k]
 by_cases e:k=t
 ·simp[e]
 ·simp[e]
def o3(xb:Nat)(c:bP)(T:aH):Prop:=∃vm Tm,T=(xb,.cells [c.vs,c.vc,vm].toArray 253 (0,0))::Tm/\MS lT lA vm (gG 0 c.plain.bd) Tm
theorem MQ(c:bP)(R:aw)(h:c.is R):Spec prog 83 [.agg c.enc.toArray] R [] λu H'=>∃T,H'=[T]/\((c.plain.dZ/\∃xb,u=.tuple [pT xb,.bool true].toArray/\o3 xb c T)\/(¬c.plain.dZ/\u=.tuple [.pointer none,.bool false].toArray)):=by
 have c2:∀(i:Nat) s,c.bd[i]? =some s->c.plain.bd[i]? =some s.plain:=λi s o=>by unfold bP.plain;simp only;rw[aep,o];rfl
 have c3:c.plain.bd.length=c.bd.length:=by unfold bP.plain;simp
 have N:c.plain.dZ↔(c.bd.map (·.name)).Nodup/\((gG 0 c.plain.bd).map (·.1)).Nodup/\(c.scopes.map (·.name)).Nodup:=by
  unfold Cf.dZ
  rw[uO]
  simp only[bP.plain,aey]
  exact Iff.rfl
 have b2:∀xb T,o3 xb c T↔∃vm Tm,T=(xb,.cells [c.vs,c.vc,vm].toArray 253 (0,0))::Tm/\MS lT lA vm (gG 0 c.plain.bd) Tm:=λ_ _=>Iff.rfl
 have d6:=uP c.plain.bd 0
 generalize e5:c.plain=pl at *
 generalize hS:gG 0 pl.bd=S at *
 have d5:∀i k s (r:Rl),pl.bd[i]? =some s->s.bU[k]? =some r->S[cM pl.bd i+k]? =some ((⟨s.name,r.name⟩:Ty),(i,k)):=λi k s r C D=>by
  have:=z4 (b:=0) C D
  rw[hS,ae8]at this
  exact this
 obtain⟨vs,Z,g,v⟩:=c
 have L:=h.ss
 have K:=h.sc
 have i1:=L.aq
 have i2:=K.aq
 simp only at L K i1 i2 c2 c3 N b2⊢
 have e2:=L.le
 have e1:=K.le
 refine Spec.body func83 rfl results83 ntmps83 rfl ?_
 refine .sr ?_
 refine .cj rfl (λb1=>?_)
 refine .ag rfl<|.ag rfl<|.z<|.q (.aP rfl) ?_
 refine .makeMap (λB=>?_)
 refine .q .da ?_
 refine .cj rfl (λa0=>?_)
 refine .ag rfl<|.z ?_
 refine .makeMap (λa9=>?_)
 refine .ag rfl<|.zs<|.sr<|.fa rfl<|.lo rfl<|.q (.bL L) ?_
 refine .mo rfl<|.zn<|.block ?_
 refine .cL [(1,_),(4,_),(5,_),(22,_),(23,_)] (G:=[bl a0 [vs,Z,.map (some B)] 253,bl b1 [vs,Z] 25]) (X:=Nat×List (ByteArray×Bool)×aH×aH) (λy=>y.1<=g.length/\((g.map (·.name)).take y.1).Nodup/\l9 y.2.1 ((g.map (·.name)).take y.1)/\MS lT lA (.map (some B)) (S.take (cM pl.bd y.1)) y.2.2.1/\MS (λs:ByteArray=>.string s) (λb:Bool=>.bool b) (.map (some a9)) y.2.1 y.2.2.2) (λy E=>(24,iN y.1)::E) (λy G=>y.2.2.1::y.2.2.2::G) (λy=>g.length-y.1) (0,[],[(B,.map #[] 0)],[(a9,.map #[] 0)]) ⟨ael _,by simp,by simpa using l9.nil,by rw[show cM pl.bd 0=0 by cases pl.bd<;>rfl];exact MS.nil,MS.nil⟩ kE.c.c.c.c.c.c (aQ [2,0,0,0]) ?_
 rintro⟨i,M,U,Tb⟩ ⟨hi,V,a6,m,a1⟩
 simp only at hi V a6 m a1⊢
 refine .sr<|.q .lss<|.zs ?_
 refine .cond rfl (λC=>?_) λC=>?_
 have b8:i<g.length:=cF C
 obtain⟨⟨f,Q,n⟩,o⟩:=cm b8
 have a5:=h.all _ (aV o)
 have Y:RS R 3 cv.enc Q n:=a5.rs
 have e7:=Y.aq
 have e3:=Y.le
 have e9:bZ (cC.enc ⟨f,Q,n⟩):=⟨a5.cN⟩
 have A:(g.map (·.name))[i]? =some f:=by rw[aep,o];rfl
 have c1:=c2 i _ o
 have c0:=oF c1
 rw[show(cC.plain ⟨f,Q,n⟩).bU.length=n.length by simp[cC.plain]]at c0
 refine .kn<|.seq<|.block<|.sr<|.mo rfl ?_
 refine .bI i L o (λf0=>?_)
 refine .q (.aP rfl) ?_
 refine .bV (λb7=>?_)
 refine .ag rfl<|.bN rfl rfl<|.zs<|.sr<|.mo rfl<|.fa rfl<|.lo rfl ?_
 refine .q (.m3 a1.rx rfl (key:=f) rfl (show _=Value.bool (decide (f∈(g.map (·.name)).take i))from by rw[a6 f];split<;>simp_all)) ?_
 refine .zn ?_
 refine .cond rfl (λD=>?_) λD=>?_
 refine .sr<|.ag rfl<|.az rfl ?_
 refine .ret (aI (bf (aI (cK (bf (aI (bu _ (.two (.tmp rfl) (.tmp rfl)) (.one [0] _) ?_)))))))
 ·refine⟨_,rfl,.inr ⟨λH=>?_,rfl⟩⟩
  have x:f∈(g.map (·.name)).take i:=by simpa using D
  obtain⟨q,J,e⟩:=aeP.1 x
  rw[aes]at J
  rw[ae6]at e
  exact mD (show q<i by omega) A (bE (by omega)) e.symm (N.1 H).1
 have a3:f∉(g.map (·.name)).take i:=by simpa using D
 have d1:((g.map (·.name)).take (i+1)).Nodup:=by rw[er A,aff];exact⟨V,by simp,λa ha b F=>by rw[aeD]at F;subst F;intro e;subst e;exact a3 ha⟩
 have d7:l9 (dD f true M) ((g.map (·.name)).take (i+1)):=by rw[er A];exact a6.add f
 refine .kn<|.sr<|.mo rfl<|.fa rfl<|.lo rfl ?_
 refine .update (key:=f) (u:=true) a1 rfl rfl rfl (λa8 c6 _=>?_)
 refine .z<|.fa rfl<|.lo rfl<|.q (.bL Y) ?_
 refine .mo rfl<|.zn<|.block ?_
 refine .cL [(1,_),(4,_),(5,_),(6,_),(7,_),(22,_),(23,_),(24,_),(37,_),(38,_)] (G:=[a8,bl b7 (cC.enc ⟨f,Q,n⟩) 101,bl a0 [vs,Z,.map (some B)] 253,bl b1 [vs,Z] 25]) (X:=Nat×aH) (λy=>y.1<=n.length/\MS lT lA (.map (some B)) (S.take (cM pl.bd i+y.1)) y.2) (λy E=>(39,iN y.1)::E) (λy G=>y.2::G) (λy=>n.length-y.1) (0,U) ⟨ael _,m⟩ kE.c.c.c.c.c.c.c.c.c.c.c (aQ [1,1,0,0,0]) ?_
 rintro⟨k,U⟩ ⟨hk,m⟩
 simp only at hk m⊢
 refine .sr<|.q .lss<|.zs ?_
 refine .cond rfl (λh3=>?_) λh3=>?_
 have b6:k<n.length:=cF h3
 obtain⟨⟨vt,vn,r⟩,hr⟩:=cm b6
 have a4:=a5.all _ (aV hr)
 have e8:One vt:=RS.aq a4.t
 have e6:One vn:=RS.aq a4.d
 have e4:bZ (cv.enc ⟨vt,vn,r⟩):=⟨a4.cN⟩
 have d4:(cC.plain ⟨f,Q,n⟩).bU[k]? =some r:=by unfold cC.plain;simp only;rw[aep,hr];rfl
 have b4:S[cM pl.bd i+k]? =some ((⟨f,r.name⟩:Ty),(i,k)):=d5 i k _ r c1 d4
 obtain⟨ps,O,d2,I⟩:∃(ps:fW) (O:Bool),[((db (⟨f,r.name⟩:Ty) (S.take (cM pl.bd i+k))).map lA).getD (lA (0,0)),Value.bool (db (⟨f,r.name⟩:Ty) (S.take (cM pl.bd i+k))).isSome]=[lA ps,.bool O]/\(db (⟨f,r.name⟩:Ty) (S.take (cM pl.bd i+k))).isSome=O:=by
  cases db (⟨f,r.name⟩:Ty) (S.take (cM pl.bd i+k))with
  |none=>exact⟨(0,0),false,rfl,rfl⟩
  |some p=>exact⟨p,true,rfl,rfl⟩
 refine .kn<|.seq<|.block<|.sr<|.mo rfl ?_
 refine .bI k Y hr (λf1=>?_)
 refine .q (.aP rfl) ?_
 refine .bV (λb9=>?_)
 refine .ag rfl<|.bN rfl rfl<|.z<|.fa rfl<|.lo rfl<|.fa rfl<|.lo rfl ?_
 refine .q .da ?_
 refine .bV (λd8=>?_)
 refine .bN rfl rfl<|.zs<|.seq<|.dg [10] mixed ?_
 refine .tO 0 rfl .move<|.tO 1 rfl (.nilCheck rfl)<|.tO 2 rfl (.fieldAddr rfl)<|.tO 3 rfl (.cO rfl)<|.tO 4 rfl (.aP rfl) ?_
 refine .hZ 5 rfl (.cast (.oz m.rx rfl rfl) (aeo (λl:List Value=>Value.tuple l.toArray) d2)) (by kernel_rfl) ?_
 refine .tO 6 rfl .move<|.tO 7 rfl .extract<|.tK 8 rfl .extract ?_
 refine .sT 9 rfl ?_
 refine .bV (λd9=>?_)
 refine .nil (Next.sub ?_)
 refine .sT 10 rfl ?_
 refine .bN rfl rfl ?_
 refine .nil (Next.mod rfl ?_)
 refine .tK 11 rfl .assign ?_
 refine RA.nil (by kernel_rfl) ?_
 refine ay<|.sr<|.mo rfl<|.zn ?_
 refine .cond rfl (λh4=>?_) λh4=>?_
 refine .sr<|.ag rfl<|.az rfl ?_
 refine .ret (aI (bf (aI (cK (bf (bf (aI (cK (bf (aI (bu _ (.two (.tmp rfl) (.tmp rfl)) (.one [0] _) ?_)))))))))))
 ·refine⟨_,rfl,.inr ⟨λH=>?_,rfl⟩⟩
  have w:O=true:=h4
  rw[w]at I
  obtain⟨p,hp⟩:=Option.isSome_iff_exists.1 I
  have x:=tW hp
  obtain⟨q,J,e⟩:=aeP.1 x
  rw[aes]at J
  rw[ae6]at e
  have c8:(S.map (·.1))[cM pl.bd i+k]? =some ⟨f,r.name⟩:=by rw[aep,b4];rfl
  have d3:(S.map (·.1))[q]? =some ⟨f,r.name⟩:=by rw[aep,bE (by omega),e];rfl
  exact mD (show q<cM pl.bd i+k by omega) c8 d3 rfl (N.1 H).2.1
 refine .kn ?_
 refine .dY 8 mixed (by kernel_rfl) ?_
 conv=>arg 6;dsimp only[List.take]
 refine .mo rfl<|.nc rfl<|.fa rfl<|.lo rfl<|.q (.aP rfl)<|.mo rfl<|.mo rfl ?_
 refine .q .da ?_
 refine .nil ?_
 refine .update (key:=(⟨f,r.name⟩:Ty)) (u:=((i,k):fW)) m rfl rfl rfl (λc4 b3 _=>?_)
 rw[mB (by
  have w:O=false:=h4
  rw[w]at I
  intro x
  rw[Option.isSome_eq_false_iff,Option.isNone_iff_eq_none]at I
  exact tU.1 I x), <-er b4]at b3
 refine .nil<|bi<|ay<|.region ?_
 refine .ia (k+1) .add ?_
 refine .mo rfl<|.nil ?_
 ·exact aW (k+1,c4) ⟨b6,b3⟩ (by simp only;omega) kE.c.c.c.c.c.c.c.c.c.c.c (aQ [3,3,3,3,3])
 have d0:k=n.length:=by have:=bC h3;omega
 rw[d0, <-c0]at m
 refine .exit<|bz<|bG<|bB<|bi<|ay<|.region ?_
 refine .ia (i+1) .add ?_
 refine .mo rfl<|.nil ?_
 ·exact aW (i+1,dD f true M,U,a8) ⟨b8,d1,d7,m,c6⟩ (by simp only;omega) kE.c.c.c.c.c.c (aQ [0,0,1,1])
 have c9:i=g.length:=by have:=bC C;omega
 subst c9
 rw[show cM pl.bd g.length=S.length by rw[<-c3,d6];rfl,aeK]at m
 rw[show g.length=(g.map (·.name)).length by rw[aen],aeK]at V
 refine .exit<|bz<|bG<|bB<|ay<|.sr ?_
 refine .makeMap (λb0=>?_)
 refine .ag rfl<|.zs<|.sr<|.fa rfl<|.lo rfl<|.q (.bL K) ?_
 refine .mo rfl<|.zn<|.block ?_
 refine .cL [(4,_),(13,_),(71,_),(72,_)] (X:=Nat×List (ByteArray×Bool)×aH) (λy=>y.1<=v.length/\((v.map (·.name)).take y.1).Nodup/\l9 y.2.1 ((v.map (·.name)).take y.1)/\MS (λs:ByteArray=>.string s) (λb:Bool=>.bool b) (.map (some b0)) y.2.1 y.2.2) (λy E=>(73,iN y.1)::E) (λy G=>y.2.2::G) (λy=>v.length-y.1) (0,[],[(b0,.map #[] 0)]) ⟨ael _,by simp,by simpa using l9.nil,MS.nil⟩ kE.c.c.c.c.c rH ?_
 rintro⟨j,M3,Tc⟩ ⟨hj,W,a7,a2⟩
 simp only at hj W a7 a2⊢
 refine .sr<|.q .lss<|.zs ?_
 refine .cond rfl (λw=>?_) λw=>?_
 have b5:j<v.length:=cF w
 obtain⟨s,o⟩:=cm b5
 have A:(v.map (·.name))[j]? =some s.name:=by rw[aep,o];rfl
 refine .kn<|.seq<|.block<|.sr ?_
 refine .bI j K o (λf2=>?_)
 refine .q (.aP rfl) ?_
 refine .bV (λe0=>?_)
 refine .bN rfl rfl<|.zs<|.sr<|.mo rfl<|.fa rfl<|.lo rfl ?_
 refine .q (.m3 a2.rx rfl (key:=s.name) rfl (show _=Value.bool (decide (s.name∈(v.map (·.name)).take j))from by rw[a7 s.name];split<;>simp_all)) ?_
 refine .zn ?_
 refine .cond rfl (λh6=>?_) λh6=>?_
 refine .sr<|.ag rfl<|.az rfl ?_
 refine .ret (aI (bf (aI (cK (bf (aI (bu _ (.two (.tmp rfl) (.tmp rfl)) (.one [0] _) ?_)))))))
 ·refine⟨_,rfl,.inr ⟨λH=>?_,rfl⟩⟩
  have x:s.name∈(v.map (·.name)).take j:=by simpa using h6
  obtain⟨q,J,e⟩:=aeP.1 x
  rw[aes]at J
  rw[ae6]at e
  exact mD (show q<j by omega) A (bE (by omega)) e.symm (N.1 H).2.2
 have a3:s.name∉(v.map (·.name)).take j:=by simpa using h6
 refine .kn<|.region<|.mo rfl<|.fa rfl<|.lo rfl ?_
 refine .update (key:=s.name) (u:=true) a2 rfl rfl rfl (λc5 c7 _=>?_)
 refine .nil<|bi<|ay<|.region ?_
 refine .ia (j+1) .add ?_
 refine .mo rfl<|.nil ?_
 ·exact aW (j+1,dD s.name true M3,c5) ⟨b5,by rw[er A,aff];exact⟨W,by simp,λa ha b F=>by rw[aeD]at F;subst F;intro e;subst e;exact a3 ha⟩,by simp only;rw[er A];exact a7.add s.name,c7⟩ (by simp only;omega) kE.c.c.c.c.c (aQ [1,1,1,1,1])
 refine .exit<|bz<|bG<|bB<|ay<|.sr<|.mo rfl<|.ag rfl<|.az rfl ?_
 refine .ret (bu _ (.two (.tmp rfl) (.tmp rfl)) (.one [3,1] _) ?_)
 ·refine⟨_,rfl,.inl ⟨N.2 ⟨V,m.nd,?_⟩,a0,rfl,(b2 _ _).2 ⟨_,U,by simp[take,bK],m⟩⟩⟩
  rw[dN (by rw[aen];have:=bC w;omega)]at W
  exact W
theorem bp.iT{H:aN}:bp H [[]]:=⟨H.flatten,by simp⟩
structure IX(R:aw)(xb:Nat)(vm:Value)(c:bP):Prop where
 pc:PC R (pT xb) [c.vs,c.vc,vm]
 om:One vm
 ci:c.is R
 rm:RM R lT lA vm (gG 0 c.plain.bd)
theorem RM.oB{κ β:Type} [DecidableEq κ]{R R':aw}{encK:κ->Value}{a:β->Value}{m:Value}{M:List (κ×β)}(h:RM R encK a m M)(i:∀b o,R b o->R' b o):RM R' encK a m M:=by
 obtain⟨b,d,c,e,f,g⟩:=h
 exact⟨b,d,c,e,i _ _ f,g⟩
theorem IX.mono{R R':aw}{xb:Nat}{vm:Value}{c:bP}(h:IX R xb vm c)(a:∀b o,R b o->R' b o):IX R' xb vm c:=⟨h.pc.mono a,h.om,h.ci.mono a,h.rm.oB a⟩
theorem o3.view{R:aw}{xb:Nat}{c:bP}{T:aH}(h:o3 xb c T)(e:c.is R):∃vm,IX (λb o=>R b o\/(b,o)∈T) xb vm c:=by
 obtain⟨vm,g,rfl,a⟩:=h
 refine⟨vm,⟨PC.of (E:=253) (fr:=(0,0)) ?_,a.one,e.mono λb o d=>.inl d,a.rm λp f=>.inr (by simp[f])⟩⟩
 exact .inr (by simp)
def bP.valid(c:bP)(p:fW):Prop:=∃s r,c.bd[p.1]? =some s/\s.bU[p.2]? =some r
def bP.ix(c:bP)(p:fW):Nat:=cM c.plain.bd p.1+p.2
theorem NP{c:bP}{i:Nat}{a:Sp}(h:c.plain.bd[i]? =some a):∃s,c.bd[i]? =some s/\a=s.plain:=by
 unfold bP.plain at h
 simp only at h
 rw[aep]at h
 cases hs:c.bd[i]? with
 |none=>rw[hs]at h;cases h
 |some s=>rw[hs]at h;exact⟨s,rfl,by simpa using h.symm⟩
theorem oH{c:bP}{i:Nat}{s:cC}(h:c.bd[i]? =some s):c.plain.bd[i]? =some s.plain:=by unfold bP.plain;simp only;rw[aep,h];rfl
theorem ze{s:cC}{k:Nat}{r:cv}(h:s.bU[k]? =some r):s.plain.bU[k]? =some r.r:=by unfold cC.plain;simp only;rw[aep,h];rfl
theorem N4{s:cC}{k:Nat}{a:Rl}(h:s.plain.bU[k]? =some a):∃r,s.bU[k]? =some r/\a=r.r:=by
 unfold cC.plain at h
 simp only at h
 rw[aep]at h
 cases hs:s.bU[k]? with
 |none=>rw[hs]at h;cases h
 |some s=>rw[hs]at h;exact⟨s,rfl,by simpa using h.symm⟩
def nr(c:bP)(t:Ty)(ps:fW)(ok:Bool):Prop:=match bX c.plain.all t with
 |none=>ok=false
 |some j=>ok=true/\c.ix ps=j/\c.valid ps
theorem looked(c:bP)(t:Ty):∃(ps:fW) (ok:Bool),[((db t (gG 0 c.plain.bd)).map lA).getD (lA (0,0)),Value.bool (db t (gG 0 c.plain.bd)).isSome]=[lA ps,.bool ok]/\nr c t ps ok:=by
 have h:=Mo c.plain t
 rw[yy]
 unfold nr
 cases hl:look t (gG 0 c.plain.bd)with
 |none=>rw[hl]at h;exact⟨(0,0),false,rfl,by rw[h]⟩
 |some p=>
  obtain⟨i,k⟩:=p
  rw[hl]at h
  obtain⟨a,s,r,b,d,_⟩:=h
  obtain⟨j,e,rfl⟩:=NP b
  obtain⟨g,f,rfl⟩:=N4 d
  exact⟨(i,k),true,rfl,by rw[a];exact⟨rfl,rfl,j,g,e,f⟩⟩
theorem uz{R:aw}{xb:Nat}{vm:Value}{c:bP}(h:IX R xb vm c)(p:fW)(s:cC)(r:cv)(e:c.bd[p.1]? =some s)(a:s.bU[p.2]? =some r):
  Spec prog 168 [pT xb,.agg (lg p).toArray] R [] λu H'=>u=.agg r.enc.toArray/\H'=[]:=by
 obtain⟨i,k⟩:=p
 obtain⟨I,w,H,G⟩:=c
 obtain⟨l,j,r⟩:=r
 have o:=h.pc
 have D:=h.om
 have g:=h.ci.ss
 have m:=g.aq
 have n:One w:=RS.aq h.ci.sc
 simp only at g m n e a o⊢
 have f:=h.ci.all _ (aV e)
 have b:=f.all _ (aV a)
 have B:One s.v:=RS.aq f.rs
 have z:bZ (cv.enc ⟨l,j,r⟩):=⟨b.cN⟩
 have C:One l:=RS.aq b.t
 have A:One j:=RS.aq b.d
 refine Spec.body func168 rfl results168 ntmps168 rfl ?_
 refine .sr ?_
 refine .cj rfl (λx=>?_)
 refine .bV (λy=>?_)
 refine .zs ?_
 refine .dY 14 mixed (by kernel_rfl) ?_
 conv=>arg 6;dsimp only[List.take]
 refine .mo rfl<|.nc rfl<|.fa rfl<|.fa rfl<|.lo rfl<|.fa rfl<|.lo rfl ?_
 refine .bI i g e (λE=>?_)
 refine .fa rfl<|.lo rfl<|.fa rfl<|.lo rfl ?_
 refine .bI k f.rs a (λF=>?_)
 refine .q (.aP rfl)<|.nil<|.bN rfl rfl<|.zn ?_
 refine .ret (bu _ (.one (.ei rfl rfl)) (.none _) ?_)
 ·exact⟨rfl,rfl⟩
theorem uL(v:Value)(l:List Ty)(R:aw)(h:RS R 2 Ty.enc v l)(w:l.length<=100000):Spec prog 169 [v] R [] λu H'=>∃T,H'=[T]/\OS 186 2 Ty.enc u (dE l) T:=by
 have C:=h.aq
 have x:=h.le
 refine Spec.body func169 rfl results169 ntmps169 rfl ?_
 refine .sr<|.ag rfl<|.z<|.ag rfl<|.zs<|.sr<|.mo rfl<|.q (.bL h) ?_
 refine .mo rfl<|.zn<|.block ?_
 refine .cL [(6,_),(7,_)] (X:=Nat×Value×aH) (λy=>y.1<=l.length/\OS 186 2 Ty.enc y.2.1 (dE (l.take y.1)) y.2.2) (λy E=>(8,iN y.1)::(3,y.2.1)::E) (λy G=>y.2.2::G) (λy=>l.length-y.1) (0,sZ,[]) ⟨ael _,OS.nil⟩ kE.c.c.c.c bp.jT ?_
 rintro⟨i,o,f⟩ ⟨p,a⟩
 simp only at p a⊢
 have B:=a.aq
 have A:(dE (l.take i)).length<=100000:=aeB (aeW _ _) (by rw[aes];omega)
 refine .sr<|.q .lss<|.zs ?_
 refine .cond rfl (λg=>?_) λg=>?_
 have d:i<l.length:=cF g
 obtain⟨t,m⟩:=cm d
 have e:=zO m
 refine .kn<|.seq<|.block<|.sr ?_
 refine .bI i h m (λF=>?_)
 refine .q (.aP rfl) ?_
 refine .bV (λs=>?_)
 refine .bN rfl rfl<|.z<|.fa rfl<|.lo rfl<|.q .gd<|.zn ?_
 refine .cond rfl (λb=>?_) λb=>?_
 refine .region<|.mo rfl<|.q (.aP rfl) ?_
 refine .ez (λr=>?_)
 refine .append a (RS.lits (xs:=[t]) rfl (by simp[Ty.enc]) (by simp[Ty.enc,aq])) (by simp only[aew];omega) (λn k j=>?_)
 have D:=j.aq
 refine .ag rfl<|.nil<|bi<|ay<|.region ?_
 refine .ia (i+1) .add ?_
 refine .mo rfl<|.nil ?_
 ·first
   |exact aW (i+1,n,k) ⟨d,by simp only;rw[e,aek (by simpa using b)];exact j⟩ (by simp only;omega) kE.c.c.c.c (aQ [2])
   |exact aW (i+1,o,f) ⟨d,by simp only;rw[e,aem (by simpa using b),aeu];exact a⟩ (by simp only;omega) kE.c.c.c.c (aQ [1])
 refine .skip<|bi<|ay<|.region ?_
 refine .ia (i+1) .add ?_
 refine .mo rfl<|.nil ?_
 ·first
   |exact aW (i+1,n,k) ⟨d,by simp only;rw[e,aek (by simpa using b)];exact j⟩ (by simp only;omega) kE.c.c.c.c (aQ [2])
   |exact aW (i+1,o,f) ⟨d,by simp only;rw[e,aem (by simpa using b),aeu];exact a⟩ (by simp only;omega) kE.c.c.c.c (aQ [1])
 refine .exit<|bz<|bG<|bB<|ay<|.sr<|.mo rfl<|.az rfl ?_
 refine .ret (bu _ (.one (.tmp rfl)) (.one [0] _) ?_)
 ·refine⟨f,by simp[take],?_⟩
  rw[dN (jh g)]at a
  exact a
def ol(b:Bool):List Value:=[.bool b]
theorem AM(v:Value)(l:List Nd)(R:aw)(h:RS R 5 Nd.enc v l)(U:fC isWord l≠0)(hl:l.length<=100000):Spec prog 170 [v] R [] λu H'=>∃T,H'=[T]/\OS 4 1 ol u (mQ l) T:=by
 have iv:=h.aq
 have a9:=h.le
 obtain⟨d,a2⟩:=wC U
 obtain⟨_,_,_,S⟩:=ju _ _ a2
 have a0:(List.replicate l.length false).length=l.length:=aeE
 generalize L:List.replicate l.length false=out0 at *
 refine Spec.body func170 rfl results170 ntmps170 rfl ?_
 refine .sr<|.ag rfl<|.z<|.mo rfl<|.q (.bL h) ?_
 refine .makeSlice (enc:=ol) l.length false rfl rfl (by decide) (by simp[ol,aq]) rfl rfl (by omega) (by omega) (λC Q H=>?_)
 rw[L]at H
 refine .ag rfl<|.zs<|.sr<|.mo rfl<|.q (.bL h) ?_
 refine .q (.i64 ((l.length:Int)-1) .sub ⟨rfl,by omega,by omega⟩) ?_
 refine .az rfl<|.block ?_
 refine .cL [(0,_),(3,_)] (X:=Nat×aH) (λy=>y.1<=l.length/\OS 4 1 ol (.slice (some ⟨C,0,none⟩) l.length l.length) (down l y.1 (l.length-y.1) out0) y.2) (λy E=>(4,.int .i64 ((y.1:Int)-1))::E) (λy G=>y.2::G) (λy=>y.1) (l.length,Q) ⟨Nat.le_refl _,by simp only;rw[ae3];exact H⟩ kE.c.c.c rH ?_
 rintro⟨m,B⟩ ⟨W,g⟩
 simp only at W g⊢
 refine .seq<|.sr<|.mo rfl<|.q .geq<|.zn ?_
 refine .cond rfl (λj=>?_) λj=>?_
 obtain⟨e,rfl⟩:∃e,m=e+1:=⟨m-1,by have:=cq j;omega⟩
 obtain⟨n,s⟩:∃n,l[e]? =some n:=⟨_,bE (by omega)⟩
 have V:((e+1:Nat):Int)-1=(e:Int):=by omega
 have w:=S e (ael _) (by omega)
 have r:down l e (l.length-e) out0=gI l (down l (e+1) (l.length-(e+1)) out0) e:=by
  rw[show l.length-e=1+(l.length-(e+1)) by omega,s5]
  rfl
 have a8:(down l (e+1) (l.length-(e+1)) out0).length=l.length:=by rw[qP,a0]
 generalize hX:down l (e+1) (l.length-(e+1)) out0=X at *
 have i:gI l X e=if n.op then(X.set n.a.toNat (X.getD e false)).set n.b.toNat ((X.set n.a.toNat (X.getD e false)).getD e false||n.kind==6)else X:=by unfold gI;rw[s]
 have J:decide (4<=n.kind)=n.op:=by
  cases ho:n.op with
  |true=>unfold Nd.op at ho;simp only[ae1,beq_iff_eq]at ho;exact aeL (by omega)
  |false=>
   rw[kT s ho]at w
   split at w
   ·rename_i F
    unfold Nd.leaf at F
    refine aeC λh4=>?_
    rw[aek (by omega),aek (by omega),aek (by omega),aez]at F
    cases F
   ·cases w
 rw[V]
 refine .kn<|.seq<|.block<|.sr<|.mo rfl<|.mo rfl ?_
 refine .bI e h s (λb0=>?_)
 refine .q (.aP rfl) ?_
 refine .bV (λb5=>?_)
 refine .bN rfl rfl<|.z<|.fa rfl<|.lo rfl<|.q .geq<|.zn ?_
 refine .cond rfl (λk=>?_) λk=>?_
 have K:n.op=true:=by rw[<-J];exact k
 obtain⟨rr,a1⟩:=Option.isSome_iff_exists.1 w
 obtain⟨b',x',y',t1,t2,t3,t4,t5,_,_,_⟩:=ni s K a1
 have a6:=nj t1
 have a7:=(ju _ _ t3).1
 obtain⟨za,N⟩:∃z,X[n.a.toNat]? =some z:=⟨_,bE (by omega)⟩
 obtain⟨p,O⟩:∃z,X[e]? =some z:=⟨_,bE (by omega)⟩
 have a3:X.getD e false=p:=by rw[aer,O];rfl
 rw[aem K,a3]at i
 obtain⟨z2,M⟩:∃z,(X.set n.a.toNat p)[e]? =some z:=⟨_,bE (by rw[List.length_set];omega)⟩
 obtain⟨z3,x⟩:∃z,(X.set n.a.toNat p)[n.b.toNat]? =some z:=⟨_,bE (by rw[List.length_set];omega)⟩
 have a4:(X.set n.a.toNat p).getD e false=z2:=by rw[aer,M];rfl
 rw[a4]at i
 refine .seq ?_
 refine .dY 8 mixed (by kernel_rfl) ?_
 conv=>arg 6;dsimp only[List.take]
 refine .mo rfl<|.fa rfl<|.lo rfl<|.mo rfl<|.mo rfl ?_
 refine .bH e g O (λb1=>?_)
 refine .lo rfl ?_
 refine .bH n.a.toNat g N (λb2=>?_) rfl rfl (by omega)
 refine .nil ?_
 refine .l8 n.a.toNat g N p (λT1 o=>?_)
 refine .zn ?_
 refine bF.dt [(0,_),(3,_),(4,_)] kE.c.c.c (X:=aH) (λT=>OS 4 1 ol (.slice (some ⟨C,0,none⟩) l.length l.length) (gI l X e) T) (λ_ E=>E) (λT=>[T]) ?_ ?_
 refine .dY 13 mixed (by kernel_rfl) ?_
 conv=>arg 6;dsimp only[List.take]
 refine .mo rfl<|.fa rfl<|.lo rfl<|.mo rfl<|.mo rfl ?_
 refine .bH e o M (λb3=>?_)
 refine .lo rfl<|.mo rfl ?_
 refine .split (t:=38) rfl (λf=>?_) (λf=>?_)
 refine .gF f<|.gF f<|.gF f<|.q (.aZ f) ?_
 refine .bH n.b.toNat o x (λa5=>?_) rfl rfl (by omega)
 refine .nil ?_
 refine .l8 n.b.toNat o x _ (λA D=>?_)
 refine .nil ?_
 ·exact aG A (by rw[i];simpa only[j,k,f,aeZ,ae0]using D) kE.c.c.c (aQ [1])
 refine .gT f<|.fa rfl<|.gT f<|.lo rfl<|.gT f<|.q .bw<|.q (.aX f) ?_
 refine .bH n.b.toNat o x (λa5=>?_) rfl rfl (by omega)
 refine .nil ?_
 refine .l8 n.b.toNat o x _ (λA D=>?_)
 refine .nil ?_
 ·exact aG A (by rw[i];simpa only[j,k,f,aeZ,ae0]using D) kE.c.c.c (aQ [1])
 intro y hy
 have I:OS 4 1 ol (.slice (some ⟨C,0,none⟩) l.length l.length) (gI l X e) y:=hy
 refine bi<|ay<|.region<|.mo rfl ?_
 refine .q (.i64 ((e:Int)-1) .sub ⟨rfl,by omega,by omega⟩) ?_
 refine .ag rfl<|.nil ?_
 ·first
   |exact aW (e,y) ⟨by simp only;omega,by simp only;rw[r];exact I⟩ (by simp only;omega) kE.c.c.c rH
   |exact aW (e,B) ⟨by simp only;omega,by simp only;rw[r,i];exact g⟩ (by simp only;omega) kE.c.c.c (aQ [1])
 have Z:¬n.op=true:=by rw[<-J,k];simp
 rw[aek Z]at i
 refine .skip<|bi<|ay<|.region<|.mo rfl ?_
 refine .q (.i64 ((e:Int)-1) .sub ⟨rfl,by omega,by omega⟩) ?_
 refine .ag rfl<|.nil ?_
 ·first
   |exact aW (e,y) ⟨by simp only;omega,by simp only;rw[r];exact I⟩ (by simp only;omega) kE.c.c.c rH
   |exact aW (e,B) ⟨by simp only;omega,by simp only;rw[r,i];exact g⟩ (by simp only;omega) kE.c.c.c (aQ [1])
 refine .exit<|bz<|bG<|bB<|ay<|.sr<|.mo rfl<|.az rfl ?_
 refine .ret (bu _ (.one (.tmp rfl)) (.one [0] _) ?_)
 ·refine⟨B,by simp[take],?_⟩
  have Y:m=0:=by have:=bC j;omega
  subst Y
  unfold mQ
  rw[L]
  exact g
def NA(c:bP)(ok:Bool)(S:List fW)(o:Option (List Nat)):Prop:=match o with
 |none=>ok=false
 |some ts=>ok=true/\S.map c.ix=ts/\∀p∈S,c.valid p
def TN(l:List (ByteArray×Rl))(sp:ByteArray)(r:Rl)(n:Nd)(tys:List Ty):Prop:=targets l sp r.types n=findAll l tys/\tys.length<=8
theorem oU{a:List Ty}{n:Nat}(h:a.length<=n):(dE a).length<=n:=aeB (aeW _ _) h
theorem xo(l:List (ByteArray×Rl)):∀(a:List Ty) (t:Ty),findAll l (a++[t])=(findAll l a).bind λx=>(bX l t).map λi=>x++[i]
 |[],t=>by
  rw[ae7,findAll,findAll]
  cases bX l t<;>rfl
 |x::a,t=>by
  rw[List.cons_append,findAll,findAll,xo l a t]
  cases bX l x with
  |none=>rfl
  |some i=>
   cases findAll l a with
   |none=>rfl
   |some u=>cases bX l t<;>rfl
theorem xp{l:List (ByteArray×Rl)}{t:Ty}{a:List Ty}(h:t∈a)(c:bX l t=none):findAll l a=none:=by
 cases hf:findAll l a with
 |none=>rfl
 |some o=>obtain⟨i,b,_⟩:=pG hf h;rw[c]at b;cases b
theorem oE{c:bP}{p:fW}{s:cC}{r:cv}(b:c.bd[p.1]? =some s)(a:s.bU[p.2]? =some r):c.plain.all[c.ix p]? =some (s.name,r.r):=by
 have:=vR (oH b) (ze a)
 unfold bP.ix Cf.all
 exact this
def bP.pz(c:bP):Prop:=∀s∈c.bd,∀r∈s.bU,r.r.types.length<=8/\r.r.nodes.length<=64/\fC isWord r.r.nodes≠0
theorem MG{R:aw}{xb:Nat}{vm:Value}{c:bP}(h:IX R xb vm c)(L:c.pz)(p:fW)(s:cC)(r:cv)(M:c.bd[p.1]? =some s)(hr:s.bU[p.2]? =some r)(n:Nd):
  Spec prog 171 [pT xb,.agg (lg p).toArray,.agg n.enc.toArray] R [] λu H'=>∃T,H'=[T]/\∃w S ok,u=.tuple [w,.bool ok].toArray/\OS 255 2 lg w S T/\S.length<=8/\
   NA c ok S (targets c.plain.all s.name r.r.types n):=by
 have b8:=uz h p s r M hr
 have a6:=h
 have Y:=(L s (aV M) r (aV hr)).1
 have b7:=looked c
 obtain⟨i,k⟩:=p
 have pc:=h.pc
 have om:=h.om
 have b1:=h.ci.ss
 have i1:=b1.aq
 have i2:One c.vc:=RS.aq h.ci.sc
 have c1:=h.ci.all _ (aV M)
 have b0:=c1.all _ (aV hr)
 have e0:One s.v:=RS.aq c1.rs
 have d8:bZ (cv.enc r):=⟨b0.cN⟩
 simp only at M hr
 have e5:=b1.pc M
 generalize hA:c.plain.all=A at *
 refine Spec.body func171 rfl results171 ntmps171 rfl ?_
 refine .sr ?_
 refine .cj rfl (λb4=>?_)
 refine .cj rfl (λb5=>?_)
 refine .ag rfl<|.ag rfl<|.zs ?_
 refine bF.dt [(0,_),(5,_)] kE.c.c (X:=Nat) (λ_=>True) (λy E=>(9,pT y)::(8,.string s.name)::E) (λy=>[bl y r.enc 104,bl b5 n.enc 204,bl b4 (lg (i,k)) 255]) ?_ ?_
 refine .dg [15] mixed ?_
 refine .tO 0 rfl .move<|.tO 1 rfl (.nilCheck rfl)<|.tO 2 rfl (.fieldAddr rfl)<|.tO 3 rfl (.fieldAddr rfl)<|.tO 4 rfl (.cO rfl)<|.tO 5 rfl (.fieldAddr rfl)<|.tO 6 rfl (.cO rfl) ?_
 refine .tO 7 rfl (.bI i b1 M rfl rfl rfl) ?_
 refine .tO 8 rfl (.fieldAddr rfl)<|.tO 9 rfl (.cO rfl)<|.tO 10 rfl .move<|.tO 11 rfl (.aP rfl) ?_
 refine RA.kR 12 13 rfl rfl (by kernel_rfl) rfl ?_ ?_
 refine .aR (b8.weaken cZ) (λu F=>?_)
 subst F
 refine .nil (Next.sub ?_)
 refine .sT 13 rfl ?_
 refine .bV (λb9=>?_)
 refine .nil (Next.sub ?_)
 refine .tO 14 rfl .assign ?_
 refine .sT 15 rfl ?_
 refine .bN rfl rfl ?_
 refine .nil (Next.mod rfl ?_)
 refine RA.nil (by kernel_rfl) ?_
 ·exact aG b9 aej kE.c.c.c.c rH
 refine .bV (λb9=>?_)
 refine .nil (Next.sub ?_)
 refine .sT 12 rfl ?_
 refine .aR (b8.weaken cZ) (λu F=>?_)
 subst F
 refine .nil (Next.sub ?_)
 refine .tO 14 rfl .assign ?_
 refine .sT 15 rfl ?_
 refine .bN rfl rfl ?_
 refine .nil (Next.mod rfl ?_)
 refine RA.nil (by kernel_rfl) ?_
 ·exact aG b9 aej kE.c.c.c.c rH
 intro y hy
 obtain⟨vt,vn,r⟩:=r
 have c0:RS R 2 Ty.enc vt r.types:=b0.t
 have e1:One vt:=c0.aq
 have d9:One vn:=RS.aq b0.d
 refine ay<|.sr<|.ag rfl<|.zs<|.sr<|.fa rfl<|.lo rfl<|.zn<|.block<|.sr<|.q .bw<|.az rfl ?_
 refine bF.dt [(0,_)] kE.c (X:=Value×List Ty×aH) (λy=>OS 186 2 Ty.enc y.1 y.2.1 y.2.2/\TN A s.name r n y.2.1) (λy E=>(10,y.1)::E) (λy=>[y.2.2]) ?_ ?_
 refine .cond rfl (λg=>?_) λg=>?_
 refine .region<|.fa rfl<|.lo rfl ?_
 refine .dq (uL vt r.types _ c0.rx (by simp only at Y;omega)) (λu H F=>?_)
 have iu:=F.aq
 refine .ag rfl<|.nil ?_
 ·first
   |exact aG (u,dE r.types,H) ⟨F,by unfold targets;rw[aem (by simpa using g)],oU Y⟩ kE.c.c (aQ [0])
   |exact aG (_,[(⟨s.name,n.rel⟩:Ty)],_) ⟨OS.lits (xs:=[(⟨s.name,n.rel⟩:Ty)]) rfl (by simp[Ty.enc]) (by simp[Ty.enc,aq]),by unfold targets;rw[aek (by simpa using g),aem (by simpa using m)],by simp⟩ ((kE.d rfl).d rfl) (aQ [0])
   |exact aG (O,(dE f.types).map λt=>(⟨t.space,n.dx⟩:Ty),K) ⟨B,by
     unfold targets
     rw[aek (by simpa using g),aek (by simpa using m),aem (by simpa using C),D]
     simp only
     rw[U]
     cases hz:dE f.types with
     |nil=>exact absurd hz a2
     |cons z zs=>rfl,by rw[aen];exact a5⟩ kE.c.c (aQ [0])
   |exact aG (sZ,[],[]) ⟨OS.nil,by unfold targets;rw[aek (by simpa using g),aek (by simpa using m),aek (by simpa using C)];rfl,by simp⟩ kE.c.c bp.iT
 refine .sr<|.q .bw<|.az rfl ?_
 refine .cond rfl (λm=>?_) λm=>?_
 refine .region<|.mo rfl<|.fa rfl<|.lo rfl ?_
 refine .q .da ?_
 refine .ez (λd6=>?_)
 refine .ag rfl<|.nil ?_
 ·first
   |exact aG (u,dE r.types,H) ⟨F,by unfold targets;rw[aem (by simpa using g)],oU Y⟩ kE.c.c (aQ [0])
   |exact aG (_,[(⟨s.name,n.rel⟩:Ty)],_) ⟨OS.lits (xs:=[(⟨s.name,n.rel⟩:Ty)]) rfl (by simp[Ty.enc]) (by simp[Ty.enc,aq]),by unfold targets;rw[aek (by simpa using g),aem (by simpa using m)],by simp⟩ ((kE.d rfl).d rfl) (aQ [0])
   |exact aG (O,(dE f.types).map λt=>(⟨t.space,n.dx⟩:Ty),K) ⟨B,by
     unfold targets
     rw[aek (by simpa using g),aek (by simpa using m),aem (by simpa using C),D]
     simp only
     rw[U]
     cases hz:dE f.types with
     |nil=>exact absurd hz a2
     |cons z zs=>rfl,by rw[aen];exact a5⟩ kE.c.c (aQ [0])
   |exact aG (sZ,[],[]) ⟨OS.nil,by unfold targets;rw[aek (by simpa using g),aek (by simpa using m),aek (by simpa using C)];rfl,by simp⟩ kE.c.c bp.iT
 refine .sr<|.q .bw<|.az rfl ?_
 refine .cond rfl (λC=>?_) λC=>?_
 obtain⟨I,ok,a9,a⟩:=b7 (⟨s.name,n.rel⟩:Ty)
 refine .seq<|.dg [13] mixed ?_
 refine .tO 0 rfl .move<|.tO 1 rfl (.nilCheck rfl)<|.tO 2 rfl (.fieldAddr rfl)<|.tO 3 rfl (.cO rfl)<|.tO 4 rfl .move<|.tO 5 rfl (.fieldAddr rfl)<|.tO 6 rfl (.cO rfl) ?_
 refine .tO 7 rfl .da ?_
 refine .hZ 8 rfl (.cast (.oz (a6.rm.oB λb o hb=>.inl hb) rfl rfl) (aeo (λl:List Value=>Value.tuple l.toArray) a9)) (by kernel_rfl) ?_
 refine .tO 9 rfl .move<|.tO 10 rfl .extract<|.tK 11 rfl .extract ?_
 refine .sT 12 rfl ?_
 refine .bV (λd2=>?_)
 refine .nil (Next.sub ?_)
 refine .sT 13 rfl ?_
 refine .bN rfl rfl ?_
 refine .nil (Next.mod rfl ?_)
 refine .tK 14 rfl .assign ?_
 refine RA.nil (by kernel_rfl) ?_
 refine ay<|.seq<|.sr<|.mo rfl<|.q .not<|.zn ?_
 refine .cond rfl (λh4=>?_) λh4=>?_
 refine .sr<|.ag rfl<|.az rfl ?_
 refine .ret (aI (gW (bf (aI (bu _ (.two (.tmp rfl) (.tmp rfl)) bp.iT ?_)))))
 ·refine⟨[],rfl,_,[],false,rfl,OS.nil,by simp,?_⟩
  have V:ok=false:=by simpa using h4
  have D:bX A ⟨s.name,n.rel⟩=none:=by
   unfold nr at a
   rw[hA]at a
   cases hf:bX A ⟨s.name,n.rel⟩with
   |none=>rfl
   |some j=>rw[hf]at a;rw[a.1]at V;cases V
  unfold targets
  rw[aek (by simpa using g),aek (by simpa using m),aem (by simpa using C),D]
  rfl
 have a8:ok=true:=by simpa using h4
 subst a8
 obtain⟨j,D,a7,s2,f,a4,a3⟩:∃j,bX A ⟨s.name,n.rel⟩=some j/\c.ix I=j/\c.valid I:=by
  unfold nr at a
  rw[hA]at a
  cases hf:bX A ⟨s.name,n.rel⟩with
  |none=>rw[hf]at a;cases a
  |some j=>rw[hf]at a;exact⟨j,rfl,a.2.1,a.2.2⟩
 have c5:=uz a6 I s2 f a4 a3
 obtain⟨c2,e6,f⟩:=f
 have c6:=(h.ci.all _ (aV a4)).all _ (aV a3)
 have c7:RS R 2 Ty.enc c2 f.types:=c6.t
 have c8:f.types.length<=8:=(L _ (aV a4) _ (aV a3)).1
 have U:(A.map (·.2.types)).getD j []=f.types:=by
  have:=oE a4 a3
  rw[hA,a7]at this
  rw[aer,aep,this]
  rfl
 refine .kn<|.seq<|.sr<|.mo rfl<|.q (.aP rfl) ?_
 refine .aR (c5.weaken cZ) (λu F=>?_)
 subst F
 refine .q (.KY underlying104 rfl rfl wM rfl) ?_
 refine .dq (uL c2 f.types _ c7.rx (by omega)) (λu T2 b2=>?_)
 have e2:=b2.aq
 have a5:=oU c8
 refine .q (.fD b2) ?_
 refine .mo rfl<|.zn<|.block ?_
 refine .cL [(0,_),(5,_),(67,_),(68,_)] (X:=Nat×Value×aH) (λy=>y.1<=(dE f.types).length/\OS 186 2 Ty.enc y.2.1 (((dE f.types).take y.1).map λt=>(⟨t.space,n.dx⟩:Ty)) y.2.2) (λy E=>(69,iN y.1)::(10,y.2.1)::E) (λy G=>y.2.2::G) (λy=>(dE f.types).length-y.1) (0,sZ,[]) ⟨ael _,OS.nil⟩ kE.c.c.c.c.c.c bp.jT ?_
 rintro⟨q,O,K⟩ ⟨hq,B⟩
 simp only at hq B⊢
 have io:=B.aq
 refine .sr<|.q .lss<|.zs ?_
 refine .cond rfl (λh5=>?_) λh5=>?_
 have W:q<(dE f.types).length:=by have:=cq h5;omega
 obtain⟨t,N⟩:=cm W
 refine .kn<|.seq<|.block<|.sr ?_
 refine .bH q b2 N (λe3=>?_)
 refine .q (.aP rfl) ?_
 refine .bV (λd3=>?_)
 refine .bN rfl rfl<|.zn<|.region<|.mo rfl<|.fa rfl<|.lo rfl<|.fa rfl<|.lo rfl ?_
 refine .q .da ?_
 refine .ez (λd7=>?_)
 refine .append B (RS.lits (xs:=[(⟨t.space,n.dx⟩:Ty)]) rfl (by simp[Ty.enc]) (by simp[Ty.enc,aq])) (by simp only[aen,aes,aew];omega) (λv1 H Z=>?_)
 have d0:=Z.aq
 refine .ag rfl<|.nil<|bi<|ay<|.region ?_
 refine .ia (q+1) .add ?_
 refine .mo rfl<|.nil ?_
 ·exact aW (q+1,v1,H) ⟨W,by simp only;rw[er N,aeq];exact Z⟩ (by simp only;omega) kE.c.c.c.c.c.c (aQ [2,2,2,2,2,2])
 rw[dN (jh h5)]at B
 refine .exit<|bz<|bG<|bB<|ay<|.sr<|.mo rfl<|.q (.fD B) ?_
 refine .q .bw<|.zn ?_
 refine .cond rfl (λh6=>?_) λh6=>?_
 have c4:dE f.types=[]:=by have Q:=eq_of_beq h6;rw[aen]at Q;exact List.eq_nil_of_length_eq_zero (by omega)
 refine .sr<|.ag rfl<|.az rfl ?_
 refine .ret (gW (bf (aI (bu _ (.two (.tmp rfl) (.tmp rfl)) bp.iT ?_))))
 ·refine⟨[],rfl,_,[],false,rfl,OS.nil,by simp,?_⟩
  unfold targets
  rw[aek (by simpa using g),aek (by simpa using m),aem (by simpa using C),D]
  simp only
  rw[U,c4]
  rfl
 have a2:dE f.types≠[]:=by intro e;rw[e]at h6;simp at h6
 refine .skip ?_
 ·first
   |exact aG (u,dE r.types,H) ⟨F,by unfold targets;rw[aem (by simpa using g)],oU Y⟩ kE.c.c (aQ [0])
   |exact aG (_,[(⟨s.name,n.rel⟩:Ty)],_) ⟨OS.lits (xs:=[(⟨s.name,n.rel⟩:Ty)]) rfl (by simp[Ty.enc]) (by simp[Ty.enc,aq]),by unfold targets;rw[aek (by simpa using g),aem (by simpa using m)],by simp⟩ ((kE.d rfl).d rfl) (aQ [0])
   |exact aG (O,(dE f.types).map λt=>(⟨t.space,n.dx⟩:Ty),K) ⟨B,by
     unfold targets
     rw[aek (by simpa using g),aek (by simpa using m),aem (by simpa using C),D]
     simp only
     rw[U]
     cases hz:dE f.types with
     |nil=>exact absurd hz a2
     |cons z zs=>rfl,by rw[aen];exact a5⟩ kE.c.c (aQ [0])
   |exact aG (sZ,[],[]) ⟨OS.nil,by unfold targets;rw[aek (by simpa using g),aek (by simpa using m),aek (by simpa using C)];rfl,by simp⟩ kE.c.c bp.iT
 refine .skip ?_
 ·first
   |exact aG (u,dE r.types,H) ⟨F,by unfold targets;rw[aem (by simpa using g)],oU Y⟩ kE.c.c (aQ [0])
   |exact aG (_,[(⟨s.name,n.rel⟩:Ty)],_) ⟨OS.lits (xs:=[(⟨s.name,n.rel⟩:Ty)]) rfl (by simp[Ty.enc]) (by simp[Ty.enc,aq]),by unfold targets;rw[aek (by simpa using g),aem (by simpa using m)],by simp⟩ ((kE.d rfl).d rfl) (aQ [0])
   |exact aG (O,(dE f.types).map λt=>(⟨t.space,n.dx⟩:Ty),K) ⟨B,by
     unfold targets
     rw[aek (by simpa using g),aek (by simpa using m),aem (by simpa using C),D]
     simp only
     rw[U]
     cases hz:dE f.types with
     |nil=>exact absurd hz a2
     |cons z zs=>rfl,by rw[aen];exact a5⟩ kE.c.c (aQ [0])
   |exact aG (sZ,[],[]) ⟨OS.nil,by unfold targets;rw[aek (by simpa using g),aek (by simpa using m),aek (by simpa using C)];rfl,by simp⟩ kE.c.c bp.iT
 intro x hx
 obtain⟨w,a0,Tt⟩:=x
 obtain⟨a1,b6,c3⟩:=hx
 simp only at a1 b6 c3⊢
 have iw:=a1.aq
 rw[b6]
 refine bi<|ay<|.sr<|.ag rfl<|.zs<|.sr<|.mo rfl<|.q (.fD a1) ?_
 refine .mo rfl<|.zn<|.block ?_
 refine .cL [(0,_),(85,_),(86,_)] (X:=Nat×Value×List fW×aH) (λy=>y.1<=a0.length/\OS 255 2 lg y.2.1 y.2.2.1 y.2.2.2/\y.2.2.1.length=y.1/\NA c true y.2.2.1 (findAll A (a0.take y.1))) (λy E=>(87,iN y.1)::(15,y.2.1)::E) (λy G=>y.2.2.2::G) (λy=>a0.length-y.1) (0,sZ,[],[]) ⟨ael _,OS.nil,rfl,⟨rfl,rfl,λp hp=>(by cases hp)⟩⟩ kE.c.c.c.c.c bp.jT ?_
 rintro⟨q,O,S,K⟩ ⟨hq,B,b3,J⟩
 simp only at hq B b3 J⊢
 have io:=B.aq
 refine .sr<|.q .lss<|.zs ?_
 refine .cond rfl (λQ=>?_) λQ=>?_
 have W:q<a0.length:=cF Q
 obtain⟨t,N⟩:=cm W
 obtain⟨I,ok,a9,a⟩:=b7 t
 unfold nr at a
 rw[hA]at a
 refine .kn<|.seq<|.block<|.sr ?_
 refine .bH q a1 N (λe4=>?_)
 refine .q (.aP rfl) ?_
 refine .bV (λd4=>?_)
 refine .bN rfl rfl<|.zs<|.dg [10] mixed ?_
 refine .tO 0 rfl .move<|.tO 1 rfl (.nilCheck rfl)<|.tO 2 rfl (.fieldAddr rfl)<|.tO 3 rfl (.cO rfl)<|.tO 4 rfl (.aP rfl) ?_
 refine .hZ 5 rfl (.cast (.oz (a6.rm.oB λb o hb=>.inl hb) rfl rfl) (aeo (λl:List Value=>Value.tuple l.toArray) a9)) (by kernel_rfl) ?_
 refine .tO 6 rfl .move<|.tO 7 rfl .extract<|.tK 8 rfl .extract ?_
 refine .sT 9 rfl ?_
 refine .bV (λd5=>?_)
 refine .nil (Next.sub ?_)
 refine .sT 10 rfl ?_
 refine .bN rfl rfl ?_
 refine .nil (Next.mod rfl ?_)
 refine .tK 11 rfl .assign ?_
 refine RA.nil (by kernel_rfl) ?_
 refine ay<|.seq<|.sr<|.mo rfl<|.q .not<|.zn ?_
 refine .cond rfl (λL=>?_) λL=>?_
 refine .sr<|.ag rfl<|.az rfl ?_
 refine .ret (aI (bf (aI (cK (bf (aI (bu _ (.two (.tmp rfl) (.tmp rfl)) bp.iT ?_)))))))
 ·refine⟨[],rfl,_,[],false,rfl,OS.nil,by simp,?_⟩
  have V:ok=false:=by simpa using L
  have D:bX A t=none:=by
   cases hf:bX A t with
   |none=>rfl
   |some j=>rw[hf]at a;rw[a.1]at V;cases V
  rw[xp (aV N) D]
  rfl
 have a8:ok=true:=by simpa using L
 subst a8
 obtain⟨j,D,a7,c9⟩:∃j,bX A t=some j/\c.ix I=j/\c.valid I:=by
  cases hf:bX A t with
  |none=>rw[hf]at a;cases a
  |some j=>rw[hf]at a;exact⟨j,rfl,a.2.1,a.2.2⟩
 refine .kn<|.region<|.mo rfl<|.q (.aP rfl) ?_
 refine .ez (λd1=>?_)
 refine .append B (RS.lits (xs:=[I]) rfl (by simp[lg]) (by simp[lg,aq])) (by simp only[aew];omega) (λv1 H Z=>?_)
 have d0:=Z.aq
 refine .ag rfl<|.nil<|bi<|ay<|.region ?_
 refine .ia (q+1) .add ?_
 refine .mo rfl<|.nil ?_
 ·exact aW (q+1,v1,S++[I],H) ⟨W,Z,by simp[b3],by
   simp only
   rw[er N,xo,D]
   cases hf:findAll A (a0.take q)with
   |none=>rw[hf]at J;cases J
   |some o=>
    rw[hf]at J
    obtain⟨_,n1,n2⟩:=J
    refine⟨rfl,by rw[aeq,n1];simp[a7],λp hp=>?_⟩
    rcases ae2.1 hp with hp|hp
    ·exact n2 p hp
    ·rw[aeD]at hp;subst hp;exact c9⟩ (by simp only;omega) kE.c.c.c.c.c (aQ [3,3])
 rw[dN (jh Q)]at J
 refine .exit<|bz<|bG<|bB<|ay<|.sr<|.mo rfl<|.ag rfl<|.az rfl ?_
 refine .ret (bu _ (.two (.tmp rfl) (.tmp rfl)) (.one [0] _) ?_)
 ·exact⟨K,by simp[take],O,S,true,rfl,B,by omega,J⟩
abbrev jL:=fW×fW×Bool
def jD(e:jL):List Value:=[iN e.1.1,iN e.1.2,iN e.2.1.1,iN e.2.1.2,.bool e.2.2]
instance(e:jL):bZ (jD e):=⟨by simp[jD,aq]⟩
def bP.ed(c:bP)(e:jL):Ed:=⟨c.ix e.1,c.ix e.2.1,e.2.2⟩
def EA(c:bP)(ok:Bool)(Es:List jL)(o:Option (List Ed)):Prop:=match o with
 |none=>ok=false
 |some E=>ok=true/\Es.map c.ed=E/\∀e∈Es,c.valid e.1/\c.valid e.2.1
theorem sY{α β:Type}{f:α->Option (List β)}{x:α}:∀{l:List α},x∈l->f x=none->cat f l=none
 |[],hx,_=>by cases hx
 |y::l,hx,h=>by
  rw[cat]
  rcases List.mem_cons.1 hx with rfl|hx
  ·rw[h];rfl
  ·rw[sY hx h]
   cases f y<;>rfl
theorem EA.gq{c:bP}{d f:List jL}{a b:Option (List Ed)}(g:EA c true d a)(h:EA c true f b):EA c true (d++f) (a.bind λx=>b.map (x++ ·)):=by
 cases a with
 |none=>cases g
 |some a=>
  cases b with
  |none=>cases h
  |some b=>
   obtain⟨_,i,j⟩:=g
   obtain⟨_,k,l⟩:=h
   refine⟨rfl,by rw[aeq,i,k],λe he=>?_⟩
   rcases ae2.1 he with he|he
   ·exact j e he
   ·exact l e he
theorem EA.nil{c:bP}:EA c true [] (some []):=⟨rfl,rfl,λe a=>(by cases a)⟩
theorem BX{R:aw}{xb:Nat}{vm:Value}{c:bP}(h:IX R xb vm c)(h8:c.pz)(p:fW)(s:cC)(r:cv)(I:c.bd[p.1]? =some s)(H:s.bU[p.2]? =some r):
  Spec prog 132 [pT xb,.agg (lg p).toArray] R [] λu H'=>∃T,H'=[T]/\∃w Es ok,u=.tuple [w,.bool ok].toArray/\OS 259 5 jD w Es T/\Es.length<=512/\
   EA c ok Es (kN c.plain.all (c.ix p) s.name r.r):=by
 have d3:=uz h p s r I H
 have a8:=λn=>MG h h8 p s r I H n
 have c6:=h
 obtain⟨b5,d0,a5⟩:=h8 s (aV I) r (aV H)
 have c8:=looked c
 have d7:c.valid p:=⟨s,r,I,H⟩
 have pc:=h.pc
 have om:=h.om
 have a1:=(h.ci.all _ (aV I)).all _ (aV H)
 generalize hA:c.plain.all=A at *
 generalize c7:c.ix p=j0 at *
 have N:kN A j0 s.name r.r=if(findAll A (dE r.r.types)).isSome then cat (λk:Nat=>(r.r.nodes[k]?).bind λn=>fi A j0 s.name r.r ((mQ r.r.nodes).getD k false) n) (List.range' 0 r.r.nodes.length)else none:=rfl
 obtain⟨U,Q,r⟩:=r
 have b4:RS R 2 Ty.enc U r.types:=a1.t
 have O:RS R 5 Nd.enc Q r.nodes:=a1.d
 have e7:One U:=b4.aq
 have e6:One Q:=O.aq
 have e4:bZ (cv.enc ⟨U,Q,r⟩):=⟨a1.cN⟩
 have d8:=oU b5
 simp only at b5 d0 a5 N a8 d8⊢
 have e3:(mQ r.nodes).length=r.nodes.length:=by unfold mQ;rw[qP,aeE]
 refine Spec.body func132 rfl results132 ntmps132 rfl ?_
 refine .sr ?_
 refine .cj rfl (λb3=>?_)
 refine .ag rfl<|.ag rfl<|.z<|.mo rfl<|.q (.aP rfl) ?_
 refine .aR (d3.weaken cZ) (λu hu=>?_)
 subst hu
 refine .bV (λb6=>?_)
 refine .bN rfl rfl<|.zs<|.sr<|.fa rfl<|.lo rfl ?_
 refine .dq (uL U r.types _ b4.rx (by omega)) (λu T2 a3=>?_)
 have e8:=a3.aq
 refine .q (.fD a3) ?_
 refine .mo rfl<|.zn<|.block ?_
 refine .cL [(0,_),(3,_),(6,_),(24,_),(25,_)] (X:=Nat) (λq=>q<=(dE r.types).length/\((dE r.types).take q).all (λt=>(bX A t).isSome)=true) (λq E=>(26,iN q)::E) (λ_ G=>G) (λq=>(dE r.types).length-q) 0 ⟨ael _,rfl⟩ kE.c.c.c.c.c.c rH ?_
 rintro q ⟨hq,M⟩
 refine .sr<|.q .lss<|.zs ?_
 refine .cond rfl (λV=>?_) λV=>?_
 have b1:q<(dE r.types).length:=by have:=cq V;omega
 obtain⟨t,a2⟩:=cm b1
 obtain⟨ps,ok,d1,v⟩:=c8 t
 unfold nr at v
 rw[hA]at v
 refine .kn<|.seq<|.block<|.sr ?_
 refine .bH q a3 a2 (λf1=>?_)
 refine .q (.aP rfl) ?_
 refine .bV (λb8=>?_)
 refine .bN rfl rfl<|.zs<|.dg [10] mixed ?_
 refine .tO 0 rfl .move<|.tO 1 rfl (.nilCheck rfl)<|.tO 2 rfl (.fieldAddr rfl)<|.tO 3 rfl (.cO rfl)<|.tO 4 rfl (.aP rfl) ?_
 refine .hZ 5 rfl (.cast (.oz (c6.rm.oB λb o hb=>.inl hb) rfl rfl) (aeo (λl:List Value=>Value.tuple l.toArray) d1)) (by kernel_rfl) ?_
 refine .tO 6 rfl .move<|.tO 7 rfl .extract<|.tK 8 rfl .extract ?_
 refine .sT 9 rfl ?_
 refine .bV (λb9=>?_)
 refine .nil (Next.sub ?_)
 refine .sT 10 rfl ?_
 refine .bN rfl rfl ?_
 refine .nil (Next.mod rfl ?_)
 refine .tK 11 rfl .assign ?_
 refine RA.nil (by kernel_rfl) ?_
 refine ay<|.sr<|.mo rfl<|.q .not<|.zn ?_
 refine .cond rfl (λW=>?_) λW=>?_
 refine .sr<|.ag rfl<|.az rfl ?_
 refine .ret (bf (aI (cK (bf (aI (bu _ (.two (.tmp rfl) (.tmp rfl)) bp.iT ?_))))))
 ·refine⟨[],rfl,_,[],false,rfl,OS.nil,by simp,?_⟩
  have F:ok=false:=by simpa using W
  have hj:bX A t=none:=by
   cases f:bX A t with
   |none=>rfl
   |some j=>rw[f]at v;rw[v.1]at F;cases F
  rw[N,xp (aV a2) hj]
  rfl
 have f:(bX A t).isSome=true:=by
  have L:ok=true:=by simpa using W
  cases f:bX A t with
  |none=>rw[f]at v;rw[v]at L;cases L
  |some j=>rfl
 refine .skip<|bi<|ay<|.region ?_
 refine .ia (q+1) .add ?_
 refine .mo rfl<|.nil ?_
 ·exact aW (q+1) ⟨b1,mR a2 M f⟩ (by omega) kE.c.c.c.c.c.c (aQ [2,2,2,2])
 have c5:(findAll A (dE r.types)).isSome=true:=by
  have i:=qV A (dE r.types)
  rw[dN (jh V)]at M
  cases f:findAll A (dE r.types)with
  |none=>rw[f]at i;rw[show _=false from i]at M;cases M
  |some o=>rfl
 rw[aem c5]at N
 rw[N]
 generalize hg:(λk:Nat=>(r.nodes[k]?).bind λn=>fi A j0 s.name r ((mQ r.nodes).getD k false) n)=g at *
 refine .exit<|bz<|bG<|bB<|ay<|.sr<|.fa rfl<|.lo rfl ?_
 refine .dq (AM Q r.nodes _ O.rx a5 (by omega)) (λu T9 b7=>?_)
 have e9:=b7.aq
 refine .ag rfl<|.z<|.ag rfl<|.zs<|.sr<|.fa rfl<|.lo rfl<|.q (.bL O) ?_
 refine .mo rfl<|.zn<|.block ?_
 refine .cL [(0,_),(3,_),(11,_),(46,_),(47,_)] (X:=Nat×Value×List jL×aH) (λy=>y.1<=r.nodes.length/\OS 259 5 jD y.2.1 y.2.2.1 y.2.2.2/\y.2.2.1.length<=8*y.1/\EA c true y.2.2.1 (cat g (List.range' 0 y.1))) (λy E=>(48,iN y.1)::(12,y.2.1)::E) (λy G=>y.2.2.2::G) (λy=>r.nodes.length-y.1) (0,sZ,[],[]) ⟨ael _,OS.nil,by simp,EA.nil⟩ kE.c.c.c.c.c.c.c bp.jT ?_
 rintro⟨m,vo,Es,To⟩ ⟨hm,K,c2,hE⟩
 simp only at hm K c2 hE⊢
 have io:=K.aq
 refine .sr<|.q .lss<|.zs ?_
 refine .cond rfl (λY=>?_) λY=>?_
 have a7:m<r.nodes.length:=cF Y
 obtain⟨n,a9⟩:=cm a7
 obtain⟨J,a4⟩:∃b,(mQ r.nodes)[m]? =some b:=⟨_,bE (by omega)⟩
 have a6:g m=fi A j0 s.name r J n:=by
  rw[<-hg]
  simp only[a9,aeQ]
  rw[aer,a4]
  rfl
 have d4:List.range' 0 (m+1)=List.range' 0 m++[m]:=by rw[List.range'_1_concat];simp
 refine .kn<|.seq<|.block<|.sr<|.mo rfl ?_
 refine .bI m O a9 (λf2=>?_)
 refine .q (.aP rfl) ?_
 refine .bV (λc1=>?_)
 refine .ag rfl<|.bN rfl rfl<|.z<|.mo rfl<|.q (.aP rfl)<|.q (.aP rfl) ?_
 refine .dq ((a8 n).weaken cZ) (λu T4 d6=>?_)
 obtain⟨w4,S,ok,rfl,a0,e2,a⟩:=d6
 have i4:=a0.aq
 refine .mo rfl<|.q .extract<|.q .extract<|.ag rfl<|.ag rfl<|.zs<|.sr<|.mo rfl<|.q .not<|.zn ?_
 refine .cond rfl (λZ=>?_) λZ=>?_
 refine .sr<|.ag rfl<|.az rfl ?_
 refine .ret (aI (bf (aI (cK (bf (aI (bu _ (.two (.tmp rfl) (.tmp rfl)) bp.iT ?_)))))))
 ·refine⟨[],rfl,_,[],false,rfl,OS.nil,by simp,?_⟩
  have F:ok=false:=by simpa using Z
  have B:targets A s.name r.types n=none:=by
   cases B:targets A s.name r.types n with
   |none=>rfl
   |some C=>rw[B]at a;rw[a.1]at F;cases F
  rw[sY (x:=m) (by rw[List.mem_range'_1];omega) (by rw[a6];unfold fi;rw[B];rfl)]
  rfl
 have L:ok=true:=by simpa using Z
 subst L
 obtain⟨C,d5,c3,c4⟩:∃C,targets A s.name r.types n=some C/\S.map c.ix=C/\∀q∈S,c.valid q:=by
  cases B:targets A s.name r.types n with
  |none=>rw[B]at a;cases a
  |some C=>rw[B]at a;exact⟨C,rfl,a.2.1,a.2.2⟩
 refine .kn<|.sr<|.mo rfl<|.q (.fD a0) ?_
 refine .mo rfl<|.zn<|.block ?_
 refine .cL [(0,_),(3,_),(11,_),(13,_),(46,_),(47,_),(48,_),(62,_),(63,_)] (X:=Nat×Value×aH) (λy=>y.1<=S.length/\OS 259 5 jD y.2.1 (Es++(S.take y.1).map λq=>((p,q,J):jL)) y.2.2) (λy E=>(64,iN y.1)::(12,y.2.1)::E) (λy G=>T4::bl c1 n.enc 204::y.2.2::G) (λy=>S.length-y.1) (0,vo,To) ⟨ael _,by simpa using K⟩ kE.c.c.c.c.c.c.c.c.c.c.c rH ?_
 rintro⟨q,v3,T3⟩ ⟨d2,D⟩
 simp only at d2 D⊢
 have e5:=D.aq
 refine .sr<|.q .lss<|.zs ?_
 refine .cond rfl (λi=>?_) λi=>?_
 have b2:q<S.length:=cF i
 obtain⟨d9,b0⟩:=cm b2
 refine .kn<|.seq<|.block<|.sr ?_
 refine .bH q a0 b0 (λf3=>?_)
 refine .q (.aP rfl) ?_
 refine .bV (λe0=>?_)
 refine .bN rfl rfl<|.zn<|.dg [9] mixed ?_
 refine .tO 0 rfl .move<|.tO 1 rfl (.aP rfl)<|.tO 2 rfl (.aP rfl)<|.tO 3 rfl .move<|.tO 4 rfl .move ?_
 refine RA.bH 5 rfl m b7 a4 rfl rfl rfl (by kernel_rfl) (λf4=>?_)
 refine .tO 6 rfl (.cO rfl) ?_
 refine .tO 7 rfl .da ?_
 refine .sT 8 rfl ?_
 refine .ez (λe1=>?_)
 refine .nil (Next.sub ?_)
 refine .sT 9 rfl ?_
 refine .append D (RS.lits (xs:=[((p,d9,J):jL)]) rfl (by simp[jD]) (by simp[jD,aq])) (by simp only[aet,aen,aes,aew];omega) (λv1 T1 c0=>?_)
 have f0:=c0.aq
 refine .nil (Next.mod rfl ?_)
 refine .tK 10 rfl .assign ?_
 refine RA.nil (by kernel_rfl) ?_
 refine bi<|ay<|.region ?_
 refine .ia (q+1) .add ?_
 refine .mo rfl<|.nil ?_
 ·exact aW (q+1,v1,T1) ⟨b2,by simp only;rw[er b0,aeq, <-aeN];exact c0⟩ (by simp only;omega) kE.c.c.c.c.c.c.c.c.c.c.c (aQ [2,2,2,2,2,2,2])
 rw[dN (jh i)]at D
 refine .exit<|bz<|bG<|bB<|bi<|ay<|.region ?_
 refine .ia (m+1) .add ?_
 refine .mo rfl<|.nil ?_
 ·exact aW (m+1,v3,Es++S.map (λq=>((p,q,J):jL)),T3) ⟨a7,D,by simp only[aet,aen];omega,by
   simp only
   rw[d4,pb]
   refine hE.gq ?_
   rw[cat,a6]
   unfold fi
   rw[d5]
   simp only[cat,Option.map_some,aeQ,aeu]
   refine⟨rfl,?_,λe he=>?_⟩
   ·rw[<-c3,aey,aey]
    congr 1
    funext q
    simp only[aeX,bP.ed,c7]
   ·obtain⟨q,hq,rfl⟩:=aeM.1 he
    exact⟨d7,c4 q hq⟩⟩ (by simp only;omega) kE.c.c.c.c.c.c.c (aQ [2,2,2,2,2])
 have c9:m=r.nodes.length:=by have:=bC Y;omega
 refine .exit<|bz<|bG<|bB<|ay<|.sr<|.mo rfl<|.ag rfl<|.az rfl ?_
 refine .ret (bu _ (.two (.tmp rfl) (.tmp rfl)) (.one [0] _) ?_)
 ·refine⟨To,by simp[take],vo,Es,true,rfl,K,by omega,?_⟩
  rw[<-c9]
  exact hE
theorem xf{c:bP}(h:qu c.fN):c.pz:=λs b r a=>h (s.name,r) (ae5.2 ⟨s,b,aeM.2 ⟨r,a,rfl⟩⟩)
theorem OZ{R:aw}{xb:Nat}{vm:Value}{c:bP}(h:IX R xb vm c)(h8:c.pz)(t:c.jF):
  Spec prog 84 [pT xb] R [] λu H'=>∃T,H'=[T]/\∃w Es ok,u=.tuple [w,.bool ok].toArray/\OS 259 5 jD w Es T/\Es.length<=131072/\EA c ok Es c.plain.lK:=by
 have b4:=λp s r a J=>BX h h8 p s r a J
 have b7:=h
 have c1:=looked c
 have pc:=h.pc
 have om:=h.om
 have L:=h.ci.ss
 have K:=h.ci.sc
 have i1:=L.aq
 have i2:=K.aq
 have d3:=L.le
 have d2:=K.le
 have b3:=h.ci.all
 have b1:=oX c.plain
 have d6:=t.fN
 have c0:c.plain.all.length=c.fN.length:=by rw[<-oD,aen]
 have c6:c.plain.bd.length=c.bd.length:=by unfold bP.plain;simp
 have c4:∀(i:Nat) (s:cC),c.bd[i]? =some s->c.plain.bd[i]? =some s.plain:=λi s a=>oH a
 have c7:=λ(p:fW) (s:cC) (r:cv)=>oE (c:=c) (p:=p) (s:=s) (r:=r)
 have W:c.plain.lK=if sh c.plain then cat (λp:Nat×(ByteArray×Rl)=>kN c.plain.all p.1 p.2.1 p.2.2) (jQ 0 c.plain.all)else none:=rfl
 have a9:sh c.plain=c.scopes.all λs:Sc=>(bX c.plain.all ⟨s.jV,s.rel⟩).isSome:=rfl
 have b8:∀i k,c.ix (i,k)=cM c.plain.bd i+k:=λ_ _=>rfl
 generalize hA:c.plain.all=A at *
 generalize V:cM c.plain.bd=of at *
 generalize hg:(λp:Nat×(ByteArray×Rl)=>kN A p.1 p.2.1 p.2.2)=g at *
 have c2:of 0=0:=by rw[<-V];cases c.plain.bd<;>rfl
 refine Spec.body func84 rfl results84 ntmps84 rfl ?_
 refine .sr<|.ag rfl<|.ag rfl<|.z<|.ag rfl<|.zs<|.sr<|.mo rfl<|.nc rfl<|.fa rfl<|.fa rfl<|.lo rfl<|.q (.bL L) ?_
 refine .mo rfl<|.zn<|.block ?_
 refine .cL [(0,_),(18,_),(19,_)] (X:=Nat×Value×List jL×aH) (λy=>y.1<=c.bd.length/\OS 259 5 jD y.2.1 y.2.2.1 y.2.2.2/\y.2.2.1.length<=512*of y.1/\EA c true y.2.2.1 (cat g (jQ 0 (A.take (of y.1))))) (λy E=>(20,iN y.1)::(4,y.2.1)::E) (λy G=>y.2.2.2::G) (λy=>c.bd.length-y.1) (0,sZ,[],[]) ⟨ael _,OS.nil,by simp,by simp only;rw[c2];exact EA.nil⟩ kE.c.c.c.c.c bp.jT ?_
 rintro⟨i,M,Es,F⟩ ⟨hi,m,n,f⟩
 simp only at hi m n f⊢
 have io:=m.aq
 refine .sr<|.q .lss<|.zs ?_
 refine .cond rfl (λN=>?_) λN=>?_
 have a5:i<c.bd.length:=cF N
 obtain⟨⟨e,v,d⟩,a⟩:=cm a5
 have b0:=b3 _ (aV a)
 have Z:RS R 3 cv.enc v d:=b0.rs
 have d7:=Z.aq
 have d4:=Z.le
 have d8:bZ (cC.enc ⟨e,v,d⟩):=⟨b0.cN⟩
 have a8:=c4 i _ a
 have a7:=oF a8
 have a6:=rL a8
 rw[V,show(cC.plain ⟨e,v,d⟩).bU.length=d.length by simp[cC.plain]]at a7 a6
 rw[b1,c0]at a6
 refine .kn<|.seq<|.block<|.sr<|.mo rfl ?_
 refine .bI i L a (λe0=>?_)
 refine .q (.aP rfl) ?_
 refine .bV (λb6=>?_)
 refine .ag rfl<|.bN rfl rfl<|.z<|.fa rfl<|.lo rfl<|.q (.bL Z) ?_
 refine .mo rfl<|.zn<|.block ?_
 refine .cL [(0,_),(5,_),(18,_),(19,_),(20,_),(27,_)] (X:=Nat×Value×List jL×aH) (λy=>y.1<=d.length/\OS 259 5 jD y.2.1 y.2.2.1 y.2.2.2/\y.2.2.1.length<=512*(of i+y.1)/\EA c true y.2.2.1 (cat g (jQ 0 (A.take (of i+y.1))))) (λy E=>(28,iN y.1)::(4,y.2.1)::E) (λy G=>bl b6 (cC.enc ⟨e,v,d⟩) 101::y.2.2.2::G) (λy=>d.length-y.1) (0,M,Es,F) ⟨ael _,m,n,f⟩ kE.c.c.c.c.c.c.c.c rH ?_
 rintro⟨k,M,Es,F⟩ ⟨hk,m,n,f⟩
 simp only at hk m n f⊢
 have io:=m.aq
 refine .sr<|.q .lss<|.zs ?_
 refine .cond rfl (λO=>?_) λO=>?_
 have a4:k<d.length:=cF O
 obtain⟨r,J⟩:=cm a4
 have a1:=b4 (i,k) _ r a J
 have H:=c7 (i,k) _ r a J
 rw[b8]at a1 H
 have a2:g (of i+k,(e,r.r))=kN A (of i+k) e r.r:=by rw[<-hg]
 have d5:of i+k<A.length:=(aex.1 H).1
 refine .kn<|.seq<|.block<|.sr<|.mo rfl<|.ag rfl<|.z<|.mo rfl<|.mo rfl<|.mo rfl ?_
 refine .q .da ?_
 refine .dq (a1.weaken cZ) (λu T4 c8=>?_)
 obtain⟨w4,Fs,ok,rfl,a0,d1,B⟩:=c8
 have i4:=a0.aq
 refine .mo rfl<|.q .extract<|.q .extract<|.ag rfl<|.ag rfl<|.zs<|.sr<|.mo rfl<|.q .not<|.zn ?_
 refine .cond rfl (λQ=>?_) λQ=>?_
 refine .sr<|.ag rfl<|.az rfl ?_
 refine .ret (aI (bf (aI (cK (bf (bf (aI (cK (bf (aI (bu _ (.two (.tmp rfl) (.tmp rfl)) bp.iT ?_)))))))))))
 ·refine⟨[],rfl,_,[],false,rfl,OS.nil,by simp,?_⟩
  have D:ok=false:=by simpa using Q
  rw[W]
  split
  ·rw[sY (x:=(of i+k,(e,r.r))) (by have:=qS (i:=0) H;rwa [ae8]at this) (by
    rw[a2]
    cases hrc:kN A (of i+k) e r.r with
    |none=>rfl
    |some o=>rw[show kN A (of i+k) (⟨e,v,d⟩:cC).name r.r=some o from hrc]at B;rw[B.1]at D;cases D)]
   rfl
  ·rfl
 have I:ok=true:=by simpa using Q
 subst I
 refine .kn<|.region<|.mo rfl<|.mo rfl ?_
 refine .append m a0.rx (by omega) (λv1 T1 b2=>?_)
 have d9:=b2.aq
 refine .ag rfl<|.nil<|bi<|ay<|.region ?_
 refine .ia (k+1) .add ?_
 refine .mo rfl<|.nil ?_
 ·exact aW (k+1,v1,Es++Fs,T1) ⟨a4,b2,by simp only[aet];omega,by
   simp only
   rw[show of i+(k+1)=of i+k+1 by omega,s9 H,pb]
   refine f.gq ?_
   rw[cat,ae8,show g (of i+k,(⟨e,v,d⟩:cC).name,r.r)=kN A (of i+k) e r.r from a2]
   revert B
   generalize kN A (of i+k) (⟨e,v,d⟩:cC).name r.r=o
   intro B
   cases o with
   |none=>exact B
   |some o=>simpa[cat]using B⟩ (by simp only;omega) kE.c.c.c.c.c.c.c.c (aQ [1,1,1])
 have b9:k=d.length:=by have:=bC O;omega
 rw[b9, <-a7]at n f
 refine .exit<|bz<|bG<|bB<|bi<|ay<|.region ?_
 refine .ia (i+1) .add ?_
 refine .mo rfl<|.nil ?_
 ·exact aW (i+1,M,Es,F) ⟨a5,m,n,f⟩ (by simp only;omega) kE.c.c.c.c.c (aQ [1])
 have b5:i=c.bd.length:=by have:=bC N;omega
 have c3:of i=A.length:=by rw[b5, <-c6, <-V, <-b1];rfl
 rw[c3,aeK]at f
 refine .exit<|bz<|bG<|bB<|ay<|.seq<|.sr<|.mo rfl<|.nc rfl<|.fa rfl<|.fa rfl<|.lo rfl<|.q (.bL K) ?_
 refine .mo rfl<|.zn<|.block ?_
 refine .cL [(0,_),(4,_),(50,_),(51,_)] (X:=Nat) (λj=>j<=c.scopes.length/\(c.scopes.take j).all (λs:Sc=>(bX A ⟨s.jV,s.rel⟩).isSome)=true) (λj E=>(52,iN j)::E) (λ_ G=>G) (λj=>c.scopes.length-j) 0 ⟨ael _,rfl⟩ kE.c.c.c.c.c rH ?_
 rintro j ⟨hj,Y⟩
 refine .sr<|.q .lss<|.zs ?_
 refine .cond rfl (λS=>?_) λS=>?_
 have a3:j<c.scopes.length:=cF S
 obtain⟨s,a⟩:=cm a3
 obtain⟨ps,ok,c5,C⟩:=c1 (⟨s.jV,s.rel⟩:Ty)
 unfold nr at C
 rw[hA]at C
 refine .kn<|.seq<|.block<|.sr ?_
 refine .bI j K a (λe1=>?_)
 refine .q (.aP rfl) ?_
 refine .bV (λc9=>?_)
 refine .bN rfl rfl<|.zs<|.dg [15] mixed ?_
 refine .tO 0 rfl .move<|.tO 1 rfl (.nilCheck rfl)<|.tO 2 rfl (.fieldAddr rfl)<|.tO 3 rfl (.cO rfl)<|.tO 4 rfl (.fieldAddr rfl)<|.tO 5 rfl (.fieldAddr rfl)<|.tO 6 rfl (.cO rfl)<|.tO 7 rfl (.fieldAddr rfl)<|.tO 8 rfl (.cO rfl) ?_
 refine .tO 9 rfl .da ?_
 refine .hZ 10 rfl (.cast (.oz (b7.rm.oB λb o hb=>.inl hb) rfl rfl) (aeo (λl:List Value=>Value.tuple l.toArray) c5)) (by kernel_rfl) ?_
 refine .tO 11 rfl .move<|.tO 12 rfl .extract<|.tK 13 rfl .extract ?_
 refine .sT 14 rfl ?_
 refine .bV (λd0=>?_)
 refine .nil (Next.sub ?_)
 refine .sT 15 rfl ?_
 refine .bN rfl rfl ?_
 refine .nil (Next.mod rfl ?_)
 refine .tK 16 rfl .assign ?_
 refine RA.nil (by kernel_rfl) ?_
 refine ay<|.sr<|.mo rfl<|.q .not<|.zn ?_
 refine .cond rfl (λU=>?_) λU=>?_
 refine .sr<|.ag rfl<|.az rfl ?_
 refine .ret (bf (aI (cK (bf (aI (bu _ (.two (.tmp rfl) (.tmp rfl)) bp.iT ?_))))))
 ·refine⟨[],rfl,_,[],false,rfl,OS.nil,by simp,?_⟩
  have D:ok=false:=by simpa using U
  have hj:bX A ⟨s.jV,s.rel⟩=none:=by
   cases t:bX A ⟨s.jV,s.rel⟩with
   |none=>rfl
   |some j=>rw[t]at C;rw[C.1]at D;cases D
  rw[W,a9,k3 a (by rw[hj];rfl)]
  rfl
 have t:(bX A ⟨s.jV,s.rel⟩).isSome=true:=by
  have I:ok=true:=by simpa using U
  cases t:bX A ⟨s.jV,s.rel⟩with
  |none=>rw[t]at C;rw[C]at I;cases I
  |some j=>rfl
 refine .skip<|bi<|ay<|.region ?_
 refine .ia (j+1) .add ?_
 refine .mo rfl<|.nil ?_
 ·exact aW (j+1) ⟨a3,mR a Y t⟩ (by omega) kE.c.c.c.c.c (aQ [2])
 refine .exit<|bz<|bG<|bB<|ay<|.sr<|.mo rfl<|.ag rfl<|.az rfl ?_
 refine .ret (bu _ (.two (.tmp rfl) (.tmp rfl)) (.one [0] _) ?_)
 ·refine⟨F,by simp[take],M,Es,true,rfl,m,aeB n (Nat.mul_le_mul_left 512 (show of i<=256 by omega)),?_⟩
  rw[dN (jh S)]at Y
  rw[W,a9,Y,aem rfl]
  exact f
abbrev lE:=iA×aH
def AI(w:Value)(LL:List lE)(To:aH):Prop:=OS 113 1 gL w (LL.map (·.1)) To/\∀q∈LL,OS 3 1 dC q.1.1 q.1.2 q.2
def nw(w:Value)(LL:List lE)(T:aH):Prop:=∃To,T=To++LL.flatMap (·.2)/\AI w LL To
theorem Mm{α:Type}{l:List α}{i:Nat}{x:α}(h:l[i]? =some x):∃A B,l=A++x::B/\A.length=i/\∀y,l.set i y=A++y::B:=by
 refine⟨l.take i,l.drop (i+1),?_,?_,λy=>?_⟩
 ·have:=wF h
  rw[<-this,afa]
 ·rw[aes];have:=(aex.1 h).1;omega
 ·exact List.set_eq_take_append_cons_drop.trans (aem (aex.1 h).1)
theorem Ol(w:Value)(d:List lE)(T:aH)(h:nw w d T)(e:jL)(a b:Nat)(t K:lE)(s:d[e.1.1]? =some t)(B:d[e.2.1.1]? =some K)(r:t.1.2[e.1.2]? =some a)(i:K.1.2[e.2.1.2]? =some b)(a1:b<=1000000000)(R:aw):
  Spec prog 133 [w,.agg (jD e).toArray] R [T] λu H'=>∃T',H'=[T']/\((u=.bool false/\b+(if e.2.2 then 1 else 0)<=a/\nw w d T')\/(u=.bool true/\a<b+(if e.2.2 then 1 else 0)/\∃Tn,nw w (d.set e.1.1 ((t.1.1,t.1.2.set e.1.2 (b+(if e.2.2 then 1 else 0))),Tn)) T')):=by
 obtain⟨f,rfl,g,n⟩:=h
 obtain⟨⟨k,l⟩,⟨v,C⟩,j⟩:=e
 obtain⟨⟨D,S⟩,V⟩:=t
 obtain⟨⟨F,U⟩,Z⟩:=K
 simp only at s B r i⊢
 have m:=n _ (aV s)
 have A:=n _ (aV B)
 simp only at m A
 have iw:=g.aq
 have a4:One D:=m.aq
 have a5:One F:=A.aq
 have I:(d.map (·.1))[k]? =some (D,S):=by rw[aep,s];rfl
 have Q:(d.map (·.1))[v]? =some (F,U):=by rw[aep,B];rfl
 have O:∀(q:lE),q∈d->∀p∈q.2,p∈d.flatMap (·.2):=λq hq p Y=>ae5.2 ⟨q,hq,Y⟩
 obtain⟨L,M,y,a0,J⟩:=Mm s
 have a2:RC R [f,d.flatMap (·.2)] (fB D (l*1)) (dC a):=⟨(m.pc r).mono λb o i=>.inr (by have:=O _ (aV s) _ i;simp[this])⟩
 have a3:RC R [f,d.flatMap (·.2)] (fB F (C*1)) (dC b):=⟨(A.pc i).mono λb o i=>.inr (by have:=O _ (aV B) _ i;simp[this])⟩
 have a6:PS f (fB w (k*1)) (gL (D,S)):=⟨g.pc I⟩
 have a7:PS f (fB w (v*1)) (gL (F,U)):=⟨g.pc Q⟩
 refine Spec.fP (H':=[f,d.flatMap (·.2)]) (by simp) ?_
 refine Spec.body func133 rfl results133 ntmps133 rfl ?_
 refine .sr ?_
 refine .cj rfl (λN=>?_)
 refine .ag rfl<|.zs ?_
 refine .eo mixed (by kernel_rfl) ?_
 refine .mo rfl<|.fa rfl<|.fa rfl<|.lo rfl<|.q (.bI v g.sg Q rfl rfl rfl) ?_
 refine .lo rfl<|.fa rfl<|.fa rfl<|.lo rfl<|.q (.bI C A.sg i rfl rfl rfl) ?_
 refine .lo rfl<|.ag rfl<|.zs<|.sr<|.fa rfl<|.lo rfl<|.zn ?_
 refine bF.dt [(0,_),(3,_)] kE.c.c (X:=Unit) (λ_=>True) (λ_ E=>(5,.int .i64 ((b+(if j then 1 else 0):Nat):Int))::E) (λ_=>[bl N (jD ((k,l),(v,C),j)) 259,f,d.flatMap (·.2)]) ?_ ?_
 refine .cond rfl (λG=>?_) λG=>?_
 refine .region<|.mo rfl ?_
 refine .ia (b+1) .add ?_
 refine .ag rfl<|.nil ?_
 ·exact aG () aej (kE.c.c.mW rfl (by have h:j=_:=G;simp[h])) rH
 refine .skip ?_
 ·exact aG () aej (kE.c.c.mW rfl (by have h:j=_:=G;simp[h])) rH
 intro x hx
 refine ay<|.seq<|.seq ?_
 refine .eo mixed (by kernel_rfl) ?_
 refine .mo rfl<|.fa rfl<|.fa rfl<|.lo rfl<|.q (.bI k g.sg I rfl rfl rfl) ?_
 refine .lo rfl<|.fa rfl<|.fa rfl<|.lo rfl<|.q (.bI l m.sg r rfl rfl rfl) ?_
 refine .lo rfl<|.mo rfl<|.q .geq<|.zn ?_
 refine .cond rfl (λH=>?_) λH=>?_
 refine .sr<|.az rfl ?_
 refine .ret (aI (bu _ (.one (.tmp rfl)) (.one [1,1] _) ?_))
 ·refine⟨_,rfl,.inl ⟨rfl,by have:=cq H;omega,f,by simp[take,bK],g,n⟩⟩
 refine .kn<|.seq ?_
 refine .dY 11 mixed (by kernel_rfl) ?_
 conv=>arg 6;dsimp only[List.take]
 refine .mo rfl<|.fa rfl<|.fa rfl<|.lo rfl<|.q (.bI k g.sg I rfl rfl rfl) ?_
 refine .lo rfl<|.fa rfl<|.fa rfl<|.lo rfl<|.mo rfl<|.q (.bI l m.sg r rfl rfl rfl) ?_
 refine .nil ?_
 refine .sub (H':=[bl N (jD ((k,l),(v,C),j)) 259,f,V,L.flatMap (·.2)++M.flatMap (·.2)]) (bp.eu (by
  rw[y]
  simp only[List.flatMap_append,List.flatMap_cons,afj,afk,aeu]
  refine .append_left _ (.append_left _ ?_)
  rw[<-aeN, <-aeN]
  exact List.perm_append_comm.append_right _)) ?_
 refine .l8 l m r (b+(if j then 1 else 0)) (λTn W=>?_)
 refine .z<|.az rfl ?_
 refine .ret (bu _ (.one (.tmp rfl)) ((aQ [1,1,1]).trans (bp.eu (H':=[f++(L.flatMap (·.2)++(Tn++M.flatMap (·.2)))]) (by simp only[take,bK,List.getD_cons_zero,List.getD_cons_succ,afj,afk,aeu];refine .append_left _ ?_;rw[<-aeN, <-aeN];exact List.perm_append_comm.append_right _))) ?_)
 ·refine⟨_,rfl,.inr ⟨rfl,by have:=bC H;omega,Tn,f,?_,?_,λq hq=>?_⟩⟩
  ·rw[J];simp
  ·refine g.congr ?_
   rw[J,y]
   simp[gL]
  ·rw[J]at hq
   rcases ae2.1 hq with hq|hq
   ·exact n q (by rw[y];exact List.mem_append_left _ hq)
   ·rcases List.mem_cons.1 hq with rfl|hq
    ·exact W
    ·exact n q (by rw[y];exact List.mem_append_right _ (List.mem_cons_of_mem _ hq))
theorem uD{c:bP}{X:List Nat}{p:fW}(g:c.valid p)(i:X.length=total c.plain.bd):∃s:Sp,c.plain.bd[p.1]? =some s/\p.2<s.bU.length/\(rows c.plain.bd X)[p.1]? =some ((X.drop (cM c.plain.bd p.1)).take s.bU.length)/\c.ix p<X.length/\
  ((X.drop (cM c.plain.bd p.1)).take s.bU.length)[p.2]? =some (X.getD (c.ix p) 0):=by
 obtain⟨s,r,f,e⟩:=g
 have a:=oH f
 have d:=(aex.1 (ze e)).1
 have h:=rL a
 have b:c.ix p<X.length:=by unfold bP.ix;omega
 refine⟨s.plain,a,d,qb a,b,?_⟩
 rw[List.getElem?_take,aem d,List.getElem?_drop,aer]
 unfold bP.ix at b⊢
 rw[bE b]
 rfl
theorem Oj{c:bP}(w:Value)(a:List lE)(T:aH)(h:nw w a T)(X:List Nat)(j:X.length=total c.plain.bd)(k:a.map (·.1.2)=rows c.plain.bd X)(e:jL)(s:c.valid e.1/\c.valid e.2.1)(D:∀x∈X,x<=1000000000)(R:aw):
  Spec prog 133 [w,.agg (jD e).toArray] R [T] λu H'=>∃T',H'=[T']/\∃ch LL',u=.bool ch/\ch=decide (fT X (c.ed e)≠X)/\nw w LL' T'/\LL'.map (·.1.2)=rows c.plain.bd (fT X (c.ed e)):=by
 obtain⟨Q,t,v,y,z,A⟩:=uD s.1 j
 obtain⟨S,U,V,K,L,M⟩:=uD s.2 j
 have p:∀{i:Nat} {o:List Nat},(rows c.plain.bd X)[i]? =some o->∃q:lE,a[i]? =some q/\q.1.2=o:=λ{i o} b=>by
  rw[<-k,aep]at b
  cases hq:a[i]? with
  |none=>rw[hq]at b;cases b
  |some q=>rw[hq]at b;exact⟨q,rfl,by simpa using b⟩
 obtain⟨I,F,r⟩:=p y
 obtain⟨J,G,H⟩:=p K
 have C:X.getD (c.ix e.2.1) 0<=1000000000:=D _ (by rw[aer,bE L];exact List.getElem_mem _)
 have O:X.getD (c.ix e.1) 0=X.getD (c.ed e).f 0:=rfl
 refine(Ol w a T h e (X.getD (c.ix e.1) 0) (X.getD (c.ix e.2.1) 0) I J F G (by rw[r];exact A) (by rw[H];exact M) C R).mono λu H' m=>?_
 obtain⟨T',rfl,m⟩:=m
 refine⟨T',rfl,?_⟩
 rcases m with⟨rfl,B,g⟩|⟨rfl,B,N,g⟩
 ·have d:fT X (c.ed e)=X:=aek (by show ¬X.getD (c.ix e.1) 0<X.getD (c.ix e.2.1) 0+_;unfold Ed.w bP.ed;simp only;omega)
  refine⟨false,a,rfl,?_,g,?_⟩
  ·rw[d];simp
  ·rw[d];exact k
 ·have d:fT X (c.ed e)=X.set (c.ix e.1) (X.getD (c.ix e.2.1) 0+if e.2.2 then 1 else 0):=aem (by show X.getD (c.ix e.1) 0<X.getD (c.ix e.2.1) 0+_;unfold Ed.w bP.ed;simp only;omega)
  refine⟨true,_,rfl,?_,g,?_⟩
  ·rw[d,eq_comm,decide_eq_true_iff]
   intro E
   have:=aeo (λl:List Nat=>l.getD (c.ix e.1) 0) E
   rw[nF _ _ _ _ z,aem rfl]at this
   omega
  ·rw[d]
   have:=zB (n:=X) (x:=X.getD (c.ix e.2.1) 0+if e.2.2 then 1 else 0) t v j
   unfold bP.ix at this⊢
   rw[this,List.map_set,k,r]
theorem Ok{A X:List Nat}{e:Ed}(d:∀i,A.getD i 0<=X.getD i 0)(l:X.length=A.length)(k:e.f<X.length):fT X e≠A↔(X≠A\/fT X e≠X):=by
 have c:=λi=>r6 X e k i
 constructor
 ·intro h
  by_cases g:X=A
  ·exact .inr (by rw[g]at h⊢;exact h)
  ·exact .inl g
 ·rintro(h|h) b
  ·refine h (nP l λi _=>?_)
   have j:=d i
   have a:=c i
   rw[b]at a
   omega
  ·refine h (nP (by rw[oL]) λi _=>?_)
   have j:=d i
   have a:=c i
   rw[b]at a⊢
   omega
theorem Oh{X:List Nat}{e:Ed}{b:Nat}(h:∀x∈X,x<=b):∀x∈fT X e,x<=b+1:=by
 intro x hx
 unfold fT at hx
 split at hx
 ·rcases List.mem_or_eq_of_mem_set hx with hx|rfl
  ·have:=h x hx;omega
  ·have a:X.getD e.t 0<=b:=by
    rw[aer]
    cases hq:X[e.t]? with
    |none=>exact ael _
    |some q=>exact h q (aV hq)
   have c:e.w<=1:=by unfold Ed.w;split<;>omega
   omega
 ·have:=h x hx;omega
theorem Po{R:aw}{xb:Nat}{vm:Value}{c:bP}(h:IX R xb vm c)(hf:c.jF)(ve:Value)(a:List jL)(O:RS R 5 jD ve a)(c0:a.length<=131072)(N:∀e∈a,c.valid e.1/\c.valid e.2.1):
  Spec prog 85 [pT xb,ve] R [] λu H'=>∃T,H'=[T]/\match settle (a.map c.ed) (total c.plain.bd+1) (List.replicate (total c.plain.bd) 0)with
   |none=>u=.tuple [sZ,.bool false].toArray
   |some A=>∃w ll,u=.tuple [w,.bool true].toArray/\NN (sg T) w ll/\ll.map (·.2)=rows c.plain.bd A:=by
 have d0:=h
 have pc:=h.pc
 have om:=h.om
 have B:=h.ci.ss
 have i1:=B.aq
 have i2:One c.vc:=RS.aq h.ci.sc
 have e5:=B.le
 have e6:=hf.1
 have c6:=h.ci.all
 have f4:=oX c.plain
 have e4:c.plain.all.length=c.fN.length:=by rw[<-oD,aen]
 have f0:=hf.fN
 have f2:c.plain.bd.length=c.bd.length:=by unfold bP.plain;simp
 have d6:∀(i:Nat) (s:cC),c.bd[i]? =some s->c.plain.bd[i]? =some s.plain:=λi s t=>oH t
 have e0:=zC c.plain.bd
 have d8:=λw Q T hh X v hr e N hb R=>Oj (c:=c) w Q T hh X v hr e N hb R
 have e1:=uP c.plain.bd 0
 have c8:∀e∈a,(c.ed e).f<total c.plain.bd:=λe he=>by
  obtain⟨s,_,H,_,r,_⟩:=uD (X:=List.replicate (total c.plain.bd) 0) (N e he).1 (by simp)
  rw[aeE]at r
  exact r
 have f8:=O.aq
 have e8:=O.le
 have f3:total c.plain.bd<=256:=by omega
 generalize f5:total c.plain.bd=tot at *
 refine Spec.body func85 rfl results85 ntmps85 rfl ?_
 refine .sr<|.ag rfl<|.ag rfl<|.z<|.mo rfl<|.nc rfl<|.fa rfl<|.fa rfl<|.lo rfl<|.q (.bL B) ?_
 refine .makeSlice (enc:=gL) c.bd.length ((sZ,[]):iA) rfl rfl (by decide) (by simp[gL,aq]) rfl rfl (by omega) (by omega) (λS T6 c3=>?_)
 refine .ag rfl<|.zs<|.sr<|.mo rfl<|.nc rfl<|.fa rfl<|.fa rfl<|.lo rfl<|.q (.bL B) ?_
 refine .mo rfl<|.zn<|.block ?_
 refine .cL [(0,_),(1,_),(6,_),(23,_),(24,_)] (X:=Nat×List lE×aH) (λy=>y.1<=c.bd.length/\y.2.1.length=y.1/\OS 113 1 gL (.slice (some ⟨S,0,none⟩) c.bd.length c.bd.length) (y.2.1.map (·.1)++List.replicate (c.bd.length-y.1) ((sZ,[]):iA)) y.2.2/\(∀q∈y.2.1,OS 3 1 dC q.1.1 q.1.2 q.2)/\y.2.1.map (·.1.2)=((c.plain.bd.take y.1).map λs=>List.replicate s.bU.length 0)) (λy E=>(25,iN y.1)::E) (λy G=>y.2.2::y.2.1.flatMap (·.2)::G) (λy=>c.bd.length-y.1) (0,[],T6) (G:=[]) ⟨ael _,rfl,by simp only[List.map_nil,ae7,Nat.sub_zero];exact c3,λq hq=>(by cases hq),by simp⟩ kE.c.c.c.c.c.c ((aQ [0]).trans (bp.eu (by simp[take]))) ?_
 rintro⟨i,D,To⟩ ⟨hi,a0,l,hI,Z⟩
 simp only at hi a0 l hI Z⊢
 refine .sr<|.q .lss<|.zs ?_
 refine .cond rfl (λU=>?_) λU=>?_
 have b3:i<c.bd.length:=cF U
 obtain⟨⟨sn,sv,d⟩,t⟩:=cm b3
 have b7:=c6 _ (aV t)
 have a4:RS R 3 cv.enc sv d:=b7.rs
 have f6:=a4.aq
 have e7:=a4.le
 have f7:bZ (cC.enc ⟨sn,sv,d⟩):=⟨b7.cN⟩
 have f1:d.length<=16:=hf.2 _ (aV t)
 have d5:=d6 i _ t
 obtain⟨k,hk⟩:∃k,c.bd.length-i=k+1:=⟨c.bd.length-i-1,by omega⟩
 have d2:c.bd.length-(i+1)=k:=by omega
 rw[hk]at l
 have a5:(D.map (·.1)).length=i:=by rw[aen,a0]
 obtain⟨z,hz⟩:∃z,(D.map (·.1)++List.replicate (k+1) ((sZ,[]):iA))[i]? =some z:=⟨_,bE (by rw[aet,a5,aeE];omega)⟩
 refine .kn<|.seq<|.block<|.sr<|.mo rfl ?_
 refine .bI i B t (λf9=>?_)
 refine .q (.aP rfl) ?_
 refine .bV (λb8=>?_)
 refine .ag rfl<|.bN rfl rfl<|.zn<|.region<|.mo rfl<|.mo rfl<|.fa rfl<|.lo rfl<|.q (.bL a4) ?_
 refine .makeSlice (enc:=dC) d.length 0 rfl rfl (by decide) (by simp[dC,aq]) rfl rfl (by omega) (by omega) (λbn Tn c4=>?_)
 refine .bH i l hz (λg0=>?_)
 refine .l8 i l hz ((.slice (some ⟨bn,0,none⟩) d.length d.length,List.replicate d.length 0):iA) (λF a6=>?_)
 rw[qf a5]at a6
 refine .nil<|bi<|ay<|.region ?_
 refine .ia (i+1) .add ?_
 refine .mo rfl<|.nil ?_
 ·exact aW (i+1,D++[((.slice (some ⟨bn,0,none⟩) d.length d.length,List.replicate d.length 0),Tn)],F) ⟨b3,by simp[a0],by simp only;rw[d2,aeq];exact a6,λq hq=>by
   rcases ae2.1 hq with hq|hq
   ·exact hI q hq
   ·rw[aeD]at hq;subst hq;exact c4,by simp only;rw[er d5,aeq,aeq,Z];simp[cC.plain]⟩ (by simp only;omega) kE.c.c.c.c.c.c ((aQ [2,2,0]).trans (bp.eu (by simp[take,bK])))
 have c9:i=c.bd.length:=by have:=bC U;omega
 have b9:D.map (·.1.2)=rows c.plain.bd (List.replicate tot 0):=by
  rw[e0,Z,dN (by omega)]
 rw[c9,ae3]at l
 simp only[List.replicate_zero,aeu]at l
 refine .exit<|bz<|bG<|bB<|ay<|.seq<|.sr<|.mo rfl<|.nc rfl<|.fa rfl<|.lo rfl ?_
 refine .q (.yh (d0.rm.oB λb o hb=>.inl hb) rfl) ?_
 rw[e1]
 refine .ia (tot+1) .add ?_
 refine .mo rfl<|.zn<|.block ?_
 refine .cL [(1,_),(6,_),(43,_)] (X:=Nat×List Nat×List lE×aH) (λy=>y.1<=tot+1/\y.2.1.length=tot/\nw (.slice (some ⟨S,0,none⟩) c.bd.length c.bd.length) y.2.2.1 y.2.2.2/\y.2.2.1.map (·.1.2)=rows c.plain.bd y.2.1/\(∀x∈y.2.1,x<=y.1*a.length)/\settle (a.map c.ed) (tot+1) (List.replicate tot 0)=settle (a.map c.ed) (tot+1-y.1) y.2.1) (λy E=>(44,iN y.1)::E) (λy _=>[y.2.2.2]) (λy=>tot+1-y.1) (0,List.replicate tot 0,D,To++(D.flatMap (·.2)++[])) (G:=[]) ⟨ael _,by simp,⟨To,by simp,l,hI⟩,b9,λx g=>by rw[List.eq_of_mem_replicate g];exact ael _,rfl⟩ kE.c.c.c.c (bp.one [0,0] _) ?_
 rintro⟨m,A,Q,T⟩ ⟨hm,Y,a7,b5,a9,M⟩
 simp only at hm Y a7 b5 a9 M⊢
 refine .sr<|.q .lss<|.zs ?_
 refine .cond rfl (λH=>?_) λH=>?_
 have d4:m<tot+1:=by have:=cq H;omega
 have e9:m*a.length<=256*131072:=Nat.mul_le_mul (by omega) c0
 refine .kn<|.seq<|.block<|.sr<|.ag rfl<|.zs<|.sr<|.mo rfl<|.q (.bL O) ?_
 refine .mo rfl<|.zn<|.block ?_
 refine .cL [(1,_),(6,_),(43,_),(44,_),(46,_),(47,_)] (X:=Nat×List Nat×List lE×aH) (λy=>y.1<=a.length/\y.2.1=((a.take y.1).map c.ed).foldl fT A/\y.2.1.length=tot/\nw (.slice (some ⟨S,0,none⟩) c.bd.length c.bd.length) y.2.2.1 y.2.2.2/\y.2.2.1.map (·.1.2)=rows c.plain.bd y.2.1/\(∀x∈y.2.1,x<=m*a.length+y.1)/\∀i,A.getD i 0<=y.2.1.getD i 0) (λy E=>(48,iN y.1)::(9,.bool (decide (y.2.1≠A)))::E) (λy _=>[y.2.2.2]) (λy=>a.length-y.1) (0,A,Q,T) (G:=[]) ⟨ael _,rfl,Y,a7,b5,λx g=>a9 x g,λi=>Nat.le_refl _⟩ ((kE.c.c.c.c.c.c.cy rfl (by simp)).cons rfl) rH ?_
 rintro⟨j,X,C,TX⟩ ⟨hj,v,n,I,L,K,a3⟩
 simp only at hj v n I L K a3⊢
 refine .sr<|.q .lss<|.zs ?_
 refine .cond rfl (λV=>?_) λV=>?_
 have b2:j<a.length:=cF V
 obtain⟨e,a2⟩:=cm b2
 have b1:=aV a2
 have d9:=d8 _ C TX I X n L e (N e b1) (λx g=>by have:=K x g;omega)
 have b0:=c8 e b1
 refine .kn<|.seq<|.block<|.sr ?_
 refine .bI j O a2 (λg1=>?_)
 refine .q (.aP rfl) ?_
 refine .bV (λe3=>?_)
 refine .bN rfl rfl<|.z<|.mo rfl<|.q (.aP rfl) ?_
 refine .cr (d9 R) (λu F hu=>?_)
 obtain⟨ch,L1,rfl,c7,c5,d7⟩:=hu
 refine .zn ?_
 refine bF.dt [(1,_),(6,_),(43,_),(44,_),(46,_),(47,_),(48,_)] kE.c.c.c.c.c.c.c (X:=Unit) (λ_=>True) (λ_ E=>(9,.bool (decide (X≠A)||ch))::E) (λ_=>[F]) ?_ ?_
 refine .cond rfl (λr=>?_) λr=>?_
 refine .region<|.ag rfl<|.nil ?_
 ·exact aG () aej (kE.c.c.c.c.c.c.c.cy rfl (by simp[r])) (aQ [1])
 refine .skip ?_
 ·exact aG () aej (kE.c.c.c.c.c.c.c.cy rfl (by simp[r])) (aQ [1])
 intro x g
 refine bi<|ay<|.region ?_
 refine .ia (j+1) .add ?_
 refine .mo rfl<|.nil ?_
 ·exact aW (j+1,fT X (c.ed e),L1,F) ⟨b2,by simp only;rw[er a2,aeq,List.foldl_append, <-v];rfl,by simp only;rw[oL,n],c5,d7,λy hy=>by have:=Oh K y hy;simp only;omega,λi=>aeB (a3 i) (r6 X _ (by rw[n];exact b0) i)⟩ (by simp only;omega) ((kE.c.c.c.c.c.c.cy rfl (by
   simp only
   rw[c7, <-Bool.decide_or]
   exact decide_eq_decide.2 (Ok a3 (by rw[n,Y]) (by rw[n];exact b0)).symm)).cons rfl) rH
 have d1:j=a.length:=by have:=bC V;omega
 have a1:X=pass (a.map c.ed) A:=by rw[v,d1,aeK];rfl
 refine .exit<|bz<|bG<|bB<|ay<|.sr<|.mo rfl<|.q .not<|.zn ?_
 refine .cond rfl (λW=>?_) λW=>?_
 have J:X=A:=afi.1 (show ¬¬X=A by simpa using W)
 refine .sr<|.mo rfl<|.ag rfl<|.az rfl ?_
 refine .ret (bf (aI (cK (bf (aI (bu _ (.two (.tmp rfl) (.tmp rfl)) (.one [0] _) ?_))))))
 ·refine⟨_,rfl,?_⟩
  rw[M,show tot+1-m=tot+1-(m+1)+1 by omega,settle,aem (by rw[<-a1];exact J)]
  obtain⟨e2,a8,c2,c1⟩:=I
  refine⟨_,C.map (·.1),rfl,⟨c2.rs λp hp=>?_,λq hq=>?_⟩,?_⟩
  ·show p∈_
   simp[take,a8,hp]
  ·obtain⟨q2,b4,rfl⟩:=aeM.1 hq
   refine(c1 q2 b4).rs λp hp=>?_
   show p∈_
   have:p∈C.flatMap (·.2):=ae5.2 ⟨q2,b4,hp⟩
   simp only[take,a8,List.getD_cons_zero,afj,afk,aeu]
   exact List.mem_append_right _ this
  ·rw[aey, <-J]
   exact L
 have J:X≠A:=by simpa using W
 refine .skip<|bi<|ay<|.region ?_
 refine .ia (m+1) .add ?_
 refine .mo rfl<|.nil ?_
 ·exact aW (m+1,X,C,TX) ⟨d4,n,I,L,λx g=>by have h6:=K x g;simp only;rw[Nat.add_mul];omega,by
   simp only
   rw[M,show tot+1-m=tot+1-(m+1)+1 by omega,settle,aek (by rw[<-a1];exact J), <-a1]⟩ (by simp only;omega) kE.c.c.c.c rH
 refine .exit<|bz<|bG<|bB<|ay<|.sr<|.ag rfl<|.az rfl ?_
 refine .ret (bu _ (.two (.tmp rfl) (.tmp rfl)) (.one [0] _) ?_)
 ·refine⟨_,rfl,?_⟩
  have d3:m=tot+1:=by have:=bC H;omega
  rw[M,d3,ae3,settle]
end Go.Proofs.YtenilfmlfldogaaGreatDoor

/- What the law 'LookupJust' uses. No condition. -/
import Derived.Test.YtdljmchhecoakaaGreatKLookupJustA
import Derived.Test.YtdljmchhecoakaaGreatKLookupJustB
import Derived.Test.YtdljmchhecoakaaGreatKLookupJustD
import Derived.Test.YtdljmchhecoakaaGreatKLookupJustE
import Derived.Test.YtdljmchhecoakaaGreatKLookupJustH
import Derived.Test.YtdljmchhecoakaaGreatKLookupJustI
import Derived.Test.YtdljmchhecoakaaGreatKLookupJustL
import Derived.Test.YtdljmchhecoakaaGreatKLookupJustM
import Derived.Test.YtdljmchhecoakaaGreatKLookupJustN
import Derived.Test.YtdljmchhecoakaaGreatKLookupJustP
namespace Go.Proofs.YtdljmchhecoakaaGreat
set_option linter.defProp false
def aeu:=@trivial
def aev:=@Nat.zero_le
def aew:=@if_neg
def aex:=@if_pos
def aey:=@congrArg
def aez:=@List.length_map
def aeA:=@List.getElem?_map
def aeB:=@List.map_append
def aeC:=@List.length_take
def aeD:=@List.getD_eq_getElem?_getD
def aeE:=@List.length_singleton
def aeF:=@Bool.and_true
def aeG:=@List.length_append
def aeH:=@Bool.and_false
def aeI:=@if_true
def aeJ:=@List.map_map
def aeK:=@decide_eq_false
def aeL:=@List.mem_cons_self
def aeM:=@List.all_cons
def aeN:=@Bool.false_and
def aeO:=@Nat.not_lt
def aeP:=@if_false
def aeQ:=@Nat.le_trans
def aeR:=@decide_eq_true
def aeS:=@List.mem_singleton
def aeT:=@List.getElem?_eq_some_iff
def aeU:=@Nat.lt_or_ge
def aeV:=@List.mem_iff_getElem
def aeW:=@Option.bind_some
def aeX:=@List.all_nil
def aeY:=@List.all_append
def aeZ:=@List.getElem?_cons_zero
def ae0:=@Option.some.injEq
def ae1:=@decide_eq_true_eq
def ae2:=@List.length_cons
def ae3:=@List.length_filter_le
def ae4:=@Function.comp_def
def ae5:=@List.length_replicate
def ae6:=@Bool.true_and
def ae7:=@Bool.true_or
def ae8:=@Bool.false_or
def ae9:=@List.nil_append
def afa:=@List.append_nil
def afb:=@Bool.or_eq_true
def afc:=@List.take_length
def afd:=@Bool.or_true
def afe:=@List.mem_map
def aff:=@List.getElem_take
def afg:=@Bool.and_eq_true
def afh:=@Option.isSome_iff_exists
def afi:=@List.cons_append
def afj:=@List.not_all_eq_any_not
def afk:=@List.zipWith_cons_cons
def afl:=@List.take_succ_cons
def afm:=@List.take_add_one
def afn:=@List.mem_cons_of_mem
def afo:=@List.nodup_append
def afp:=@Bool.or_eq_false_iff
def afq:=@decide_eq_false_iff_not
def afr:=@Option.getD_none
def afs:=@List.take_append_drop
def aft:=@List.findIdx?_eq_some_iff_getElem
def afu:=@List.eq_nil_of_length_eq_zero
open Tryz
set_option linter.unusedVariables false
set_option linter.unusedSimpArgs false
set_option maxRecDepth 4000
def oB(t:aA):ByteArray:=if t.us=⟨#[]⟩then⟨#[49]⟩else⟨#[48]⟩
def gA(t:aA):List ByteArray:=[t.os,t.oi,t.rel,oB t,t.us,t.ss,t.si,t.sr]
theorem P7(a b:aA):eK (oB a) (oB b)=kq (kB a.us) (kB b.us):=by
 unfold oB kB
 split<;>split<;>decide
theorem Rn(a b:aA):kD a b=gG (List.zipWith eK (gA a) (gA b)):=by
 unfold kD gA
 simp only[afk,List.zipWith_nil_left]
 rw[P7]
theorem Ab:∀{X Y:List ByteArray} {i:Nat} {x y:ByteArray},X.take i=Y.take i->X[i]? =some x->Y[i]? =some y->x≠y->gG (List.zipWith eK X Y)=eK x y
 |x0::X,y0::Y,0,x,y,_,hx,hy,hn=>by
  simp only[aeZ,ae0]at hx hy
  subst hx hy
  rw[afk,np,aew λe=>hn (pE.1 e)]
 |x0::X,y0::Y,i+1,x,y,ht,hx,hy,hn=>by
  simp only[afl,List.cons.injEq]at ht
  simp only[List.getElem?_cons_succ]at hx hy
  rw[afk,np,aex (pE.2 ht.1)]
  exact Ab ht.2 hx hy hn
 |[],_,i,x,y,_,hx,_,_=>by simp at hx
 |_::_,[],i,x,y,_,_,hy,_=>by simp at hy
theorem Rh{a b:aA}{i:Nat}{x y:ByteArray}(d:(gA a).take i=(gA b).take i)(e:(gA a)[i]? =some x)(f:(gA b)[i]? =some y)(c:x≠y):gB a b=ey x y:=by
 unfold gB
 rw[Rn,Ab d e f c,Bool.eq_iff_iff,ae1,mP]
theorem Ra{a b:aA}(h:gA a=gA b):a=b:=by
 obtain⟨k,l,m,n,o,p,q⟩:=a
 obtain⟨r,s,t,u,v,w,x⟩:=b
 simp only[gA,List.cons.injEq]at h
 obtain⟨c,d,e,y,f,g,i,j,_⟩:=h
 simp only[aA.mk.injEq]
 exact⟨c,d,e,f,g,i,j⟩
theorem yo(t:aA)(R:ay):Spec prog 256 [.agg t.enc.toArray] R [] λu H'=>∃T,H'=[T]/\OS 9 1 cG u (gA t) T:=by
 refine Spec.hB (H':=[]) (by simp)<|Spec.body func256 rfl results256 ntmps256 rfl<|.sr ?_
 refine .cx rfl (λb=>?_)
 refine .ag rfl<|.z<|.ag rfl<|.zs<|.sr<|.fa rfl<|.fa rfl<|.lo rfl<|.q .gP<|.zn ?_
 refine bx.cut (X:=ByteArray) (λk=>k=oB t) (λk=>[(1,pT b),(3,.string k)]) (λk=>[bl b t.enc 119]) ?_ ?_
 refine .cond rfl (λa=>?_) λa=>?_
 refine .region<|.ag rfl<|.nil ?_
 ·exact aG ⟨#[48]⟩ (by unfold oB;rw[aew (by simpa using a)]) kE.c.c rH
 refine .skip ?_
 ·exact aG ⟨#[49]⟩ (by unfold oB;rw[aex (by simpa using a)]) kE.c.c rH
 intro x d
 subst d
 refine aw<|.sr<|.fa rfl<|.fa rfl<|.lo rfl<|.fa rfl<|.fa rfl<|.lo rfl<|.fa rfl<|.lo rfl<|.mo rfl<|.fa rfl<|.fa rfl<|.lo rfl<|.fa rfl<|.fa rfl<|.fa rfl<|.lo rfl<|.fa rfl<|.fa rfl<|.fa rfl<|.lo rfl<|.fa rfl<|.fa rfl<|.lo rfl ?_
 refine .xd [_,_,_,_,_,_,_,_] (λe=>?_)
 refine .az rfl<|.ret (bj _ (.one (.tmp rfl)) (.one [0] _) ?_)
 ·refine⟨_,by simp[take];rfl,?_⟩
  exact OS.lits (E:=9) (xs:=gA t) (enc:=cG) rfl (by simp[gA,cG]) (by simp[gA,cG,aB])
theorem Pt(a b:aA)(R:ay):Spec prog 222 [.agg a.enc.toArray,.agg b.enc.toArray] R [] λv H'=>v=.bool (gB a b)/\H'=[]:=by
 refine Spec.body func222 rfl results222 ntmps222 rfl<|.sr ?_
 refine .cx rfl (λs=>?_)
 refine .cx rfl (λt=>?_)
 refine .ag rfl<|.zs<|.cS [] mixed<|.tO 0 rfl (.aT rfl)<|.tO 2 rfl (.aT rfl)<|.sT 1 rfl<|.dh (yo a _) (λu n j=>?_)
 refine .nil<|Next.sub<|.sT 3 rfl<|.dh (yo b _) (λw o m=>?_)
 refine .nil<|Next.sub<|.tO 4 rfl .assign<|.tO 5 rfl .assign<|RA.nil (by kernel_rfl)<|aw<|.seq<|.sr<|.az rfl<|.block<|.loop (X:=Nat) (λi=>i<=8/\(gA a).take i=(gA b).take i) (λi=>[(5,u),(6,w),(7,iN i)]) (λ_=>[n,o]) (λi=>8-i) 0 ⟨by omega,by simp⟩ kE.c.c.c (aQ [1,0]) ?_
 rintro i ⟨x,l⟩
 refine .seq<|.sr<|.mo rfl<|.mo rfl<|.q (.ep j)<|.q .lss<|.zn<|.cond rfl (λg=>?_) λg=>?_
 have k:i<8:=by have:=bX g;simp only[gA,ae2,List.length_nil]at this;omega
 obtain⟨z,f⟩:∃z,(gA a)[i]? =some z:=⟨_,aV (by simpa[gA]using k)⟩
 obtain⟨y,d⟩:∃y,(gA b)[i]? =some y:=⟨_,aV (by simpa[gA]using k)⟩
 refine .kn<|.seq<|.block<|.seq<|.gd mixed (by kernel_rfl)<|.mo rfl<|.mo rfl ?_
 refine .aL i j f (λA=>?_)
 refine .lo rfl<|.mo rfl<|.mo rfl ?_
 refine .aL i m d (λB=>?_)
 refine .lo rfl<|.q .gP<|.zn<|.cond rfl (λh=>?_) λh=>?_
 refine .seq<|.gd mixed (by kernel_rfl)<|.mo rfl<|.mo rfl ?_
 refine .aL i j f (λC=>?_)
 refine .lo rfl<|.mo rfl<|.mo rfl ?_
 refine .aL i m d (λD=>?_)
 refine .lo rfl<|.q .zD<|.az rfl<|.ret (br (aK (cI (br (aK (aN rfl ?_))))))
 ·have r:z≠y:=by simpa using h
  exact⟨by rw[Rh l f d r],rfl⟩
 refine .skip<|aX<|aw<|.region<|.mo rfl<|.ia (i+1) .add<|.ag rfl<|.nil ?_
 ·exact bm (i+1) ⟨k,by
   have e:z=y:=by simpa using h
   rw[afm,afm,l,f,d,e]⟩ (by omega) kE.c.c.c rH
 refine .exit<|bo<|bs<|bp<|aw<|.sr<|.az rfl<|.ret (aN rfl ?_)
 ·have p:i=8:=by have:=bF g;simp only[gA,ae2,List.length_nil]at this;omega
  subst p
  have:a=b:=Ra (by simpa[gA]using l)
  exact⟨by rw[this,s8],rfl⟩
structure DV(R:ay)(b:Nat)(S:cX)(vL:Value)(L:List bC):Prop where
 pc:PC R (pT b) [vL,.int .u64 S.head,.int .u64 S.dO]
 rs:RS R 9 bC.enc vL L
theorem DV.mono{R R':ay}{b:Nat}{S:cX}{c:Value}{L:List bC}(h:DV R b S c L)(a:∀b o,R b o->R' b o):DV R' b S c L:=⟨h.pc.mono a,h.rs.mono a⟩
section
variable{R:ay}{b:Nat}{S:cX}{vL:Value}{L:List bC}
theorem DV.can(h:DV R b S vL L)(r:Int):Spec prog 86 [pT b,.int .u64 r] R [] λv H'=>v=.bool (scan S r)/\H'=[]:=by
 have c:=h.pc
 refine Spec.body func86 rfl results86 ntmps86 rfl<|.sr<|.ag rfl<|.z<|.mo rfl<|.nc rfl<|.fa rfl<|.lo rfl<|.mo rfl<|.q .leq<|.mo rfl<|.split (t:=11) rfl (λa=>?_) (λa=>?_)
 refine .gT a<|.mo rfl<|.gT a<|.mo rfl<|.gT a<|.nc rfl<|.gT a<|.fa rfl<|.gT a<|.lo rfl<|.gT a<|.q .leq<|.q (.aU a)<|.az rfl<|.ret (aN rfl ?_)
 ·refine⟨aey _ ?_,rfl⟩
  unfold scan
  simp_all
  try omega
 refine .gF a<|.gF a<|.gF a<|.gF a<|.gF a<|.gF a<|.q (.aR a)<|.az rfl<|.ret (aN rfl ?_)
 ·refine⟨aey _ ?_,rfl⟩
  unfold scan
  simp_all
  try omega
end
theorem vC(s i:ByteArray)(d:s.size<=9223372036854775807)(c:i.size<=9223372036854775807)(R:ay):Spec prog 139 [.agg [.string s,.string i].toArray] R [] λv H'=>v=.bool (dj s i)/\H'=[]:=by
 refine Spec.body func139 rfl results139 ntmps139 rfl<|.sr ?_
 refine .cx rfl (λe=>?_)
 refine .ag rfl<|.z<|.fa rfl<|.lo rfl<|.ba (jW s d _) (λv b=>?_)
 subst b
 refine .mo rfl<|.split (t:=6) rfl (λa=>?_) (λa=>?_)
 refine .gT a<|.fa rfl<|.gT a<|.lo rfl<|.gT a<|.ba (vB i c _) (λv b=>?_)
 subst b
 refine .q (.aU a)<|.az rfl<|.ret (aN rfl ?_)
 ·exact⟨by unfold dj;simp_all,rfl⟩
 refine .gF a<|.gF a<|.gF a<|.q (.aR a)<|.az rfl<|.ret (aN rfl ?_)
 ·exact⟨by unfold dj;simp_all,rfl⟩
theorem Pk(s:Sub)(g:s.us.size<=9223372036854775807)(h:s.ss.size<=9223372036854775807)(i:s.si.size<=9223372036854775807)(j:s.sr.size<=9223372036854775807)(R:ay):Spec prog 221 [.agg s.enc.toArray] R [] λv H'=>v=.bool (iI s)/\H'=[]:=by
 obtain⟨us,ss,si,sr⟩:=s
 simp only at g h i j
 refine Spec.body func221 rfl results221 ntmps221 rfl<|.sr ?_
 refine .cx rfl (λl=>?_)
 refine .ag rfl<|.zs<|.sr<|.fa rfl<|.lo rfl<|.q .eg<|.zn<|.cond rfl (λk=>?_) λk=>?_
 refine .sr<|.fa rfl<|.q (.loadT rfl)<|.ba (vC ss si h i _) (λv f=>?_)
 subst f
 refine .mo rfl<|.split (t:=9) rfl (λd=>?_) (λd=>?_)
 refine .gT d<|.fa rfl<|.gT d<|.lo rfl<|.gT d<|.ba (jW sr j _) (λv f=>?_)
 subst f
 refine .q (.aU d)<|.az rfl<|.ret (aK (aN rfl ?_))
 ·refine⟨aey _ ?_,rfl⟩
  unfold iI
  by_cases a:us=⟨#[]⟩
  ·simp only[a,aeI]
   simp_all
  ·simp only[a,aeP]
   simp_all
 refine .gF d<|.gF d<|.gF d<|.q (.aR d)<|.az rfl<|.ret (aK (aN rfl ?_))
 ·refine⟨aey _ ?_,rfl⟩
  unfold iI
  by_cases a:us=⟨#[]⟩
  ·simp only[a,aeI]
   simp_all
  ·simp only[a,aeP]
   simp_all
 refine .kn<|.sr<|.fa rfl<|.lo rfl<|.ba (vB us g _) (λv f=>?_)
 subst f
 refine .mo rfl<|.split (t:=17) rfl (λb=>?_) (λb=>?_)
 refine .gT b<|.fa rfl<|.gT b<|.fa rfl<|.gT b<|.lo rfl<|.gT b<|.q .eg<|.q (.aU b)<|.mo rfl<|.split (t:=23) rfl (λc=>?_) (λc=>?_)
 refine .gT c<|.fa rfl<|.gT c<|.fa rfl<|.gT c<|.lo rfl<|.gT c<|.q .eg<|.q (.aU c)<|.mo rfl<|.split (t:=29) rfl (λe=>?_) (λe=>?_)
 refine .gT e<|.fa rfl<|.gT e<|.lo rfl<|.gT e<|.q .eg<|.q (.aU e)<|.az rfl<|.ret (aN rfl ?_)
 ·refine⟨aey _ ?_,rfl⟩
  unfold iI
  by_cases a:us=⟨#[]⟩
  ·simp only[a,aeI]
   simp_all
  ·simp only[a,aeP]
   simp_all
 refine .gF e<|.gF e<|.gF e<|.q (.aR e)<|.az rfl<|.ret (aN rfl ?_)
 ·refine⟨aey _ ?_,rfl⟩
  unfold iI
  by_cases a:us=⟨#[]⟩
  ·simp only[a,aeI]
   simp_all
  ·simp only[a,aeP]
   simp_all
 refine .gF c<|.gF c<|.gF c<|.gF c<|.q (.aR c)<|.mo rfl<|.gX<|.gX<|.gX<|.q .cY<|.az rfl<|.ret (aN rfl ?_)
 ·refine⟨aey _ ?_,rfl⟩
  unfold iI
  by_cases a:us=⟨#[]⟩
  ·simp only[a,aeI]
   simp_all
  ·simp only[a,aeP]
   simp_all
 refine .gF b<|.gF b<|.gF b<|.gF b<|.q (.aR b)<|.mo rfl<|.gX<|.gX<|.gX<|.gX<|.q .cY<|.mo rfl<|.gX<|.gX<|.gX<|.q .cY<|.az rfl<|.ret (aN rfl ?_)
 ·refine⟨aey _ ?_,rfl⟩
  unfold iI
  by_cases a:us=⟨#[]⟩
  ·simp only[a,aeI]
   simp_all
  ·simp only[a,aeP]
   simp_all
theorem vD(t:aA)(k:t.fits)(R:ay):Spec prog 168 [.agg t.enc.toArray] R [] λv H'=>v=.bool (eH t)/\H'=[]:=by
 obtain⟨d,e,f,g,h,i,j⟩:=k
 refine Spec.body func168 rfl results168 ntmps168 rfl<|.sr ?_
 refine .cx rfl (λl=>?_)
 refine .ag rfl<|.z<|.fa rfl<|.q (.loadT rfl)<|.ba (vC t.os t.oi d e _) (λv c=>?_)
 subst c
 refine .mo rfl<|.split (t:=6) rfl (λa=>?_) (λa=>?_)
 refine .gT a<|.fa rfl<|.gT a<|.lo rfl<|.gT a<|.ba (jW t.rel f _) (λv c=>?_)
 subst c
 refine .q (.aU a)<|.mo rfl<|.split (t:=11) rfl (λb=>?_) (λb=>?_)
 refine .gT b<|.fa rfl<|.gT b<|.q (.loadT rfl)<|.gT b<|.ba (Pk t.sub g h i j _) (λv c=>?_)
 subst c
 refine .q (.aU b)<|.az rfl<|.ret (aN rfl ?_)
 ·exact⟨by unfold eH;simp_all,rfl⟩
 refine .gF b<|.gF b<|.gF b<|.q (.aR b)<|.az rfl<|.ret (aN rfl ?_)
 ·exact⟨by unfold eH;simp_all,rfl⟩
 refine .gF a<|.gF a<|.gF a<|.q (.aR a)<|.mo rfl<|.gX<|.gX<|.gX<|.q .cY<|.az rfl<|.ret (aN rfl ?_)
 ·exact⟨by unfold eH;simp_all,rfl⟩
theorem SV.QZ{R:ay}{g:Nat}{S:cX}{ps:List RB}{vf vr:Value}{B:List (bc×(Value×ax))}{C:List (Sub×(Value×ax))}(h:SV R g S ps vf vr B C)(s:S.rows.length<=4096)(k:bc)(r:Int){L:List bC}(J:RL S L):
  Spec prog 188 [pT g,.agg [.string k.os,.string k.oi].toArray,.string k.rel,.int .u64 r] R [] λu H'=>∃T,H'=[T]/\OS 117 4 Sub.enc u (if scan S r then(L.filter λx=>x.there r&&decide (x.t.db=k)).map (·.t.sub)else []) T:=by
 have pc:=h.pc
 have U:ps.length<=4096:=by rw[<-h.eq,aez]at s;exact s
 obtain⟨pf,G,O,V⟩:=h.lf k
 have H:RS R 1 tU (.slice pf (ids (λx=>x.t.db) k ps).length G) (kL (λx=>x.t.db) k ps):=RS.of_map (enc:=jO) (f:=λp:RB=>p.1) V
 have I:(kL (λx=>x.t.db) k ps).length<=4096:=aeQ (ae3 _ _) U
 refine Spec.hB (H':=[[]]) (by simp)<|Spec.body func188 rfl results188 ntmps188 rfl<|.sr ?_
 refine .cx rfl (λb5=>?_)
 refine .ag rfl<|.zs<|.sr<|.mo rfl<|.mo rfl<|.ba ((h.mono λb o d=>.inl d).can r) (λv Z=>?_)
 subst Z
 refine .q .not<|.zn<|.cond rfl (λj=>?_) λj=>?_
 have m:scan S r=false:=by simpa using j
 refine .sr<|.az rfl<|.ret (aK (bj _ (.one (.tmp rfl)) ((aQ [1])) ?_))
 ·exact⟨_,by simp[take];rfl,by rw[m];exact OS.nil⟩
 have m:scan S r=true:=by simpa using j
 refine .kn<|.sr<|.ag rfl<|.zs<|.seq<|.cS [] mixed<|.tO 0 rfl .move<|.tO 1 rfl (.nilCheck rfl)<|.tO 2 rfl (.fieldAddr rfl)<|.tO 3 rfl (.cm rfl)<|.tO 4 rfl (.aT rfl)<|.tO 5 rfl .move<|.tO 6 rfl .cR<|.tO 7 rfl (.n3 (h.mono λb o d=>.inl d).mf rfl rfl (key:=k) O)<|.tO 8 rfl .move<|.tO 11 rfl .move<|.sT 9 rfl<|.dh (wY _ (kL (λx=>x.t.db) k ps) r _ H.rx (λp Q=>(h.pr p (List.mem_filter.1 Q).1).mono λb o d=>.inl d) (by omega)) (λu D Y=>?_)
 obtain⟨a,n,A,a1⟩:=Y
 have a4:a.length<=4096:=by
  rw[A.length_eq,aez]
  exact aeQ (ae3 _ _) I
 have a0:a=(L.filter λx=>x.there r&&decide (x.t.db=k)).map (·.t):=J.at_ (by
  refine A.trans (.of_eq ?_)
  rw[<-h.eq,List.filter_map,aeJ]
  unfold kL
  rw[List.filter_filter];rfl) a1
 refine .nil<|Next.sub<|.tO 10 rfl (.ep n)<|RA.nil (by kernel_rfl)<|aw<|.block<|.loop (X:=Nat×Value×ax) (λy=>y.1<=a.length/\OS 117 4 Sub.enc y.2.1 ((a.take y.1).map aA.sub) y.2.2) (λy=>[(9,y.2.1),(25,u),(26,iN a.length),(27,iN y.1)]) (λy=>[D,y.2.2]) (λy=>a.length-y.1) (0,sZ,[]) ⟨aev _,OS.nil⟩ kE.c.c.c.c (aQ [0,1]) ?_
 rintro⟨i,vo,F⟩ ⟨M,e⟩
 simp only at M e⊢
 refine .sr<|.q .lss<|.zs<|.cond rfl (λl=>?_) λl=>?_
 have w:i<a.length:=cy l
 obtain⟨x,z⟩:=bW w
 have W:a.take (i+1)=a.take i++[x]:=by rw[afm,z];rfl
 refine .kn<|.seq<|.block<|.sr ?_
 refine .aL i n z (λa5=>?_)
 refine .q (.aT rfl) ?_
 refine .bU (λa2=>?_)
 refine .bP rfl rfl<|.zn<|.region<|.mo rfl<|.fa rfl<|.q (.loadT rfl) ?_
 refine .dY (λa3=>?_)
 refine .append e (RS.lits (xs:=[x.sub]) rfl (by simp[Sub.enc]) (by simp[Sub.enc,aB])) (by simp only[aeE,aez,aeC];omega) (λv5 E K=>?_)
 refine .ag rfl<|.nil<|aX<|aw<|.region<|.ia (i+1) .add<|.mo rfl<|.nil ?_
 ·exact bm (i+1,v5,E) ⟨w,by simp only;rw[W,aeB];exact K⟩ (by simp only;omega) kE.c.c.c.c (aQ [2,2])
 refine .exit<|bo<|bs<|bp<|aw<|.sr<|.mo rfl<|.az rfl<|.ret (bj _ (.one (.tmp rfl)) ((aQ [1])) ?_)
 ·have N:i=a.length:=by have:=bF l;omega
  subst N
  rw[afc,a0,aeJ]at e
  exact⟨F,by simp[take,bM],by rw[m];exact e⟩
def il(s:cq):Bool:=decide (16<s.bN.length)||s.bN.any λr=>iJ isWord r.r
theorem qw(c:bJ):c.plain.jq isWord=(decide (16<c.bg.length)||decide (16<c.scopes.length)||c.bg.any il):=by
 unfold Cf.jq bJ.plain
 simp only[aez,List.any_map]
 congr 1
 congr 1
 funext s
 simp[il,cq.plain,List.any_map,ae4]
def mL(r:cb):Bool:=r.r.types.all (ik isWord)
def jt(r:cb):Bool:=isWord r.r.name&&fN isWord r.r.nodes !=0&&mL r
def gZ(s:cq):Bool:=isWord s.name&&s.bN.all jt
theorem AB(c:bJ):c.plain.right isWord dj=(c.bg.all gZ&&c.scopes.all (kA isWord dj)&& !c.plain.jq isWord):=by
 unfold Cf.right
 congr 1
 congr 1
 unfold bJ.plain
 simp only[List.all_map]
 congr 1
 funext s
 simp only[gZ,mM,cq.plain,List.all_map,ae4]
 rfl
theorem Py(c:bJ)(R:ay)(h:c.is R):Spec prog 140 [.agg c.enc.toArray] R [] λu H'=>u=.bool (c.plain.jq isWord)/\H'=[]:=by
 rw[qw]
 obtain⟨O,N,j,M⟩:=c
 have g:=h.ss
 have B:=h.sc
 have Z:=g.aB
 have i2:=B.aB
 simp only at g B Z i2⊢
 have a1:=g.le
 refine Spec.body func140 rfl results140 ntmps140 rfl<|.sr ?_
 refine .cx rfl (λD=>?_)
 refine .ag rfl<|.zs<|.seq ?_
 refine bx.cZ [(1,_)] kE.c (X:=Unit) (λ_=>True) (λ_ E=>(15,.bool (decide (16<j.length)||decide (16<M.length)))::E) (λ_=>[bl D [O,N] 25]) ?_ ?_
 refine .region<|.fa rfl<|.lo rfl<|.q (.bO g)<|.q .gtr<|.mo rfl<|.split (t:=10) rfl (λe=>?_) (λe=>?_)
 refine .gF e<|.gF e<|.gF e<|.gF e<|.q (.aU e)<|.nil ?_
 ·exact aG () aeu (kE.c.ca rfl (by grind)) rH
 refine .gT e<|.fa rfl<|.gT e<|.lo rfl<|.gT e<|.q (.bO B)<|.gT e<|.q .gtr<|.q (.aR e)<|.nil ?_
 ·exact aG () aeu (kE.c.ca rfl (by grind)) rH
 intro y Y
 refine aw<|.cond rfl (λw=>?_) λw=>?_
 refine .sr<|.az rfl<|.ret (aK (aN rfl ?_))
 ·exact⟨by rw[w];rfl,rfl⟩
 refine .kn<|.seq<|.sr<|.az rfl<|.block<|.cF [(1,_)] (X:=Nat) (λi=>i<=j.length/\(j.take i).any il=false) (λi E=>(3,iN i)::E) (λ_ G=>G) (λi=>j.length-i) 0 ⟨aev _,rfl⟩ kE.c.c rH ?_
 rintro i ⟨hi,I⟩
 refine .seq<|.sr<|.mo rfl<|.fa rfl<|.lo rfl<|.q (.bO g)<|.q .lss<|.zn<|.cond rfl (λx=>?_) λx=>?_
 have H:i<j.length:=cy x
 obtain⟨s,m⟩:=bW H
 have L:=h.all s (aW m)
 have v:=L.rs
 have a2:=v.le
 refine .kn<|.seq<|.block<|.seq<|.sr<|.fa rfl<|.lo rfl<|.mo rfl ?_
 refine .bG i g m (λa4=>?_)
 refine .fa rfl<|.lo rfl<|.q (.bO v)<|.q .gtr<|.zn<|.cond rfl (λz=>?_) λz=>?_
 refine .sr<|.az rfl<|.ret (aK (br (aK (cI (br (aK (aN rfl ?_)))))))
 ·refine⟨?_,rfl⟩
  rw[rn m (f:=il) (by unfold il;have:=bX z;rw[aeR (by omega)];rfl),afd]
 refine .kn<|.sr<|.az rfl<|.block<|.cF [(1,_),(3,_)] (X:=Nat) (λk=>k<=s.bN.length/\((s.bN.take k).any λr=>iJ isWord r.r)=false) (λk E=>(4,iN k)::E) (λ_ G=>G) (λk=>s.bN.length-k) 0 ⟨aev _,rfl⟩ kE.c.c.c rH ?_
 rintro k ⟨hk,J⟩
 refine .seq<|.sr<|.mo rfl<|.fa rfl<|.lo rfl<|.mo rfl ?_
 refine .bG i g m (λa5=>?_)
 refine .fa rfl<|.lo rfl<|.q (.bO v)<|.q .lss<|.zn<|.cond rfl (λA=>?_) λA=>?_
 have F:k<s.bN.length:=cy A
 obtain⟨⟨Q,C,r⟩,o⟩:=bW F
 have p:=L.all _ (aW o)
 have V:RS R 2 Ty.enc Q r.types:=p.t
 have K:RS R 5 Nd.enc C r.nodes:=p.d
 have a3:cC (cb.enc ⟨Q,C,r⟩):=⟨p.dg⟩
 refine .kn<|.seq<|.block<|.sr<|.fa rfl<|.lo rfl<|.mo rfl ?_
 refine .bG i g m (λa6=>?_)
 refine .fa rfl<|.lo rfl<|.mo rfl ?_
 refine .bG k v o (λa7=>?_)
 refine .q (.aT rfl) ?_
 refine .bU (λb5=>?_)
 refine .bP rfl rfl<|.zs ?_
 refine bx.cZ [(1,_),(3,_),(4,_)] kE.c.c.c (X:=Unit) (λ_=>True) (λ_ E=>(66,.bool (iJ isWord r))::E) (λ_=>[bl D [O,N] 25]) ?_ ?_
 refine .region<|.fa rfl<|.lo rfl<|.q (.bO V)<|.q .gtr<|.mo rfl<|.split (t:=55) rfl (λb=>?_) (λb=>?_)
 refine .gF b<|.gF b<|.gF b<|.gF b<|.q (.aU b)<|.mo rfl<|.gX<|.gX<|.gX<|.gX<|.q .cQ<|.nil ?_
 ·exact aG () aeu (kE.c.c.c.ca rfl (by grind[iJ])) (aQ [1])
 refine .gT b<|.fa rfl<|.gT b<|.lo rfl<|.gT b<|.q (.bO K)<|.gT b<|.q .gtr<|.q (.aR b)<|.mo rfl<|.split (t:=61) rfl (λa=>?_) (λa=>?_)
 refine .gF a<|.gF a<|.gF a<|.gF a<|.q (.aU a)<|.nil ?_
 ·exact aG () aeu (kE.c.c.c.ca rfl (by grind[iJ])) (aQ [1])
 refine .gT a<|.fa rfl<|.gT a<|.lo rfl<|.gT a<|.ba ((As C r.nodes R K p.fd).weaken da) (λu W=>?_)
 subst W
 refine .gT a<|.q .gtr<|.q (.aR a)<|.nil ?_
 ·exact aG () aeu (kE.c.c.c.ca rfl (by grind[iJ])) (aQ [1])
 intro y Y
 refine aw<|.cond rfl (λn=>?_) λn=>?_
 refine .sr<|.az rfl<|.ret (br (aK (cI (br (br (aK (cI (br (aK (aN rfl ?_))))))))))
 ·refine⟨?_,rfl⟩
  rw[rn m (f:=il) (by unfold il;rw[rn o n,afd]),afd]
 refine .skip<|aX<|aw<|.region<|.mo rfl<|.ia (k+1) .add<|.ag rfl<|.nil ?_
 ·exact bm (k+1) ⟨F,tv o J n⟩ (by omega) kE.c.c.c rH
 have U:il s=false:=by
  have n:(s.bN.any λr=>iJ isWord r.r)=false:=by rw[<-dP (l:=s.bN) (i:=k) (by have:=bF A;omega)];exact J
  have a0:=bF z
  unfold il
  rw[n,Bool.or_false]
  exact aeK (by omega)
 refine .exit<|bo<|bs<|bp<|aX<|aw<|.region<|.mo rfl<|.ia (i+1) .add<|.ag rfl<|.nil ?_
 ·exact bm (i+1) ⟨H,tv m I U⟩ (by omega) kE.c.c rH
 have T:j.any il=false:=by rw[<-dP (l:=j) (i:=i) (by have:=bF x;omega)];exact I
 refine .exit<|bo<|bs<|bp<|aw<|.sr<|.az rfl<|.ret (aN rfl ?_)
 ·refine⟨?_,rfl⟩
  have S:(decide (16<j.length)||decide (16<M.length))=false:=w
  rw[S,T]
  rfl
theorem PH(c:bJ)(R:ay)(h:c.is R):Spec prog 76 [.agg c.enc.toArray] R [] λu H'=>u=.bool (c.plain.right isWord dj)/\H'=[]:=by
 rw[AB]
 obtain⟨T,S,A,z⟩:=c
 have K:=h.ss
 have J:=h.sc
 have i1:=K.aB
 have i2:=J.aB
 simp only at K J i1 i2⊢
 have c0:=K.le
 have b9:=J.le
 refine Spec.body func76 rfl results76 ntmps76 rfl<|.sr ?_
 refine .cx rfl (λU=>?_)
 refine .ag rfl<|.zs<|.sr<|.az rfl<|.block<|.cF [(1,_)] (X:=Nat) (λi=>i<=A.length/\(A.take i).all gZ=true) (λi E=>(3,iN i)::E) (λ_ G=>G) (λi=>A.length-i) 0 ⟨aev _,rfl⟩ kE.c.c rH ?_
 rintro i ⟨hi,hq⟩
 refine .seq<|.sr<|.mo rfl<|.fa rfl<|.lo rfl<|.q (.bO K)<|.q .lss<|.zn<|.cond rfl (λV=>?_) λV=>?_
 have a4:i<A.length:=cy V
 obtain⟨⟨C,L,w⟩,v⟩:=bW a4
 have N:=h.all _ (aW v)
 have a0:RS R 3 cb.enc L w:=N.rs
 have c1:=a0.le
 have c4:cC (cq.enc ⟨C,L,w⟩):=⟨N.dg⟩
 refine .kn<|.seq<|.block<|.sr<|.fa rfl<|.lo rfl<|.mo rfl ?_
 refine .bG i K v (λc5=>?_)
 refine .q (.aT rfl) ?_
 refine .bU (λb4=>?_)
 refine .bP rfl rfl<|.zs<|.sr<|.fa rfl<|.lo rfl<|.ba (jW C N.n _) (λu a=>?_)
 subst a
 refine .q .not<|.zn<|.cond rfl (λW=>?_) λW=>?_
 refine .sr<|.az rfl<|.ret (aK (br (aK (cI (br (aK (aN rfl ?_)))))))
 ·refine⟨?_,rfl⟩
  rw[lv v (f:=gZ) (by unfold gZ;simp only;rw[show isWord C=false by simpa using W];rfl)]
  rfl
 refine .kn<|.sr<|.az rfl<|.block<|.cF [(1,_),(3,_),(4,_)] (X:=Nat) (λk=>k<=w.length/\(w.take k).all jt=true) (λk E=>(5,iN k)::E) (λ_ G=>G) (λk=>w.length-k) 0 ⟨aev _,rfl⟩ kE.c.c.c.c rH ?_
 rintro k ⟨hk,a7⟩
 refine .seq<|.sr<|.mo rfl<|.fa rfl<|.lo rfl<|.q (.bO a0)<|.q .lss<|.zn<|.cond rfl (λY=>?_) λY=>?_
 have a3:k<w.length:=cy Y
 obtain⟨⟨M,D,r⟩,I⟩:=bW a3
 have B:=N.all _ (aW I)
 have a1:RS R 2 Ty.enc M r.types:=B.t
 have b3:RS R 5 Nd.enc D r.nodes:=B.d
 have c2:=a1.le
 have c3:cC (cb.enc ⟨M,D,r⟩):=⟨B.dg⟩
 refine .kn<|.seq<|.block<|.sr<|.fa rfl<|.lo rfl<|.mo rfl ?_
 refine .bG k a0 I (λc6=>?_)
 refine .q (.aT rfl) ?_
 refine .bU (λb6=>?_)
 refine .bP rfl rfl<|.zs<|.seq ?_
 refine bx.cZ [(1,_),(3,_),(4,_),(5,_),(6,_)] kE.c.c.c.c.c (X:=Unit) (λ_=>True) (λ_ E=>(48,.bool (!(isWord r.name&&fN isWord r.nodes !=0)))::E) (λ_=>[bl b6 (cb.enc ⟨M,D,r⟩) 167,bl b4 (cq.enc ⟨C,L,w⟩) 164,bl U [T,S] 25]) ?_ ?_
 refine .region<|.fa rfl<|.lo rfl<|.ba (jW r.name B.n _) (λu a=>?_)
 subst a
 refine .q .not<|.mo rfl<|.split (t:=43) rfl (λg=>?_) (λg=>?_)
 refine .gF g<|.gF g<|.gF g<|.gF g<|.q (.aU g)<|.nil ?_
 ·exact aG () aeu (kE.c.c.c.c.c.ca rfl (by grind)) rH
 refine .gT g<|.fa rfl<|.gT g<|.lo rfl<|.gT g<|.ba ((As D r.nodes R b3 B.fd).weaken da) (λu a=>?_)
 subst a
 refine .gT g<|.q .bY<|.q (.aR g)<|.nil ?_
 ·exact aG () aeu (kE.c.c.c.c.c.ca rfl (by grind)) rH
 intro y hy
 refine aw<|.cond rfl (λh4=>?_) λh4=>?_
 refine .sr<|.az rfl<|.ret (aK (br (aK (cI (br (br (aK (cI (br (aK (aN rfl ?_)))))))))))
 ·refine⟨?_,rfl⟩
  rw[lv v (f:=gZ) (by unfold gZ;simp only;rw[lv I (f:=jt) (by unfold jt;rw[show(isWord r.name&&fN isWord r.nodes !=0)=false by grind];rfl),aeH])]
  rfl
 refine .kn<|.sr<|.az rfl<|.block<|.cF [(1,_),(3,_),(4,_),(5,_),(6,_)] (X:=Nat) (λm=>m<=r.types.length/\(r.types.take m).all (ik isWord)=true) (λm E=>(7,iN m)::E) (λ_ G=>G) (λm=>r.types.length-m) 0 ⟨aev _,rfl⟩ kE.c.c.c.c.c.c rH ?_
 rintro m ⟨hm,a8⟩
 refine .seq<|.sr<|.mo rfl<|.fa rfl<|.lo rfl<|.q (.bO a1)<|.q .lss<|.zn<|.cond rfl (λF=>?_) λF=>?_
 have a5:m<r.types.length:=cy F
 obtain⟨t,O⟩:=bW a5
 have Q:=B.ft t (aW O)
 refine .kn<|.seq<|.block<|.sr<|.fa rfl<|.lo rfl<|.mo rfl ?_
 refine .bG m a1 O (λc7=>?_)
 refine .q (.aT rfl) ?_
 refine .bU (λb8=>?_)
 refine .bP rfl rfl<|.zs ?_
 refine bx.cZ [(1,_),(3,_),(4,_),(5,_),(6,_),(7,_)] kE.c.c.c.c.c.c (X:=Unit) (λ_=>True) (λ_ E=>(79,.bool (!ik isWord t))::E) (λ_=>[bl b6 (cb.enc ⟨M,D,r⟩) 167,bl b4 (cq.enc ⟨C,L,w⟩) 164,bl U [T,S] 25]) ?_ ?_
 refine .region<|.fa rfl<|.lo rfl<|.q .eg<|.mo rfl<|.split (t:=64) rfl (λx=>?_) (λx=>?_)
 refine .gT x<|.fa rfl<|.gT x<|.lo rfl<|.gT x<|.q .eg<|.q (.aU x)<|.mo rfl<|.split (t:=69) rfl (λe=>?_) (λe=>?_)
 refine .gF e<|.gF e<|.gF e<|.gF e<|.dc rfl<|.dc rfl<|.dc rfl<|.gF e<|.q (.aU e)<|.q .not<|.nil ?_
 ·exact aG () aeu (kE.c.c.c.c.c.c.ca rfl (by grind[ik])) (aQ [1,1,1])
 refine .gT e<|.fa rfl<|.gT e<|.lo rfl<|.gT e<|.ba (jW t.space Q.1 _) (λu a=>?_)
 subst a
 refine .gT e<|.mo rfl<|.split (t:=73) rfl (λb=>?_) (λb=>?_)
 refine .gT b<|.fa rfl<|.gT b<|.lo rfl<|.gT b<|.ba (jW t.rel Q.2 _) (λu a=>?_)
 subst a
 refine .gT e<|.q (.aU b)<|.q (.aR e)<|.q .not<|.nil ?_
 ·exact aG () aeu (kE.c.c.c.c.c.c.ca rfl (by grind[ik])) (aQ [1,1,1])
 refine .gF b<|.gF b<|.gF b<|.gT e<|.q (.aR b)<|.q (.aR e)<|.q .not<|.nil ?_
 ·exact aG () aeu (kE.c.c.c.c.c.c.ca rfl (by grind[ik])) (aQ [1,1,1])
 refine .gF x<|.gF x<|.gF x<|.q (.aR x)<|.mo rfl<|.gt rfl<|.fa rfl<|.gt rfl<|.lo rfl<|.gt rfl<|.ba (jW t.space Q.1 _) (λu a=>?_)
 subst a
 refine .gt rfl<|.mo rfl<|.split (t:=73) rfl (λb=>?_) (λb=>?_)
 refine .gT b<|.fa rfl<|.gT b<|.lo rfl<|.gT b<|.ba (jW t.rel Q.2 _) (λu a=>?_)
 subst a
 refine .gt rfl<|.q (.aU b)<|.q .cY<|.q .not<|.nil ?_
 ·exact aG () aeu (kE.c.c.c.c.c.c.ca rfl (by grind[ik])) (aQ [1,1,1])
 refine .gF b<|.gF b<|.gF b<|.gt rfl<|.q (.aR b)<|.q .cY<|.q .not<|.nil ?_
 ·exact aG () aeu (kE.c.c.c.c.c.c.ca rfl (by grind[ik])) (aQ [1,1,1])
 intro y hy
 refine aw<|.cond rfl (λH=>?_) λH=>?_
 refine .sr<|.az rfl<|.ret (br (aK (cI (br (br (aK (cI (br (br (aK (cI (br (aK (aN rfl ?_))))))))))))))
 ·refine⟨?_,rfl⟩
  rw[lv v (f:=gZ) (by unfold gZ;simp only;rw[lv I (f:=jt) (by unfold jt mL;rw[lv O (by simpa using H),aeH]),aeH])]
  rfl
 refine .skip<|aX<|aw<|.region<|.mo rfl<|.ia (m+1) .add<|.ag rfl<|.nil ?_
 ·exact bm (m+1) ⟨a5,m1 O a8 (by simpa using H)⟩ (by omega) kE.c.c.c.c.c.c rH
 have b2:jt ⟨M,D,r⟩=true:=by
  have H:r.types.all (ik isWord)=true:=by rw[<-dP (l:=r.types) (i:=m) (by have:=bF F;omega)];exact a8
  have a9:(!(isWord r.name&&fN isWord r.nodes !=0))=false:=h4
  unfold jt mL
  simp only[H,aeF]
  simpa using a9
 refine .exit<|bo<|bs<|bp<|aX<|aw<|.region<|.mo rfl<|.ia (k+1) .add<|.ag rfl<|.nil ?_
 ·exact bm (k+1) ⟨a3,m1 I a7 b2⟩ (by omega) kE.c.c.c.c (aQ [1,1])
 have hm:gZ ⟨C,L,w⟩=true:=by
  have F:w.all jt=true:=by rw[<-dP (l:=w) (i:=k) (by have:=bF Y;omega)];exact a7
  unfold gZ
  simp only[F,aeF]
  simpa using W
 refine .exit<|bo<|bs<|bp<|aX<|aw<|.region<|.mo rfl<|.ia (i+1) .add<|.ag rfl<|.nil ?_
 ·exact bm (i+1) ⟨a4,m1 v hq hm⟩ (by omega) kE.c.c (aQ [1])
 have b0:A.all gZ=true:=by rw[<-dP (l:=A) (i:=i) (by have:=bF V;omega)];exact hq
 refine .exit<|bo<|bs<|bp<|aw<|.seq<|.sr<|.az rfl<|.block<|.cF [(1,_)] (X:=Nat) (λj=>j<=z.length/\(z.take j).all (kA isWord dj)=true) (λj E=>(9,iN j)::E) (λ_ G=>G) (λj=>z.length-j) 0 ⟨aev _,rfl⟩ kE.c.c rH ?_
 rintro j ⟨hj,a6⟩
 refine .seq<|.sr<|.mo rfl<|.fa rfl<|.lo rfl<|.q (.bO J)<|.q .lss<|.zn<|.cond rfl (λZ=>?_) λZ=>?_
 have a2:j<z.length:=cy Z
 obtain⟨s,v⟩:=bW a2
 have b5:=h.fc s (aW v)
 obtain⟨f1,f2,f3,f4⟩:=b5
 refine .kn<|.seq<|.block<|.sr<|.fa rfl<|.lo rfl<|.mo rfl ?_
 refine .bG j J v (λc8=>?_)
 refine .q (.aT rfl) ?_
 refine .bU (λb7=>?_)
 refine .bP rfl rfl<|.zs ?_
 refine bx.cZ [(1,_),(9,_)] kE.c.c (X:=Unit) (λ_=>True) (λ_ E=>(107,.bool (!kA isWord dj s))::E) (λ_=>[bl U [T,S] 25]) ?_ ?_
 refine .region<|.fa rfl<|.lo rfl<|.ba (jW s.name f1 _) (λu a=>?_)
 subst a
 refine .q .not<|.mo rfl<|.split (t:=96) rfl (λp=>?_) (λp=>?_)
 refine .gF p<|.gF p<|.gF p<|.gF p<|.q (.aU p)<|.mo rfl<|.gX<|.gX<|.gX<|.gX<|.q .cQ<|.nil ?_
 ·exact aG () aeu (kE.c.c.ca rfl (by grind[kA])) (aQ [1])
 refine .gT p<|.fa rfl<|.gT p<|.q (.loadT rfl)<|.gT p<|.ba (vC s.jT s.su f2 f3 _) (λu a=>?_)
 subst a
 refine .gT p<|.q .not<|.q (.aR p)<|.mo rfl<|.split (t:=102) rfl (λo=>?_) (λo=>?_)
 refine .gF o<|.gF o<|.gF o<|.gF o<|.q (.aU o)<|.nil ?_
 ·exact aG () aeu (kE.c.c.ca rfl (by grind[kA])) (aQ [1])
 refine .gT o<|.fa rfl<|.gT o<|.lo rfl<|.gT o<|.ba (jW s.rel f4 _) (λu a=>?_)
 subst a
 refine .gT o<|.q .not<|.q (.aR o)<|.nil ?_
 ·exact aG () aeu (kE.c.c.ca rfl (by grind[kA])) (aQ [1])
 intro y hy
 refine aw<|.cond rfl (λh8=>?_) λh8=>?_
 refine .sr<|.az rfl<|.ret (br (aK (cI (br (aK (aN rfl ?_))))))
 ·refine⟨?_,rfl⟩
  rw[lv v (by simpa using h8),aeH]
  rfl
 refine .skip<|aX<|aw<|.region<|.mo rfl<|.ia (j+1) .add<|.ag rfl<|.nil ?_
 ·exact bm (j+1) ⟨a2,m1 v a6 (by simpa using h8)⟩ (by omega) kE.c.c rH
 refine .exit<|bo<|bs<|bp<|aw<|.sr<|.q (.aT rfl)<|.ba ((Py ⟨T,S,A,z⟩ R h).weaken da) (λu a=>?_)
 subst a
 refine .q .not<|.az rfl<|.ret (aN rfl ?_)
 ·refine⟨?_,rfl⟩
  have h9:z.all (kA isWord dj)=true:=by rw[<-dP (l:=z) (i:=j) (by have:=bF Z;omega)];exact a6
  rw[b0,h9]
  rfl
abbrev Nm:=ByteArray×cb
def m8(x:Nm):List Value:=.string x.1::x.2.enc
def Nm.p(x:Nm):ByteArray×Rl:=(x.1,x.2.r)
def bJ.gb(c:bJ):List Nm:=c.bg.flatMap λs=>s.bN.map λr=>(s.name,r)
theorem o4(c:bJ):c.gb.map Nm.p=c.plain.all:=by
 unfold bJ.gb Cf.all bJ.plain
 simp[List.map_flatMap,List.flatMap_map,cq.plain,Nm.p,ae4]
def bJ.iZ(c:bJ):Prop:=c.bg.length<=16/\∀s∈c.bg,s.bN.length<=16
theorem ul{α β:Type}{f:α->List β}{n:Nat}:∀{l:List α},(∀x∈l,(f x).length<=n)->(l.flatMap f).length<=l.length*n
 |[],_=>by simp
 |x::l,h=>by
  have b:=h x aeL
  have c:=ul λy a=>h y (afn _ a)
  rw[List.flatMap_cons,aeG,ae2,Nat.succ_mul]
  omega
theorem bJ.iZ.gb{c:bJ}(h:c.iZ):c.gb.length<=256:=by
 have:=ul (f:=λs:cq=>s.bN.map λr=>(s.name,r)) (n:=16) (l:=c.bg) λs a=>by rw[aez];exact h.2 s a
 have b:=h.1
 unfold bJ.gb
 omega
structure rb(R:ay)(v:Value)(L:List Nm):Prop where
 rs:RS R 4 m8 v L
 all:∀x∈L,x.2.is R
theorem Od{R:ay}{x:Nm}(h:x.2.is R):∀u∈m8 x,aB u=true:=by
 intro u hu
 rcases List.mem_cons.1 hu with rfl|hu
 ·rfl
 ·exact h.dg u hu
theorem zQ{c:bJ}{R:ay}(h:c.is R):∀x∈c.gb,x.2.is R:=by
 intro x a
 obtain⟨s,d,a⟩:=List.mem_flatMap.1 a
 obtain⟨r,b,rfl⟩:=afe.1 a
 exact(h.all s d).all r b
theorem vj(c:bJ)(R:ay)(h:c.is R)(o:c.iZ):Spec prog 79 [.agg c.enc.toArray] R [] λu H'=>∃T,H'=[T]/\OS 263 4 m8 u c.gb T:=by
 have hN:=o.gb
 obtain⟨vs,vc,b,a3⟩:=c
 have d:=h.ss
 have N:=d.aB
 have O:=h.sc.aB
 simp only at d N O⊢
 have a0:=d.le
 have L:∀i s k,b[i]? =some s->((b.take i).flatMap (λs=>s.bN.map λr=>((s.name,r):Nm))++(s.bN.take k).map λr=>((s.name,r):Nm)).length<=512:=λi s k a=>by
  rw[aeG,aez]
  have e:=ul (f:=λs:cq=>s.bN.map λr=>((s.name,r):Nm)) (n:=16) (l:=b.take i) λs a=>by rw[aez];exact o.2 s (List.mem_of_mem_take a)
  have g:(b.take i).length<=16:=by rw[aeC];have:=o.1;simp only at this;omega
  have h3:=o.2 s (aW a)
  have h4:(s.bN.take k).length<=16:=by rw[aeC];omega
  omega
 refine Spec.body func79 rfl results79 ntmps79 rfl<|.sr ?_
 refine .cx rfl (λY=>?_)
 refine .ag rfl<|.z<|.ag rfl<|.zs<|.sr<|.az rfl<|.block<|.cF [(1,_)] (X:=Nat×Value×ax) (λy=>y.1<=b.length/\OS 263 4 m8 y.2.1 ((b.take y.1).flatMap λs=>s.bN.map λr=>((s.name,r):Nm)) y.2.2) (λy E=>(4,iN y.1)::(3,y.2.1)::E) (λy G=>y.2.2::G) (λy=>b.length-y.1) (0,sZ,[]) ⟨aev _,OS.nil⟩ kE.c.c.c bz.fH ?_
 rintro⟨i,V,v⟩ ⟨I,j⟩
 simp only at I j⊢
 refine .seq<|.sr<|.mo rfl<|.fa rfl<|.lo rfl<|.q (.bO d)<|.q .lss<|.zn<|.cond rfl (λe=>?_) λe=>?_
 have A:i<b.length:=cy e
 obtain⟨s,a⟩:=bW A
 have B:=h.all _ (aW a)
 have t:=B.rs
 have a1:=t.le
 refine .kn<|.seq<|.block<|.sr<|.az rfl<|.block<|.cF [(1,_),(4,_)] (X:=Nat×Value×ax) (λy=>y.1<=s.bN.length/\OS 263 4 m8 y.2.1 (((b.take i).flatMap λs=>s.bN.map λr=>((s.name,r):Nm))++(s.bN.take y.1).map λr=>((s.name,r):Nm)) y.2.2) (λy E=>(5,iN y.1)::(3,y.2.1)::E) (λy G=>y.2.2::G) (λy=>s.bN.length-y.1) (0,V,v) ⟨aev _,by simpa using j⟩ kE.c.c.c.c rH ?_
 rintro⟨k,Q,D⟩ ⟨J,m⟩
 simp only at J m⊢
 refine .seq<|.sr<|.mo rfl<|.fa rfl<|.lo rfl<|.mo rfl ?_
 refine .bG i d a (λa2=>?_)
 refine .fa rfl<|.lo rfl<|.q (.bO t)<|.q .lss<|.zn<|.cond rfl (λg=>?_) λg=>?_
 have w:k<s.bN.length:=cy g
 obtain⟨⟨W,U,r⟩,p⟩:=bW w
 have M:=B.all _ (aW p)
 have p1:=d.pc a
 have p2:=t.pc p
 refine .kn<|.seq<|.block<|.cS [18] mixed<|.tO 0 rfl .move<|.tO 1 rfl (.fieldAddr rfl)<|.tO 2 rfl (.cm rfl)<|.tO 3 rfl .move<|.tO 4 rfl (.bG i d a rfl rfl rfl)<|.tO 5 rfl (.fieldAddr rfl)<|.tO 6 rfl (.cm rfl)<|.tO 7 rfl (.fieldAddr rfl)<|.tO 8 rfl (.cm rfl)<|.tO 9 rfl .move<|.tO 10 rfl (.bG i d a rfl rfl rfl)<|.tO 11 rfl (.fieldAddr rfl)<|.tO 12 rfl (.cm rfl)<|.tO 13 rfl .move<|.tO 14 rfl (.bG k t p rfl rfl rfl)<|.tO 15 rfl (.aT rfl)<|.tO 16 rfl .cR<|.sT 17 rfl ?_
 refine .dY (λZ=>?_)
 refine .nil<|Next.sub<|.sT 18 rfl<|.append m (RS.lits (xs:=[((s.name,⟨W,U,r⟩):Nm)]) rfl (by simp[m8,cb.enc]) (by intro x C;rw[aeS]at C;subst C;exact Od M)) (by have:=L i s k a;simp only[aeE];omega) (λS F H=>?_)
 refine .nil<|Next.mod rfl<|.tK 19 rfl .assign<|RA.nil (by kernel_rfl)<|aX<|aw<|.region<|.mo rfl<|.ia (k+1) .add<|.ag rfl<|.nil ?_
 ·exact bm (k+1,S,F) ⟨w,by simp only;rw[ec p,aeB, <-List.append_assoc];exact H⟩ (by simp only;omega) kE.c.c.c.c (aQ [1,1])
 have K:s.bN.length<=k:=by have:=bF g;omega
 rw[dP K]at m
 refine .exit<|bo<|bs<|bp<|aX<|aw<|.region<|.mo rfl<|.ia (i+1) .add<|.ag rfl<|.nil ?_
 ·exact bm (i+1,Q,D) ⟨A,by simp only;rw[ec a,List.flatMap_append];simpa using m⟩ (by simp only;omega) kE.c.c.c rH
 refine .exit<|bo<|bs<|bp<|aw<|.sr<|.mo rfl<|.az rfl<|.ret (bj _ (.one (.tmp rfl)) (.one [0] _) ?_)
 ·refine⟨v,by simp[take],?_⟩
  rw[dP (kM e)]at j
  exact j
def fI(o:Option Nat):Int:=match o with|none=> -1|some i=>i
theorem pi(v:Value)(L:List Nm)(R:ay)(h:rb R v L)(d b:ByteArray):
  Spec prog 141 [v,.string d,.string b] R [] λu H'=>u=.int .i64 (fI (bR (L.map Nm.p) ⟨d,b⟩))/\H'=[]:=by
 have l:=h.rs
 have H:=l.le
 refine Spec.body func141 rfl results141 ntmps141 rfl<|.sr<|.ag rfl<|.zs<|.sr<|.az rfl<|.block<|.cF [(0,_),(1,_),(2,_)] (X:=Nat) (λi=>i<=L.length/\∀j x,j<i->L[j]? =some x->fo x.p≠⟨d,b⟩) (λi E=>(7,iN i)::E) (λ_ G=>G) (λi=>L.length-i) 0 ⟨aev _,λj x f=>absurd f (by omega)⟩ kE.c.c.c.c rH ?_
 rintro i ⟨F,w⟩
 refine .seq<|.sr<|.mo rfl<|.mo rfl<|.q (.bO l)<|.q .lss<|.zn<|.cond rfl (λn=>?_) λn=>?_
 have s:i<L.length:=cy n
 obtain⟨⟨m,N,M,r⟩,g⟩:=bW s
 have I:=h.all _ (aW g)
 refine .kn<|.seq<|.block<|.seq ?_
 refine bx.cZ [(0,_),(1,_),(2,_),(7,_)] kE.c.c.c.c (X:=Unit) (λ_=>True) (λ_ E=>(30,.bool (decide (m=d)&&decide (r.name=b)))::E) (λ_=>[]) ?_ ?_
 refine .region<|.mo rfl<|.mo rfl ?_
 refine .bG i l g (λJ=>?_)
 refine .fa rfl<|.lo rfl<|.mo rfl<|.q .eg<|.mo rfl<|.split (t:=21) rfl (λa=>?_) (λa=>?_)
 refine .gT a<|.mo rfl<|.gT a<|.mo rfl<|.gT a ?_
 refine .bG i l g (λK=>?_)
 refine .gT a<|.fa rfl<|.gT a<|.fa rfl<|.gT a<|.lo rfl<|.gT a<|.mo rfl<|.gT a<|.q .eg<|.q (.aU a)<|.nil ?_
 ·exact aG () aeu (kE.c.c.c.c.ca rfl (by grind)) rH
 refine .gF a<|.gF a<|.gF a<|.gF a<|.gF a<|.gF a<|.gF a<|.gF a<|.q (.aR a)<|.nil ?_
 ·exact aG () aeu (kE.c.c.c.c.ca rfl (by grind)) rH
 intro y A
 refine aw<|.cond rfl (λo=>?_) λo=>?_
 refine .sr<|.mo rfl<|.az rfl<|.ret (br (aK (cI (br (aK (aN rfl ?_))))))
 ·refine⟨?_,rfl⟩
  have z:m=d/\r.name=b:=by simpa using o
  have:bR (L.map Nm.p) ⟨d,b⟩=some i:=by
   unfold bR
   rw[aft]
   refine⟨by rw[aez];exact s,?_,λj f=>?_⟩
   ·have e:=(aeT.1 g).2
    rw[List.getElem_map,e]
    exact aeR (by show(⟨m,r.name⟩:Ty)=_;rw[z.1,z.2])
   ·rw[List.getElem_map]
    have:=w j _ f (aV (by omega))
    simpa using this
  rw[this]
  rfl
 refine .skip<|aX<|aw<|.region<|.mo rfl<|.ia (i+1) .add<|.ag rfl<|.nil ?_
 ·exact bm (i+1) ⟨s,λj x f k=>by
   rcases aeU j i with hh|hh
   ·exact w j x hh k
   ·obtain rfl:j=i:=by omega
    rw[g]at k
    cases k
    intro B
    injection B with k1 k2
    have C:m=d:=k1
    have D:r.name=b:=k2
    subst C;subst D
    simp at o⟩ (by omega) kE.c.c.c.c rH
 refine .exit<|bo<|bs<|bp<|aw<|.sr<|.az rfl<|.ret (aN rfl ?_)
 ·refine⟨?_,rfl⟩
  have:bR (L.map Nm.p) ⟨d,b⟩=none:=by
   unfold bR
   rw[List.findIdx?_eq_none_iff]
   intro x k
   obtain⟨y,A,rfl⟩:=afe.1 k
   obtain⟨j,f,e⟩:=aeV.1 A
   have:=w j y (by have:=bF n;omega) (by rw[aV f,e])
   simpa using this
  rw[this]
  rfl
theorem uR{α:Type}{l:List α}{i:Nat}{x:α}(j:l[i]? =some x)(h:(l.take i).Nodup)(g:∀k y,k<i->l[k]? =some y->y≠x):(l.take (i+1)).Nodup:=by
 rw[ec j,afo]
 refine⟨h,by simp,λa d b c=>?_⟩
 rw[aeS]at c
 subst c
 obtain⟨k,f,e⟩:=aeV.1 d
 rw[aeC]at f
 exact g k a (by omega) (by rw[aff]at e;rw[aV (by omega),e])
theorem oc{α:Type}{l:List α}{i k:Nat}{x y:α}(f:k<i)(g:l[i]? =some x)(j:l[k]? =some y)(e:x=y):¬l.Nodup:=by
 intro h
 obtain⟨a,b⟩:=aeT.1 g
 obtain⟨c,d⟩:=aeT.1 j
 have:=(List.nodup_iff_pairwise_ne.1 h)
 rw[List.pairwise_iff_getElem]at this
 exact this k i c a f (by rw[d,b,e])
theorem Az{L:List (ByteArray×Rl)}{i:Nat}{x:ByteArray×Rl}(a:L[i]? =some x):∃j,bR L (fo x)=some j/\j<=i/\∃y,L[j]? =some y/\fo y=fo x:=by
 cases h:bR L (fo x)with
 |none=>
  unfold bR at h
  rw[List.findIdx?_eq_none_iff]at h
  have:=h x (aW a)
  simp at this
 |some j=>
  unfold bR at h
  rw[aft]at h
  obtain⟨b,c,d⟩:=h
  refine⟨j,rfl,?_,_,aV b,bX c⟩
  rcases aeU i j with h4|h4
  ·have:=d i h4
   rw[(aeT.1 a).2]at this
   simp at this
  ·exact h4
theorem PL(c:bJ)(R:ay)(h:c.is R)(hf:c.iZ):Spec prog 77 [.agg c.enc.toArray] R [] λu H'=>u=.bool (!decide c.plain.dR)/\H'=[]:=by
 have a7:=o4 c
 have a4:=zQ h
 have a8:=vj c R h hf
 have T:c.plain.dR↔(c.bg.map (·.name)).Nodup/\((c.gb.map Nm.p).map fo).Nodup/\(c.scopes.map (·.name)).Nodup:=by
  unfold Cf.dR
  rw[<-a7]
  simp only[bJ.plain,aeJ]
  exact Iff.rfl
 generalize hL:c.gb=L at *
 obtain⟨vs,vc,g,f⟩:=c
 have D:=h.ss
 have C:=h.sc
 have i1:=D.aB
 have a:=C.aB
 simp only at D C i1 a T⊢
 have c2:=D.le
 have c1:=C.le
 refine Spec.body func77 rfl results77 ntmps77 rfl<|.sr ?_
 refine .cx rfl (λb1=>?_)
 refine .ag rfl<|.zs<|.sr<|.az rfl<|.block<|.cF [(1,_)] (X:=Nat) (λi=>i<=g.length/\((g.map (·.name)).take i).Nodup) (λi E=>(3,iN i)::E) (λ_ G=>G) (λi=>g.length-i) 0 ⟨aev _,by simp⟩ kE.c.c rH ?_
 rintro i ⟨hi,n⟩
 refine .seq<|.sr<|.mo rfl<|.fa rfl<|.lo rfl<|.q (.bO D)<|.q .lss<|.zn<|.cond rfl (λV=>?_) λV=>?_
 have K:i<g.length:=cy V
 obtain⟨s,M⟩:=bW K
 have N:(g.map (·.name))[i]? =some s.name:=by rw[aeA,M];rfl
 refine .kn<|.seq<|.block<|.sr<|.az rfl<|.block<|.cF [(1,_),(3,_)] (X:=Nat) (λk=>k<=i/\∀j y,j<k->(g.map (·.name))[j]? =some y->y≠s.name) (λk E=>(4,iN k)::E) (λ_ G=>G) (λk=>i-k) 0 ⟨aev _,λj y I=>absurd I (by omega)⟩ kE.c.c.c rH ?_
 rintro k ⟨hk,w⟩
 refine .seq<|.sr<|.mo rfl<|.mo rfl<|.q .lss<|.zn<|.cond rfl (λW=>?_) λW=>?_
 have J:k<i:=cy W
 obtain⟨t,Q⟩:∃t,g[k]? =some t:=⟨_,aV (by omega)⟩
 have S:(g.map (·.name))[k]? =some t.name:=by rw[aeA,Q];rfl
 refine .kn<|.seq<|.block<|.seq<|.gd mixed (by kernel_rfl)<|.fa rfl<|.lo rfl<|.mo rfl ?_
 refine .bG i D M (λc6=>?_)
 refine .fa rfl<|.lo rfl<|.fa rfl<|.lo rfl<|.mo rfl ?_
 refine .bG k D Q (λc7=>?_)
 refine .fa rfl<|.lo rfl<|.q .eg<|.zn<|.cond rfl (λU=>?_) λU=>?_
 refine .sr<|.az rfl<|.ret (br (aK (cI (br (br (aK (cI (br (aK (aN rfl ?_))))))))))
 ·refine⟨?_,rfl⟩
  rw[aeK λhh=>oc J N S (by simpa using U) (T.1 hh).1]
  rfl
 refine .skip<|aX<|aw<|.region<|.mo rfl<|.ia (k+1) .add<|.ag rfl<|.nil ?_
 ·exact bm (k+1) ⟨J,λj y I d=>by
   rcases aeU j k with hh|hh
   ·exact w j y hh d
   ·obtain rfl:j=k:=by omega
    rw[S]at d
    cases d
    intro e
    rw[e]at U
    simp at U⟩ (by omega) kE.c.c.c rH
 have a0:k=i:=by have:=bF W;omega
 rw[a0]at w
 refine .exit<|bo<|bs<|bp<|aX<|aw<|.region<|.mo rfl<|.ia (i+1) .add<|.ag rfl<|.nil ?_
 ·exact bm (i+1) ⟨K,uR N n w⟩ (by omega) kE.c.c rH
 have a9:(g.map (·.name)).Nodup:=by rw[dP (by rw[aez];have:=bF V;omega)]at n;exact n
 refine .exit<|bo<|bs<|bp<|aw<|.sr<|.q (.aT rfl)<|.dh (a8.weaken da) (λu T5 F=>?_)
 have c3:=F.le
 refine .ag rfl<|.zs<|.sr<|.az rfl<|.block<|.cF [(1,_),(5,_)] (X:=Nat) (λi=>i<=L.length/\(((L.map Nm.p).map fo).take i).Nodup) (λi E=>(6,iN i)::E) (λ_ G=>G) (λi=>L.length-i) 0 ⟨aev _,by simp⟩ kE.c.c.c rH ?_
 rintro a ⟨b9,a1⟩
 refine .seq<|.sr<|.mo rfl<|.mo rfl<|.q (.ep F)<|.q .lss<|.zn<|.cond rfl (λY=>?_) λY=>?_
 have a3:a<L.length:=cy Y
 obtain⟨⟨A,vt,vn,r⟩,O⟩:=bW a3
 have c5:=a4 _ (aW O)
 have a5:(L.map Nm.p)[a]? =some (A,r):=by rw[aeA,O];rfl
 have a6:((L.map Nm.p).map fo)[a]? =some ⟨A,r.name⟩:=by rw[aeA,a5];rfl
 obtain⟨m,b4,c0,yf,b6,b8⟩:=Az a5
 have a2:bR (L.map Nm.p) ⟨A,r.name⟩=some m:=b4
 have pq:PS T5 (eE u (a*4)) (m8 (A,⟨vt,vn,r⟩)):=⟨F.pc O⟩
 refine .kn<|.seq<|.block<|.seq<|.cS [12] mixed<|.tO 0 rfl .move<|.tO 1 rfl .move<|.tO 2 rfl .move ?_
 refine RA.aL 3 rfl a F O rfl rfl rfl (by kernel_rfl) (λc8=>?_)
 refine .tO 4 rfl (.fieldAddr rfl)<|.tO 5 rfl (.cm rfl)<|.tO 6 rfl .move<|.tO 7 rfl .move ?_
 refine RA.aL 8 rfl a F O rfl rfl rfl (by kernel_rfl) (λc9=>?_)
 refine .tO 9 rfl (.fieldAddr rfl)<|.tO 10 rfl (.fieldAddr rfl)<|.tO 11 rfl (.cm rfl)<|.tK 13 rfl .move<|.sT 12 rfl<|.ba (pi u L _ ⟨F.rx,λx hx=>(a4 x hx).mono λb o hb=>.inl hb⟩ A r.name) (λv hv=>?_)
 subst hv
 rw[a2]
 refine .nil<|Next.mod rfl<|.tK 14 rfl .dZ<|RA.nil (by kernel_rfl)<|aw<|.cond rfl (λZ=>?_) λZ=>?_
 refine .sr<|.az rfl<|.ret (br (aK (cI (br (aK (aN rfl ?_))))))
 ·refine⟨?_,rfl⟩
  have c4:m≠a:=by
   intro e
   subst e
   simp[fI]at Z
  have b7:((L.map Nm.p).map fo)[m]? =some ⟨A,r.name⟩:=by rw[aeA,b6];exact aey some b8
  rw[aeK λhh=>oc (show m<a by omega) a6 b7 rfl (T.1 hh).2.1]
  rfl
 have b3:m=a:=by
  have l:(fI (some m)==(a:Int))=true:=by simpa using Z
  have B:fI (some m)=(a:Int):=by simpa using l
  have H:(m:Int)=(a:Int):=B
  omega
 refine .skip<|aX<|aw<|.region<|.mo rfl<|.ia (a+1) .add<|.ag rfl<|.nil ?_
 ·exact bm (a+1) ⟨a3,uR a6 a1 λk y hk d=>by
   intro e
   subst e
   rw[aeA]at d
   cases hz:(L.map Nm.p)[k]? with
   |none=>rw[hz]at d;cases d
   |some z=>
    rw[hz]at d
    have b5:fo z=⟨A,r.name⟩:=by simpa using d
    obtain⟨j2,l,B,_⟩:=Az hz
    rw[b5,a2,b3]at l
    cases l
    omega⟩ (by omega) kE.c.c.c rH
 have b0:((L.map Nm.p).map fo).Nodup:=by rw[dP (by simp only[aez];have:=bF Y;omega)]at a1;exact a1
 refine .exit<|bo<|bs<|bp<|aw<|.seq<|.sr<|.az rfl<|.block<|.cF [(1,_)] (X:=Nat) (λi=>i<=f.length/\((f.map (·.name)).take i).Nodup) (λi E=>(7,iN i)::E) (λ_ G=>G) (λi=>f.length-i) 0 ⟨aev _,by simp⟩ kE.c.c rH ?_
 rintro i ⟨hi,n⟩
 refine .seq<|.sr<|.mo rfl<|.fa rfl<|.lo rfl<|.q (.bO C)<|.q .lss<|.zn<|.cond rfl (λl=>?_) λl=>?_
 have K:i<f.length:=cy l
 obtain⟨s,M⟩:=bW K
 have N:(f.map (·.name))[i]? =some s.name:=by rw[aeA,M];rfl
 refine .kn<|.seq<|.block<|.sr<|.az rfl<|.block<|.cF [(1,_),(7,_)] (X:=Nat) (λk=>k<=i/\∀j y,j<k->(f.map (·.name))[j]? =some y->y≠s.name) (λk E=>(8,iN k)::E) (λ_ G=>G) (λk=>i-k) 0 ⟨aev _,λj y I=>absurd I (by omega)⟩ kE.c.c.c rH ?_
 rintro k ⟨hk,w⟩
 refine .seq<|.sr<|.mo rfl<|.mo rfl<|.q .lss<|.zn<|.cond rfl (λB=>?_) λB=>?_
 have J:k<i:=cy B
 obtain⟨t,Q⟩:∃t,f[k]? =some t:=⟨_,aV (by omega)⟩
 have S:(f.map (·.name))[k]? =some t.name:=by rw[aeA,Q];rfl
 refine .kn<|.seq<|.block<|.seq<|.gd mixed (by kernel_rfl)<|.fa rfl<|.lo rfl<|.mo rfl ?_
 refine .bG i C M (λd0=>?_)
 refine .fa rfl<|.lo rfl<|.fa rfl<|.lo rfl<|.mo rfl ?_
 refine .bG k C Q (λd1=>?_)
 refine .fa rfl<|.lo rfl<|.q .eg<|.zn<|.cond rfl (λH=>?_) λH=>?_
 refine .sr<|.az rfl<|.ret (br (aK (cI (br (br (aK (cI (br (aK (aN rfl ?_))))))))))
 ·refine⟨?_,rfl⟩
  rw[aeK λhh=>oc J N S (by simpa using H) (T.1 hh).2.2]
  rfl
 refine .skip<|aX<|aw<|.region<|.mo rfl<|.ia (k+1) .add<|.ag rfl<|.nil ?_
 ·exact bm (k+1) ⟨J,λj y I d=>by
   rcases aeU j k with hh|hh
   ·exact w j y hh d
   ·obtain rfl:j=k:=by omega
    rw[S]at d
    cases d
    intro e
    rw[e]at H
    simp at H⟩ (by omega) kE.c.c.c rH
 have a0:k=i:=by have:=bF B;omega
 rw[a0]at w
 refine .exit<|bo<|bs<|bp<|aX<|aw<|.region<|.mo rfl<|.ia (i+1) .add<|.ag rfl<|.nil ?_
 ·exact bm (i+1) ⟨K,uR N n w⟩ (by omega) kE.c.c rH
 have b2:(f.map (·.name)).Nodup:=by rw[dP (by rw[aez];have:=bF l;omega)]at n;exact n
 refine .exit<|bo<|bs<|bp<|aw<|.sr<|.az rfl<|.ret (aN rfl ?_)
 ·refine⟨?_,rfl⟩
  rw[aeR (T.2 ⟨a9,b0,b2⟩)]
  rfl
def di(n:Nat):List Value:=[iN n]
abbrev lQ:=Int×Int×Bool
def jC(e:lQ):List Value:=[.int .i64 e.1,.int .i64 e.2.1,.bool e.2.2]
instance(e:lQ):cC (jC e):=⟨by simp[jC,aB]⟩
def Ed.m(e:Ed):lQ:=(e.f,e.t,e.a)
theorem Nt{E:List Ed}{now:List Nat}{n j:Nat}{e:Ed}(a:E[j]? =some e):(E.take (j+1)).foldl (fh now) (List.replicate n 0)=fh now ((E.take j).foldl (fh now) (List.replicate n 0)) e:=by rw[ec a,List.foldl_append];rfl
theorem AE(v:Value)(E:List Ed)(n o:Nat)(R:ay)(h:RS R 3 jC v (E.map Ed.m))(L:∀e∈E,e.f<n/\e.t<n)(hn:n<=1000000)(hs:o<=1000000):
  Spec prog 80 [v,iN n,iN o] R [] λu H'=>∃T,H'=[T]/\OS 3 1 di u (level E n o) T:=by
 have a5:=h.le
 have iv:=h.aB
 have Y:∀e∈E,e.f<n:=λe A=>(L e A).1
 rw[aez]at a5
 refine Spec.body func80 rfl results80 ntmps80 rfl<|.sr<|.ag rfl<|.z<|.mo rfl ?_
 refine .makeSlice (enc:=di) n 0 rfl rfl (by decide) (by simp[di,aB]) rfl rfl (by omega) (by omega) (λb7 p Z=>?_)
 refine .ag rfl<|.zs<|.sr<|.az rfl<|.block<|.cF [(0,_),(1,_),(2,_)] (X:=Nat×Value×ax) (λy=>y.1<=o/\OS 3 1 di y.2.1 (level E n y.1) y.2.2) (λy E=>(8,iN y.1)::(7,y.2.1)::E) (λy G=>y.2.2::G) (λy=>o-y.1) (0,_,p) ⟨aev _,Z⟩ kE.c.c.c.c.c rH ?_
 rintro⟨s,v7,p⟩ ⟨b0,B⟩
 simp only at b0 B⊢
 have i7:=B.aB
 have a6:∀i,(level E n s).getD i 0<=s:=uF Y s
 have b3:(level E n s).length=n:=kO s
 generalize O:level E n s=now at *
 refine .seq<|.sr<|.mo rfl<|.mo rfl<|.q .lss<|.zn<|.cond rfl (λF=>?_) λF=>?_
 have b1:s<o:=cy F
 refine .kn<|.seq<|.block<|.sr<|.mo rfl ?_
 refine .makeSlice (enc:=di) n 0 rfl rfl (by decide) (by simp[di,aB]) rfl rfl (by omega) (by omega) (λD r g=>?_)
 refine .ag rfl<|.zs<|.sr<|.az rfl<|.block<|.cF [(0,_),(1,_),(2,_),(7,_),(8,_),(9,_)] (X:=Nat×ax) (λy=>y.1<=E.length/\OS 3 1 di (.slice (some ⟨D,0,none⟩) n n) ((E.take y.1).foldl (fh now) (List.replicate n 0)) y.2) (λy E=>(10,iN y.1)::E) (λy G=>y.2::G) (λy=>E.length-y.1) (0,r) ⟨aev _,g⟩ kE.c.c.c.c.c.c.c rH ?_
 rintro⟨j,r⟩ ⟨hj,g⟩
 simp only at hj g⊢
 refine .seq<|.sr<|.mo rfl<|.mo rfl<|.q (.bO h) ?_
 rw[aez]
 refine .q .lss<|.zn<|.cond rfl (λH=>?_) λH=>?_
 have N:j<E.length:=cy H
 obtain⟨e,A⟩:=bW N
 have a1:(E.map Ed.m)[j]? =some e.m:=by rw[aeA,A];rfl
 obtain⟨a2,a3⟩:=L e (aW A)
 obtain⟨b,l,k⟩:=e
 simp only at a2 a3
 have b4:((E.take j).foldl (fh now) (List.replicate n 0)).length=n:=by rw[uB,ae5]
 generalize a8:(E.take j).foldl (fh now) (List.replicate n 0)=nx at *
 have a7:(E.take (j+1)).foldl (fh now) (List.replicate n 0)=fh now nx ⟨b,l,k⟩:=by rw[Nt A,a8]
 obtain⟨a,M⟩:∃a,now[l]? =some a:=⟨_,aV (by omega)⟩
 obtain⟨z,C⟩:∃z,nx[b]? =some z:=⟨_,aV (by omega)⟩
 have K:now.getD l 0=a:=by rw[aeD,M];rfl
 have S:nx.getD b 0=z:=by rw[aeD,C];rfl
 have a0:=a6 l
 rw[K]at a0
 refine .kn<|.seq<|.block<|.sr<|.mo rfl<|.mo rfl ?_
 refine .bG j h a1 (λb5=>?_)
 refine .q (.aT rfl) ?_
 refine .bU (λV=>?_)
 refine .bP rfl rfl<|.z<|.mo rfl<|.fa rfl<|.lo rfl ?_
 refine .aL l B M (λb6=>?_)
 refine .lo rfl<|.ag rfl<|.zs<|.sr<|.fa rfl<|.lo rfl<|.zn ?_
 refine bx.cZ [(0,_),(1,_),(2,_),(7,_),(8,_),(9,_),(10,_),(11,_)] kE.c.c.c.c.c.c.c.c (X:=Unit) (λ_=>True) (λ_ E=>(12,.int .i64 ((a+(if k then 1 else 0):Nat):Int))::E) (λ_=>[bl V (jC (Ed.m ⟨b,l,k⟩)) 266,r,p]) ?_ ?_
 refine .cond rfl (λI=>?_) λI=>?_
 refine .region<|.mo rfl<|.ia (a+1) .add<|.ag rfl<|.nil ?_
 ·exact aG () aeu (kE.c.c.c.c.c.c.c.c.m7 rfl (by have h:k=_:=I;simp[h])) rH
 refine .skip ?_
 ·exact aG () aeu (kE.c.c.c.c.c.c.c.c.m7 rfl (by have h:k=_:=I;simp[h])) rH
 intro x Q
 refine aw<|.sr<|.mo rfl<|.mo rfl<|.fa rfl<|.lo rfl ?_
 refine .aL b g C (λb8=>?_)
 refine .lo rfl<|.q .gtr<|.zn ?_
 refine bx.cZ [(0,_),(1,_),(2,_),(7,_),(8,_),(9,_),(10,_)] kE.c.c.c.c.c.c.c (X:=ax) (λT=>OS 3 1 di (.slice (some ⟨D,0,none⟩) n n) (fh now nx ⟨b,l,k⟩) T) (λ_ E=>E) (λT=>[T,p]) ?_ ?_
 refine .cond rfl (λJ=>?_) λJ=>?_
 refine .region<|.mo rfl<|.fa rfl<|.lo rfl<|.mo rfl ?_
 refine .aL b g C (λc0=>?_)
 refine .du b g C (a+(if k then 1 else 0)) (λU W=>?_)
 refine .nil ?_
 ·exact aG U (by unfold fh Ed.w;simp only;rw[K,S,aex (by have:=bX J;omega)];exact W) kE.c.c.c.c.c.c.c (aQ [1,1])
 refine .skip ?_
 ·exact aG r (by unfold fh Ed.w;simp only;rw[K,S,aew (by have:=bF J;omega)];exact g) kE.c.c.c.c.c.c.c (aQ [1,1])
 intro x Q
 have b2:OS 3 1 di (.slice (some ⟨D,0,none⟩) n n) (fh now nx ⟨b,l,k⟩) x:=Q
 refine aX<|aw<|.region<|.mo rfl<|.ia (j+1) .add<|.ag rfl<|.nil ?_
 ·exact bm (j+1,x) ⟨N,by simp only;rw[a7];exact b2⟩ (by simp only;omega) kE.c.c.c.c.c.c.c rH
 have a4:E.length<=j:=by have:=bF H;omega
 rw[dP a4]at g
 refine .exit<|bo<|bs<|bp<|aw<|.region<|.mo rfl<|.ag rfl<|.nil<|aX<|aw<|.region<|.mo rfl<|.ia (s+1) .add<|.ag rfl<|.nil ?_
 ·exact bm (s+1,_,r) ⟨b1,by simp only;unfold level;rw[O];exact g⟩ (by simp only;omega) (((((kE.d rfl).d rfl).d rfl).d rfl).d rfl) (aQ [0])
 have a9:s=o:=by have:=bF F;omega
 refine .exit<|bo<|bs<|bp<|aw<|.sr<|.mo rfl<|.az rfl<|.ret (bj _ (.one (.tmp rfl)) (.one [0] _) ?_)
 ·refine⟨p,by simp[take],?_⟩
  rw[<-a9,O]
  exact B
def WE(ok:Bool)(E:List lQ)(o:Option (List Ed)):Prop:=match o with
 |some E'=>ok=true/\E=E'.map Ed.m
 |none=>ok=false
def jm(dQ:ByteArray)(t:Ty):Ty:=⟨t.space,if dQ=⟨#[]⟩then t.rel else dQ⟩
theorem rK(l:List (ByteArray×Rl)):∀ks:List Ty,match findAll l ks with
  |some o=>(ks.all λt=>(bR l t).isSome)=true/\(o.map λk:Nat=>(k:Int))=ks.map λt=>fI (bR l t)
  |none=>(ks.all λt=>(bR l t).isSome)=false
 |[]=>⟨rfl,rfl⟩
 |t::ks=>by
  have a:=rK l ks
  unfold findAll
  cases h:bR l t with
  |none=>simp[h]
  |some i=>
   simp only[aeW,aeM,h,Option.isSome_some,ae6,List.map_cons]
   cases h2:findAll l ks with
   |none=>rw[h2]at a;exact a
   |some o=>rw[h2]at a;exact⟨a.1,by rw[<-a.2];rfl⟩
def TG(l:List (ByteArray×Rl))(sp:ByteArray)(r:Rl)(n:Nd)(tys:List Ty)(dQ:ByteArray):Prop:=
 (n.kind=1/\tys=r.types/\dQ=⟨#[]⟩)\/(n.kind=3/\dQ=n.dQ/\∃k,bR l ⟨sp,n.rel⟩=some k/\tys=(l.map (·.2.types)).getD k [])
def outs(l:List (ByteArray×Rl))(i:Nat)(ab:Bool)(dQ:ByteArray)(ts:List Ty):List lQ:=(dU ts).map λt=>((i:Int),fI (bR l (jm dQ t)),ab)
def nk(l:List (ByteArray×Rl))(dQ:ByteArray)(ts:List Ty):Bool:=(dU ts).all λt=>(bR l (jm dQ t)).isSome
theorem AY{a:List Ty}{j:Nat}{t:Ty}(h:a[j]? =some t):dU (a.take (j+1))=dU (a.take j)++if t.space=⟨#[]⟩then []else [t]:=by
 unfold dU
 rw[ec h,List.filter_append]
 congr 1
 by_cases e:t.space=⟨#[]⟩
 ·simp[e]
 ·simp[e]
theorem WE.all{l:List (ByteArray×Rl)}{i:Nat}{ab:Bool}(ks:List Ty):WE (ks.all λt=>(bR l t).isSome) (ks.map λt=>((i:Int),fI (bR l t),ab)) ((findAll l ks).map λts=>ts.map λt=>(⟨i,t,ab⟩:Ed)):=by
 have h:=rK l ks
 cases h2:findAll l ks with
 |none=>rw[h2]at h;exact h
 |some o=>
  rw[h2]at h
  refine⟨h.1,?_⟩
  have:(ks.map λt=>((i:Int),fI (bR l t),ab))=(ks.map λt=>fI (bR l t)).map λz=>((i:Int),z,ab):=by rw[aeJ];rfl
  rw[this, <-h.2]
  simp[Ed.m,ae4]
theorem Oj{l:List (ByteArray×Rl)}{i:Nat}{g:ByteArray}{r:Rl}{ab:Bool}{n:Nd}{c:List Ty}{a:ByteArray}(h:TG l g r n c a)(m:n.kind=3->n.dQ≠⟨#[]⟩):
  WE (nk l a c&&(decide (a=⟨#[]⟩)||decide (0<(outs l i ab a c).length))) (outs l i ab a c) (fk l i g r ab n):=by
 rcases h with⟨b,rfl,rfl⟩|⟨b,rfl,k,j,rfl⟩
 ·have e:∀t:Ty,jm ⟨#[]⟩ t=t:=λt=>by unfold jm;rw[aex rfl]
  have:=WE.all (l:=l) (i:=i) (ab:=ab) (dU r.types)
  unfold fk targets nk outs
  simp only[e,b,aeI,decide_true,ae7,aeF]
  exact this
 ·have d:=m b
  have e:∀t:Ty,jm n.dQ t=⟨t.space,n.dQ⟩:=λt=>by unfold jm;rw[aew d]
  unfold fk targets nk outs
  simp only[e,b,j,aeK d,ae8,aew (show ¬(3:Int)=1 by decide),aew (show ¬(3:Int)=2 by decide),aeI,aez]
  generalize o:dU ((l.map (·.2.types)).getD k [])=zs
  have f:=WE.all (l:=l) (i:=i) (ab:=ab) (zs.map λt=>(⟨t.space,n.dQ⟩:Ty))
  rw[List.all_map,aeJ]at f
  cases zs with
  |nil=>rfl
  |cons z zs=>
   simp only[ae2,Nat.zero_lt_succ,decide_true,aeF]
   exact f
theorem BH{l:List (ByteArray×Rl)}{i:Nat}{c:ByteArray}{r:Rl}{A B:List (Nat×Bool)}{f g:Bool}{h j:List lQ}
  (d:WE f h (cat (λp:Nat×Bool=>(r.nodes[p.1]?).bind λn=>fk l i c r p.2 n) A))(e:WE g j (cat (λp:Nat×Bool=>(r.nodes[p.1]?).bind λn=>fk l i c r p.2 n) B)):
  WE (f&&g) (h++j) (cat (λp:Nat×Bool=>(r.nodes[p.1]?).bind λn=>fk l i c r p.2 n) (A++B)):=by
 rw[p5]
 revert d e
 generalize cat (λp:Nat×Bool=>(r.nodes[p.1]?).bind λn=>fk l i c r p.2 n) A=a
 generalize cat (λp:Nat×Bool=>(r.nodes[p.1]?).bind λn=>fk l i c r p.2 n) B=b
 intro d e
 cases a with
 |none=>have k:f=false:=d;subst k;exact aeN _
 |some a=>
  cases b with
  |none=>have m:g=false:=e;subst m;exact aeH _
  |some b=>obtain⟨rfl,rfl⟩:=d;obtain⟨rfl,rfl⟩:=e;exact⟨rfl,by simp⟩
theorem Ok{l:List (ByteArray×Rl)}{i:Nat}{a:ByteArray}{r:Rl}{ab:Bool}{n:Nd}(b:n.kind=2):
  WE (decide (0<=fI (bR l ⟨a,n.rel⟩))) [((i:Int),fI (bR l ⟨a,n.rel⟩),ab)] (fk l i a r ab n):=by
 have h:=WE.all (l:=l) (i:=i) (ab:=ab) [(⟨a,n.rel⟩:Ty)]
 unfold fk targets
 rw[aew (by omega),aex b]
 have e:decide (0<=fI (bR l ⟨a,n.rel⟩))=([(⟨a,n.rel⟩:Ty)].all λt=>(bR l t).isSome):=by
  simp only[aeM,aeX,aeF]
  cases bR l ⟨a,n.rel⟩with
  |none=>rfl
  |some k=>simp[fI]
 rw[e]
 exact h
theorem Oi{l:List (ByteArray×Rl)}{i:Nat}{a:ByteArray}{r:Rl}{ab:Bool}{n:Nd}(b:n.kind=3)(h:fI (bR l ⟨a,n.rel⟩)<0):WE false [] (fk l i a r ab n):=by
 cases hr:bR l ⟨a,n.rel⟩with
 |none=>
  unfold fk targets
  rw[aew (by omega),aew (by omega),aex b,hr]
  rfl
 |some k=>rw[hr]at h;simp only[fI]at h;omega
def re(L:List Nm):Prop:=∀x∈L,x.2.r.types.length<=8/\x.2.r.nodes.length<=64/\fN isWord x.2.r.nodes≠0
theorem RD{s:ByteArray}(h:isWord s=true):s≠⟨#[]⟩:=by
 intro e
 subst e
 revert h
 decide+kernel
theorem Oe{L:List Nm}{k:Nat}{y:Nm}(h:L[k]? =some y):((L.map Nm.p).map (·.2.types)).getD k []=y.2.r.types:=by
 rw[aeD,aeA,aeA,h]
 rfl
theorem PX(v:Value)(L:List Nm)(R:ay)(h:rb R v L)(hL:re L)(i:Nat)(l:ByteArray)(vt vn:Value)(r:Rl)(a0:L[i]? =some (l,⟨vt,vn,r⟩)):
  ∀(m b d:Nat),tree isWord r.nodes m=some (b,d)->∀(ab:Bool) (j:Int),j=(m:Int)-1->
  Spec prog 142 [v,iN i,.int .i64 j,.bool ab] R [] λu H'=>∃T,H'=[T]/\∃w E ok,u=.tuple [w,.bool ok].toArray/\OS 266 3 jC w E T/\E.length<=8*(m-b)/\
   WE ok E (cat (λp:Nat×Bool=>(r.nodes[p.1]?).bind λn=>fk (L.map Nm.p) i l r p.2 n) (fu r.nodes m ab)):=by
 intro m
 induction m using Nat.strongRecOn with
 |_ m ih=>
 intro b d Y ab j hj
 have U:=h.rs
 have iv:=U.aB
 have c1:=h.all _ (aW a0)
 have c0:RS R 2 Ty.enc vt r.types:=c1.t
 have b9:RS R 5 Nd.enc vn r.nodes:=c1.d
 have e5:=c0.aB
 have e4:=b9.aB
 obtain⟨b3,c5,c7⟩:=hL _ (aW a0)
 simp only at b3 c5 c7
 have d9:=nE Y
 obtain⟨e,rfl⟩:∃e,m=e+1:=⟨m-1,by omega⟩
 have c8:j=(e:Int):=by omega
 subst c8
 obtain⟨n,W⟩:∃n,r.nodes[e]? =some n:=⟨_,aV (by omega)⟩
 have a8:∀ab,n.op=false->cat (λp:Nat×Bool=>(r.nodes[p.1]?).bind λn=>fk (L.map Nm.p) i l r p.2 n) (fu r.nodes (e+1) ab)=fk (L.map Nm.p) i l r ab n:=λab ho=>by
  rw[td W ho]
  unfold cat
  simp only[W,aeW,cat]
  cases fk (L.map Nm.p) i l r ab n<;>simp
 have a4:n.op=false->n.leaf isWord=true/\b=e:=λho=>by
  rw[ld W ho]at Y
  split at Y
  ·rename_i hl;cases Y;exact⟨hl,rfl⟩
  ·cases Y
 refine Spec.hB (H':=[[]]) (by simp)<|Spec.body func142 rfl results142 ntmps142 rfl<|.sr<|.ag rfl<|.ag rfl<|.z<|.ag rfl<|.z<|.mo rfl<|.mo rfl ?_
 refine .bG i U a0 (λf4=>?_)
 refine .fa rfl<|.fa rfl<|.lo rfl<|.mo rfl ?_
 refine .bG e b9 W (λf5=>?_)
 refine .q (.aT rfl) ?_
 refine .bU (λa1=>?_)
 refine .bP rfl rfl<|.zs<|.seq ?_
 refine bx.cZ [(0,_),(1,_),(3,_),(10,_),(11,_)] kE.c.c.c.c.c (X:=Unit) (λ_=>True) (λ_ E=>(45,.bool n.op)::E) (λ_=>[bl a1 n.enc 199,[]]) ?_ ?_
 refine .region<|.fa rfl<|.lo rfl<|.q .bY<|.mo rfl<|.split (t:=36) rfl (λH=>?_) (λH=>?_)
 refine .gF H<|.gF H<|.gF H<|.q (.aU H)<|.mo rfl<|.gX<|.gX<|.gX<|.q .cQ<|.nil ?_
 ·exact aG () aeu (kE.c.c.c.c.c.ca rfl (by clear ih;grind[Nd.op])) rH
 refine .gT H<|.fa rfl<|.gT H<|.lo rfl<|.gT H<|.q .bY<|.q (.aR H)<|.mo rfl<|.split (t:=41) rfl (λI=>?_) (λI=>?_)
 refine .gF I<|.gF I<|.gF I<|.q (.aU I)<|.nil ?_
 ·exact aG () aeu (kE.c.c.c.c.c.ca rfl (by clear ih;grind[Nd.op])) rH
 refine .gT I<|.fa rfl<|.gT I<|.lo rfl<|.gT I<|.q .bY<|.q (.aR I)<|.nil ?_
 ·exact aG () aeu (kE.c.c.c.c.c.ca rfl (by clear ih;grind[Nd.op])) rH
 intro y hy
 refine aw<|.cond rfl (λA=>?_) λA=>?_
 have b8:n.op=true:=A
 obtain⟨b',x,y,V,h3,K,M,N,h7,h8,h9⟩:=nD W b8 Y
 have d8:=nE V
 have c6:=nE K
 simp only at K c6 h9
 have b1:=te W b8 ⟨by omega,by omega⟩ ab
 rw[show n.a.toNat+1=b' by omega,show n.b.toNat+1=e by omega]at b1
 refine .sr<|.mo rfl<|.mo rfl<|.fa rfl<|.lo rfl<|.mo rfl<|.dh ((ih b' (by omega) b y K ab _ M).weaken da) (λu Ta B=>?_)
 obtain⟨wa,Ea,e8,rfl,b2,e1,b5⟩:=B
 have e7:=b2.aB
 refine .mo rfl<|.q .extract<|.q .extract<|.ag rfl<|.ag rfl<|.zs ?_
 refine bx.cZ [(10,_),(12,_),(13,_)] kE.c.c.c (X:=Value×List lQ×Bool×ax) (λy=>OS 266 3 jC y.1 y.2.1 y.2.2.2/\y.2.1.length<=8*(e-b')/\WE y.2.2.1 y.2.1 (cat (λp:Nat×Bool=>(r.nodes[p.1]?).bind λn=>fk (L.map Nm.p) i l r p.2 n) (fu r.nodes e (ab||n.kind==6)))) (λy E=>(14,y.1)::(15,.bool y.2.2.1)::E) (λy=>[bl a1 n.enc 199,[],Ta,y.2.2.2]) ?_ ?_
 refine .region<|.mo rfl<|.mo rfl<|.fa rfl<|.lo rfl<|.mo rfl<|.mo rfl<|.split (t:=61) rfl (λs=>?_) (λs=>?_)
 refine .gF s<|.gF s<|.gF s<|.q (.aU s)<|.dh ((ih e (by omega) b' x V _ _ N).weaken da) (λu Tb B=>?_)
 obtain⟨wb,Eb,a7,rfl,J,a2,S⟩:=B
 have c3:=J.aB
 refine .mo rfl<|.q .extract<|.q .extract<|.ag rfl<|.ag rfl<|.nil ?_
 ·exact aG (wb,Eb,a7,Tb) ⟨J,a2,by simpa only[A,s,ae7,ae8]using S⟩ kE.c.c.c.c.c (aQ [2,2,1,0])
 refine .gT s<|.fa rfl<|.gT s<|.lo rfl<|.gT s<|.q .bY<|.q (.aR s)<|.dh ((ih e (by omega) b' x V _ _ N).weaken da) (λu Tb B=>?_)
 obtain⟨wb,Eb,a7,rfl,J,a2,S⟩:=B
 have c3:=J.aB
 refine .mo rfl<|.q .extract<|.q .extract<|.ag rfl<|.ag rfl<|.nil ?_
 ·exact aG (wb,Eb,a7,Tb) ⟨J,a2,by simpa only[A,s,ae7,ae8]using S⟩ kE.c.c.c.c.c (aQ [2,2,1,0])
 intro y hy
 obtain⟨wb,Eb,a7,Tb⟩:=y
 obtain⟨J,a2,S⟩:=hy
 simp only at J a2 S⊢
 have c3:=J.aB
 refine aw<|.sr<|.mo rfl<|.mo rfl<|.append (OS.nil (enc:=jC) (sz:=3)) b2.rx (by simp only[List.length_nil];omega) (λv1 T1 C=>?_)
 rw[ae9]at C
 have c2:=C.aB
 refine .ag rfl<|.z<|.mo rfl<|.mo rfl<|.append C J.rx (by omega) (λv2 T2 b0=>?_)
 have e6:=b0.aB
 refine .mo rfl<|.mo rfl<|.split (t:=76) rfl (λO=>?_) (λO=>?_)
 refine .gT O<|.mo rfl<|.q (.aU O)<|.ag rfl<|.az rfl<|.ret (aK (bj _ (.two (.tmp rfl) (.tmp rfl)) (.one [1] _) ?_))
 ·refine⟨T2,by simp[take,bM],v2,_,_,rfl,b0,?_,?_⟩
  ·rw[aeG];omega
  ·rw[b1];have hh:=BH b5 S;simpa only[O,ae6,aeN]using hh
 refine .gF O<|.q (.aR O)<|.ag rfl<|.az rfl<|.ret (aK (bj _ (.two (.tmp rfl) (.tmp rfl)) (.one [1] _) ?_))
 ·refine⟨T2,by simp[take,bM],v2,_,_,rfl,b0,?_,?_⟩
  ·rw[aeG];omega
  ·rw[b1];have hh:=BH b5 S;simpa only[O,ae6,aeN]using hh
 refine .kn<|.seq<|.sr<|.fa rfl<|.lo rfl<|.q .bY<|.zn<|.cond rfl (λV=>?_) λV=>?_
 refine .seq<|.dm 8 mixed (by kernel_rfl) ?_
 conv=>arg 6;dsimp only[List.take]
 refine .mo rfl<|.mo rfl<|.mo rfl ?_
 refine .bG i U a0 (λf6=>?_)
 refine .fa rfl<|.lo rfl<|.fa rfl<|.lo rfl<|.nil<|.ba ((pi v L R h l n.rel).weaken da) (λu B=>?_)
 subst B
 refine .ag rfl<|.z<|.mo rfl<|.mo rfl<|.mo rfl<|.mo rfl<|.q .cR ?_
 refine .dY (λd7=>?_)
 refine .append (OS.nil (enc:=jC) (sz:=3)) (RS.lits (xs:=[((i:Int),fI (bR (L.map Nm.p) ⟨l,n.rel⟩),ab)]) rfl (by simp[jC]) (by simp[jC,aB])) (by simp) (λv1 T1 C=>?_)
 rw[ae9]at C
 have c2:=C.aB
 refine .mo rfl<|.q .geq<|.ag rfl<|.az rfl<|.ret (aK (bj _ (.two (.tmp rfl) (.tmp rfl)) (.one [2] _) ?_))
 ·refine⟨T1,by simp[take,bM],v1,_,_,rfl,C,?_,?_⟩
  ·have:=(a4 A).2;simp only[aeE];omega
  ·rw[a8 ab A];exact Ok (by simpa using V)
 have e0:n.kind=1\/n.kind=3:=by have hl:=(a4 A).1;grind[Nd.leaf]
 refine .kn<|.sr<|.mo rfl<|.mo rfl ?_
 refine .bG i U a0 (λe9=>?_)
 refine .fa rfl<|.fa rfl<|.lo rfl<|.ag rfl<|.ag rfl<|.zs<|.sr<|.fa rfl<|.lo rfl<|.q .bY<|.zn ?_
 refine bx.cZ [(0,_),(1,_),(3,_),(10,_)] kE.c.c.c.c (X:=Value×List Ty×ByteArray) (λy=>RS R 2 Ty.enc y.1 y.2.1/\y.2.1.length<=8/\TG (L.map Nm.p) l r n y.2.1 y.2.2) (λy E=>(17,y.1)::(18,.string y.2.2)::E) (λy=>[bl a1 n.enc 199,[]]) ?_ ?_
 refine .cond rfl (λh3=>?_) λh3=>?_
 refine .seq<|.dm 8 mixed (by kernel_rfl) ?_
 conv=>arg 6;dsimp only[List.take]
 refine .mo rfl<|.mo rfl<|.mo rfl ?_
 refine .bG i U a0 (λf0=>?_)
 refine .fa rfl<|.lo rfl<|.fa rfl<|.lo rfl<|.nil<|.ba ((pi v L R h l n.rel).weaken da) (λu B=>?_)
 subst B
 refine .ag rfl<|.zs<|.sr<|.mo rfl<|.q .lss<|.zn<|.cond rfl (λK=>?_) λK=>?_
 refine .sr<|.ag rfl<|.az rfl<|.ret (aK (nW (aK (bj _ (.two (.tmp rfl) (.tmp rfl)) (.one [1] _) ?_))))
 ·refine⟨[],by simp[take,bM],_,[],_,rfl,OS.nil,by simp,?_⟩
  rw[a8 ab A]
  exact Oi (by simpa using h3) (by simpa using K)
 obtain⟨k,hk⟩:∃k,bR (L.map Nm.p) ⟨l,n.rel⟩=some k:=by
  cases hr:bR (L.map Nm.p) ⟨l,n.rel⟩with
  |none=>rw[hr]at K;simp[fI]at K
  |some k=>exact⟨k,rfl⟩
 have d1:k<L.length:=by have:=AA hk;rwa [aez]at this
 obtain⟨⟨sk,c4,d5,rk⟩,a3⟩:=bW d1
 have b6:=h.all _ (aW a3)
 have b7:RS R 2 Ty.enc c4 rk.types:=b6.t
 have e3:=b7.aB
 have e2:One d5:=RS.aB b6.d
 have c9:=(hL _ (aW a3)).1
 have pk:=U.pc a3
 have d0:fI (bR (L.map Nm.p) ⟨l,n.rel⟩)=(k:Int):=by rw[hk];rfl
 refine .kn<|.gd mixed (by kernel_rfl)<|.mo rfl<|.mo rfl<|.q (.bG k U a3 rfl rfl d0)<|.fa rfl<|.fa rfl<|.lo rfl<|.fa rfl<|.lo rfl<|.ag rfl<|.ag rfl<|.nil ?_
 ·exact aG (c4,rk.types,n.dQ) ⟨b7,c9,.inr ⟨by simpa using h3,rfl,k,hk,(Oe a3).symm⟩⟩ kE.c.c.c.c.c.c rH
 refine .skip ?_
 ·exact aG (vt,r.types,⟨#[]⟩) ⟨c0,b3,.inl ⟨by grind,rfl,rfl⟩⟩ kE.c.c.c.c.c.c rH
 intro x hx
 obtain⟨vy,D,g⟩:=x
 obtain⟨Z,d4,b4⟩:=hx
 simp only at Z d4 b4⊢
 have iy:=Z.aB
 refine aw<|.sr<|.ag rfl<|.zs<|.sr<|.az rfl<|.block<|.cF [(0,_),(1,_),(3,_),(17,_),(18,_)] (X:=Nat×Value×ax) (λy=>y.1<=D.length/\OS 266 3 jC y.2.1 (outs (L.map Nm.p) i ab g (D.take y.1)) y.2.2) (λy E=>(21,iN y.1)::(10,y.2.1)::(20,.bool (nk (L.map Nm.p) g (D.take y.1)))::E) (λy G=>y.2.2::G) (λy=>D.length-y.1) (0,sZ,[]) ⟨aev _,OS.nil⟩ kE.c.c.c.c.c.c.c.c (aQ [1,0]) ?_
 rintro⟨q,vo,To⟩ ⟨hq,Q⟩
 simp only at hq Q⊢
 have io:=Q.aB
 have d2:(outs (L.map Nm.p) i ab g (D.take q)).length<=8:=by
  unfold outs dU
  rw[aez]
  exact aeQ (ae3 _ _) (by rw[aeC];omega)
 refine .seq<|.sr<|.mo rfl<|.mo rfl<|.q (.bO Z)<|.q .lss<|.zn<|.cond rfl (λM=>?_) λM=>?_
 have a9:q<D.length:=cy M
 obtain⟨t,a6⟩:=bW a9
 have a5:=AY a6
 refine .kn<|.seq<|.block<|.seq<|.sr<|.mo rfl<|.mo rfl ?_
 refine .bG q Z a6 (λf1=>?_)
 refine .fa rfl<|.lo rfl<|.q .eg<|.zn<|.cond rfl (λN=>?_) λN=>?_
 refine .exit<|bo<|bp<|aw<|.region<|.mo rfl<|.ia (q+1) .add<|.ag rfl<|.nil ?_
 ·exact bm (q+1,vo,To) ⟨a9,by simp only;unfold outs;rw[a5,aex (by simpa using N),afa];exact Q⟩ (by simp only;omega) (((kE.c.c.c.c.c.ca rfl (by simp only;unfold nk;rw[a5,aex (by simpa using N),afa])).cons rfl).cons rfl) rH
 refine .kn<|.sr<|.mo rfl<|.mo rfl ?_
 refine .bG q Z a6 (λf2=>?_)
 refine .fa rfl<|.lo rfl<|.ag rfl<|.zs<|.sr<|.mo rfl<|.q .gP<|.zn ?_
 refine bx.cZ [(0,_),(1,_),(3,_),(10,_),(17,_),(18,_),(20,_),(21,_)] kE.c.c.c.c.c.c.c.c (X:=Unit) (λ_=>True) (λ_ E=>(22,.string (jm g t).rel)::E) (λ_=>[To,bl a1 n.enc 199]) ?_ ?_
 refine .cond rfl (λh7=>?_) λh7=>?_
 refine .region<|.mo rfl<|.ag rfl<|.nil ?_
 ·exact aG () aeu (kE.c.c.c.c.c.c.c.c.xp rfl (by unfold jm;grind)) rH
 refine .skip ?_
 ·exact aG () aeu (kE.c.c.c.c.c.c.c.c.xp rfl (by unfold jm;grind)) rH
 intro x hx
 refine aw<|.sr<|.mo rfl<|.mo rfl<|.mo rfl ?_
 refine .bG q Z a6 (λf3=>?_)
 refine .fa rfl<|.lo rfl<|.mo rfl<|.ba ((pi v L R h t.space (jm g t).rel).weaken da) (λu B=>?_)
 subst B
 rw[show(⟨t.space,(jm g t).rel⟩:Ty)=jm g t from rfl]
 refine .ag rfl<|.zs ?_
 refine bx.cZ [(0,_),(1,_),(3,_),(10,_),(17,_),(18,_),(21,_),(23,_)] kE.c.c.c.c.c.c.c.c (X:=Unit) (λ_=>True) (λ_ E=>(20,.bool (nk (L.map Nm.p) g (D.take q)&&(bR (L.map Nm.p) (jm g t)).isSome))::E) (λ_=>[To,bl a1 n.enc 199]) ?_ ?_
 refine .region<|.mo rfl<|.mo rfl<|.split (t:=157) rfl (λF=>?_) (λF=>?_)
 refine .gT F<|.mo rfl<|.gT F<|.q .geq<|.q (.aU F)<|.ag rfl<|.nil ?_
 ·exact aG () aeu (kE.c.c.c.c.c.c.c.c.ca rfl (by simp only[F,ae6,aeN]<;>cases bR (L.map Nm.p) (jm g t)<;>simp[fI])) rH
 refine .gF F<|.gF F<|.q (.aR F)<|.ag rfl<|.nil ?_
 ·exact aG () aeu (kE.c.c.c.c.c.c.c.c.ca rfl (by simp only[F,ae6,aeN]<;>cases bR (L.map Nm.p) (jm g t)<;>simp[fI])) rH
 intro y hy
 refine aw<|.region<|.mo rfl<|.mo rfl<|.mo rfl<|.mo rfl<|.q .cR ?_
 refine .dY (λd6=>?_)
 refine .append Q (RS.lits (xs:=[((i:Int),fI (bR (L.map Nm.p) (jm g t)),ab)]) rfl (by simp[jC]) (by simp[jC,aB])) (by simp only[aeE];omega) (λv1 T1 C=>?_)
 have c2:=C.aB
 refine .ag rfl<|.nil<|aX<|aw<|.region<|.mo rfl<|.ia (q+1) .add<|.ag rfl<|.nil ?_
 ·exact bm (q+1,v1,T1) ⟨a9,by simp only;unfold outs;rw[a5,aew (by simpa using N),aeB];exact C⟩ (by simp only;omega) (((kE.c.c.c.c.c.ca rfl (by simp only;unfold nk;rw[a5,aew (by simpa using N),aeY];simp)).cons rfl).cons rfl) (aQ [1,1])
 have d3:D.length<=q:=by have:=bF M;omega
 rw[dP d3]at Q d2⊢
 refine .exit<|bo<|bs<|bp<|aw<|.seq ?_
 refine bx.cZ [] (dB.nil _) (X:=Unit) (λ_=>True) (λ_ E=>(8,vo)::(9,.bool (nk (L.map Nm.p) g D&&(decide (g=⟨#[]⟩)||decide (0<(outs (L.map Nm.p) i ab g D).length))))::E) (λ_=>[To]) ?_ ?_
 refine .region<|.mo rfl<|.mo rfl<|.mo rfl<|.split (t:=170) rfl (λf=>?_) (λf=>?_)
 refine .gT f<|.mo rfl<|.gT f<|.q .eg<|.gT f<|.mo rfl<|.split (t:=173) rfl (λo=>?_) (λo=>?_)
 refine .gF o<|.gF o<|.gF o<|.gT f<|.q (.aU o)<|.q (.aU f)<|.ag rfl<|.ag rfl<|.nil ?_
 ·exact aG () aeu (((dB.nil _).ca rfl (by simp[M,f,o])).cons rfl) (aQ [0])
 refine .gT o<|.mo rfl<|.gT o<|.q (.ep Q)<|.gT o<|.q .gtr<|.gT f<|.q (.aR o)<|.q (.aU f)<|.ag rfl<|.ag rfl<|.nil ?_
 ·exact aG () aeu (((dB.nil _).ca rfl (by simp[M,f,o])).cons rfl) (aQ [0])
 refine .gF f<|.gF f<|.gF f<|.dc rfl<|.dc rfl<|.dc rfl<|.gF f<|.q (.aR f)<|.ag rfl<|.ag rfl<|.nil ?_
 ·exact aG () aeu (((dB.nil _).ca rfl (by simp[M,f])).cons rfl) (aQ [0])
 intro y hy
 refine aw<|.ret (bj _ (.two (.tmp rfl) (.tmp rfl)) (.one [0] _) ?_)
 ·refine⟨To,by simp[take,bM],vo,_,_,rfl,Q,?_,?_⟩
  ·have:=(a4 A).2;omega
  ·rw[a8 ab A]
   refine Oj b4 λhk=>?_
   have hl:=(a4 A).1
   exact RD (by grind[Nd.leaf])
theorem WE.nN{c d:Bool}{e f:List lQ}{a b:Option (List Ed)}(g:WE c e a)(h:WE d f b):WE (c&&d) (e++f) (a.bind λx=>b.map (x++ ·)):=by
 cases a with
 |none=>have i:c=false:=g;subst i;exact aeN _
 |some a=>
  cases b with
  |none=>have j:d=false:=h;subst j;exact aeH _
  |some b=>obtain⟨rfl,rfl⟩:=g;obtain⟨rfl,rfl⟩:=h;exact⟨rfl,by simp⟩
theorem tV{α:Type}{x:α}:∀{l:List α} {i b:Nat},l[i]? =some x->jP b (l.take (i+1))=jP b (l.take i)++[(b+i,x)]
 |[],i,b,h=>by simp at h
 |y::l,0,b,h=>by simp only[aeZ,ae0]at h;subst h;rfl
 |y::l,i+1,b,h=>by
  rw[afl,afl,jP,jP,tV (l:=l) (i:=i) (b:=b+1) (by simpa using h),show b+1+i=b+(i+1) by omega]
  rfl
def lN(l:List (ByteArray×Rl))(t:Ty):Bool:=decide (t.space=⟨#[]⟩)||(bR l t).isSome
theorem Qg{l:List (ByteArray×Rl)}{a:List Ty}:(findAll l (dU a)).isSome=a.all (lN l):=by
 have h:=rK l (dU a)
 have e:((dU a).all λt=>(bR l t).isSome)=a.all (lN l):=by
  unfold dU
  rw[List.all_filter]
  congr 1
  funext t
  unfold lN
  cases decide (t.space=⟨#[]⟩)<;>simp
 rw[<-e]
 cases hf:findAll l (dU a)with
 |none=>rw[hf]at h;exact h.symm
 |some o=>rw[hf]at h;exact h.1.symm
theorem WE.rel{l:List (ByteArray×Rl)}{i:Nat}{a:ByteArray}{r:Rl}{ok:Bool}{E:List lQ}(h:WE ok E (cat (λp:Nat×Bool=>(r.nodes[p.1]?).bind λn=>fk l i a r p.2 n) (fu r.nodes r.nodes.length false))):
  WE (r.types.all (lN l)&&ok) E (lI l i a r):=by
 unfold lI
 rw[<-Qg]
 cases (findAll l (dU r.types)).isSome with
 |true=>simpa using h
 |false=>exact aeN _
def pC(l:List (ByteArray×Rl))(s:Sc):Bool:=(bR l ⟨s.jT,s.rel⟩).isSome
theorem xz{l:List Nd}(h:fN isWord l≠0):∃d,tree isWord l l.length=some (0,d):=by
 unfold fN at h
 cases ht:tree isWord l l.length with
 |none=>rw[ht]at h;exact absurd rfl h
 |some r=>
  obtain⟨b,d⟩:=r
  rw[ht]at h
  simp only at h
  split at h
  ·rename_i a;subst a;exact⟨d,rfl⟩
  ·exact absurd rfl h
theorem qd(o:Option Nat):decide (0<=fI o)=o.isSome:=by cases o<;>simp[fI]
theorem Pa(c:bJ)(R:ay)(h:c.is R)(hf:c.iZ)(hr:re c.gb):Spec prog 78 [.agg c.enc.toArray] R [] λu H'=>∃T,H'=[T]/\∃w E ok,u=.tuple [w,.bool ok].toArray/\OS 266 3 jC w E T/\WE ok E c.plain.gN:=by
 have b3:=vj c R h hf
 have a0:=zQ h
 have c1:=hf.gb
 have a3:c.plain.gN=if c.scopes.all (pC (c.gb.map Nm.p))=true then cat (λp:Nat×(ByteArray×Rl)=>lI (c.gb.map Nm.p) p.1 p.2.1 p.2.2) (jP 0 (c.gb.map Nm.p))else none:=by
  rw[o4];rfl
 rw[a3]
 clear a3
 generalize b9:c.gb=L at *
 obtain⟨vs,U,d1,j⟩:=c
 have O:RS R 4 Sc.enc U j:=h.sc
 have c0:=O.le
 refine Spec.hB (H':=[[]]) (by simp)<|Spec.body func78 rfl results78 ntmps78 rfl<|.sr ?_
 refine .cx rfl (λY=>?_)
 refine .ag rfl<|.ag rfl<|.z<|.q (.aT rfl)<|.dh (b3.weaken da) (λu v Q=>?_)
 refine .ag rfl<|.z<|.ag rfl<|.z<|.ag rfl<|.zs<|.sr<|.az rfl<|.block<|.cF [(1,_),(4,_)] (X:=Nat×Value×List lQ×Bool×ax) (λy=>y.1<=L.length/\OS 266 3 jC y.2.1 y.2.2.1 y.2.2.2.2/\y.2.2.1.length<=512*y.1/\WE y.2.2.2.1 y.2.2.1 (cat (λp:Nat×(ByteArray×Rl)=>lI (L.map Nm.p) p.1 p.2.1 p.2.2) (jP 0 ((L.map Nm.p).take y.1)))) (λy E=>(7,iN y.1)::(5,y.2.1)::(6,.bool y.2.2.2.1)::E) (λy G=>y.2.2.2.2::G) (λy=>L.length-y.1) (0,sZ,[],true,[]) ⟨aev _,OS.nil,by simp,⟨rfl,rfl⟩⟩ kE.c.c.c.c.c bz.fH ?_
 rintro⟨i,v5,E5,ok,H⟩ ⟨hi,hO,a7,J⟩
 simp only at hi hO a7 J⊢
 refine .seq<|.sr<|.mo rfl<|.mo rfl<|.q (.ep Q)<|.q .lss<|.zn<|.cond rfl (λZ=>?_) λZ=>?_
 have a4:i<L.length:=cy Z
 obtain⟨⟨S,W,V,r⟩,F⟩:=bW a4
 have a1:=a0 _ (aW F)
 have M:RS R 2 Ty.enc W r.types:=a1.t
 have b5:RS R 5 Nd.enc V r.nodes:=a1.d
 have c4:cC (List.take 3 (List.drop 1 (m8 (S,(⟨W,V,r⟩:cb))))):=⟨a1.dg⟩
 obtain⟨b0,a8,a2⟩:=hr _ (aW F)
 simp only at b0 a8 a2
 obtain⟨d,a5⟩:=xz a2
 have b7:(L.map Nm.p)[i]? =some (S,r):=by rw[aeA,F];rfl
 have I:rb (λb o=>R b o\/(b,o)∈v) u L:=⟨Q.rs λp hp=>.inr hp,λx hx=>(a0 x hx).mono λb o g=>.inl g⟩
 have c3:1<=r.nodes.length:=by have:=(nE a5).1;omega
 refine .kn<|.seq<|.block<|.sr<|.mo rfl<|.mo rfl ?_
 refine .aL i Q F (λc5=>?_)
 refine .fa rfl<|.q (.loadT rfl) ?_
 refine .bU (λb8=>?_)
 refine .bP rfl rfl<|.zs<|.sr<|.az rfl<|.block<|.cF [(1,_),(4,_),(5,_),(7,_),(8,_)] (X:=Nat) (λk=>k<=r.types.length) (λk E=>(9,iN k)::(6,.bool (ok&&(r.types.take k).all (lN (L.map Nm.p))))::E) (λ_ G=>G) (λk=>r.types.length-k) 0 (aev _) ((kE.c.c.c.c.c.ca rfl (by simp)).cons rfl) rH ?_
 rintro k hk
 refine .seq<|.sr<|.mo rfl<|.fa rfl<|.lo rfl<|.q (.bO M)<|.q .lss<|.zn<|.cond rfl (λm=>?_) λm=>?_
 have C:k<r.types.length:=cy m
 obtain⟨t,n⟩:=bW C
 refine .kn<|.seq<|.block ?_
 refine bx.cZ [(1,_),(4,_),(5,_),(7,_),(8,_),(9,_)] kE.c.c.c.c.c.c (X:=Unit) (λ_=>True) (λ_ E=>(6,.bool (ok&&(r.types.take (k+1)).all (lN (L.map Nm.p))))::E) (λ_=>[bl b8 (cb.enc ⟨W,V,r⟩) 167,H,v,bl Y [vs,U] 25]) ?_ ?_
 refine .dm 23 mixed (by kernel_rfl) ?_
 conv=>arg 6;dsimp only[List.take]
 refine .mo rfl<|.mo rfl<|.split (t:=34) rfl (λf=>?_) (λf=>?_)
 refine .gT f<|.fa rfl<|.gT f<|.lo rfl<|.gT f<|.mo rfl<|.gT f ?_
 refine .bG k M n (λc6=>?_)
 refine .gT f<|.fa rfl<|.gT f<|.lo rfl<|.gT f<|.q .eg<|.gT f<|.mo rfl<|.split (t:=42) rfl (λe=>?_) (λe=>?_)
 refine .gF e<|.gF e<|.gF e<|.gF e<|.gF e<|.gF e<|.gF e<|.gF e<|.gF e<|.gF e<|.gF e<|.gF e<|.gF e<|.nil<|.gF e<|.gF e<|.gT f<|.q (.aU e)<|.q (.aU f)<|.ag rfl<|.nil ?_
 ·exact aG () aeu (kE.c.c.c.c.c.c.ca rfl (by rw[ec n,aeY];simp only[aeM,aeX,aeF,lN,m,f,e,qd];grind)) rH
 refine .gT e<|.mo rfl<|.gT e<|.fa rfl<|.gT e<|.lo rfl<|.gT e<|.mo rfl<|.gT e ?_
 refine .bG k M n (λc7=>?_)
 refine .gT e<|.fa rfl<|.gT e<|.lo rfl<|.gT e<|.fa rfl<|.gT e<|.lo rfl<|.gT e<|.mo rfl<|.gT e ?_
 refine .bG k M n (λc8=>?_)
 refine .gT e<|.fa rfl<|.gT e<|.lo rfl<|.nil<|.gT e<|.ba ((pi u L _ I t.space t.rel).weaken λb o g=>g.elim .inl λg=>.inr (by simp[g])) (λw D=>?_)
 subst D
 rw[show(⟨t.space,t.rel⟩:Ty)=t from rfl]
 refine .gT e<|.q .geq<|.gT f<|.q (.aR e)<|.q (.aU f)<|.ag rfl<|.nil ?_
 ·exact aG () aeu (kE.c.c.c.c.c.c.ca rfl (by rw[ec n,aeY];simp only[aeM,aeX,aeF,lN,m,f,e,qd];grind)) rH
 refine .gF f<|.gF f<|.gF f<|.gF f<|.gF f<|.gF f<|.gF f<|.gF f<|.dc rfl<|.dc rfl<|.dc rfl<|.dc rfl<|.dc rfl<|.dc rfl<|.dc rfl<|.dc rfl<|.dc rfl<|.dc rfl<|.dc rfl<|.dc rfl<|.dc rfl<|.nil<|.dc rfl<|.dc rfl<|.gF f<|.q (.aR f)<|.ag rfl<|.nil ?_
 ·exact aG () aeu (kE.c.c.c.c.c.c.ca rfl (by rw[ec n,aeY];simp only[aeM,aeX,aeF,lN,m,f,qd];grind)) rH
 intro y hy
 refine aX<|aw<|.region<|.mo rfl<|.ia (k+1) .add<|.ag rfl<|.nil ?_
 ·exact bm (k+1) C (by omega) kE.c.c.c.c.c.c.c rH
 rw[dP (l:=r.types) (i:=k) (by have:=bF m;omega)]
 refine .exit<|bo<|bs<|bp<|aw<|.sr<|.mo rfl<|.mo rfl<|.fa rfl<|.lo rfl<|.q (.bO b5)<|.q (.i64 ((r.nodes.length:Int)-1) .sub ⟨rfl,by omega,by omega⟩)<|.dh ((PX u L _ I hr i S W V r F _ _ _ a5 false _ rfl).weaken λb o g=>g.elim .inl λg=>.inr (by simp[g])) (λw Tw D=>?_)
 obtain⟨w,Ew,a6,rfl,a9,c2,b2⟩:=D
 refine .mo rfl<|.q .extract<|.q .extract<|.ag rfl<|.ag rfl<|.zs ?_
 refine bx.cZ [(1,_),(4,_),(5,_),(7,_),(10,_)] kE.c.c.c.c.c (X:=Unit) (λ_=>True) (λ_ E=>(6,.bool (ok&&(r.types.all (lN (L.map Nm.p))&&a6)))::E) (λ_=>[Tw,H,v,bl Y [vs,U] 25]) ?_ ?_
 refine .region<|.mo rfl<|.mo rfl<|.split (t:=71) rfl (λA=>?_) (λA=>?_)
 refine .gT A<|.mo rfl<|.q (.aU A)<|.ag rfl<|.nil ?_
 ·exact aG () aeu (kE.c.c.c.c.c.ca rfl (by grind)) (aQ [0,1,1,1])
 refine .gF A<|.q (.aR A)<|.ag rfl<|.nil ?_
 ·exact aG () aeu (kE.c.c.c.c.c.ca rfl (by grind)) (aQ [0,1,1,1])
 intro y hy
 refine aw<|.region<|.mo rfl<|.mo rfl<|.append hO a9.rx (by omega) (λv1 T1 b6=>?_)
 refine .ag rfl<|.nil<|aX<|aw<|.region<|.mo rfl<|.ia (i+1) .add<|.ag rfl<|.nil ?_
 ·exact bm (i+1,v1,E5++Ew,ok&&(r.types.all (lN (L.map Nm.p))&&a6),T1) ⟨a4,b6,by simp only[aeG];omega,by
   simp only
   rw[tV b7,p5]
   refine J.nN ?_
   have K:=WE.rel b2
   simp only[Nat.zero_add,cat]
   revert K
   generalize lI (L.map Nm.p) i S r=o
   intro K
   cases o with
   |none=>exact K
   |some o=>simpa using K⟩ (by simp only;omega) kE.c.c.c.c.c (aQ [1,1,1])
 have b4:L.length<=i:=by have:=bF Z;omega
 rw[dP (by rw[aez];exact b4)]at J
 have I:rb (λb o=>R b o\/(b,o)∈v) u L:=⟨Q.rs λp hp=>.inr hp,λx hx=>(a0 x hx).mono λb o g=>.inl g⟩
 refine .exit<|bo<|bs<|bp<|aw<|.seq<|.sr<|.az rfl<|.block<|.cF [(1,_),(4,_),(5,_)] (X:=Nat) (λk=>k<=j.length) (λk E=>(12,iN k)::(6,.bool (ok&&(j.take k).all (pC (L.map Nm.p))))::E) (λ_ G=>G) (λk=>j.length-k) 0 (aev _) ((kE.c.c.c.ca rfl (by simp)).cons rfl) rH ?_
 rintro k hk
 refine .seq<|.sr<|.mo rfl<|.fa rfl<|.lo rfl<|.q (.bO O)<|.q .lss<|.zn<|.cond rfl (λB=>?_) λB=>?_
 have C:k<j.length:=cy B
 obtain⟨s,N⟩:=bW C
 refine .kn<|.seq<|.block ?_
 refine bx.cZ [(1,_),(4,_),(5,_),(12,_)] kE.c.c.c.c (X:=Unit) (λ_=>True) (λ_ E=>(6,.bool (ok&&(j.take (k+1)).all (pC (L.map Nm.p))))::E) (λ_=>[H,v,bl Y [vs,U] 25]) ?_ ?_
 refine .dm 16 mixed (by kernel_rfl) ?_
 conv=>arg 6;dsimp only[List.take]
 refine .mo rfl<|.mo rfl<|.split (t:=85) rfl (λa=>?_) (λa=>?_)
 refine .gT a<|.mo rfl<|.gT a<|.fa rfl<|.gT a<|.lo rfl<|.gT a<|.mo rfl<|.gT a ?_
 refine .bG k O N (λc9=>?_)
 refine .gT a<|.fa rfl<|.gT a<|.fa rfl<|.gT a<|.lo rfl<|.gT a<|.fa rfl<|.gT a<|.lo rfl<|.gT a<|.mo rfl<|.gT a ?_
 refine .bG k O N (λd0=>?_)
 refine .gT a<|.fa rfl<|.gT a<|.lo rfl<|.nil<|.gT a<|.ba ((pi u L _ I s.jT s.rel).weaken λb o g=>g.elim .inl λg=>.inr (by simp[g])) (λw D=>?_)
 subst D
 refine .gT a<|.q .geq<|.q (.aU a)<|.ag rfl<|.nil ?_
 ·exact aG () aeu (kE.c.c.c.c.ca rfl (by rw[ec N,aeY];simp only[aeM,aeX,aeF,pC,B,a,qd];grind)) rH
 refine .gF a<|.gF a<|.gF a<|.gF a<|.gF a<|.gF a<|.gF a<|.gF a<|.gF a<|.gF a<|.gF a<|.gF a<|.gF a<|.gF a<|.nil<|.gF a<|.gF a<|.q (.aR a)<|.ag rfl<|.nil ?_
 ·exact aG () aeu (kE.c.c.c.c.ca rfl (by rw[ec N,aeY];simp only[aeM,aeX,aeF,pC,B,a,qd];grind)) rH
 intro y hy
 refine aX<|aw<|.region<|.mo rfl<|.ia (k+1) .add<|.ag rfl<|.nil ?_
 ·exact bm (k+1) C (by omega) kE.c.c.c.c.c rH
 rw[dP (l:=j) (i:=k) (by have:=bF B;omega)]
 refine .exit<|bo<|bs<|bp<|aw<|.sr<|.mo rfl<|.mo rfl<|.ag rfl<|.az rfl<|.ret (bj _ (.two (.tmp rfl) (.tmp rfl)) (.one [0] _) ?_)
 ·refine⟨H,by simp[take,bM],v5,E5,_,rfl,hO,?_⟩
  cases j.all (pC (L.map Nm.p))with
  |true=>simpa using J
  |false=>exact aeH _
theorem RS.jr{α:Type}{R:ay}{sz:Nat}{enc:α->List Value}:RS R sz enc (sZ) ([]:List α):=(OS.nil (E:=0) (sz:=sz) (enc:=enc)).rs λp a=>(by cases a)
abbrev fW:=Value×List Nat
def eo(q:fW):List Value:=[q.1]
structure NN(R:ay)(w:Value)(ll:List fW):Prop where
 rs:RS R 1 eo w ll
 all:∀q∈ll,RS R 1 di q.1 q.2
theorem NN.mono{R R':ay}{w:Value}{c:List fW}(h:NN R w c)(a:∀b o,R b o->R' b o):NN R' w c:=⟨h.rs.mono a,λq d=>(h.all q d).mono a⟩
theorem NN.nil{R:ay}:NN R (sZ) []:=⟨RS.jr,λq a=>(by cases a)⟩
theorem o7:∀{l:List Sp} {i:Nat} {s:Sp},l[i]? =some s->cJ l (i+1)=cJ l i+s.bN.length
 |[],i,s,h=>by simp at h
 |x::l,0,s,h=>by
  simp only[aeZ,ae0]at h
  subst h
  cases l<;>simp[cJ]
 |x::l,i+1,s,h=>by
  have:=o7 (l:=l) (i:=i) (by simpa using h)
  rw[cJ,cJ,this]
  omega
theorem uh{c:bJ}(h:c.plain.right isWord dj=true):c.iZ/\re c.gb:=by
 have e:=nu h
 have d:c.plain.jq isWord=false:=by
  unfold Cf.right at h
  simp only[afg,Bool.not_eq_true']at h
  exact h.2
 rw[qw]at d
 simp only[afp,afq,List.any_eq_false,aeO]at d
 refine⟨⟨by omega,λs f=>?_⟩,λx g=>?_⟩
 ·have:=d.2 s f
  unfold il at this
  simp only[afb,ae1,not_or,aeO]at this
  exact this.1
 ·have i:x.p∈c.plain.all:=by rw[<-o4];exact afe.2 ⟨x,g,rfl⟩
  obtain⟨b,a⟩:=e _ i
  unfold mM at b
  unfold iJ at a
  simp only[afg,bne_iff_ne,ne_eq]at b
  simp only[afp,afq,aeO]at a
  exact⟨a.1.1,a.1.2,b.1.2⟩
theorem Pz(c:bJ)(R:ay)(h:c.is R):Spec prog 32 [.agg c.enc.toArray] R [] λu H'=>∃T,H'=[T]/\∃w ll,u=.tuple [w,.int .i64 (c.plain.numbers isWord dj).1].toArray/\NN (sg T) w ll/\ll.map (·.2)=(c.plain.numbers isWord dj).2:=by
 have a0:=PH c R h
 have a1:=PL c R h
 have a2:=Pa c R h
 have a3:=vj c R h
 have c8:=o4 c
 have a6:=uh (c:=c)
 have W:∀(i:Nat) s,c.bg[i]? =some s->c.plain.bg[i]? =some s.plain:=λi s B=>by unfold bJ.plain;simp only;rw[aeA,B];rfl
 have c1:c.plain.bg.length=c.bg.length:=by unfold bJ.plain;simp
 have d:c.plain.numbers isWord dj=if c.plain.right isWord dj=false then((4:Int),([]:List (List Nat)))else if ¬c.plain.dR then(10,[])else match c.plain.gN with|none=>(14,[])|some E=>if kj E c.plain.all.length=true then(0,rows c.plain.bg (level E c.plain.all.length (c.plain.all.length+1)))else(15,[]):=rfl
 have b4:c.plain.all.length=c.gb.length:=by rw[<-c8,aez]
 have d4:=λhh=>bJ.iZ.gb (c:=c) hh
 have c2:=pQ c.plain
 generalize f2:c.plain.numbers isWord dj=nn at *
 generalize f3:c.plain=pl at *
 generalize e4:c.gb=L at *
 rw[b4]at d c2
 obtain⟨vs,vc,a9,g2⟩:=c
 have I:=h.ss
 have i1:=I.aB
 have i2:One vc:=RS.aB h.sc
 simp only at I i1 i2 W c1⊢
 have e9:=I.le
 refine Spec.hB (H':=[[]]) (by simp)<|Spec.body func32 rfl results32 ntmps32 rfl<|.sr ?_
 refine .cx rfl (λb1=>?_)
 refine .ag rfl<|.ag rfl<|.zs<|.sr<|.q (.aT rfl)<|.ba (a0.weaken da) (λu J=>?_)
 subst J
 refine .q .not<|.zn<|.cond rfl (λK=>?_) λK=>?_
 refine .sr<|.ag rfl<|.az rfl<|.ret (aK (bj _ (.two (.tmp rfl) (.tmp rfl)) (.one [1] _) ?_))
 ·refine⟨[],by simp[take,bM],sZ,[],?_,.nil,?_⟩
  ·rw[d,aex (by simpa using K)]
  ·rw[d,aex (by simpa using K)];rfl
 have b8:pl.right isWord dj=true:=by simpa using K
 obtain⟨v,c7⟩:=a6 b8
 have f1:=d4 v
 rw[aew (by rw[b8];simp)]at d
 refine .kn<|.seq<|.sr<|.q (.aT rfl)<|.ba ((a1 v).weaken da) (λu J=>?_)
 subst J
 refine .zn<|.cond rfl (λM=>?_) λM=>?_
 refine .sr<|.ag rfl<|.az rfl<|.ret (aK (bj _ (.two (.tmp rfl) (.tmp rfl)) (.one [1] _) ?_))
 ·refine⟨[],by simp[take,bM],sZ,[],?_,.nil,?_⟩
  ·rw[d,aex (by simpa using M)]
  ·rw[d,aex (by simpa using M)];rfl
 have d9:pl.dR:=by simpa using M
 rw[aew (λhh=>hh d9)]at d
 refine .kn<|.sr<|.q (.aT rfl)<|.dh ((a2 v c7).weaken da) (λu T4 J=>?_)
 obtain⟨w4,E4,ok,rfl,b2,r⟩:=J
 refine .mo rfl<|.q .extract<|.q .extract<|.ag rfl<|.ag rfl<|.zs<|.sr<|.mo rfl<|.q .not<|.zn<|.cond rfl (λh3=>?_) λh3=>?_
 have H:ok=false:=by simpa using h3
 have Q:pl.gN=none:=by
  cases he:pl.gN with
  |none=>rfl
  |some E=>rw[he]at r;rw[r.1]at H;cases H
 rw[Q]at d
 simp only at d
 refine .sr<|.ag rfl<|.az rfl<|.ret (aK (bj _ (.two (.tmp rfl) (.tmp rfl)) (.one [2] _) ?_))
 ·refine⟨[],by simp[take,bM],sZ,[],?_,.nil,?_⟩
  ·rw[d]
  ·rw[d];rfl
 have H:ok=true:=by simpa using h3
 obtain⟨E,Q,c6⟩:∃E,pl.gN=some E/\E4=E.map Ed.m:=by
  cases he:pl.gN with
  |none=>rw[he]at r;rw[show ok=false from r]at H;cases H
  |some E=>rw[he]at r;exact⟨E,rfl,r.2⟩
 subst c6
 rw[Q]at d
 simp only at d
 have b0:∀e∈E,e.f<L.length/\e.t<L.length:=by
  have:=p9 Q
  rw[b4]at this
  exact this
 have f6:(L.length+1)*(L.length+1)<=1000000:=aeQ (Nat.mul_le_mul (by omega:L.length+1<=257) (by omega:L.length+1<=257)) (by decide)
 refine .kn<|.sr<|.q (.aT rfl)<|.dh ((a3 v).weaken da) (λu T6 d7=>?_)
 refine .q (.ep d7)<|.ag rfl<|.z<|.mo rfl<|.mo rfl<|.mo rfl<|.ia (L.length+1) .add<|.dh (AE w4 E L.length (L.length+1) _ b2.rx b0 (by omega) (by omega)) (λu T7 a8=>?_)
 refine .ag rfl<|.z<|.mo rfl<|.mo rfl<|.mo rfl<|.ia (L.length+1) .add<|.mo rfl<|.ia (L.length+1) .add<|.q (.i64 (((L.length+1)*(L.length+1):Nat):Int) .mul ⟨by rw[Int.natCast_mul],by omega,by omega⟩)<|.dh (AE w4 E L.length ((L.length+1)*(L.length+1)) _ b2.rx b0 (by omega) (by omega)) (λu8 T8 d8=>?_)
 have e7:(level E L.length (L.length+1)).length=L.length:=kO _
 have e8:(level E L.length ((L.length+1)*(L.length+1))).length=L.length:=kO _
 refine .ag rfl<|.zs<|.sr<|.az rfl<|.block<|.cF [(1,_),(6,_),(7,_),(8,_)] (X:=Nat) (λi=>i<=L.length/\∀j,j<i->(level E L.length (L.length+1))[j]? =(level E L.length ((L.length+1)*(L.length+1)))[j]? /\(level E L.length (L.length+1)).getD j 0<L.length) (λi E=>(9,iN i)::E) (λ_ G=>G) (λi=>L.length-i) 0 ⟨aev _,λj S=>absurd S (by omega)⟩ kE.c.c.c.c.c rH ?_
 rintro i ⟨hi,hq⟩
 refine .seq<|.sr<|.mo rfl<|.mo rfl<|.q .lss<|.zn<|.cond rfl (λh4=>?_) λh4=>?_
 have V:i<L.length:=cy h4
 obtain⟨a,p⟩:∃a,(level E L.length (L.length+1))[i]? =some a:=⟨_,aV (by omega)⟩
 obtain⟨b,l⟩:∃b,(level E L.length ((L.length+1)*(L.length+1)))[i]? =some b:=⟨_,aV (by omega)⟩
 refine .kn<|.seq<|.block<|.seq ?_
 refine bx.cZ [(1,_),(6,_),(7,_),(8,_),(9,_)] kE.c.c.c.c.c (X:=Unit) (λ_=>True) (λ_ E=>(64,.bool (decide (a≠b\/L.length<=a)))::E) (λ_=>[T8,T7,T6,T4,bl b1 [vs,vc] 25,[]]) ?_ ?_
 refine .gd mixed (by kernel_rfl)<|.mo rfl<|.mo rfl ?_
 refine .aL i a8 p (λf7=>?_)
 refine .lo rfl<|.mo rfl<|.mo rfl ?_
 refine .aL i d8 l (λf8=>?_)
 refine .lo rfl<|.q .dZ<|.mo rfl<|.split (t:=57) rfl (λg=>?_) (λg=>?_)
 refine .gF g<|.gF g<|.gF g<|.gF g<|.gF g<|.gF g<|.q (.aU g)<|.nil ?_
 ·exact aG () aeu (kE.c.c.c.c.c.ca rfl (by clear a0 a1 a2 a3 a6 W hq;grind)) rH
 refine .gT g<|.mo rfl<|.gT g<|.mo rfl<|.gT g ?_
 refine .aL i a8 p (λf9=>?_)
 refine .gT g<|.lo rfl<|.gT g<|.mo rfl<|.gT g<|.q .geq<|.q (.aR g)<|.nil ?_
 ·exact aG () aeu (kE.c.c.c.c.c.ca rfl (by clear a0 a1 a2 a3 a6 W hq;grind)) rH
 intro y hy
 refine aw<|.cond rfl (λC=>?_) λC=>?_
 refine .sr<|.ag rfl<|.az rfl<|.ret (br (aK (cI (br (aK (bj _ (.two (.tmp rfl) (.tmp rfl)) (.one [5] _) ?_))))))
 ·have b5:¬kj E L.length=true:=by
   intro O
   unfold kj at O
   rw[afg,List.all_eq_true]at O
   have F:=bX O.1
   have h8:=O.2 a (aW p)
   rw[F,l]at p
   cases p
   have h5':=bX C
   have h9:=bX h8
   rcases h5' with h5'|h5'
   ·exact h5' rfl
   ·omega
  refine⟨[],by simp[take,bM],sZ,[],?_,.nil,?_⟩
  ·rw[d,aew b5]
  ·rw[d,aew b5];rfl
 refine .skip<|aX<|aw<|.region<|.mo rfl<|.ia (i+1) .add<|.ag rfl<|.nil ?_
 ·exact bm (i+1) ⟨V,λj S=>by
   rcases aeU j i with hh|hh
   ·exact hq j hh
   ·obtain rfl:j=i:=by omega
    have h5':=bF C
    simp only[ne_eq,not_or,Decidable.not_not,Nat.not_le]at h5'
    exact⟨by rw[p,l,h5'.1],by rw[aeD,p];exact h5'.2⟩⟩ (by omega) kE.c.c.c.c.c rH
 have e5:i=L.length:=by have:=bF h4;omega
 have d0:kj E L.length=true:=by
  unfold kj
  rw[afg]
  refine⟨aeR (List.ext_getElem? λj=>?_),?_⟩
  ·rcases aeU j i with hh|hh
   ·exact(hq j hh).1
   ·rw[List.getElem?_eq_none (by omega),List.getElem?_eq_none (by omega)]
  ·rw[List.all_eq_true]
   intro x hx
   obtain⟨j,S,e⟩:=aeV.1 hx
   have:=(hq j (by omega)).2
   rw[aeD,aV S,e]at this
   exact aeR this
 rw[aex d0]at d
 generalize f0:level E L.length (L.length+1)=A at *
 refine .exit<|bo<|bs<|bp<|aw<|.sr<|.ag rfl<|.z<|.ag rfl<|.zs<|.sr<|.az rfl<|.block<|.cF [(1,_),(7,_)] (X:=Nat×Value×List fW×ax×ax) (λy=>y.1<=a9.length/\OS 182 1 eo y.2.1 y.2.2.1 y.2.2.2.1/\(∀q∈y.2.2.1,RS (sg y.2.2.2.2) 1 di q.1 q.2)/\y.2.2.1.map (·.2)=(rows pl.bg A).take y.1) (λy E=>(12,iN y.1)::(11,.int .i64 (cJ pl.bg y.1:Nat))::(10,y.2.1)::E) (λy G=>y.2.2.2.1::y.2.2.2.2::G) (λy=>a9.length-y.1) (0,sZ,[],[],[]) ⟨aev _,OS.nil,λq hq=>(by cases hq),by simp⟩ ((kE.c.c.c.m7 rfl (by cases pl.bg<;>rfl)).cons rfl) bz.iK ?_
 rintro⟨i,e1,ll,c4,Tp⟩ ⟨d1,a4,a5,U⟩
 simp only at d1 a4 a5 U⊢
 have e6:ll.length<=16:=by
  have C:=aey List.length U
  rw[aez,aeC,mO]at C
  have D:=v.1
  simp only at D
  omega
 refine .seq<|.sr<|.mo rfl<|.fa rfl<|.lo rfl<|.q (.bO I)<|.q .lss<|.zn<|.cond rfl (λD=>?_) λD=>?_
 have V:i<a9.length:=cy D
 obtain⟨s,B⟩:=bW V
 have d6:=h.all _ (aW B)
 have c0:=d6.rs
 have f4:=c0.le
 have f5:s.bN.length<=16:=v.2 s (aW B)
 have a7:=W i s B
 have b9:=po (n:=A) a7
 have b6:=o7 a7
 have b7:=sq a7
 have d5:s.plain.bN.length=s.bN.length:=by simp[cq.plain]
 rw[d5]at b9 b6 b7
 rw[c2]at b7
 refine .kn<|.seq<|.block<|.sr<|.ag rfl<|.zs<|.sr<|.az rfl<|.block<|.cF [(1,_),(7,_),(10,_),(12,_)] (X:=Nat×Value×ax) (λy=>y.1<=s.bN.length/\OS 3 1 di y.2.1 ((A.drop (cJ pl.bg i)).take y.1) y.2.2) (λy E=>(14,iN y.1)::(11,.int .i64 (cJ pl.bg i+y.1:Nat))::(13,y.2.1)::E) (λy G=>y.2.2::G) (λy=>s.bN.length-y.1) (0,sZ,[]) ⟨aev _,OS.nil⟩ kE.c.c.c.c.c.c.c bz.fH ?_
 rintro⟨k,c3,c5⟩ ⟨hk,N⟩
 simp only at hk N⊢
 have e0:=N.aB
 refine .seq<|.sr<|.mo rfl<|.fa rfl<|.lo rfl<|.mo rfl ?_
 refine .bG i I B (λg0=>?_)
 refine .fa rfl<|.lo rfl<|.q (.bO c0)<|.q .lss<|.zn<|.cond rfl (λF=>?_) λF=>?_
 have d3:k<s.bN.length:=cy F
 obtain⟨a,p⟩:∃a,A[cJ pl.bg i+k]? =some a:=⟨_,aV (by omega)⟩
 have c9:(A.drop (cJ pl.bg i)).take (k+1)=(A.drop (cJ pl.bg i)).take k++[a]:=ec (by rw[List.getElem?_drop,p])
 refine .kn<|.seq<|.block<|.sr<|.mo rfl<|.mo rfl<|.mo rfl ?_
 refine .aL (cJ pl.bg i+k) a8 p (λg1=>?_)
 refine .lo rfl ?_
 refine .ki (λe2=>?_)
 refine .append N (RS.lits (xs:=[a]) rfl (by simp[di]) (by simp[di,aB])) (by simp only[aeC,aeE];omega) (λv1 Z Y=>?_)
 rw[<-c9]at Y
 refine .az rfl<|.region<|.mo rfl<|.ia (cJ pl.bg i+(k+1)) .add<|.ag rfl<|.nil<|aX<|aw<|.region<|.mo rfl<|.ia (k+1) .add<|.ag rfl<|.nil ?_
 ·exact bm (k+1,v1,Z) ⟨d3,Y⟩ (by simp only;omega) kE.c.c.c.c.c.c.c (aQ [1,1,1,1,1,1,1,1,1])
 have b3:k=s.bN.length:=by have:=bF F;omega
 refine .exit<|bo<|bs<|bp<|aw<|.region<|.mo rfl<|.mo rfl ?_
 refine .ki (λe3=>?_)
 refine .append a4 (RS.lits (xs:=[((c3,(A.drop (cJ pl.bg i)).take k):fW)]) rfl (by simp[eo]) (by simp[eo,e0.h])) (by simp only[aeE];omega) (λv1 Z Y=>?_)
 refine .ag rfl<|.nil<|aX<|aw<|.region<|.mo rfl<|.ia (i+1) .add<|.ag rfl<|.nil ?_
 ·exact bm (i+1,v1,ll++[(c3,(A.drop (cJ pl.bg i)).take k)],Z,c5++Tp) ⟨V,Y,λq hq=>by
   rcases List.mem_append.1 hq with hq|hq
   ·exact(a5 q hq).mono λb o l=>gS l
   ·rw[aeS]at hq
    subst hq
    exact N.sg.mono λb o l=>iM l,by simp only;rw[aeB,U,ec b9,b3];rfl⟩ (by simp only;omega) ((kE.c.c.c.m7 rfl (by simp only;rw[b6,b3])).cons rfl) ((aQ [2,1,1,1,1,1,1,1]).trans (bz.eS (by simp[take,bM])))
 refine .exit<|bo<|bs<|bp<|aw<|.sr<|.mo rfl<|.ag rfl<|.az rfl<|.ret (bj _ (.two (.tmp rfl) (.tmp rfl)) (.one [0,0] _) ?_)
 ·have d2:pl.bg.length<=i:=by rw[c1];have:=bF D;omega
  refine⟨c4++Tp,by simp[take,bM],e1,ll,?_,⟨a4.sg.mono λb o l=>iM l,λq hq=>(a5 q hq).mono λb o l=>gS l⟩,?_⟩
  ·rw[d]
  ·rw[d,U]
   exact dP (by rw[mO];exact d2)
abbrev qF(pb:Nat)(v:Value)(b:Bool):ax:=(bl pb [v,.bool b] 215)
def gh(t:eO):Prop:=t.kind≠0/\t.text.size<=9223372036854775807/\(t.kind=2\/(t.text≠ov/\t.text≠pP/\t.text≠qX/\t.text≠ou/\t.text≠pO/\t.text≠qY/\t.text≠s5))
instance(t:eO):Decidable (gh t):=by unfold gh;infer_instance
structure dN(R:ay)(pb:Nat)(st:cg)(T:ax):Prop where
 h:∃v,T=qF pb v st.2/\RS R 3 eO.enc v st.1
 ok:∀t∈st.1,gh t
theorem dN.nil{R:ay}{a:Nat}:dN R a jU (qF a (sZ) true):=⟨⟨_,rfl,RS.jr⟩,λt b=>(by cases b)⟩
def lM:List eO->eO
 |[]=>⟨0,⟨#[]⟩,0⟩
 |t::_=>t
theorem zP(d:Nat)(v:Value)(b:Bool)(l:List eO)(R:ay)(h:RS R 3 eO.enc v l) [pc:PC R (pT d) [v,.bool b]]:Spec prog 201 [pT d] R [] λu H'=>u=.agg (lM l).enc.toArray/\H'=[]:=by
 refine Spec.body func201 rfl results201 ntmps201 rfl<|.sr ?_
 refine .bU (λg=>?_)
 refine .zs<|.sr<|.mo rfl<|.nc rfl<|.fa rfl<|.lo rfl<|.q (.bO h)<|.q .bY<|.zn<|.cond rfl (λa=>?_) λa=>?_
 have c:(l.length:Int)=0:=by simpa using a
 have f:l=[]:=afu (by omega)
 subst f
 refine .sr<|.q .cR<|.bP rfl rfl<|.zn ?_
 refine .ret (aK (bj _ (.one (.fE rfl rfl)) (.none _) ?_))
 ·exact⟨rfl,rfl⟩
 have c:¬(l.length:Int)=0:=by simpa using a
 obtain⟨t,r,rfl⟩:∃t r,l=t::r:=by
  cases l with
  |nil=>simp at c
  |cons t r=>exact⟨t,r,rfl⟩
 have e:(t::r)[0]? =some t:=rfl
 refine .kn<|.sr<|.mo rfl<|.nc rfl<|.fa rfl<|.lo rfl ?_
 refine .bG 0 h e (λi=>?_)
 refine .q (.aT rfl)<|.bP rfl rfl<|.zn ?_
 refine .ret (bj _ (.one (.fE rfl rfl)) (.none _) ?_)
 ·exact⟨rfl,rfl⟩
theorem rI(a:Nat)(v:Value) [c:One v](b:Bool)(R:ay):Spec prog 159 [pT a] R [qF a v b] λ_ H'=>∃T',H'=[T']/\T'=qF a (sZ) true:=by
 refine Spec.body func159 rfl results159 ntmps159 rfl<|.sr<|.mo rfl<|.nc rfl<|.fa rfl<|.dz rfl rfl<|.zn<|.region<|.mo rfl<|.nc rfl<|.fa rfl<|.dz rfl rfl<|.nil<|fS _ .none rH ?_
 ·exact⟨_,rfl,rfl⟩
theorem nB(j:Nat)(g:cg)(T:ax)(R:ay)(w:dN R j g T)(s:ByteArray):Spec prog 156 [pT j,.string s] R [T] λu H'=>∃T',H'=[T']/\u=.bool (dw s g).isSome/\dN R j ((dw s g).getD g) T':=by
 obtain⟨⟨v,rfl,h⟩,f⟩:=w
 obtain⟨l,b⟩:=g
 simp only at h f⊢
 have D:=h.aB
 have C:=h.le
 have k:dw s ([],b)=none:=rfl
 have i:∀t r,dw s (t::r,b)=if t.kind=2\/t.text≠s then none else some (r,b):=λ_ _=>rfl
 refine Spec.body func156 rfl results156 ntmps156 rfl<|.sr<|.ag rfl<|.z<|.mo rfl<|.ba (zP j v b l _ h.rx) (λu y=>?_)
 subst y
 refine .bU (λB=>?_)
 refine .bP rfl rfl<|.zs<|.sr<|.fa rfl<|.lo rfl<|.q .bY<|.mo rfl<|.split (t:=11) rfl (λc=>?_) (λc=>?_)
 refine .gF c<|.gF c<|.gF c<|.q (.aU c)<|.mo rfl<|.gX<|.gX<|.gX<|.gX<|.q .cQ<|.zn<|.gM ?_
 have d:dw s (l,b)=none:=by
  cases l with
  |nil=>exact k
  |cons t r=>
   rw[i]
   obtain⟨o,_,_⟩:=f t aeL
   simp only[lM]at *
   rw[aex]
   by_cases e:t.kind=2
   ·exact .inl e
   ·exact .inr (by grind)
 refine .sr<|.az rfl<|.ret (aK (bj _ (.one (.tmp rfl)) (aQ [1]) ?_))
 ·exact⟨_,rfl,by rw[d];rfl,by rw[d];exact⟨⟨v,rfl,h⟩,f⟩⟩
 refine .gT c<|.fa rfl<|.gT c<|.lo rfl<|.gT c<|.q .bY<|.q (.aR c)<|.mo rfl<|.split (t:=16) rfl (λa=>?_) (λa=>?_)
 refine .gF a<|.gF a<|.gF a<|.gF a<|.q (.aU a)<|.zn<|.gM ?_
 have d:dw s (l,b)=none:=by
  cases l with
  |nil=>exact k
  |cons t r=>
   rw[i]
   obtain⟨o,_,_⟩:=f t aeL
   simp only[lM]at *
   rw[aex]
   by_cases e:t.kind=2
   ·exact .inl e
   ·exact .inr (by grind)
 refine .sr<|.az rfl<|.ret (aK (bj _ (.one (.tmp rfl)) (aQ [1]) ?_))
 ·exact⟨_,rfl,by rw[d];rfl,by rw[d];exact⟨⟨v,rfl,h⟩,f⟩⟩
 refine .gT a<|.fa rfl<|.gT a<|.lo rfl<|.gT a<|.mo rfl<|.gT a<|.q .gP<|.q (.aR a)<|.zn<|.cond rfl (λp=>?_) λp=>?_
 have d:dw s (l,b)=none:=by
  cases l with
  |nil=>exact k
  |cons t r=>
   rw[i]
   obtain⟨o,_,_⟩:=f t aeL
   simp only[lM]at *
   rw[aex]
   by_cases e:t.kind=2
   ·exact .inl e
   ·exact .inr (by grind)
 refine .sr<|.az rfl<|.ret (aK (bj _ (.one (.tmp rfl)) (aQ [1]) ?_))
 ·exact⟨_,rfl,by rw[d];rfl,by rw[d];exact⟨⟨v,rfl,h⟩,f⟩⟩
 obtain⟨t,r,rfl⟩:∃t r,l=t::r:=by
  cases l with
  |nil=>simp[lM]at *
  |cons t r=>exact⟨t,r,rfl⟩
 have n:dw s (t::r,b)=some (r,b):=by
  rw[i,aew]
  simp only[lM]at *
  grind
 refine .kn<|.sr<|.mo rfl<|.mo rfl<|.nc rfl<|.fa rfl<|.lo rfl<|.mS 1 (r.length+1) h ⟨_,rfl⟩ rfl (by omega) (by simp) (λA m=>?_)
 rw[show((t::r).drop 1).take (r.length+1-1)=r by simp]at m
 have E:=m.aB
 refine .nc rfl<|.fa rfl<|.dz rfl rfl<|.z<|.az rfl<|.ret (bj _ (.one (.tmp rfl)) (aQ [1]) ?_)
 ·exact⟨_,rfl,by rw[n];rfl,by rw[n];exact⟨⟨A,rfl,m⟩,λt x=>f t (afn _ x)⟩⟩
theorem se(d:Nat)(a:cg)(T:ax)(R:ay)(g:dN R d a T)(s:ByteArray):Spec prog 203 [pT d,.string s] R [T] λ_ H'=>∃T',H'=[T']/\dN R d (gn s a) T':=by
 have i:=nB d a T R g s
 have e:gn s a=(dw s a).getD jU:=rfl
 refine Spec.body func203 rfl results203 ntmps203 rfl<|.sr<|.mo rfl<|.mo rfl<|.cr (R:=R) i (λu T' f=>?_)
 obtain⟨rfl,c⟩:=f
 refine .q .not<|.zn<|.cond rfl (λb=>?_) λb=>?_
 have h:dw s a=none:=by
  cases hh:dw s a with
  |none=>rfl
  |some x=>rw[hh]at b;simp at b
 rw[h]at c e
 simp only[afr]at c
 obtain⟨⟨v,rfl,j⟩,_⟩:=c
 have l:=j.aB
 refine .region<|.mo rfl<|.cr (R:=R) (rI d v a.2 R) (λu T' f=>?_)
 subst f
 refine .nil<|fS _ .none rH ?_
 ·exact⟨_,rfl,by rw[e];exact dN.nil⟩
 obtain⟨x,k⟩:∃x,dw s a=some x:=by
  cases hh:dw s a with
  |none=>rw[hh]at b;simp at b
  |some x=>exact⟨x,rfl⟩
 rw[k]at c e
 refine .skip<|fS _ .none rH ?_
 ·exact⟨_,rfl,by rw[e];exact c⟩
theorem qI(d:Nat)(g:cg)(T:ax)(R:ay)(p:dN R d g T):Spec prog 202 [pT d] R [T] λu H'=>∃T',H'=[T']/\u=.string (dy isWord g).1/\dN R d (dy isWord g).2 T':=by
 obtain⟨⟨v,rfl,h⟩,j⟩:=p
 obtain⟨l,b⟩:=g
 simp only at h j⊢
 have B:=h.aB
 have A:=h.le
 have m:dy isWord ([],b)=(⟨#[]⟩,jU):=rfl
 have i:∀t r,dy isWord (t::r,b)=if t.kind≠1\/isWord t.text=false then(⟨#[]⟩,jU)else(t.text,(r,b)):=λ_ _=>rfl
 have w:(lM l).text.size<=9223372036854775807:=by
  cases l with
  |nil=>exact aev _
  |cons t r=>exact(j t aeL).2.1
 refine Spec.body func202 rfl results202 ntmps202 rfl<|.sr<|.ag rfl<|.z<|.mo rfl<|.ba (zP d v b l _ h.rx) (λu c=>?_)
 subst c
 refine .bU (λy=>?_)
 refine .bP rfl rfl<|.zs<|.sr<|.fa rfl<|.lo rfl<|.q .dZ<|.mo rfl<|.split (t:=9) rfl (λa=>?_) (λa=>?_)
 refine .gF a<|.gF a<|.gF a<|.gF a<|.q (.aU a)<|.zn<|.gM ?_
 have f:dy isWord (l,b)=(⟨#[]⟩,jU):=by
  cases l with
  |nil=>exact m
  |cons t r=>
   rw[i,aex]
   simp only[lM]at *
   by_cases e:t.kind=1
   ·right;simp_all
   ·exact .inl e
 refine .sr<|.mo rfl<|.cr (R:=R) (rI d v b R) (λu T' c=>?_)
 subst c
 refine .z<|.az rfl<|.ret (aK (bj _ (.one (.tmp rfl)) (aQ [1]) ?_))
 ·exact⟨_,rfl,by rw[f],by rw[f];exact dN.nil⟩
 refine .gT a<|.fa rfl<|.gT a<|.lo rfl<|.gT a<|.ba ((kG _ w R).weaken da) (λu c=>?_)
 subst c
 refine .gT a<|.q .not<|.q (.aR a)<|.zn<|.cond rfl (λo=>?_) λo=>?_
 have f:dy isWord (l,b)=(⟨#[]⟩,jU):=by
  cases l with
  |nil=>exact m
  |cons t r=>
   rw[i,aex]
   simp only[lM]at *
   by_cases e:t.kind=1
   ·right;simp_all
   ·exact .inl e
 refine .sr<|.mo rfl<|.cr (R:=R) (rI d v b R) (λu T' c=>?_)
 subst c
 refine .z<|.az rfl<|.ret (aK (bj _ (.one (.tmp rfl)) (aQ [1]) ?_))
 ·exact⟨_,rfl,by rw[f],by rw[f];exact dN.nil⟩
 obtain⟨t,r,rfl⟩:∃t r,l=t::r:=by
  cases l with
  |nil=>simp[lM]at *
  |cons t r=>exact⟨t,r,rfl⟩
 have n:dy isWord (t::r,b)=(t.text,(r,b)):=by
  rw[i,aew]
  simp_all[lM]
 refine .kn<|.sr<|.mo rfl<|.mo rfl<|.nc rfl<|.fa rfl<|.lo rfl<|.mS 1 (r.length+1) h ⟨_,rfl⟩ rfl (by omega) (by simp) (λx k=>?_)
 rw[show((t::r).drop 1).take (r.length+1-1)=r by simp]at k
 have C:=k.aB
 refine .nc rfl<|.fa rfl<|.dz rfl rfl<|.z<|.fa rfl<|.lo rfl<|.az rfl<|.ret (bj _ (.one (.tmp rfl)) (aQ [1]) ?_)
 ·exact⟨_,rfl,by rw[n];rfl,by rw[n];exact⟨⟨x,rfl,k⟩,λt s=>j t (afn _ s)⟩⟩
theorem oC{s:ByteArray}{a:cg}(h:∀t∈a.1,gh t)(b:s=ov\/s=pP\/s=qX\/s=ou\/s=pO\/s=qY\/s=s5):dw s a=none:=by
 unfold dw
 split
 ·rfl
 ·rename_i t r e
  have ht:=(h t (by rw[e];exact aeL)).2.2
  rw[aex]
  rcases ht with ht|⟨c,d,f,g,i,j,k⟩
  ·exact .inl ht
  ·right
   rcases b with rfl|rfl|rfl|rfl|rfl|rfl|rfl<;>assumption
theorem qH{W:ByteArray->Bool}{a:cg}(h:∀t∈a.1,gh t):(dy W a).1.size<=9223372036854775807:=by
 unfold dy
 split
 ·exact aev _
 ·rename_i t r e
  split
  ·exact aev _
  ·exact(h t (by rw[e];exact aeL)).2.1
section
variable{R:ay}
theorem oz(a:Nat)(b:cg)(T:ax)(c:dN R a b T)(s:ByteArray)(d:s=ov\/s=pP\/s=qX\/s=ou\/s=pO\/s=qY\/s=s5):Spec prog 156 [pT a,.string s] R [T] λu H'=>∃T',H'=[T']/\u=.bool false/\dN R a b T':=
 (nB a b T R c s).mono λu H' e=>by
  obtain⟨T',rfl,rfl,h⟩:=e
  rw[oC c.ok d]at h⊢
  exact⟨T',rfl,rfl,h⟩
theorem zi(b:Nat)(a:cg)(T:ax)(h:dN R b a T):Spec prog 247 [pT b] R [T] λu H'=>∃T',H'=[T']/\u=.agg (gR isWord a).1.enc.toArray/\dN R b (gR isWord a).2 T':=by
 have d:gR isWord a=match dw q0 a with
  |some s=>(⟨⟨#[]⟩,⟨#[]⟩⟩,s)
  |none=>(⟨(dy isWord a).1,(dy isWord (gn qZ (dy isWord a).2)).1⟩,(dy isWord (gn qZ (dy isWord a).2)).2):=rfl
 generalize gR isWord a=out at *
 refine Spec.body func247 rfl results247 ntmps247 rfl<|.sr ?_
 refine .bU (λo=>?_)
 refine .zs<|.sr<|.mo rfl<|.cr (R:=R) (nB b a T R h q0) (λu T' e=>?_)
 obtain⟨rfl,c⟩:=e
 refine .zn<|.cond rfl (λf=>?_) λf=>?_
 obtain⟨s,g⟩:=afh.1 f
 rw[g]at c d
 simp only[Option.getD_some]at c d
 subst d
 refine .sr<|.q .cR<|.bP rfl rfl<|.zn ?_
 refine .ret (aK (bj _ (.one (.fE rfl rfl)) (aQ [1]) ?_))
 ·exact⟨_,rfl,rfl,c⟩
 have g:dw q0 a=none:=by
  cases hh:dw q0 a with
  |none=>rfl
  |some x=>rw[hh]at f;cases f
 rw[g]at c d
 simp only[afr]at c d
 subst d
 refine .kn<|.sr<|.mo rfl<|.cr (R:=R) (qI b a _ R c) (λu l e=>?_)
 obtain⟨rfl,i⟩:=e
 refine .q .cR ?_
 refine .bU (λp=>?_)
 refine .bP rfl rfl<|.z<|.mo rfl ?_
 refine .cr (R:=R) (se b _ _ R i qZ) (λu m j=>?_)
 refine .z<|.mo rfl<|.cr (R:=R) (qI b _ _ R j) (λu n e=>?_)
 obtain⟨rfl,k⟩:=e
 refine .fa rfl<|.dz rfl rfl<|.z<|.q (.aT rfl)<|.bP rfl rfl<|.zn ?_
 refine .ret (bj _ (.one (.fE rfl rfl)) (aQ [2]) ?_)
 ·exact⟨_,rfl,rfl,k⟩
def fF(l:List Nd)(st:cg):List Nd×cg:=
 match dw ow st with
 |some s=>(l++[⟨1,⟨#[]⟩,⟨#[]⟩,0,0⟩],s)
 |none=>(l++[⟨2,(dy isWord st).1,⟨#[]⟩,0,0⟩],(dy isWord st).2)
theorem yk(l:List Nd)(a:cg):fx (fF l a).2 a:=by
 unfold fF
 split
 ·rename_i s h;exact(jc h).1
 ·exact lg a
theorem Mv{a:cg}(h:∀t∈a.1,gh t)(f:Nat)(l:List Nd):mF isWord (f+1) l a=fF l a:=by
 rw[mF]
 unfold fF
 cases hh:dw ow a with
 |some s=>rfl
 |none=>
  rw[oC h (by simp)]
  simp only
  rw[oC (λt b=>h t ((lg a).mem b)) (by simp)]
theorem Q7{a:cg}(h:∀t∈a.1,gh t)(f:Nat)(l:List Nd):nr (mF isWord (f+1)) l a=fF l a:=by
 unfold nr
 rw[Mv h,q6]
 split
 ·rfl
 ·rw[oC (λt b=>h t ((yk l a).mem b)) (by simp)]
theorem Db{a:cg}(h:∀t∈a.1,gh t)(f:Nat)(l:List Nd):o8 (mF isWord (f+1)) l a=fF l a:=by
 unfold o8
 rw[Q7 h,qc]
 have b:∀t∈(fF l a).2.1,gh t:=λt c=>h t ((yk l a).mem c)
 have:qC (fF l a).2=none:=by
  unfold qC
  rw[oC b (by simp),oC b (by simp)]
  rfl
 rw[this]
theorem Mw(c:Nat)(a:cg)(T:ax)(m:dN R c a T)(v:Value)(l:List Nd)(i:ax)(j:OS 199 5 Nd.enc v l i)(A:l.length<=1000000):Spec prog 273 [pT c,v] R [T,i] λu H'=>∃T' Tl',H'=[T',Tl']/\OS 199 5 Nd.enc u (fF l a).1 Tl'/\dN R c (fF l a).2 T':=by
 have e:fF l a=match dw ow a with
  |some s=>(l++[⟨1,⟨#[]⟩,⟨#[]⟩,0,0⟩],s)
  |none=>(l++[⟨2,(dy isWord a).1,⟨#[]⟩,0,0⟩],(dy isWord a).2):=rfl
 generalize fF l a=out at *
 refine Spec.body func273 rfl results273 ntmps273 rfl<|.sr<|.ag rfl<|.zs<|.block<|.sr<|.mo rfl<|.cr (R:=R) (nB c a T R m ow) (λu T' b=>?_)
 obtain⟨rfl,d⟩:=b
 refine .az rfl<|.cond rfl (λf=>?_) λf=>?_
 obtain⟨s,g⟩:=afh.1 f
 rw[g]at d e
 simp only[Option.getD_some]at d e
 subst e
 refine .sr<|.mo rfl<|.q .cR ?_
 refine .dY (λw=>?_)
 refine .append j (RS.lits (xs:=[(⟨1,⟨#[]⟩,⟨#[]⟩,0,0⟩:Nd)]) rfl (by simp[Nd.enc]) (by simp[Nd.enc,aB])) (by simp only[aeE];omega) (λr k h=>?_)
 refine .az rfl<|.ret (br (aK (bj _ (.one (.tmp rfl)) (aQ [1,1]) ?_)))
 ·exact⟨_,_,rfl,h,d⟩
 have g:dw ow a=none:=by
  cases hh:dw ow a with
  |none=>rfl
  |some x=>rw[hh]at f;cases f
 rw[g]at d e
 simp only[afr]at d e
 subst e
 refine .sr<|.mo rfl<|.cr (R:=R) (oz c a _ d ov (by simp)) (λu T' b=>?_)
 obtain⟨rfl,n⟩:=b
 refine .az rfl<|.cU<|.skip<|aX<|aw<|.sr<|.mo rfl<|.cr (R:=R) (qI c a _ R n) (λu t b=>?_)
 obtain⟨rfl,o⟩:=b
 refine .q .cR ?_
 refine .bU (λz=>?_)
 refine .bP rfl rfl<|.zs<|.sr<|.mo rfl<|.cr (R:=R) (oz c _ _ o qY (by simp)) (λu T' b=>?_)
 obtain⟨rfl,p⟩:=b
 refine .zn<|.cU<|.kn<|.sr<|.mo rfl<|.q (.aT rfl) ?_
 refine .dY (λy=>?_)
 refine .append j (RS.lits (xs:=[(⟨2,(dy isWord a).1,⟨#[]⟩,0,0⟩:Nd)]) rfl (by simp[Nd.enc]) (by simp[Nd.enc,aB])) (by simp only[aeE];omega) (λr k h=>?_)
 refine .az rfl<|.ret (bj _ (.one (.tmp rfl)) (aQ [2,2]) ?_)
 ·exact⟨_,_,rfl,h,p⟩
theorem Q8(a:Nat)(d:cg)(T:ax)(p:dN R a d T)(v:Value)(l:List Nd)(i:ax)(r:OS 199 5 Nd.enc v l i)(D:l.length<=1000000):Spec prog 265 [pT a,v] R [T,i] λu H'=>∃T' Tl',H'=[T',Tl']/\OS 199 5 Nd.enc u (fF l d).1 Tl'/\dN R a (fF l d).2 T':=by
 have K:=r.aB
 refine Spec.body func265 rfl results265 ntmps265 rfl<|.sr<|.ag rfl<|.z<|.mo rfl<|.mo rfl<|.call [0,0] (Mw (R:=Rx R []) a d T ⟨p.h.imp λv h=>⟨h.1,h.2.rx⟩,p.ok⟩ v l i r D) (λu H' k=>?_)
 obtain⟨m,B,rfl,s,f⟩:=k
 have f:dN R a (fF l d).2 m:=⟨f.h.imp λv h=>⟨h.1,h.2.mono λb o j=>j.elim id λj=>(by cases j)⟩,f.ok⟩
 have I:=s.aB
 conv=>arg 8;simp only[rest,bM,afi,ae9]
 refine .ag rfl<|.zs<|.block<|.cF [(0,_)] (X:=ax) (λT=>dN R a (fF l d).2 T) (λ_ E=>(1,_)::E) (λT G=>T::G) (λ_=>0) m f kE.c.c rH ?_
 rintro n g
 obtain⟨⟨A,w,x⟩,F⟩:=g
 have g:dN R a (fF l d).2 n:=⟨⟨A,w,x⟩,F⟩
 have J:=x.aB
 have L:PS n (pT a) [A,.bool (fF l d).2.2]:=PS.of (E:=215) (fr:=(0,0)) (by rw[w];simp)
 refine .seq<|.seq ?_
 refine bx.cZ [(0,_),(1,_)] kE.c.c (X:=ax) (λT=>dN R a (fF l d).2 T) (λ_ E=>(17,.bool false)::E) (λT=>[T,B]) ?_ ?_
 refine .region<|.mo rfl<|.nc rfl<|.fa rfl<|.lo rfl<|.q .not<|.mo rfl<|.split (t:=14) rfl (λe=>?_) (λe=>?_)
 refine .gT e<|.mo rfl<|.gT e<|.cr (R:=R) (oz a _ _ g qX (by simp)) (λu T' k=>?_)
 obtain⟨rfl,C⟩:=k
 refine .q (.aU e)<|.nil ?_
 ·exact aG _ C kE.c.c.c rH
 refine .gF e<|.gF e<|.q (.aR e)<|.nil ?_
 ·exact aG _ g kE.c.c.c rH
 intro y H
 refine aw<|.cU<|.exit<|bo<|bs<|bp<|aw<|.sr<|.mo rfl<|.az rfl<|.ret (bj _ (.one (.tmp rfl)) rH ?_)
 ·exact⟨_,_,rfl,s,by assumption⟩
theorem OF(a:Nat)(c:cg)(T:ax)(d:dN R a c T):Spec prog 266 [pT a] R [T] λu H'=>∃T',H'=[T']/\u=.int .i64 0/\dN R a c T':=by
 refine Spec.body func266 rfl results266 ntmps266 rfl<|.sr<|.ag rfl<|.zs<|.block<|.sr<|.mo rfl<|.cr (R:=R) (oz a _ _ d ou (by simp)) (λu T' b=>?_)
 obtain⟨rfl,e⟩:=b
 refine .az rfl<|.cU<|.sr<|.mo rfl<|.cr (R:=R) (oz a _ _ e pO (by simp)) (λu T' b=>?_)
 obtain⟨rfl,f⟩:=b
 refine .az rfl<|.cU<|.skip<|aX<|aw<|.sr<|.az rfl<|.ret (bj _ (.one (.tmp rfl)) rH ?_)
 ·exact⟨_,rfl,rfl,f⟩
theorem Dc(d:Nat)(e:cg)(T:ax)(k:dN R d e T)(v:Value)(l:List Nd)(g:ax)(p:OS 199 5 Nd.enc v l g)(s:l.length<=1000000):Spec prog 248 [pT d,v] R [T,g] λu H'=>∃T' Tl',H'=[T',Tl']/\OS 199 5 Nd.enc u (fF l e).1 Tl'/\dN R d (fF l e).2 T':=by
 refine Spec.body func248 rfl results248 ntmps248 rfl<|.sr<|.ag rfl<|.z<|.mo rfl<|.mo rfl<|.call [0,0] (Q8 (R:=Rx R []) d e T ⟨k.h.imp λv h=>⟨h.1,h.2.rx⟩,k.ok⟩ v l g p s) (λu H' j=>?_)
 obtain⟨m,w,rfl,r,f⟩:=j
 have f:dN R d (fF l e).2 m:=⟨f.h.imp λv h=>⟨h.1,h.2.mono λb o i=>i.elim id λi=>(by cases i)⟩,f.ok⟩
 conv=>arg 8;simp only[rest,bM,afi,ae9]
 refine .ag rfl<|.zs<|.sr<|.mo rfl<|.cr (R:=R) (OF d _ _ f) (λu T' j=>?_)
 obtain⟨rfl,n⟩:=j
 refine .az rfl<|.block<|.cF [(0,_)] (X:=Unit) (λ_=>True) (λ_ E=>(5,.int .i64 0)::(1,_)::E) (λ_ G=>G) (λ_=>0) () aeu kE.c.c.c rH ?_
 rintro _ _
 refine .seq<|.sr<|.mo rfl<|.q .dZ<|.mo rfl<|.split (t:=14) rfl (λa=>?_) (λa=>?_)
 ·cases a
 refine .gF a<|.gF a<|.gF a<|.gF a<|.gF a<|.q (.aR a)<|.zn<|.cU<|.exit<|bo<|bs<|bp<|aw<|.sr<|.mo rfl<|.az rfl<|.ret (bj _ (.one (.tmp rfl)) rH ?_)
 ·exact⟨_,_,rfl,r,n⟩
end
theorem Ns(n:Nd)(w:n.fits)(R:ay):Spec prog 226 [.agg n.enc.toArray] R [] λu H'=>u=.bool (n.leaf isWord)/\H'=[]:=by
 obtain⟨k,j,m,a,b⟩:=n
 obtain⟨i,l⟩:=w
 simp only at i l
 refine Spec.body func226 rfl results226 ntmps226 rfl<|.sr ?_
 refine .cx rfl (λo=>?_)
 refine .ag rfl<|.zs<|.seq ?_
 refine bx.cZ [(1,_)] kE.c (X:=Unit) (λ_=>True) (λ_ E=>(10,.bool (!(a==0&&b==0)))::E) (λ_=>[bl o (Nd.enc ⟨k,j,m,a,b⟩) 199]) ?_ ?_
 refine .region<|.fa rfl<|.lo rfl<|.q .dZ<|.mo rfl<|.split (t:=6) rfl (λd=>?_) (λd=>?_)
 refine .gF d<|.gF d<|.gF d<|.q (.aU d)<|.nil ?_
 ·exact aG () aeu (kE.c.ca rfl (by grind)) rH
 refine .gT d<|.fa rfl<|.gT d<|.lo rfl<|.gT d<|.q .dZ<|.q (.aR d)<|.nil ?_
 ·exact aG () aeu (kE.c.ca rfl (by grind)) rH
 intro y x
 refine aw<|.cond rfl (λp=>?_) λp=>?_
 refine .sr<|.az rfl<|.ret (aK (aN rfl ?_))
 ·refine⟨aey _ ?_,rfl⟩
  simp only[Nd.leaf]
  grind
 refine .kn<|.seq<|.sr<|.fa rfl<|.lo rfl<|.zn<|.block<|.sr<|.q .bY<|.az rfl<|.cond rfl (λr=>?_) λr=>?_
 refine .sr<|.fa rfl<|.lo rfl<|.q .eg<|.mo rfl<|.split (t:=18) rfl (λe=>?_) (λe=>?_)
 refine .gT e<|.fa rfl<|.gT e<|.lo rfl<|.gT e<|.q .eg<|.q (.aU e)<|.az rfl<|.ret (br (aK (aN rfl ?_)))
 ·refine⟨aey _ ?_,rfl⟩
  simp only[Nd.leaf]
  grind
 refine .gF e<|.gF e<|.gF e<|.q (.aR e)<|.az rfl<|.ret (br (aK (aN rfl ?_)))
 ·refine⟨aey _ ?_,rfl⟩
  simp only[Nd.leaf]
  grind
 refine .sr<|.q .bY<|.az rfl<|.cond rfl (λs=>?_) λs=>?_
 refine .sr<|.fa rfl<|.lo rfl<|.ba (kG j i _) (λu h=>?_)
 subst h
 refine .mo rfl<|.split (t:=28) rfl (λf=>?_) (λf=>?_)
 refine .gT f<|.fa rfl<|.gT f<|.lo rfl<|.gT f<|.q .eg<|.q (.aU f)<|.az rfl<|.ret (br (aK (aN rfl ?_)))
 ·refine⟨aey _ ?_,rfl⟩
  simp only[Nd.leaf]
  grind
 refine .gF f<|.gF f<|.gF f<|.q (.aR f)<|.az rfl<|.ret (br (aK (aN rfl ?_)))
 ·refine⟨aey _ ?_,rfl⟩
  simp only[Nd.leaf]
  grind
 refine .sr<|.q .bY<|.az rfl<|.cond rfl (λv=>?_) λv=>?_
 refine .sr<|.fa rfl<|.lo rfl<|.ba (kG j i _) (λu h=>?_)
 subst h
 refine .mo rfl<|.split (t:=38) rfl (λg=>?_) (λg=>?_)
 refine .gT g<|.fa rfl<|.gT g<|.lo rfl<|.gT g<|.ba (kG m l _) (λu h=>?_)
 subst h
 refine .q (.aU g)<|.az rfl<|.ret (br (aK (aN rfl ?_)))
 ·refine⟨aey _ ?_,rfl⟩
  simp only[Nd.leaf]
  grind
 refine .gF g<|.gF g<|.gF g<|.q (.aR g)<|.az rfl<|.ret (br (aK (aN rfl ?_)))
 ·refine⟨aey _ ?_,rfl⟩
  simp only[Nd.leaf]
  grind
 refine .skip<|aX<|aw<|.sr<|.az rfl<|.ret (aN rfl ?_)
 ·refine⟨aey _ ?_,rfl⟩
  simp only[Nd.leaf]
  grind
theorem tS(W:ByteArray->Bool):∀(a b:List Nd) (S:List (Nat×Nat)),jk W (a++b) S=(jk W a S).bind (jk W b)
 |[],b,S=>rfl
 |n::a,b,S=>by
  rw[afi,jk,jk]
  cases hM W S n with
  |none=>rfl
  |some S'=>exact tS W a b S'
theorem jG{α:Type}{A:List α}{i k:Nat}{x z:α}(a:A.length=i):(A++List.replicate (k+1) z).set i x=(A++[x])++List.replicate k z:=by
 subst a
 rw[List.set_append_right _ _ (Nat.le_refl _),Nat.sub_self,List.replicate_succ,List.set_cons_zero]
 simp
theorem qm{A:List Nat}{j k:Nat}{a:Nat}(h:A[j]? =some a):(A++List.replicate k 0)[j]? =some a:=by
 rw[List.getElem?_append_left (aeT.1 h).1]
 exact h
def mv(S:List (Nat×Nat))(n:Nd):Prop:=n.rel≠⟨#[]⟩\/n.dQ≠⟨#[]⟩\/n.b≠(S.length:Int)-1\/n.b<0\/n.a≠(S.length:Int)-1-(S.getD (S.length-1) (0,0)).1\/n.a<0
instance(S:List (Nat×Nat))(n:Nd):Decidable (mv S n):=by unfold mv;infer_instance
theorem C4{S:List (Nat×Nat)}{n:Nd}(ho:n.op=true)(h:mv S n):hM isWord S n=none:=by
 unfold hM
 rw[aex ho]
 exact aex h
theorem C5{S:List (Nat×Nat)}{n:Nd}(ho:n.op=true)(h:¬mv S n):hM isWord S n=some (S++[((S.getD n.a.toNat (0,0)).1+(S.getD n.b.toNat (0,0)).1+1,max (S.getD n.a.toNat (0,0)).2 (S.getD n.b.toNat (0,0)).2+1)]):=by
 unfold hM
 rw[aex ho]
 exact aew h
theorem xx{l:List Nd}{i:Nat}{n:Nd}{S:List (Nat×Nat)}(c:l[i]? =some n)(a:jk isWord (l.take i) []=some S)(h:hM isWord S n=none):oR isWord l=0:=by
 have b:l=l.take i++n::l.drop (i+1):=by
  rw[<-afs i l]
  congr 1
  ·rw[afs]
  ·rw[afs];exact xG c
 have:jk isWord l []=none:=by
  rw[b,tS,a,aeW,jk,h]
  rfl
 unfold oR
 rw[this]
theorem xy(v:Value)(l:List Nd)(R:ay)(h:RS R 5 Nd.enc v l)(s:∀x∈l,x.fits)(c7:l.length<=1000000):
    Spec prog 174 [v] R [] λu H'=>u=.int .i64 (fN isWord l:Nat)/\H'=[]:=by
  rw[<-CX]
  refine Spec.body func174 rfl results174 ntmps174 rfl ?_
  refine .sr<|.ag rfl<|.zs ?_
  refine bx.cZ [(0,_)] kE.c (X:=(Nat×ax)×(Nat×ax)) (λy=>OS 3 1 di (.slice (some ⟨y.1.1,0,none⟩) l.length l.length) (List.replicate l.length 0) y.1.2/\OS 3 1 di (.slice (some ⟨y.2.1,0,none⟩) l.length l.length) (List.replicate l.length 0) y.2.2) (λy E=>(3,.slice (some ⟨y.1.1,0,none⟩) l.length l.length)::(4,.slice (some ⟨y.2.1,0,none⟩) l.length l.length)::E) (λy=>[y.1.2,y.2.2]) ?_ ?_
  refine .cS [2,5] mixed ?_
  refine .tK 0 rfl .move ?_
  refine .tK 1 rfl (.bO h) ?_
  refine .tK 3 rfl .move ?_
  refine .tK 4 rfl (.bO h) ?_
  refine RA.jH 2 5 rfl rfl (by kernel_rfl) rfl ?_ ?_
  refine .makeSlice (enc:=di) l.length 0 rfl rfl (by decide) (by simp[di,aB]) rfl rfl (by omega) (by omega) (λL w d=>?_)
  refine .nil (Next.mod rfl ?_)
  refine .tK 6 rfl .assign ?_
  refine .sT 5 rfl ?_
  refine .makeSlice (enc:=di) l.length 0 rfl rfl (by decide) (by simp[di,aB]) rfl rfl (by omega) (by omega) (λM A e=>?_)
  refine .nil (Next.mod rfl ?_)
  refine .tK 7 rfl .assign ?_
  refine RA.nil (by kernel_rfl) ?_
  ·first
      |exact aG ((L,w),(M,A)) ⟨d,e⟩ kE.c.c.c (aQ [0,0])
      |exact aG ((L,w),(M,A)) ⟨d,e⟩ kE.c.c.c (aQ [1,0])
  refine .makeSlice (enc:=di) l.length 0 rfl rfl (by decide) (by simp[di,aB]) rfl rfl (by omega) (by omega) (λM A e=>?_)
  refine .nil (Next.mod rfl ?_)
  refine .sT 2 rfl ?_
  refine .makeSlice (enc:=di) l.length 0 rfl rfl (by decide) (by simp[di,aB]) rfl rfl (by omega) (by omega) (λL w d=>?_)
  refine .nil (Next.mod rfl ?_)
  refine .tK 6 rfl .assign<|.tK 7 rfl .assign ?_
  refine RA.nil (by kernel_rfl) ?_
  ·first
      |exact aG ((L,w),(M,A)) ⟨d,e⟩ kE.c.c.c (aQ [0,0])
      |exact aG ((L,w),(M,A)) ⟨d,e⟩ kE.c.c.c (aQ [1,0])
  intro y hy
  obtain⟨⟨L,w⟩,⟨M,A⟩⟩:=y
  obtain⟨d,e⟩:=hy
  simp only at d e⊢
  refine aw<|.seq<|.sr<|.mo rfl<|.q (.bO h) ?_
  refine .mo rfl<|.zn<|.block ?_
  refine .cF [(0,_),(3,_),(4,_),(13,_),(14,_)] (X:=Nat×List (Nat×Nat)×ax×ax) (λy=>y.1<=l.length/\y.2.1.length=y.1/\jk isWord (l.take y.1) []=some y.2.1/\DI isWord l y.2.1/\OS 3 1 di (.slice (some ⟨L,0,none⟩) l.length l.length) (y.2.1.map (·.1)++List.replicate (l.length-y.1) 0) y.2.2.1/\OS 3 1 di (.slice (some ⟨M,0,none⟩) l.length l.length) (y.2.1.map (·.2)++List.replicate (l.length-y.1) 0) y.2.2.2) (λy E=>(15,iN y.1)::E) (λy _=>[y.2.2.1,y.2.2.2]) (λy=>l.length-y.1) (0,[],w,A) ⟨aev _,rfl,rfl,⟨aev _,λj hj=>absurd hj (by simp)⟩,by simpa using d,by simpa using e⟩ kE.c.c.c.c.c.c rH (G:=[]) ?_
  rintro⟨i,S,w,A⟩ ⟨hi,o,Q,m,d,e⟩
  simp only at hi o Q m d e⊢
  refine .sr<|.q .lss<|.zs ?_
  refine .cond rfl (λh1=>?_) λh1=>?_
  have W:i<l.length:=cy h1
  obtain⟨n,J⟩:=bW W
  obtain⟨k,hk⟩:∃k,l.length-i=k+1:=⟨l.length-i-1,by omega⟩
  have K:l.length-(i+1)=k:=by omega
  rw[hk]at d e
  have Y:jk isWord (l.take (i+1)) []=hM isWord S n:=by
    rw[ec J,tS,Q,aeW,jk]
    cases hM isWord S n<;>rfl
  have a3:(S.map (·.1)).length=i:=by rw[aez,o]
  have a4:(S.map (·.2)).length=i:=by rw[aez,o]
  have r:∀j,j<i->(S.map (·.1))[j]? =some (S.getD j (0,0)).1/\(S.map (·.2))[j]? =some (S.getD j (0,0)).2/\(S.getD j (0,0)).1<=j+1/\(S.getD j (0,0)).2<=j+1/\1<=(S.getD j (0,0)).1:=λj hj=>by
    obtain⟨d1,d2,d3⟩:=m.t j (by omega)
    have d4:=wg _ _ _ d3
    refine⟨?_,?_,d2,d4,d1⟩
    ·rw[aeA,aV (by omega),aeD,aV (by omega)];rfl
    ·rw[aeA,aV (by omega),aeD,aV (by omega)];rfl
  obtain⟨z1,a0⟩:∃z,(S.map (·.1)++List.replicate (k+1) 0)[i]? =some z:=⟨_,aV (by rw[aeG,a3,ae5];omega)⟩
  obtain⟨z2,a1⟩:∃z,(S.map (·.2)++List.replicate (k+1) 0)[i]? =some z:=⟨_,aV (by rw[aeG,a4,ae5];omega)⟩
  have b4:=h.le
  refine .kn<|.seq<|.block<|.sr<|.mo rfl ?_
  refine .bG i h J (λd7=>?_)
  refine .q (.aT rfl) ?_
  refine .bU (λb6=>?_)
  refine .ag rfl<|.bP rfl rfl<|.zs<|.seq ?_
  refine bx.cZ [(0,_),(3,_),(4,_),(5,_),(6,_),(13,_),(14,_),(15,_)] kE.c.c.c.c.c.c.c.c (X:=Unit) (λ_=>True) (λ_ E=>(32,.bool (!n.op))::E) (λ_=>[bl b6 n.enc 199,w,A]) ?_ ?_
  refine .region<|.fa rfl<|.lo rfl<|.q .dZ<|.mo rfl ?_
  refine .split (t:=23) rfl (λB=>?_) (λB=>?_)
  refine .gT B<|.fa rfl<|.gT B<|.lo rfl<|.gT B<|.q .dZ<|.q (.aU B) ?_
  refine .mo rfl ?_
  refine .split (t:=28) rfl (λC=>?_) (λC=>?_)
  refine .gT C<|.fa rfl<|.gT C<|.lo rfl<|.gT C<|.q .dZ<|.q (.aU C) ?_
  refine .nil ?_
  ·exact aG () aeu (kE.c.c.c.c.c.c.c.c.ca rfl (by clear r m d e s;grind[Nd.op])) rH
  refine .gF C<|.gF C<|.gF C<|.q (.aR C) ?_
  refine .nil ?_
  ·exact aG () aeu (kE.c.c.c.c.c.c.c.c.ca rfl (by clear r m d e s;grind[Nd.op])) rH
  refine .gF B<|.gF B<|.gF B<|.q (.aR B) ?_
  refine .mo rfl<|.gX<|.gX<|.gX<|.q .cY<|.nil ?_
  ·exact aG () aeu (kE.c.c.c.c.c.c.c.c.ca rfl (by clear r m d e s;grind[Nd.op])) rH
  intro y hy
  refine aw ?_
  refine .cond rfl (λV=>?_) λV=>?_
  refine .seq<|.sr<|.q (.aT rfl) ?_
  refine .ba (Ns n (s n (aW J)) _) (λu hu=>?_)
  subst hu
  refine .q .not<|.zn ?_
  refine .cond rfl (λh3=>?_) λh3=>?_
  refine .sr<|.az rfl ?_
  refine .ret (aK (aK (br (aK (cI (br (aK (aN rfl ?_))))))))
  ·refine⟨?_,rfl⟩
   rw[xx J Q (by unfold hM;rw[aew (by have a5:n.op=false:=by simpa using V
                                      rw[a5];simp),aew (by simpa using h3)])]
   rfl
  have a5:n.op=false:=by simpa using V
  have b5:n.leaf isWord=true:=by simpa using h3
  have I:hM isWord S n=some (S++[(1,1)]):=by unfold hM;rw[aew (by rw[a5];simp),aex b5]
  refine .kn<|.sr<|.mo rfl<|.mo rfl<|.mo rfl<|.mo rfl ?_
  refine .aL i d a0 (λd8=>?_)
  refine .du i d a0 1 (λT N=>?_)
  rw[jG a3]at N
  refine .aL i e a1 (λd9=>?_)
  refine .du i e a1 1 (λU O=>?_)
  rw[jG a4]at O
  refine .zn<|.exit<|bo<|bp<|aw<|.region ?_
  refine .ia (i+1) .add ?_
  refine .mo rfl<|.nil ?_
  ·first
      |exact bm (i+1,S++[(1,1)],T,U) ⟨W,by simp[o],by simp only;rw[Y,I],m.step (by rw[o];exact J) I,by simp only;rw[K,aeB];exact N,by simp only;rw[K,aeB];exact O⟩ (by simp only;omega) kE.c.c.c.c.c.c (aQ [1,1])
      |exact bm (i+1,S++[((S.getD n.a.toNat (0,0)).1+(S.getD (i-1) (0,0)).1+1,max (S.getD n.a.toNat (0,0)).2 (S.getD (i-1) (0,0)).2+1)],T,U) ⟨W,by simp[o],by simp only;rw[Y,I],m.step (by rw[o];exact J) I,by simp only;rw[K,aeB];exact N,by simp only;rw[K,aeB];exact O⟩ (by simp only;omega) kE.c.c.c.c.c.c (aQ [1,1])
  refine .kn<|.seq<|.seq ?_
  refine bx.cZ [(0,_),(3,_),(4,_),(5,_),(6,_),(13,_),(14,_),(15,_)] kE.c.c.c.c.c.c.c.c (X:=Unit) (λ_=>True) (λ_ E=>(79,.bool (decide (n.rel≠⟨#[]⟩\/n.dQ≠⟨#[]⟩\/n.b≠(i:Int)-1\/n.b<0\/n.a≠(i:Int)-1-((S.getD (i-1) (0,0)).1:Nat)\/n.a<0)))::E) (λ_=>[bl b6 n.enc 199,w,A]) ?_ ?_
  refine .gd mixed (by kernel_rfl) ?_
  refine .fa rfl<|.lo rfl<|.q .gP<|.mo rfl ?_
  refine .split (t:=45) rfl (λF=>?_) (λF=>?_)
  refine .gF F<|.gF F<|.gF F<|.q (.aU F) ?_
  refine .mo rfl<|.gX<|.gX<|.gX<|.gX<|.gX<|.q .cQ<|.mo rfl<|.gX<|.gX<|.gX<|.q .cQ<|.mo rfl<|.gX<|.gX<|.gX<|.gX<|.gX<|.gX<|.gX<|.gX<|.gX<|.gX<|.gX<|.q .cQ<|.mo rfl<|.gX<|.gX<|.gX<|.q .cQ<|.nil ?_
  ·exact aG () aeu (kE.c.c.c.c.c.c.c.c.ca rfl (by clear r m d e s;grind)) rH
  refine .gT F<|.fa rfl<|.gT F<|.lo rfl<|.gT F<|.q .gP<|.q (.aR F) ?_
  refine .mo rfl ?_
  refine .split (t:=50) rfl (λp=>?_) (λp=>?_)
  refine .gF p<|.gF p<|.gF p<|.gF p<|.gF p<|.q (.aU p) ?_
  refine .mo rfl<|.gX<|.gX<|.gX<|.q .cQ<|.mo rfl<|.gX<|.gX<|.gX<|.gX<|.gX<|.gX<|.gX<|.gX<|.gX<|.gX<|.gX<|.q .cQ<|.mo rfl<|.gX<|.gX<|.gX<|.q .cQ<|.nil ?_
  ·exact aG () aeu (kE.c.c.c.c.c.c.c.c.ca rfl (by clear r m d e s;grind)) rH
  refine .gT p<|.fa rfl<|.gT p<|.lo rfl<|.gT p<|.mo rfl<|.gT p ?_
  refine .q (.i64 ((i:Int)-1) .sub ⟨rfl,by omega,by omega⟩) ?_
  refine .gT p<|.q .dZ<|.q (.aR p) ?_
  refine .mo rfl ?_
  refine .split (t:=57) rfl (λD=>?_) (λD=>?_)
  refine .gF D<|.gF D<|.gF D<|.q (.aU D) ?_
  refine .mo rfl<|.gX<|.gX<|.gX<|.gX<|.gX<|.gX<|.gX<|.gX<|.gX<|.gX<|.gX<|.q .cQ<|.mo rfl<|.gX<|.gX<|.gX<|.q .cQ<|.nil ?_
  ·exact aG () aeu (kE.c.c.c.c.c.c.c.c.ca rfl (by clear r m d e s;grind)) rH
  refine .gT D<|.fa rfl<|.gT D<|.lo rfl<|.gT D<|.q .lss<|.q (.aR D) ?_
  refine .mo rfl ?_
  refine .split (t:=62) rfl (λf=>?_) (λf=>?_)
  refine .gF f<|.gF f<|.gF f<|.gF f<|.gF f<|.gF f<|.gF f<|.gF f<|.gF f<|.gF f<|.gF f<|.q (.aU f) ?_
  refine .mo rfl<|.gX<|.gX<|.gX<|.q .cQ<|.nil ?_
  ·exact aG () aeu (kE.c.c.c.c.c.c.c.c.ca rfl (by clear r m d e s;grind)) rH
  have c6:1<=i:=by clear r m d e;grind
  obtain⟨q1,q2,q3,q4,q5⟩:=r (i-1) (by omega)
  have a7:=qm (k:=k+1) q1
  refine .gT f<|.fa rfl<|.gT f<|.lo rfl<|.gT f<|.mo rfl<|.gT f ?_
  refine .q (.i64 ((i:Int)-1) .sub ⟨rfl,by omega,by omega⟩) ?_
  refine .gT f<|.mo rfl<|.gT f<|.mo rfl<|.gT f ?_
  refine .q (.i64 ((i:Int)-1) .sub ⟨rfl,by omega,by omega⟩) ?_
  refine .gT f ?_
  refine .aL (i-1) d a7 (λe0=>?_) rfl rfl (by omega)
  refine .gT f<|.lo rfl<|.gT f ?_
  refine .q (.i64 ((i:Int)-1-((S.getD (i-1) (0,0)).1:Nat)) .sub ⟨rfl,by omega,by omega⟩) ?_
  refine .gT f<|.q .dZ<|.q (.aR f) ?_
  refine .mo rfl ?_
  refine .split (t:=75) rfl (λH=>?_) (λH=>?_)
  refine .gF H<|.gF H<|.gF H<|.q (.aU H) ?_
  refine .nil ?_
  ·exact aG () aeu (kE.c.c.c.c.c.c.c.c.ca rfl (by clear r m d e s;grind)) rH
  refine .gT H<|.fa rfl<|.gT H<|.lo rfl<|.gT H<|.q .lss<|.q (.aR H) ?_
  refine .nil ?_
  ·exact aG () aeu (kE.c.c.c.c.c.c.c.c.ca rfl (by clear r m d e s;grind)) rH
  intro y hy
  refine aw ?_
  refine .cond rfl (λh4=>?_) λh4=>?_
  have a6:n.op=true:=by simpa using V
  have Z:mv S n:=by unfold mv;rw[o];exact bX h4
  refine .sr<|.az rfl ?_
  refine .ret (aK (br (aK (cI (br (aK (aN rfl ?_)))))))
  ·refine⟨?_,rfl⟩
   rw[xx J Q (C4 a6 Z)]
   rfl
  have a6:n.op=true:=by simpa using V
  have Z:¬mv S n:=by unfold mv;rw[o];exact bF h4
  have a2:=Z
  unfold mv at a2
  simp only[not_or,Decidable.not_not,o]at a2
  obtain⟨c0,c1,c2,c3,c4,c5⟩:=a2
  obtain⟨q1,q2,q3,q4,q5⟩:=r (i-1) (by omega)
  obtain⟨r1,r2,r3,r4,r5⟩:=r n.a.toNat (by omega)
  have a9:n.b.toNat=i-1:=by omega
  have a7:=qm (k:=k+1) q1
  have b7:=qm (k:=k+1) q2
  have b8:=qm (k:=k+1) r1
  have b9:=qm (k:=k+1) r2
  have I:hM isWord S n=some (S++[((S.getD n.a.toNat (0,0)).1+(S.getD (i-1) (0,0)).1+1,max (S.getD n.a.toNat (0,0)).2 (S.getD (i-1) (0,0)).2+1)]):=by
    rw[C5 a6 Z,a9]
  refine .kn<|.seq ?_
  refine .dm 15 mixed (by kernel_rfl) ?_
  conv=>arg 6;dsimp only[List.take]
  refine .mo rfl<|.mo rfl<|.mo rfl<|.fa rfl<|.lo rfl ?_
  refine .aL n.a.toNat d b8 (λe1=>?_) rfl rfl (by omega)
  refine .lo rfl<|.mo rfl<|.fa rfl<|.lo rfl ?_
  refine .aL (i-1) d a7 (λe2=>?_) rfl rfl (by omega)
  refine .lo rfl ?_
  refine .q (.i64 (((S.getD n.a.toNat (0,0)).1+(S.getD (i-1) (0,0)).1:Nat):Int) .add ⟨by push_cast;rfl,by omega,by omega⟩) ?_
  refine .q (.i64 (((S.getD n.a.toNat (0,0)).1+(S.getD (i-1) (0,0)).1+1:Nat):Int) .add ⟨by push_cast;rfl,by omega,by omega⟩) ?_
  refine .aL i d a0 (λe3=>?_)
  refine .nil ?_
  refine .du i d a0 ((S.getD n.a.toNat (0,0)).1+(S.getD (i-1) (0,0)).1+1) (λT N=>?_)
  rw[jG a3]at N
  refine .zn ?_
  refine .dm 15 mixed (by kernel_rfl) ?_
  conv=>arg 6;dsimp only[List.take]
  refine .mo rfl<|.mo rfl<|.mo rfl<|.fa rfl<|.lo rfl ?_
  refine .aL n.a.toNat e b9 (λc8=>?_) rfl rfl (by omega)
  refine .lo rfl<|.mo rfl<|.fa rfl<|.lo rfl ?_
  refine .aL (i-1) e b7 (λc9=>?_) rfl rfl (by omega)
  refine .lo rfl<|.q .NL ?_
  refine .q (.i64 ((max (S.getD n.a.toNat (0,0)).2 (S.getD (i-1) (0,0)).2+1:Nat):Int) .add ⟨by omega,by omega,by omega⟩) ?_
  refine .aL i e a1 (λd0=>?_)
  refine .nil ?_
  refine .du i e a1 (max (S.getD n.a.toNat (0,0)).2 (S.getD (i-1) (0,0)).2+1) (λU O=>?_)
  rw[jG a4]at O
  refine .nil<|aX<|aw<|.region ?_
  refine .ia (i+1) .add ?_
  refine .mo rfl<|.nil ?_
  ·first
      |exact bm (i+1,S++[(1,1)],T,U) ⟨W,by simp[o],by simp only;rw[Y,I],m.step (by rw[o];exact J) I,by simp only;rw[K,aeB];exact N,by simp only;rw[K,aeB];exact O⟩ (by simp only;omega) kE.c.c.c.c.c.c (aQ [1,1])
      |exact bm (i+1,S++[((S.getD n.a.toNat (0,0)).1+(S.getD (i-1) (0,0)).1+1,max (S.getD n.a.toNat (0,0)).2 (S.getD (i-1) (0,0)).2+1)],T,U) ⟨W,by simp[o],by simp only;rw[Y,I],m.step (by rw[o];exact J) I,by simp only;rw[K,aeB];exact N,by simp only;rw[K,aeB];exact O⟩ (by simp only;omega) kE.c.c.c.c.c.c (aQ [1,1])
  have b2:i=l.length:=by have:=bF h1;omega
  subst b2
  rw[afc]at Q
  rw[Nat.sub_self]at d e
  simp only[List.replicate_zero,afa]at d e
  have b4:=h.le
  refine .exit<|bo<|bs<|bp<|aw<|.seq<|.seq ?_
  refine bx.cZ [(0,_),(4,_)] kE.c.c (X:=Unit) (λ_=>True) (λ_ E=>(124,.bool (decide (l=[]\/(S.getD (l.length-1) (0,0)).1≠l.length)))::E) (λ_=>[w,A]) ?_ ?_
  refine .region<|.mo rfl<|.q (.bO h) ?_
  refine .q .bY<|.mo rfl ?_
  refine .split (t:=114) rfl (λg=>?_) (λg=>?_)
  refine .gF g<|.gF g<|.gF g<|.gF g<|.gF g<|.gF g<|.gF g<|.gF g<|.gF g<|.q (.aU g) ?_
  refine .nil ?_
  ·exact aG () aeu (kE.c.c.ca rfl (by clear s m d e;rcases l with _|⟨x,l⟩<;>simp at * <;>grind)) rH
  have b3:1<=l.length:=by have:=bF g;omega
  have b0:(S.map (·.1))[l.length-1]? =some (S.getD (l.length-1) (0,0)).1:=by rw[aeA,aV (by omega),aeD,aV (by omega)];rfl
  refine .gT g<|.mo rfl<|.gT g<|.mo rfl<|.gT g<|.q (.bO h) ?_
  refine .gT g ?_
  refine .q (.i64 ((l.length:Int)-1) .sub ⟨rfl,by omega,by omega⟩) ?_
  refine .gT g ?_
  refine .aL (l.length-1) d b0 (λd5=>?_) rfl rfl (by omega)
  refine .gT g<|.lo rfl<|.gT g<|.mo rfl<|.gT g<|.q (.bO h) ?_
  refine .gT g<|.q .dZ<|.q (.aR g) ?_
  refine .nil ?_
  ·exact aG () aeu (kE.c.c.ca rfl (by clear s m d e;rcases l with _|⟨x,l⟩<;>simp at * <;>grind)) rH
  intro y hy
  refine aw ?_
  refine .cond rfl (λh5=>?_) λh5=>?_
  refine .sr<|.az rfl ?_
  refine .ret (aK (aN rfl ?_))
  ·refine⟨?_,rfl⟩
   unfold oR
   rw[Q]
   simp only
   rw[aex (bX h5)]
   rfl
  have a8:=bF h5
  have b3:1<=l.length:=by rcases l with _|⟨x,l⟩<;>simp at a8⊢
  have b1:(S.map (·.2))[l.length-1]? =some (S.getD (l.length-1) (0,0)).2:=by rw[aeA,aV (by omega),aeD,aV (by omega)];rfl
  refine .kn<|.sr<|.mo rfl<|.mo rfl<|.q (.bO h) ?_
  refine .q (.i64 ((l.length:Int)-1) .sub ⟨rfl,by omega,by omega⟩) ?_
  refine .aL (l.length-1) e b1 (λd6=>?_) rfl rfl (by omega)
  refine .lo rfl<|.az rfl ?_
  refine .ret (aN rfl ?_)
  ·refine⟨?_,rfl⟩
   unfold oR
   rw[Q]
   simp only
   rw[aew a8]
theorem Ty.kinds(t:Ty):eN [.s,.s] t.enc:=⟨aeu,aeu,aeu⟩
theorem Ty.eq(a b:Ty):eR a.enc b.enc=decide (a=b):=by
 obtain⟨c,d⟩:=a
 obtain⟨e,f⟩:=b
 rw[Bool.eq_iff_iff]
 simp[Ty.enc,eR,m5]
theorem Nl(t:Ty)(f:t.fits)(R:ay):Spec prog 177 [.agg t.enc.toArray] R [] λu H'=>u=.bool (ik isWord t)/\H'=[]:=by
 obtain⟨s,r⟩:=t
 obtain⟨d,e⟩:=f
 simp only at d e
 refine Spec.body func177 rfl results177 ntmps177 rfl<|.sr ?_
 refine .cx rfl (λg=>?_)
 refine .ag rfl<|.z<|.q (.aT rfl)<|.q .cR<|.q (.cast (.nT (xs:=Ty.enc ⟨s,r⟩) (ys:=Ty.enc ⟨⟨#[]⟩,⟨#[]⟩⟩) rfl rfl (Ty.kinds _) (Ty.kinds _)) (aey Value.bool (Ty.eq _ _)))<|.mo rfl<|.split (t:=6) rfl (λa=>?_) (λa=>?_)
 refine .gF a<|.gF a<|.gF a<|.gF a<|.dc rfl<|.dc rfl<|.dc rfl<|.gF a<|.q (.aU a)<|.az rfl<|.ret (aN rfl ?_)
 ·refine⟨aey _ ?_,rfl⟩
  simp only[ik]
  grind
 refine .gT a<|.fa rfl<|.gT a<|.lo rfl<|.gT a<|.ba (kG s d _) (λu c=>?_)
 subst c
 refine .gT a<|.mo rfl<|.split (t:=10) rfl (λb=>?_) (λb=>?_)
 refine .gT b<|.fa rfl<|.gT b<|.lo rfl<|.gT b<|.ba (kG r e _) (λu c=>?_)
 subst c
 refine .gT a<|.q (.aU b)<|.q (.aR a)<|.az rfl<|.ret (aN rfl ?_)
 ·refine⟨aey _ ?_,rfl⟩
  simp only[ik]
  grind
 refine .gF b<|.gF b<|.gF b<|.gT a<|.q (.aR b)<|.q (.aR a)<|.az rfl<|.ret (aN rfl ?_)
 ·refine⟨aey _ ?_,rfl⟩
  simp only[ik]
  grind
theorem Pf(t:Ty)(a:t.fits)(R:ay):Spec prog 176 [.agg t.enc.toArray] R [] λu H'=>u=.bool (!ik isWord t)/\H'=[]:=by
 refine Spec.body func176 rfl results176 ntmps176 rfl<|.sr ?_
 refine .cx rfl (λc=>?_)
 refine .ag rfl<|.z<|.q (.aT rfl)<|.ba (Nl t a _) (λu b=>?_)
 subst b
 refine .q .not<|.az rfl<|.ret (aN rfl ?_)
 ·exact⟨rfl,rfl⟩
theorem Pg(s:Sc)(h:s.fits)(R:ay):Spec prog 179 [.agg s.enc.toArray] R [] λu H'=>u=.bool (!kA isWord dj s)/\H'=[]:=by
 obtain⟨n,j,i,r⟩:=s
 obtain⟨d,e,f,g⟩:=h
 simp only at d e f g
 refine Spec.body func179 rfl results179 ntmps179 rfl<|.sr ?_
 refine .cx rfl (λk=>?_)
 refine .ag rfl<|.z<|.fa rfl<|.lo rfl<|.ba (kG n d _) (λu c=>?_)
 subst c
 refine .q .not<|.mo rfl<|.split (t:=7) rfl (λb=>?_) (λb=>?_)
 refine .gF b<|.gF b<|.gF b<|.gF b<|.q (.aU b)<|.mo rfl<|.gX<|.gX<|.gX<|.gX<|.q .cQ<|.az rfl<|.ret (aN rfl ?_)
 ·refine⟨aey _ ?_,rfl⟩
  simp only[kA]
  grind
 refine .gT b<|.fa rfl<|.gT b<|.q (.loadT rfl)<|.gT b<|.ba (tL j i e f _) (λu c=>?_)
 subst c
 refine .gT b<|.q .dZ<|.q (.aR b)<|.mo rfl<|.split (t:=13) rfl (λa=>?_) (λa=>?_)
 refine .gF a<|.gF a<|.gF a<|.gF a<|.q (.aU a)<|.az rfl<|.ret (aN rfl ?_)
 ·refine⟨aey _ ?_,rfl⟩
  simp only[kA]
  grind
 refine .gT a<|.fa rfl<|.gT a<|.lo rfl<|.gT a<|.ba (kG r g _) (λu c=>?_)
 subst c
 refine .gT a<|.q .not<|.q (.aR a)<|.az rfl<|.ret (aN rfl ?_)
 ·refine⟨aey _ ?_,rfl⟩
  simp only[kA]
  grind
theorem NT(p:cb)(R:ay)(h:p.is R)(R':ay)(g:∀b o,R b o->R' b o):Spec prog 161 [.agg p.enc.toArray] R' [] λu H'=>u=.bool (iJ isWord p.r)/\H'=[]:=by
 obtain⟨l,f,r⟩:=p
 have j:RS R 2 Ty.enc l r.types:=h.t
 have e:RS R 5 Nd.enc f r.nodes:=h.d
 refine Spec.body func161 rfl results161 ntmps161 rfl<|.sr ?_
 refine .cx rfl (λm=>?_)
 refine .ag rfl<|.z<|.fa rfl<|.lo rfl<|.q (.bO j)<|.q .gtr<|.mo rfl<|.split (t:=7) rfl (λc=>?_) (λc=>?_)
 refine .gF c<|.gF c<|.gF c<|.gF c<|.q (.aU c)<|.mo rfl<|.gX<|.gX<|.gX<|.gX<|.q .cQ<|.az rfl<|.ret (aN rfl ?_)
 ·refine⟨aey _ ?_,rfl⟩
  simp only[iJ]
  grind
 refine .gT c<|.fa rfl<|.gT c<|.lo rfl<|.gT c<|.q (.bO e)<|.gT c<|.q .gtr<|.q (.aR c)<|.mo rfl<|.split (t:=13) rfl (λa=>?_) (λa=>?_)
 refine .gF a<|.gF a<|.gF a<|.gF a<|.q (.aU a)<|.az rfl<|.ret (aN rfl ?_)
 ·refine⟨aey _ ?_,rfl⟩
  simp only[iJ]
  grind
 have n:r.nodes.length<=64:=by grind
 refine .gT a<|.fa rfl<|.gT a<|.lo rfl<|.gT a<|.ba ((xy f r.nodes R e h.fd (by omega)).weaken λb o i=>.inl (g b o i)) (λu k=>?_)
 subst k
 refine .gT a<|.q .gtr<|.q (.aR a)<|.az rfl<|.ret (aN rfl ?_)
 ·refine⟨aey _ ?_,rfl⟩
  simp only[iJ]
  grind
theorem BK(c:bJ)(R:ay)(h:c.is R):Spec prog 100 [.agg c.enc.toArray] R [] λu H'=>u=.bool (!c.plain.jq isWord)/\H'=[]:=by
 rw[qw]
 obtain⟨H,F,e,C⟩:=c
 have g:=h.ss
 have v:=h.sc
 have S:=g.aB
 have T:=v.aB
 simp only at g v S T⊢
 have W:=g.le
 refine Spec.body func100 rfl results100 ntmps100 rfl<|.sr ?_
 refine .cx rfl (λx=>?_)
 refine .ag rfl<|.zs<|.seq ?_
 refine bx.cZ [(1,_)] kE.c (X:=Unit) (λ_=>True) (λ_ E=>(14,.bool (decide (16<e.length)||decide (16<C.length)))::E) (λ_=>[bl x [H,F] 25]) ?_ ?_
 refine .region<|.fa rfl<|.lo rfl<|.q (.bO g)<|.q .gtr<|.mo rfl<|.split (t:=9) rfl (λa=>?_) (λa=>?_)
 refine .gF a<|.gF a<|.gF a<|.gF a<|.q (.aU a)<|.nil ?_
 ·exact aG () aeu (kE.c.ca rfl (by grind)) rH
 refine .gT a<|.fa rfl<|.gT a<|.lo rfl<|.gT a<|.q (.bO v)<|.gT a<|.q .gtr<|.q (.aR a)<|.nil ?_
 ·exact aG () aeu (kE.c.ca rfl (by grind)) rH
 intro y Q
 refine aw<|.cond rfl (λn=>?_) λn=>?_
 refine .sr<|.az rfl<|.ret (aK (aN rfl ?_))
 ·exact⟨by rw[n];rfl,rfl⟩
 refine .kn<|.seq<|.sr<|.fa rfl<|.lo rfl<|.q (.bO g)<|.mo rfl<|.zn<|.block<|.cF [(16,_),(17,_)] (X:=Nat) (λi=>i<=e.length/\(e.take i).any il=false) (λi E=>(18,iN i)::E) (λ_ G=>G) (λi=>e.length-i) 0 ⟨aev _,rfl⟩ kE.c.c.c rH ?_
 rintro i ⟨V,A⟩
 refine .sr<|.q .lss<|.zs<|.cond rfl (λp=>?_) λp=>?_
 have z:i<e.length:=cy p
 obtain⟨⟨D,m,k⟩,j⟩:=bW z
 have w:=h.all _ (aW j)
 have B:RS R 3 cb.enc m k:=w.rs
 have Y:cC (cq.enc ⟨D,m,k⟩):=⟨w.dg⟩
 refine .kn<|.seq<|.block<|.sr ?_
 refine .bG i g j (λZ=>?_)
 refine .q (.aT rfl) ?_
 refine .bU (λU=>?_)
 refine .bP rfl rfl<|.zs ?_
 refine bx.cZ [(16,_),(17,_),(18,_)] kE.c.c.c (X:=Unit) (λ_=>True) (λ_ E=>(30,.bool (il ⟨D,m,k⟩))::E) (λ_=>[bl x [H,F] 25]) ?_ ?_
 refine .region<|.fa rfl<|.lo rfl<|.q (.bO B)<|.q .gtr<|.mo rfl<|.split (t:=26) rfl (λd=>?_) (λd=>?_)
 refine .gF d<|.gF d<|.gF d<|.q (.aU d)<|.nil ?_
 ·exact aG () aeu (kE.c.c.c.ca rfl (by unfold il;simp only;grind)) (aQ [1])
 refine .gT d<|.fa rfl<|.gT d<|.lo rfl<|.gT d<|.ba (LRE.jN 161 [] (λr=>iJ isWord r.r) m k _ B.rx (λr N I K=>NT r R (w.all r N) I λb o L=>K b o (.inl L))) (λu O=>?_)
 subst O
 refine .q (.aR d)<|.nil ?_
 ·exact aG () aeu (kE.c.c.c.ca rfl (by unfold il;simp only;grind)) (aQ [1])
 intro y Q
 refine aw<|.cond rfl (λs=>?_) λs=>?_
 refine .sr<|.az rfl<|.ret (br (aK (cI (br (aK (aN rfl ?_))))))
 ·refine⟨?_,rfl⟩
  rw[rn j (f:=il) s,afd]
  rfl
 refine .skip<|aX<|aw<|.region<|.ia (i+1) .add<|.mo rfl<|.nil ?_
 ·exact bm (i+1) ⟨z,tv j A s⟩ (by omega) kE.c.c.c rH
 refine .exit<|bo<|bs<|bp<|aw<|.sr<|.az rfl<|.ret (aN rfl ?_)
 ·refine⟨?_,rfl⟩
  have J:(decide (16<e.length)||decide (16<C.length))=false:=n
  have M:e.any il=false:=by rw[<-dP (l:=e) (i:=i) (by have:=bF p;omega)];exact A
  rw[J,M]
  rfl
theorem Ph(c:bJ)(R:ay)(h:c.is R):Spec prog 120 [.agg c.enc.toArray] R [] λu H'=>u=.bool (c.plain.right isWord dj)/\H'=[]:=by
 have hw:=BK c R h
 have o:c.plain.jq isWord=false->c.iZ/\∀s∈c.bg,∀r∈s.bN,r.r.nodes.length<=64:=λx=>by
  rw[qw]at x
  simp only[afp,afq,List.any_eq_false,aeO]at x
  refine⟨⟨by omega,λs a=>?_⟩,λs a r o=>?_⟩
  ·have:=x.2 s a
   unfold il at this
   simp only[afb,ae1,not_or,aeO]at this
   exact this.1
  ·have:=x.2 s a
   unfold il at this
   simp only[afb,ae1,not_or,aeO,List.any_eq_true,not_exists,not_and]at this
   have p:=this.2 r o
   unfold iJ at p
   simp only[afb,ae1,not_or,aeO]at p
   exact p.1.2
 rw[AB]
 generalize a9:c.plain.jq isWord=mu at *
 obtain⟨vs,W,A,a5⟩:=c
 have C:=h.ss
 have N:=h.sc
 have i1:=C.aB
 have i2:=N.aB
 simp only at C N i1 i2⊢
 have a7:=C.le
 refine Spec.body func120 rfl results120 ntmps120 rfl<|.sr ?_
 refine .cx rfl (λY=>?_)
 refine .ag rfl<|.zs<|.sr<|.q (.aT rfl)<|.ba (hw.weaken da) (λu g=>?_)
 subst g
 refine .q .not<|.zn<|.cond rfl (λJ=>?_) λJ=>?_
 have a2:mu=true:=by simpa using J
 refine .sr<|.az rfl<|.ret (aK (aN rfl ?_))
 ·refine⟨?_,rfl⟩
  rw[a2]
  simp
 have S:mu=false:=by simpa using J
 obtain⟨a6,T⟩:=o S
 simp only at T
 refine .kn<|.seq<|.sr<|.fa rfl<|.lo rfl<|.q (.bO C)<|.mo rfl<|.zn<|.block<|.cF [(1,_),(11,_),(12,_)] (X:=Nat) (λi=>i<=A.length/\(A.take i).all gZ=true) (λi E=>(13,iN i)::E) (λ_ G=>G) (λi=>A.length-i) 0 ⟨aev _,rfl⟩ kE.c.c.c.c rH ?_
 rintro i ⟨hi,U⟩
 refine .sr<|.q .lss<|.zs<|.cond rfl (λp=>?_) λp=>?_
 have Q:i<A.length:=cy p
 obtain⟨⟨D,H,j⟩,a⟩:=bW Q
 have F:=h.all _ (aW a)
 have M:RS R 3 cb.enc H j:=F.rs
 have a8:=M.le
 have b3:cC (cq.enc ⟨D,H,j⟩):=⟨F.dg⟩
 refine .kn<|.seq<|.block<|.sr ?_
 refine .bG i C a (λb5=>?_)
 refine .q (.aT rfl) ?_
 refine .bU (λZ=>?_)
 refine .bP rfl rfl<|.zs<|.sr<|.fa rfl<|.lo rfl<|.ba (kG D F.n _) (λu g=>?_)
 subst g
 refine .q .not<|.zn<|.cond rfl (λK=>?_) λK=>?_
 refine .sr<|.az rfl<|.ret (aK (br (aK (cI (br (aK (aN rfl ?_)))))))
 ·refine⟨?_,rfl⟩
  rw[lv a (f:=gZ) (by unfold gZ;simp only;rw[show isWord D=false by simpa using K];rfl)]
  rfl
 refine .kn<|.sr<|.fa rfl<|.lo rfl<|.q (.bO M)<|.mo rfl<|.zn<|.block<|.cF [(1,_),(11,_),(12,_),(13,_),(22,_),(23,_)] (X:=Nat) (λk=>k<=j.length/\(j.take k).all jt=true) (λk E=>(24,iN k)::E) (λ_ G=>G) (λk=>j.length-k) 0 ⟨aev _,rfl⟩ kE.c.c.c.c.c.c.c rH ?_
 rintro k ⟨hk,V⟩
 refine .sr<|.q .lss<|.zs<|.cond rfl (λL=>?_) λL=>?_
 have O:k<j.length:=cy L
 obtain⟨⟨w,v,r⟩,o⟩:=bW O
 have z:=F.all _ (aW o)
 have a4:RS R 2 Ty.enc w r.types:=z.t
 have a3:RS R 5 Nd.enc v r.nodes:=z.d
 have b0:cC (cb.enc ⟨w,v,r⟩):=⟨z.dg⟩
 have b2:r.nodes.length<=64:=T _ (aW a) _ (aW o)
 refine .kn<|.seq<|.block<|.sr ?_
 refine .bG k M o (λb7=>?_)
 refine .q (.aT rfl) ?_
 refine .bU (λb6=>?_)
 refine .bP rfl rfl<|.zs ?_
 refine bx.cZ [(1,_),(11,_),(12,_),(13,_),(22,_),(23,_),(24,_)] kE.c.c.c.c.c.c.c (X:=Unit) (λ_=>True) (λ_ E=>(42,.bool (!jt ⟨w,v,r⟩))::E) (λ_=>[bl Z (cq.enc ⟨D,H,j⟩) 164,bl Y [vs,W] 25]) ?_ ?_
 refine .region<|.fa rfl<|.lo rfl<|.ba (kG r.name z.n _) (λu g=>?_)
 subst g
 refine .q .not<|.mo rfl<|.split (t:=32) rfl (λb=>?_) (λb=>?_)
 refine .gF b<|.gF b<|.gF b<|.gF b<|.q (.aU b)<|.mo rfl<|.gX<|.gX<|.gX<|.q .cQ<|.nil ?_
 ·exact aG () aeu (kE.c.c.c.c.c.c.c.ca rfl (by
   have e:(r.types.any λt=> !ik isWord t)= !mL ⟨w,v,r⟩:=by unfold mL;simp[afj]
   unfold jt
   simp only[e]at *
   grind)) (aQ [1,1])
 refine .gT b<|.fa rfl<|.gT b<|.lo rfl<|.gT b<|.ba ((xy v r.nodes R a3 z.fd (by omega)).weaken da) (λu g=>?_)
 subst g
 refine .gT b<|.q .bY<|.q (.aR b)<|.mo rfl<|.split (t:=38) rfl (λm=>?_) (λm=>?_)
 refine .gF m<|.gF m<|.gF m<|.q (.aU m)<|.nil ?_
 ·exact aG () aeu (kE.c.c.c.c.c.c.c.ca rfl (by
   have e:(r.types.any λt=> !ik isWord t)= !mL ⟨w,v,r⟩:=by unfold mL;simp[afj]
   unfold jt
   simp only[e]at *
   grind)) (aQ [1,1])
 refine .gT m<|.fa rfl<|.gT m<|.lo rfl<|.gT m<|.ba (LTY.jN 176 [] (λt=> !ik isWord t) w r.types _ a4.rx (λt ht I a0=>Pf t (z.ft t ht) I)) (λu g=>?_)
 subst g
 refine .q (.aR m)<|.nil ?_
 ·exact aG () aeu (kE.c.c.c.c.c.c.c.ca rfl (by
   have e:(r.types.any λt=> !ik isWord t)= !mL ⟨w,v,r⟩:=by unfold mL;simp[afj]
   unfold jt
   simp only[e]at *
   grind)) (aQ [1,1])
 intro y hy
 refine aw<|.cond rfl (λB=>?_) λB=>?_
 refine .sr<|.az rfl<|.ret (br (aK (cI (br (br (aK (cI (br (aK (aN rfl ?_))))))))))
 ·refine⟨?_,rfl⟩
  rw[lv a (f:=gZ) (by unfold gZ;simp only;rw[lv o (f:=jt) (by simpa using B),aeH])]
  rfl
 refine .skip<|aX<|aw<|.region<|.ia (k+1) .add<|.mo rfl<|.nil ?_
 ·exact bm (k+1) ⟨O,m1 o V (by simpa using B)⟩ (by omega) kE.c.c.c.c.c.c.c rH
 have x:gZ ⟨D,H,j⟩=true:=by
  have B:j.all jt=true:=by rw[<-dP (l:=j) (i:=k) (by have:=bF L;omega)];exact V
  unfold gZ
  simp only[B,aeF]
  simpa using K
 refine .exit<|bo<|bs<|bp<|aX<|aw<|.region<|.ia (i+1) .add<|.mo rfl<|.nil ?_
 ·exact bm (i+1) ⟨Q,m1 a U x⟩ (by omega) kE.c.c.c.c (aQ [1])
 have a1:A.all gZ=true:=by rw[<-dP (l:=A) (i:=i) (by have:=bF p;omega)];exact U
 refine .exit<|bo<|bs<|bp<|aw<|.sr<|.fa rfl<|.lo rfl<|.ba (LSC.jN 179 [] (λs=> !kA isWord dj s) W a5 _ N.rx (λs a I a0=>Pg s (h.fc s a) I)) (λu g=>?_)
 subst g
 refine .q .not<|.az rfl<|.ret (aN rfl ?_)
 ·refine⟨?_,rfl⟩
  rw[a1,S]
  simp[afj]
instance Ty.uC:fw prog 249 (λk:Ty=>.agg k.enc.toArray):=fw.agg ya underlying249 rfl Ty.kinds Ty.eq
abbrev gw:=Nat×Nat
def lA(p:gw):List Value:=[iN p.1,iN p.2]
instance(p:gw):cC (lA p):=⟨by simp[lA,aB]⟩
abbrev ma(k:Ty):Value:=.agg k.enc.toArray
abbrev lO(p:gw):Value:=.agg (lA p).toArray
theorem Ba(i:Nat)(a:ByteArray):∀{rs:List Rl} {b k:Nat} {r:Rl},rs[k]? =some r->(lJ i a b rs)[k]? =some ((⟨a,r.name⟩:Ty),(i,b+k))
 |[],b,k,r,h=>by simp at h
 |x::rs,b,0,r,h=>by simp only[aeZ,ae0]at h;subst h;rfl
 |x::rs,b,k+1,r,h=>by
  rw[lJ,List.getElem?_cons_succ,Ba i a (rs:=rs) (b:=b+1) (k:=k) (r:=r) (by simpa using h)]
  rw[show b+1+k=b+(k+1) by omega]
theorem Bc:∀{l:List Sp} {b i k:Nat} {s:Sp} {r:Rl},l[i]? =some s->s.bN[k]? =some r->(gU b l)[cJ l i+k]? =some ((⟨s.name,r.name⟩:Ty),(b+i,k))
 |[],b,i,k,s,r,h,_=>by simp at h
 |x::l,b,0,k,s,r,h,hr=>by
  simp only[aeZ,ae0]at h
  subst h
  have a:=(aeT.1 hr).1
  rw[gU,List.getElem?_append_left (by rw[ot];simpa[cJ]using a)]
  simpa[cJ]using Ba b x.name (b:=0) hr
 |x::l,b,i+1,k,s,r,h,hr=>by
  rw[gU,cJ,List.getElem?_append_right (by rw[ot];omega),ot,show x.bN.length+cJ l i+k-x.bN.length=cJ l i+k by omega,Bc (l:=l) (b:=b+1) (by simpa using h) hr,show b+1+i=b+(i+1) by omega]
theorem vV:∀(l:List Sp) (b:Nat),(gU b l).length=total l
 |[],b=>rfl
 |s::l,b=>by
  have:=vV l (b+1)
  unfold total at this⊢
  rw[gU,aeG,ot,this,ae2,cJ]
theorem zH(t:Ty):∀M:List (Ty×gw),de t M=look t M
 |[]=>rfl
 |(k,x)::M=>by
  have a:=zH t M
  unfold look at a⊢
  rw[de,List.find?_cons]
  by_cases e:t=k
  ·subst e;simp
  ·rw[aew e,a]
   have:decide (k=t)=false:=aeK λh=>e h.symm
   simp only[this]
def mi(M:List (ByteArray×Bool))(l:List ByteArray):Prop:=∀k,de k M=if k∈l then some true else none
theorem mi.nil:mi [] []:=λk=>by simp[de]
theorem mi.add{M:List (ByteArray×Bool)}{l:List ByteArray}(h:mi M l)(t:ByteArray):mi (dH t true M) (l++[t]):=λk=>by
 rw[oZ,h k]
 by_cases e:k=t
 ·simp[e]
 ·simp[e]
def pW(xb:Nat)(c:bJ)(T:ax):Prop:=∃vm Tm,T=(xb,.cells [c.vs,c.vc,vm].toArray 318 (0,0))::Tm/\MS ma lO vm (gU 0 c.plain.bg) Tm
theorem N9(c:bJ)(R:ay)(h:c.is R):Spec prog 121 [.agg c.enc.toArray] R [] λu H'=>∃T,H'=[T]/\((c.plain.dR/\∃xb,u=.tuple [pT xb,.bool true].toArray/\pW xb c T)\/(¬c.plain.dR/\u=.tuple [.pointer none,.bool false].toArray)):=by
 have c1:∀(i:Nat) s,c.bg[i]? =some s->c.plain.bg[i]? =some s.plain:=λi s n=>by unfold bJ.plain;simp only;rw[aeA,n];rfl
 have c2:c.plain.bg.length=c.bg.length:=by unfold bJ.plain;simp
 have K:c.plain.dR↔(c.bg.map (·.name)).Nodup/\((gU 0 c.plain.bg).map (·.1)).Nodup/\(c.scopes.map (·.name)).Nodup:=by
  unfold Cf.dR
  rw[vU]
  simp only[bJ.plain,aeJ]
  exact Iff.rfl
 have b0:∀xb T,pW xb c T↔∃vm Tm,T=(xb,.cells [c.vs,c.vc,vm].toArray 318 (0,0))::Tm/\MS ma lO vm (gU 0 c.plain.bg) Tm:=λ_ _=>Iff.rfl
 have d6:=vV c.plain.bg 0
 generalize e5:c.plain=pl at *
 generalize hS:gU 0 pl.bg=S at *
 have d5:∀i k s (r:Rl),pl.bg[i]? =some s->s.bN[k]? =some r->S[cJ pl.bg i+k]? =some ((⟨s.name,r.name⟩:Ty),(i,k)):=λi k s r A B=>by
  have:=Bc (b:=0) A B
  rw[hS,Nat.zero_add]at this
  exact this
 obtain⟨W,V,f,o⟩:=c
 have J:=h.ss
 have I:=h.sc
 have i1:=J.aB
 have i2:=I.aB
 simp only at J I i1 i2 c1 c2 K b0⊢
 have e2:=J.le
 have e1:=I.le
 refine Spec.body func121 rfl results121 ntmps121 rfl ?_
 refine .sr ?_
 refine .cx rfl (λb1=>?_)
 refine .ag rfl<|.ag rfl<|.z<|.q (.aT rfl) ?_
 refine .makeMap (λx=>?_)
 refine .q .cR ?_
 refine .cx rfl (λY=>?_)
 refine .ag rfl<|.z ?_
 refine .makeMap (λa8=>?_)
 refine .ag rfl<|.zs<|.sr<|.fa rfl<|.lo rfl<|.q (.bO J) ?_
 refine .mo rfl<|.zn<|.block ?_
 refine .cF [(1,_),(4,_),(5,_),(22,_),(23,_)] (G:=[bl Y [W,V,.map (some x)] 318,bl b1 [W,V] 25]) (X:=Nat×List (ByteArray×Bool)×ax×ax) (λy=>y.1<=f.length/\((f.map (·.name)).take y.1).Nodup/\mi y.2.1 ((f.map (·.name)).take y.1)/\MS ma lO (.map (some x)) (S.take (cJ pl.bg y.1)) y.2.2.1/\MS (λs:ByteArray=>.string s) (λb:Bool=>.bool b) (.map (some a8)) y.2.1 y.2.2.2) (λy E=>(24,iN y.1)::E) (λy G=>y.2.2.1::y.2.2.2::G) (λy=>f.length-y.1) (0,[],[(x,.map #[] 0)],[(a8,.map #[] 0)]) ⟨aev _,by simp,by simpa using mi.nil,by rw[show cJ pl.bg 0=0 by cases pl.bg<;>rfl];exact MS.nil,MS.nil⟩ kE.c.c.c.c.c.c (aQ [2,0,0,0]) ?_
 rintro⟨i,M,O,Tb⟩ ⟨hi,Q,a5,g,a0⟩
 simp only at hi Q a5 g a0⊢
 refine .sr<|.q .lss<|.zs ?_
 refine .cond rfl (λA=>?_) λA=>?_
 have b6:i<f.length:=cy A
 obtain⟨⟨d,N,m⟩,n⟩:=bW b6
 have a4:=h.all _ (aW n)
 have a3:RS R 3 cb.enc N m:=a4.rs
 have e3:=a3.le
 have e6:cC (cq.enc ⟨d,N,m⟩):=⟨a4.dg⟩
 have w:(f.map (·.name))[i]? =some d:=by rw[aeA,n];rfl
 have c0:=c1 i _ n
 have b8:=o7 c0
 rw[show(cq.plain ⟨d,N,m⟩).bN.length=m.length by simp[cq.plain]]at b8
 refine .kn<|.seq<|.block<|.sr<|.mo rfl ?_
 refine .bG i J n (λe7=>?_)
 refine .q (.aT rfl) ?_
 refine .bU (λb7=>?_)
 refine .ag rfl<|.bP rfl rfl<|.zs<|.sr<|.mo rfl<|.fa rfl<|.lo rfl ?_
 refine .q (.n3 a0.rx rfl (key:=d) rfl (show _=Value.bool (decide (d∈(f.map (·.name)).take i))from by rw[a5 d];split<;>simp_all)) ?_
 refine .zn ?_
 refine .cond rfl (λB=>?_) λB=>?_
 refine .sr<|.ag rfl<|.az rfl ?_
 refine .ret (aK (br (aK (cI (br (aK (bj _ (.two (.tmp rfl) (.tmp rfl)) (.one [0] _) ?_)))))))
 ·refine⟨_,rfl,.inr ⟨λD=>?_,rfl⟩⟩
  have v:d∈(f.map (·.name)).take i:=by simpa using B
  obtain⟨q,H,e⟩:=aeV.1 v
  rw[aeC]at H
  rw[aff]at e
  exact oc (show q<i by omega) w (aV (by omega)) e.symm (K.1 D).1
 have a2:d∉(f.map (·.name)).take i:=by simpa using B
 have d0:((f.map (·.name)).take (i+1)).Nodup:=by rw[ec w,afo];exact⟨Q,by simp,λa ha b C=>by rw[aeS]at C;subst C;intro e;subst e;exact a2 ha⟩
 have d7:mi (dH d true M) ((f.map (·.name)).take (i+1)):=by rw[ec w];exact a5.add d
 refine .kn<|.sr<|.mo rfl<|.fa rfl<|.lo rfl ?_
 refine .update (key:=d) (u:=true) a0 rfl rfl rfl (λa7 c5 _=>?_)
 refine .z<|.fa rfl<|.lo rfl<|.q (.bO a3) ?_
 refine .mo rfl<|.zn<|.block ?_
 refine .cF [(1,_),(4,_),(5,_),(6,_),(7,_),(22,_),(23,_),(24,_),(37,_),(38,_)] (G:=[a7,bl b7 (cq.enc ⟨d,N,m⟩) 164,bl Y [W,V,.map (some x)] 318,bl b1 [W,V] 25]) (X:=Nat×ax) (λy=>y.1<=m.length/\MS ma lO (.map (some x)) (S.take (cJ pl.bg i+y.1)) y.2) (λy E=>(39,iN y.1)::E) (λy G=>y.2::G) (λy=>m.length-y.1) (0,O) ⟨aev _,g⟩ kE.c.c.c.c.c.c.c.c.c.c.c (aQ [1,1,0,0,0]) ?_
 rintro⟨k,O⟩ ⟨hk,g⟩
 simp only at hk g⊢
 refine .sr<|.q .lss<|.zs ?_
 refine .cond rfl (λZ=>?_) λZ=>?_
 have b5:k<m.length:=cy Z
 obtain⟨⟨vt,vn,r⟩,hr⟩:=bW b5
 have d4:=a4.all _ (aW hr)
 have e4:cC (cb.enc ⟨vt,vn,r⟩):=⟨d4.dg⟩
 have d3:(cq.plain ⟨d,N,m⟩).bN[k]? =some r:=by unfold cq.plain;simp only;rw[aeA,hr];rfl
 have b3:S[cJ pl.bg i+k]? =some ((⟨d,r.name⟩:Ty),(i,k)):=d5 i k _ r c0 d3
 obtain⟨ps,L,d1,F⟩:∃(ps:gw) (L:Bool),[((de (⟨d,r.name⟩:Ty) (S.take (cJ pl.bg i+k))).map lO).getD (lO (0,0)),Value.bool (de (⟨d,r.name⟩:Ty) (S.take (cJ pl.bg i+k))).isSome]=[lO ps,.bool L]/\(de (⟨d,r.name⟩:Ty) (S.take (cJ pl.bg i+k))).isSome=L:=by
  cases de (⟨d,r.name⟩:Ty) (S.take (cJ pl.bg i+k))with
  |none=>exact⟨(0,0),false,rfl,rfl⟩
  |some p=>exact⟨p,true,rfl,rfl⟩
 refine .kn<|.seq<|.block<|.sr<|.mo rfl ?_
 refine .bG k a3 hr (λe8=>?_)
 refine .q (.aT rfl) ?_
 refine .bU (λb9=>?_)
 refine .ag rfl<|.bP rfl rfl<|.z<|.fa rfl<|.lo rfl<|.fa rfl<|.lo rfl ?_
 refine .q .cR ?_
 refine .bU (λd8=>?_)
 refine .bP rfl rfl<|.zs<|.seq<|.cS [10] mixed ?_
 refine .tO 0 rfl .move<|.tO 1 rfl (.nilCheck rfl)<|.tO 2 rfl (.fieldAddr rfl)<|.tO 3 rfl (.cm rfl)<|.tO 4 rfl (.aT rfl) ?_
 refine .fM 5 rfl (.cast (.oX g.rx rfl rfl) (aey (λl:List Value=>Value.tuple l.toArray) d1)) (by kernel_rfl) ?_
 refine .tO 6 rfl .move<|.tO 7 rfl .extract<|.tK 8 rfl .extract ?_
 refine .sT 9 rfl ?_
 refine .bU (λd9=>?_)
 refine .nil (Next.sub ?_)
 refine .sT 10 rfl ?_
 refine .bP rfl rfl ?_
 refine .nil (Next.mod rfl ?_)
 refine .tK 11 rfl .assign ?_
 refine RA.nil (by kernel_rfl) ?_
 refine aw<|.sr<|.mo rfl<|.zn ?_
 refine .cond rfl (λh4=>?_) λh4=>?_
 refine .sr<|.ag rfl<|.az rfl ?_
 refine .ret (aK (br (aK (cI (br (br (aK (cI (br (aK (bj _ (.two (.tmp rfl) (.tmp rfl)) (.one [0] _) ?_)))))))))))
 ·refine⟨_,rfl,.inr ⟨λD=>?_,rfl⟩⟩
  have t:L=true:=h4
  rw[t]at F
  obtain⟨p,hp⟩:=afh.1 F
  have v:=uN hp
  obtain⟨q,H,e⟩:=aeV.1 v
  rw[aeC]at H
  rw[aff]at e
  have c7:(S.map (·.1))[cJ pl.bg i+k]? =some ⟨d,r.name⟩:=by rw[aeA,b3];rfl
  have d2:(S.map (·.1))[q]? =some ⟨d,r.name⟩:=by rw[aeA,aV (by omega),e];rfl
  exact oc (show q<cJ pl.bg i+k by omega) c7 d2 rfl (K.1 D).2.1
 refine .kn ?_
 refine .dm 8 mixed (by kernel_rfl) ?_
 conv=>arg 6;dsimp only[List.take]
 refine .mo rfl<|.nc rfl<|.fa rfl<|.lo rfl<|.q (.aT rfl)<|.mo rfl<|.mo rfl ?_
 refine .q .cR ?_
 refine .nil ?_
 refine .update (key:=(⟨d,r.name⟩:Ty)) (u:=((i,k):gw)) g rfl rfl rfl (λc3 b2 _=>?_)
 rw[mD (by
  have t:L=false:=h4
  rw[t]at F
  intro v
  rw[Option.isSome_eq_false_iff,Option.isNone_iff_eq_none]at F
  exact uL.1 F v), <-ec b3]at b2
 refine .nil<|aX<|aw<|.region ?_
 refine .ia (k+1) .add ?_
 refine .mo rfl<|.nil ?_
 ·exact bm (k+1,c3) ⟨b5,b2⟩ (by simp only;omega) kE.c.c.c.c.c.c.c.c.c.c.c (aQ [3,3,3,3,3])
 have c9:k=m.length:=by have:=bF Z;omega
 rw[c9, <-b8]at g
 refine .exit<|bo<|bs<|bp<|aX<|aw<|.region ?_
 refine .ia (i+1) .add ?_
 refine .mo rfl<|.nil ?_
 ·exact bm (i+1,dH d true M,O,a7) ⟨b6,d0,d7,g,c5⟩ (by simp only;omega) kE.c.c.c.c.c.c (aQ [0,0,1,1])
 have c8:i=f.length:=by have:=bF A;omega
 subst c8
 rw[show cJ pl.bg f.length=S.length by rw[<-c2,d6];rfl,afc]at g
 rw[show f.length=(f.map (·.name)).length by rw[aez],afc]at Q
 refine .exit<|bo<|bs<|bp<|aw<|.sr ?_
 refine .makeMap (λa9=>?_)
 refine .ag rfl<|.zs<|.sr<|.fa rfl<|.lo rfl<|.q (.bO I) ?_
 refine .mo rfl<|.zn<|.block ?_
 refine .cF [(4,_),(13,_),(71,_),(72,_)] (X:=Nat×List (ByteArray×Bool)×ax) (λy=>y.1<=o.length/\((o.map (·.name)).take y.1).Nodup/\mi y.2.1 ((o.map (·.name)).take y.1)/\MS (λs:ByteArray=>.string s) (λb:Bool=>.bool b) (.map (some a9)) y.2.1 y.2.2) (λy E=>(73,iN y.1)::E) (λy G=>y.2.2::G) (λy=>o.length-y.1) (0,[],[(a9,.map #[] 0)]) ⟨aev _,by simp,by simpa using mi.nil,MS.nil⟩ kE.c.c.c.c.c rH ?_
 rintro⟨j,M3,Tc⟩ ⟨hj,U,a6,a1⟩
 simp only at hj U a6 a1⊢
 refine .sr<|.q .lss<|.zs ?_
 refine .cond rfl (λt=>?_) λt=>?_
 have b4:j<o.length:=cy t
 obtain⟨s,n⟩:=bW b4
 have w:(o.map (·.name))[j]? =some s.name:=by rw[aeA,n];rfl
 refine .kn<|.seq<|.block<|.sr ?_
 refine .bG j I n (λe9=>?_)
 refine .q (.aT rfl) ?_
 refine .bU (λe0=>?_)
 refine .bP rfl rfl<|.zs<|.sr<|.mo rfl<|.fa rfl<|.lo rfl ?_
 refine .q (.n3 a1.rx rfl (key:=s.name) rfl (show _=Value.bool (decide (s.name∈(o.map (·.name)).take j))from by rw[a6 s.name];split<;>simp_all)) ?_
 refine .zn ?_
 refine .cond rfl (λh6=>?_) λh6=>?_
 refine .sr<|.ag rfl<|.az rfl ?_
 refine .ret (aK (br (aK (cI (br (aK (bj _ (.two (.tmp rfl) (.tmp rfl)) (.one [0] _) ?_)))))))
 ·refine⟨_,rfl,.inr ⟨λD=>?_,rfl⟩⟩
  have v:s.name∈(o.map (·.name)).take j:=by simpa using h6
  obtain⟨q,H,e⟩:=aeV.1 v
  rw[aeC]at H
  rw[aff]at e
  exact oc (show q<j by omega) w (aV (by omega)) e.symm (K.1 D).2.2
 have a2:s.name∉(o.map (·.name)).take j:=by simpa using h6
 refine .kn<|.region<|.mo rfl<|.fa rfl<|.lo rfl ?_
 refine .update (key:=s.name) (u:=true) a1 rfl rfl rfl (λc4 c6 _=>?_)
 refine .nil<|aX<|aw<|.region ?_
 refine .ia (j+1) .add ?_
 refine .mo rfl<|.nil ?_
 ·exact bm (j+1,dH s.name true M3,c4) ⟨b4,by rw[ec w,afo];exact⟨U,by simp,λa ha b C=>by rw[aeS]at C;subst C;intro e;subst e;exact a2 ha⟩,by simp only;rw[ec w];exact a6.add s.name,c6⟩ (by simp only;omega) kE.c.c.c.c.c (aQ [1,1,1,1,1])
 refine .exit<|bo<|bs<|bp<|aw<|.sr<|.mo rfl<|.ag rfl<|.az rfl ?_
 refine .ret (bj _ (.two (.tmp rfl) (.tmp rfl)) (.one [3,1] _) ?_)
 ·refine⟨_,rfl,.inl ⟨K.2 ⟨Q,g.nd,?_⟩,Y,rfl,(b0 _ _).2 ⟨_,O,by simp[take,bM],g⟩⟩⟩
  rw[dP (by rw[aez];have:=bF t;omega)]at U
  exact U
theorem bz.jS{H:aP}:bz H [[]]:=⟨H.flatten,by simp⟩
structure IX(R:ay)(xb:Nat)(vm:Value)(c:bJ):Prop where
 pc:PC R (pT xb) [c.vs,c.vc,vm]
 om:One vm
 ci:c.is R
 rm:RM R ma lO vm (gU 0 c.plain.bg)
theorem RM.o0{κ β:Type} [DecidableEq κ]{R R':ay}{encK:κ->Value}{a:β->Value}{m:Value}{M:List (κ×β)}(h:RM R encK a m M)(i:∀b o,R b o->R' b o):RM R' encK a m M:=by
 obtain⟨b,d,c,e,f,g⟩:=h
 exact⟨b,d,c,e,i _ _ f,g⟩
theorem IX.mono{R R':ay}{xb:Nat}{vm:Value}{c:bJ}(h:IX R xb vm c)(a:∀b o,R b o->R' b o):IX R' xb vm c:=⟨h.pc.mono a,h.om,h.ci.mono a,h.rm.o0 a⟩
theorem pW.view{R:ay}{xb:Nat}{c:bJ}{T:ax}(h:pW xb c T)(e:c.is R):∃vm,IX (λb o=>R b o\/(b,o)∈T) xb vm c:=by
 obtain⟨vm,g,rfl,a⟩:=h
 refine⟨vm,⟨PC.of (E:=318) (fr:=(0,0)) ?_,a.one,e.mono λb o d=>.inl d,a.rm λp f=>.inr (by simp[f])⟩⟩
 exact .inr (by simp)
def bJ.valid(c:bJ)(p:gw):Prop:=∃s r,c.bg[p.1]? =some s/\s.bN[p.2]? =some r
def bJ.ix(c:bJ)(p:gw):Nat:=cJ c.plain.bg p.1+p.2
theorem OT{c:bJ}{i:Nat}{a:Sp}(h:c.plain.bg[i]? =some a):∃s,c.bg[i]? =some s/\a=s.plain:=by
 unfold bJ.plain at h
 simp only at h
 rw[aeA]at h
 cases hs:c.bg[i]? with
 |none=>rw[hs]at h;cases h
 |some s=>rw[hs]at h;exact⟨s,rfl,by simpa using h.symm⟩
theorem pa{c:bJ}{i:Nat}{s:cq}(h:c.bg[i]? =some s):c.plain.bg[i]? =some s.plain:=by unfold bJ.plain;simp only;rw[aeA,h];rfl
theorem Ak{s:cq}{k:Nat}{r:cb}(h:s.bN[k]? =some r):s.plain.bN[k]? =some r.r:=by unfold cq.plain;simp only;rw[aeA,h];rfl
theorem Pc{s:cq}{k:Nat}{a:Rl}(h:s.plain.bN[k]? =some a):∃r,s.bN[k]? =some r/\a=r.r:=by
 unfold cq.plain at h
 simp only at h
 rw[aeA]at h
 cases hs:s.bN[k]? with
 |none=>rw[hs]at h;cases h
 |some s=>rw[hs]at h;exact⟨s,rfl,by simpa using h.symm⟩
def nJ(c:bJ)(t:Ty)(ps:gw)(ok:Bool):Prop:=match bR c.plain.all t with
 |none=>ok=false
 |some j=>ok=true/\c.ix ps=j/\c.valid ps
theorem looked(c:bJ)(t:Ty):∃(ps:gw) (ok:Bool),[((de t (gU 0 c.plain.bg)).map lO).getD (lO (0,0)),Value.bool (de t (gU 0 c.plain.bg)).isSome]=[lO ps,.bool ok]/\nJ c t ps ok:=by
 have h:=Nz c.plain t
 rw[zH]
 unfold nJ
 cases hl:look t (gU 0 c.plain.bg)with
 |none=>rw[hl]at h;exact⟨(0,0),false,rfl,by rw[h]⟩
 |some p=>
  obtain⟨i,k⟩:=p
  rw[hl]at h
  obtain⟨a,s,r,b,d,_⟩:=h
  obtain⟨j,e,rfl⟩:=OT b
  obtain⟨g,f,rfl⟩:=Pc d
  exact⟨(i,k),true,rfl,by rw[a];exact⟨rfl,rfl,j,g,e,f⟩⟩
theorem vz{R:ay}{xb:Nat}{vm:Value}{c:bJ}(h:IX R xb vm c)(p:gw)(s:cq)(r:cb)(b:c.bg[p.1]? =some s)(a:s.bN[p.2]? =some r):
  Spec prog 229 [pT xb,.agg (lA p).toArray] R [] λu H'=>u=.agg r.enc.toArray/\H'=[]:=by
 obtain⟨i,k⟩:=p
 obtain⟨B,m,A,z⟩:=c
 obtain⟨o,n,r⟩:=r
 have l:=h.pc
 have d:=h.ci.ss
 have g:=d.aB
 have j:One m:=RS.aB h.ci.sc
 simp only at d g j b a l⊢
 have e:=h.ci.all _ (aW b)
 have f:=e.all _ (aW a)
 have w:cC (cb.enc ⟨o,n,r⟩):=⟨f.dg⟩
 refine Spec.body func229 rfl results229 ntmps229 rfl<|.sr ?_
 refine .cx rfl (λt=>?_)
 refine .bU (λv=>?_)
 refine .zs<|.dm 14 mixed (by kernel_rfl) ?_
 conv=>arg 6;dsimp only[List.take]
 refine .mo rfl<|.nc rfl<|.fa rfl<|.fa rfl<|.lo rfl<|.fa rfl<|.lo rfl ?_
 refine .bG i d b (λx=>?_)
 refine .fa rfl<|.lo rfl<|.fa rfl<|.lo rfl ?_
 refine .bG k e.rs a (λy=>?_)
 refine .q (.aT rfl)<|.nil<|.bP rfl rfl<|.zn ?_
 refine .ret (bj _ (.one (.fE rfl rfl)) (.none _) ?_)
 ·exact⟨rfl,rfl⟩
theorem vO(v:Value)(l:List Ty)(R:ay)(h:RS R 2 Ty.enc v l)(w:l.length<=100000):Spec prog 230 [v] R [] λu H'=>∃T,H'=[T]/\OS 249 2 Ty.enc u (dU l) T:=by
 have C:=h.aB
 have x:=h.le
 refine Spec.body func230 rfl results230 ntmps230 rfl<|.sr<|.ag rfl<|.z<|.ag rfl<|.zs<|.sr<|.mo rfl<|.q (.bO h)<|.mo rfl<|.zn<|.block<|.cF [(6,_),(7,_)] (X:=Nat×Value×ax) (λy=>y.1<=l.length/\OS 249 2 Ty.enc y.2.1 (dU (l.take y.1)) y.2.2) (λy E=>(8,iN y.1)::(3,y.2.1)::E) (λy G=>y.2.2::G) (λy=>l.length-y.1) (0,sZ,[]) ⟨aev _,OS.nil⟩ kE.c.c.c.c bz.fH ?_
 rintro⟨i,p,f⟩ ⟨n,a⟩
 simp only at n a⊢
 have B:=a.aB
 have A:(dU (l.take i)).length<=100000:=aeQ (ae3 _ _) (by rw[aeC];omega)
 refine .sr<|.q .lss<|.zs<|.cond rfl (λb=>?_) λb=>?_
 have e:i<l.length:=cy b
 obtain⟨t,j⟩:=bW e
 have g:=AY j
 refine .kn<|.seq<|.block<|.sr ?_
 refine .bG i h j (λF=>?_)
 refine .q (.aT rfl) ?_
 refine .bU (λs=>?_)
 refine .bP rfl rfl<|.z<|.fa rfl<|.lo rfl<|.q .gP<|.zn<|.cond rfl (λd=>?_) λd=>?_
 refine .region<|.mo rfl<|.q (.aT rfl) ?_
 refine .dY (λr=>?_)
 refine .append a (RS.lits (xs:=[t]) rfl (by simp[Ty.enc]) (by simp[Ty.enc,aB])) (by simp only[aeE];omega) (λo m k=>?_)
 have D:=k.aB
 refine .ag rfl<|.nil<|aX<|aw<|.region<|.ia (i+1) .add<|.mo rfl<|.nil ?_
 ·exact bm (i+1,o,m) ⟨e,by simp only;rw[g,aew (by simpa using d)];exact k⟩ (by simp only;omega) kE.c.c.c.c (aQ [2])
 refine .skip<|aX<|aw<|.region<|.ia (i+1) .add<|.mo rfl<|.nil ?_
 ·exact bm (i+1,p,f) ⟨e,by simp only;rw[g,aex (by simpa using d),afa];exact a⟩ (by simp only;omega) kE.c.c.c.c (aQ [1])
 refine .exit<|bo<|bs<|bp<|aw<|.sr<|.mo rfl<|.az rfl<|.ret (bj _ (.one (.tmp rfl)) (.one [0] _) ?_)
 ·refine⟨f,by simp[take],?_⟩
  rw[dP (kM b)]at a
  exact a
def oT(b:Bool):List Value:=[.bool b]
theorem BW(v:Value)(l:List Nd)(R:ay)(h:RS R 5 Nd.enc v l)(U:fN isWord l≠0)(hl:l.length<=100000):Spec prog 231 [v] R [] λu H'=>∃T,H'=[T]/\OS 4 1 oT u (m0 l) T:=by
 have iv:=h.aB
 have a9:=h.le
 obtain⟨d,a2⟩:=xz U
 obtain⟨_,_,_,S⟩:=iP _ _ a2
 have a0:(List.replicate l.length false).length=l.length:=ae5
 generalize K:List.replicate l.length false=out0 at *
 refine Spec.body func231 rfl results231 ntmps231 rfl<|.sr<|.ag rfl<|.z<|.mo rfl<|.q (.bO h)<|.makeSlice (enc:=oT) l.length false rfl rfl (by decide) (by simp[oT,aB]) rfl rfl (by omega) (by omega) (λA O F=>?_)
 rw[K]at F
 refine .ag rfl<|.zs<|.sr<|.mo rfl<|.q (.bO h)<|.q (.i64 ((l.length:Int)-1) .sub ⟨rfl,by omega,by omega⟩)<|.az rfl<|.block<|.cF [(0,_),(3,_)] (X:=Nat×ax) (λy=>y.1<=l.length/\OS 4 1 oT (.slice (some ⟨A,0,none⟩) l.length l.length) (down l y.1 (l.length-y.1) out0) y.2) (λy E=>(4,.int .i64 ((y.1:Int)-1))::E) (λy G=>y.2::G) (λy=>y.1) (l.length,O) ⟨Nat.le_refl _,by simp only;rw[Nat.sub_self];exact F⟩ kE.c.c.c rH ?_
 rintro⟨m,D⟩ ⟨W,g⟩
 simp only at W g⊢
 refine .seq<|.sr<|.mo rfl<|.q .geq<|.zn<|.cond rfl (λj=>?_) λj=>?_
 obtain⟨e,rfl⟩:∃e,m=e+1:=⟨m-1,by have:=bX j;omega⟩
 obtain⟨n,r⟩:∃n,l[e]? =some n:=⟨_,aV (by omega)⟩
 have V:((e+1:Nat):Int)-1=(e:Int):=by omega
 have s:=S e (aev _) (by omega)
 have H:down l e (l.length-e) out0=gV l (down l (e+1) (l.length-(e+1)) out0) e:=by
  rw[show l.length-e=1+(l.length-(e+1)) by omega,tR]
  rfl
 have a8:(down l (e+1) (l.length-(e+1)) out0).length=l.length:=by rw[rC,a0]
 generalize hX:down l (e+1) (l.length-(e+1)) out0=X at *
 have i:gV l X e=if n.op then(X.set n.a.toNat (X.getD e false)).set n.b.toNat ((X.set n.a.toNat (X.getD e false)).getD e false||n.kind==6)else X:=by unfold gV;rw[r]
 have I:decide (4<=n.kind)=n.op:=by
  cases ho:n.op with
  |true=>unfold Nd.op at ho;simp only[afb,beq_iff_eq]at ho;exact aeR (by omega)
  |false=>
   rw[ld r ho]at s
   split at s
   ·rename_i C
    unfold Nd.leaf at C
    refine aeK λh4=>?_
    rw[aew (by omega),aew (by omega),aew (by omega),aeH]at C
    cases C
   ·cases s
 rw[V]
 refine .kn<|.seq<|.block<|.sr<|.mo rfl<|.mo rfl ?_
 refine .bG e h r (λb0=>?_)
 refine .q (.aT rfl) ?_
 refine .bU (λb5=>?_)
 refine .bP rfl rfl<|.z<|.fa rfl<|.lo rfl<|.q .geq<|.zn<|.cond rfl (λk=>?_) λk=>?_
 have J:n.op=true:=by rw[<-I];exact k
 obtain⟨rr,a1⟩:=afh.1 s
 obtain⟨b',x',y',t1,t2,t3,t4,t5,_,_,_⟩:=nD r J a1
 have a6:=nE t1
 have a7:=(iP _ _ t3).1
 obtain⟨za,M⟩:∃z,X[n.a.toNat]? =some z:=⟨_,aV (by omega)⟩
 obtain⟨p,N⟩:∃z,X[e]? =some z:=⟨_,aV (by omega)⟩
 have a3:X.getD e false=p:=by rw[aeD,N];rfl
 rw[aex J,a3]at i
 obtain⟨z2,L⟩:∃z,(X.set n.a.toNat p)[e]? =some z:=⟨_,aV (by rw[List.length_set];omega)⟩
 obtain⟨z3,w⟩:∃z,(X.set n.a.toNat p)[n.b.toNat]? =some z:=⟨_,aV (by rw[List.length_set];omega)⟩
 have a4:(X.set n.a.toNat p).getD e false=z2:=by rw[aeD,L];rfl
 rw[a4]at i
 refine .seq<|.dm 8 mixed (by kernel_rfl) ?_
 conv=>arg 6;dsimp only[List.take]
 refine .mo rfl<|.fa rfl<|.lo rfl<|.mo rfl<|.mo rfl ?_
 refine .aL e g N (λb1=>?_)
 refine .lo rfl<|.aL n.a.toNat g M (λb2=>?_) rfl rfl (by omega)
 refine .nil ?_
 refine .du n.a.toNat g M p (λT1 o=>?_)
 refine .zn ?_
 refine bx.cZ [(0,_),(3,_),(4,_)] kE.c.c.c (X:=ax) (λT=>OS 4 1 oT (.slice (some ⟨A,0,none⟩) l.length l.length) (gV l X e) T) (λ_ E=>E) (λT=>[T]) ?_ ?_
 refine .dm 13 mixed (by kernel_rfl) ?_
 conv=>arg 6;dsimp only[List.take]
 refine .mo rfl<|.fa rfl<|.lo rfl<|.mo rfl<|.mo rfl ?_
 refine .aL e o L (λb3=>?_)
 refine .lo rfl<|.mo rfl<|.split (t:=38) rfl (λf=>?_) (λf=>?_)
 refine .gF f<|.gF f<|.gF f<|.q (.aU f)<|.aL n.b.toNat o w (λa5=>?_) rfl rfl (by omega)
 refine .nil ?_
 refine .du n.b.toNat o w _ (λx B=>?_)
 refine .nil ?_
 ·exact aG x (by rw[i];simpa only[j,k,f,ae7,ae8]using B) kE.c.c.c (aQ [1])
 refine .gT f<|.fa rfl<|.gT f<|.lo rfl<|.gT f<|.q .bY<|.q (.aR f)<|.aL n.b.toNat o w (λa5=>?_) rfl rfl (by omega)
 refine .nil ?_
 refine .du n.b.toNat o w _ (λx B=>?_)
 refine .nil ?_
 ·exact aG x (by rw[i];simpa only[j,k,f,ae7,ae8]using B) kE.c.c.c (aQ [1])
 intro y hy
 have Q:OS 4 1 oT (.slice (some ⟨A,0,none⟩) l.length l.length) (gV l X e) y:=hy
 refine aX<|aw<|.region<|.mo rfl<|.q (.i64 ((e:Int)-1) .sub ⟨rfl,by omega,by omega⟩)<|.ag rfl<|.nil ?_
 ·exact bm (e,y) ⟨by simp only;omega,by simp only;rw[H];exact Q⟩ (by simp only;omega) kE.c.c.c rH
 have Z:¬n.op=true:=by rw[<-I,k];simp
 rw[aew Z]at i
 refine .skip<|aX<|aw<|.region<|.mo rfl<|.q (.i64 ((e:Int)-1) .sub ⟨rfl,by omega,by omega⟩)<|.ag rfl<|.nil ?_
 ·exact bm (e,D) ⟨by simp only;omega,by simp only;rw[H,i];exact g⟩ (by simp only;omega) kE.c.c.c (aQ [1])
 refine .exit<|bo<|bs<|bp<|aw<|.sr<|.mo rfl<|.az rfl<|.ret (bj _ (.one (.tmp rfl)) (.one [0] _) ?_)
 ·refine⟨D,by simp[take],?_⟩
  have Y:m=0:=by have:=bF j;omega
  subst Y
  unfold m0
  rw[K]
  exact g
def NA(c:bJ)(ok:Bool)(S:List gw)(o:Option (List Nat)):Prop:=match o with
 |none=>ok=false
 |some ts=>ok=true/\S.map c.ix=ts/\∀p∈S,c.valid p
def TN(l:List (ByteArray×Rl))(sp:ByteArray)(r:Rl)(n:Nd)(tys:List Ty):Prop:=targets l sp r.types n=findAll l tys/\tys.length<=8
theorem vN{a:List Ty}{n:Nat}(h:a.length<=n):(dU a).length<=n:=aeQ (ae3 _ _) h
theorem yw(l:List (ByteArray×Rl)):∀(a:List Ty) (t:Ty),findAll l (a++[t])=(findAll l a).bind λx=>(bR l t).map λi=>x++[i]
 |[],t=>by
  rw[ae9,findAll,findAll]
  cases bR l t<;>rfl
 |x::a,t=>by
  rw[afi,findAll,findAll,yw l a t]
  cases bR l x with
  |none=>rfl
  |some i=>
   cases findAll l a with
   |none=>rfl
   |some u=>cases bR l t<;>rfl
theorem yx{l:List (ByteArray×Rl)}{t:Ty}{a:List Ty}(h:t∈a)(c:bR l t=none):findAll l a=none:=by
 cases hf:findAll l a with
 |none=>rfl
 |some o=>obtain⟨i,b,_⟩:=qh hf h;rw[c]at b;cases b
theorem o5{c:bJ}{p:gw}{s:cq}{r:cb}(b:c.bg[p.1]? =some s)(a:s.bN[p.2]? =some r):c.plain.all[c.ix p]? =some (s.name,r.r):=by
 have:=wR (pa b) (Ak a)
 unfold bJ.ix Cf.all
 exact this
def bJ.qf(c:bJ):Prop:=∀s∈c.bg,∀r∈s.bN,r.r.types.length<=8/\r.r.nodes.length<=64/\fN isWord r.r.nodes≠0
theorem NX{R:ay}{xb:Nat}{vm:Value}{c:bJ}(h:IX R xb vm c)(I:c.qf)(p:gw)(s:cq)(r:cb)(J:c.bg[p.1]? =some s)(hr:s.bN[p.2]? =some r)(n:Nd):
  Spec prog 232 [pT xb,.agg (lA p).toArray,.agg n.enc.toArray] R [] λu H'=>∃T,H'=[T]/\∃w S ok,u=.tuple [w,.bool ok].toArray/\OS 321 2 lA w S T/\S.length<=8/\
   NA c ok S (targets c.plain.all s.name r.r.types n):=by
 have b3:=vz h p s r J hr
 have a2:=h
 have b8:=(I s (aW J) r (aW hr)).1
 have b2:=looked c
 obtain⟨i,k⟩:=p
 have pc:=h.pc
 have om:=h.om
 have a7:=h.ci.ss
 have i1:=a7.aB
 have i2:One c.vc:=RS.aB h.ci.sc
 have b7:=h.ci.all _ (aW J)
 have a6:=b7.all _ (aW hr)
 have e0:One s.v:=RS.aB b7.rs
 have d8:cC (cb.enc r):=⟨a6.dg⟩
 simp only at J hr
 have e5:=a7.pc J
 generalize Y:c.plain.all=A at *
 refine Spec.body func232 rfl results232 ntmps232 rfl<|.sr ?_
 refine .cx rfl (λb4=>?_)
 refine .cx rfl (λb5=>?_)
 refine .ag rfl<|.ag rfl<|.zs ?_
 refine bx.cZ [(0,_),(5,_)] kE.c.c (X:=Nat) (λ_=>True) (λy E=>(9,pT y)::(8,.string s.name)::E) (λy=>[bl y r.enc 167,bl b5 n.enc 199,bl b4 (lA (i,k)) 321]) ?_ ?_
 refine .cS [15] mixed<|.tO 0 rfl .move<|.tO 1 rfl (.nilCheck rfl)<|.tO 2 rfl (.fieldAddr rfl)<|.tO 3 rfl (.fieldAddr rfl)<|.tO 4 rfl (.cm rfl)<|.tO 5 rfl (.fieldAddr rfl)<|.tO 6 rfl (.cm rfl)<|.tO 7 rfl (.bG i a7 J rfl rfl rfl)<|.tO 8 rfl (.fieldAddr rfl)<|.tO 9 rfl (.cm rfl)<|.tO 10 rfl .move<|.tO 11 rfl (.aT rfl)<|RA.jH 12 13 rfl rfl (by kernel_rfl) rfl ?_ ?_
 refine .ba (b3.weaken da) (λu B=>?_)
 subst B
 refine .nil<|Next.sub<|.sT 13 rfl ?_
 refine .bU (λb9=>?_)
 refine .nil<|Next.sub<|.tO 14 rfl .assign<|.sT 15 rfl<|.bP rfl rfl<|.nil<|Next.mod rfl<|RA.nil (by kernel_rfl) ?_
 ·exact aG b9 aeu kE.c.c.c.c rH
 refine .bU (λb9=>?_)
 refine .nil<|Next.sub<|.sT 12 rfl<|.ba (b3.weaken da) (λu B=>?_)
 subst B
 refine .nil<|Next.sub<|.tO 14 rfl .assign<|.sT 15 rfl<|.bP rfl rfl<|.nil<|Next.mod rfl<|RA.nil (by kernel_rfl) ?_
 ·exact aG b9 aeu kE.c.c.c.c rH
 intro y hy
 obtain⟨vt,vn,r⟩:=r
 have b6:RS R 2 Ty.enc vt r.types:=a6.t
 have e1:One vt:=b6.aB
 have d9:One vn:=RS.aB a6.d
 refine aw<|.sr<|.ag rfl<|.zs<|.sr<|.fa rfl<|.lo rfl<|.zn<|.block<|.sr<|.q .bY<|.az rfl ?_
 refine bx.cZ [(0,_)] kE.c (X:=Value×List Ty×ax) (λy=>OS 249 2 Ty.enc y.1 y.2.1 y.2.2/\TN A s.name r n y.2.1) (λy E=>(10,y.1)::E) (λy=>[y.2.2]) ?_ ?_
 refine .cond rfl (λD=>?_) λD=>?_
 refine .region<|.fa rfl<|.lo rfl<|.dh (vO vt r.types _ b6.rx (by simp only at b8;omega)) (λu L B=>?_)
 have iu:=B.aB
 refine .ag rfl<|.nil ?_
 ·exact aG (u,dU r.types,L) ⟨B,by unfold targets;rw[aex (by simpa using D)],vN b8⟩ kE.c.c (aQ [0])
 refine .sr<|.q .bY<|.az rfl<|.cond rfl (λH=>?_) λH=>?_
 refine .region<|.mo rfl<|.fa rfl<|.lo rfl ?_
 refine .q .cR ?_
 refine .dY (λd6=>?_)
 refine .ag rfl<|.nil ?_
 ·exact aG (_,[(⟨s.name,n.rel⟩:Ty)],_) ⟨OS.lits (xs:=[(⟨s.name,n.rel⟩:Ty)]) rfl (by simp[Ty.enc]) (by simp[Ty.enc,aB]),by unfold targets;rw[aew (by simpa using D),aex (by simpa using H)],by simp⟩ ((kE.d rfl).d rfl) (aQ [0])
 refine .sr<|.q .bY<|.az rfl<|.cond rfl (λM=>?_) λM=>?_
 obtain⟨C,ok,a5,a⟩:=b2 (⟨s.name,n.rel⟩:Ty)
 refine .seq<|.cS [13] mixed<|.tO 0 rfl .move<|.tO 1 rfl (.nilCheck rfl)<|.tO 2 rfl (.fieldAddr rfl)<|.tO 3 rfl (.cm rfl)<|.tO 4 rfl .move<|.tO 5 rfl (.fieldAddr rfl)<|.tO 6 rfl (.cm rfl)<|.tO 7 rfl .cR<|.fM 8 rfl (.cast (.oX (a2.rm.o0 λb o hb=>.inl hb) rfl rfl) (aey (λl:List Value=>Value.tuple l.toArray) a5)) (by kernel_rfl)<|.tO 9 rfl .move<|.tO 10 rfl .extract<|.tK 11 rfl .extract<|.sT 12 rfl ?_
 refine .bU (λd2=>?_)
 refine .nil<|Next.sub<|.sT 13 rfl<|.bP rfl rfl<|.nil<|Next.mod rfl<|.tK 14 rfl .assign<|RA.nil (by kernel_rfl)<|aw<|.seq<|.sr<|.mo rfl<|.q .not<|.zn<|.cond rfl (λh4=>?_) λh4=>?_
 refine .sr<|.ag rfl<|.az rfl<|.ret (aK (nW (br (aK (bj _ (.two (.tmp rfl) (.tmp rfl)) bz.jS ?_)))))
 ·refine⟨[],rfl,_,[],false,rfl,OS.nil,by simp,?_⟩
  have O:ok=false:=by simpa using h4
  have m:bR A ⟨s.name,n.rel⟩=none:=by
   unfold nJ at a
   rw[Y]at a
   cases hf:bR A ⟨s.name,n.rel⟩with
   |none=>rfl
   |some j=>rw[hf]at a;rw[a.1]at O;cases O
  unfold targets
  rw[aew (by simpa using D),aew (by simpa using H),aex (by simpa using M),m]
  rfl
 have a4:ok=true:=by simpa using h4
 subst a4
 obtain⟨j,m,a3,s2,f,a1,a0⟩:∃j,bR A ⟨s.name,n.rel⟩=some j/\c.ix C=j/\c.valid C:=by
  unfold nJ at a
  rw[Y]at a
  cases hf:bR A ⟨s.name,n.rel⟩with
  |none=>rw[hf]at a;cases a
  |some j=>rw[hf]at a;exact⟨j,rfl,a.2.1,a.2.2⟩
 have c4:=vz a2 C s2 f a1 a0
 obtain⟨c0,e6,f⟩:=f
 have c5:=(h.ci.all _ (aW a1)).all _ (aW a0)
 have c6:RS R 2 Ty.enc c0 f.types:=c5.t
 have c7:f.types.length<=8:=(I _ (aW a1) _ (aW a0)).1
 have a9:(A.map (·.2.types)).getD j []=f.types:=by
  have:=o5 a1 a0
  rw[Y,a3]at this
  rw[aeD,aeA,this]
  rfl
 refine .kn<|.seq<|.sr<|.mo rfl<|.q (.aT rfl)<|.ba (c4.weaken da) (λu B=>?_)
 subst B
 refine .q (.MA underlying167 rfl rfl xU rfl)<|.dh (vO c0 f.types _ c6.rx (by omega)) (λu T2 a8=>?_)
 have e2:=a8.aB
 have c9:=vN c7
 refine .q (.ep a8)<|.mo rfl<|.zn<|.block<|.cF [(0,_),(5,_),(67,_),(68,_)] (X:=Nat×Value×ax) (λy=>y.1<=(dU f.types).length/\OS 249 2 Ty.enc y.2.1 (((dU f.types).take y.1).map λt=>(⟨t.space,n.dQ⟩:Ty)) y.2.2) (λy E=>(69,iN y.1)::(10,y.2.1)::E) (λy G=>y.2.2::G) (λy=>(dU f.types).length-y.1) (0,sZ,[]) ⟨aev _,OS.nil⟩ kE.c.c.c.c.c.c bz.fH ?_
 rintro⟨q,vo,To⟩ ⟨hq,g⟩
 simp only at hq g⊢
 have io:=g.aB
 refine .sr<|.q .lss<|.zs<|.cond rfl (λh5=>?_) λh5=>?_
 have Q:q<(dU f.types).length:=by have:=bX h5;omega
 obtain⟨t,K⟩:=bW Q
 refine .kn<|.seq<|.block<|.sr ?_
 refine .aL q a8 K (λe3=>?_)
 refine .q (.aT rfl) ?_
 refine .bU (λd3=>?_)
 refine .bP rfl rfl<|.zn<|.region<|.mo rfl<|.fa rfl<|.lo rfl<|.fa rfl<|.lo rfl ?_
 refine .q .cR ?_
 refine .dY (λd7=>?_)
 refine .append g (RS.lits (xs:=[(⟨t.space,n.dQ⟩:Ty)]) rfl (by simp[Ty.enc]) (by simp[Ty.enc,aB])) (by simp only[aez,aeC,aeE];omega) (λv1 L U=>?_)
 have d0:=U.aB
 refine .ag rfl<|.nil<|aX<|aw<|.region<|.ia (q+1) .add<|.mo rfl<|.nil ?_
 ·exact bm (q+1,v1,L) ⟨Q,by simp only;rw[ec K,aeB];exact U⟩ (by simp only;omega) kE.c.c.c.c.c.c (aQ [2,2,2,2,2,2])
 rw[dP (kM h5)]at g
 refine .exit<|bo<|bs<|bp<|aw<|.sr<|.mo rfl<|.q (.ep g)<|.q .bY<|.zn<|.cond rfl (λW=>?_) λW=>?_
 have c3:dU f.types=[]:=by have N:=eq_of_beq W;rw[aez]at N;exact afu (by omega)
 refine .sr<|.ag rfl<|.az rfl<|.ret (nW (br (aK (bj _ (.two (.tmp rfl) (.tmp rfl)) bz.jS ?_))))
 ·refine⟨[],rfl,_,[],false,rfl,OS.nil,by simp,?_⟩
  unfold targets
  rw[aew (by simpa using D),aew (by simpa using H),aex (by simpa using M),m]
  simp only
  rw[a9,c3]
  rfl
 have c2:dU f.types≠[]:=by intro e;rw[e]at W;simp at W
 refine .skip ?_
 ·exact aG (vo,(dU f.types).map λt=>(⟨t.space,n.dQ⟩:Ty),To) ⟨g,by
   unfold targets
   rw[aew (by simpa using D),aew (by simpa using H),aex (by simpa using M),m]
   simp only
   rw[a9]
   cases hz:dU f.types with
   |nil=>exact absurd hz c2
   |cons z zs=>rfl,by rw[aez];exact c9⟩ kE.c.c (aQ [0])
 refine .skip ?_
 ·exact aG (sZ,[],[]) ⟨OS.nil,by unfold targets;rw[aew (by simpa using D),aew (by simpa using H),aew (by simpa using M)];rfl,by simp⟩ kE.c.c bz.jS
 intro x hx
 obtain⟨w,V,Tt⟩:=x
 obtain⟨Z,b1,c1⟩:=hx
 simp only at Z b1 c1⊢
 have iw:=Z.aB
 rw[b1]
 refine aX<|aw<|.sr<|.ag rfl<|.zs<|.sr<|.mo rfl<|.q (.ep Z)<|.mo rfl<|.zn<|.block<|.cF [(0,_),(85,_),(86,_)] (X:=Nat×Value×List gw×ax) (λy=>y.1<=V.length/\OS 321 2 lA y.2.1 y.2.2.1 y.2.2.2/\y.2.2.1.length=y.1/\NA c true y.2.2.1 (findAll A (V.take y.1))) (λy E=>(87,iN y.1)::(15,y.2.1)::E) (λy G=>y.2.2.2::G) (λy=>V.length-y.1) (0,sZ,[],[]) ⟨aev _,OS.nil,rfl,⟨rfl,rfl,λp hp=>(by cases hp)⟩⟩ kE.c.c.c.c.c bz.fH ?_
 rintro⟨q,vo,S,To⟩ ⟨hq,g,b0,F⟩
 simp only at hq g b0 F⊢
 have io:=g.aB
 refine .sr<|.q .lss<|.zs<|.cond rfl (λN=>?_) λN=>?_
 have Q:q<V.length:=cy N
 obtain⟨t,K⟩:=bW Q
 obtain⟨C,ok,a5,a⟩:=b2 t
 unfold nJ at a
 rw[Y]at a
 refine .kn<|.seq<|.block<|.sr ?_
 refine .aL q Z K (λe4=>?_)
 refine .q (.aT rfl) ?_
 refine .bU (λd4=>?_)
 refine .bP rfl rfl<|.zs<|.cS [10] mixed<|.tO 0 rfl .move<|.tO 1 rfl (.nilCheck rfl)<|.tO 2 rfl (.fieldAddr rfl)<|.tO 3 rfl (.cm rfl)<|.tO 4 rfl (.aT rfl)<|.fM 5 rfl (.cast (.oX (a2.rm.o0 λb o hb=>.inl hb) rfl rfl) (aey (λl:List Value=>Value.tuple l.toArray) a5)) (by kernel_rfl)<|.tO 6 rfl .move<|.tO 7 rfl .extract<|.tK 8 rfl .extract<|.sT 9 rfl ?_
 refine .bU (λd5=>?_)
 refine .nil<|Next.sub<|.sT 10 rfl<|.bP rfl rfl<|.nil<|Next.mod rfl<|.tK 11 rfl .assign<|RA.nil (by kernel_rfl)<|aw<|.seq<|.sr<|.mo rfl<|.q .not<|.zn<|.cond rfl (λI=>?_) λI=>?_
 refine .sr<|.ag rfl<|.az rfl<|.ret (aK (br (aK (cI (br (aK (bj _ (.two (.tmp rfl) (.tmp rfl)) bz.jS ?_)))))))
 ·refine⟨[],rfl,_,[],false,rfl,OS.nil,by simp,?_⟩
  have O:ok=false:=by simpa using I
  have m:bR A t=none:=by
   cases hf:bR A t with
   |none=>rfl
   |some j=>rw[hf]at a;rw[a.1]at O;cases O
  rw[yx (aW K) m]
  rfl
 have a4:ok=true:=by simpa using I
 subst a4
 obtain⟨j,m,a3,c8⟩:∃j,bR A t=some j/\c.ix C=j/\c.valid C:=by
  cases hf:bR A t with
  |none=>rw[hf]at a;cases a
  |some j=>rw[hf]at a;exact⟨j,rfl,a.2.1,a.2.2⟩
 refine .kn<|.region<|.mo rfl<|.q (.aT rfl) ?_
 refine .dY (λd1=>?_)
 refine .append g (RS.lits (xs:=[C]) rfl (by simp[lA]) (by simp[lA,aB])) (by simp only[aeE];omega) (λv1 L U=>?_)
 have d0:=U.aB
 refine .ag rfl<|.nil<|aX<|aw<|.region<|.ia (q+1) .add<|.mo rfl<|.nil ?_
 ·exact bm (q+1,v1,S++[C],L) ⟨Q,U,by simp[b0],by
   simp only
   rw[ec K,yw,m]
   cases hf:findAll A (V.take q)with
   |none=>rw[hf]at F;cases F
   |some o=>
    rw[hf]at F
    obtain⟨_,n1,n2⟩:=F
    refine⟨rfl,by rw[aeB,n1];simp[a3],λp hp=>?_⟩
    rcases List.mem_append.1 hp with hp|hp
    ·exact n2 p hp
    ·rw[aeS]at hp;subst hp;exact c8⟩ (by simp only;omega) kE.c.c.c.c.c (aQ [3,3])
 rw[dP (kM N)]at F
 refine .exit<|bo<|bs<|bp<|aw<|.sr<|.mo rfl<|.ag rfl<|.az rfl<|.ret (bj _ (.two (.tmp rfl) (.tmp rfl)) (.one [0] _) ?_)
 ·exact⟨To,by simp[take],vo,S,true,rfl,g,by omega,F⟩
abbrev jJ:=gw×gw×Bool
def jD(e:jJ):List Value:=[iN e.1.1,iN e.1.2,iN e.2.1.1,iN e.2.1.2,.bool e.2.2]
instance(e:jJ):cC (jD e):=⟨by simp[jD,aB]⟩
def bJ.ed(c:bJ)(e:jJ):Ed:=⟨c.ix e.1,c.ix e.2.1,e.2.2⟩
def EA(c:bJ)(ok:Bool)(Es:List jJ)(o:Option (List Ed)):Prop:=match o with
 |none=>ok=false
 |some E=>ok=true/\Es.map c.ed=E/\∀e∈Es,c.valid e.1/\c.valid e.2.1
theorem tI{α β:Type}{f:α->Option (List β)}{x:α}:∀{l:List α},x∈l->f x=none->cat f l=none
 |[],hx,_=>by cases hx
 |y::l,hx,h=>by
  rw[cat]
  rcases List.mem_cons.1 hx with rfl|hx
  ·rw[h];rfl
  ·rw[tI hx h]
   cases f y<;>rfl
theorem EA.nN{c:bJ}{d f:List jJ}{a b:Option (List Ed)}(g:EA c true d a)(h:EA c true f b):EA c true (d++f) (a.bind λx=>b.map (x++ ·)):=by
 cases a with
 |none=>cases g
 |some a=>
  cases b with
  |none=>cases h
  |some b=>
   obtain⟨_,i,j⟩:=g
   obtain⟨_,k,l⟩:=h
   refine⟨rfl,by rw[aeB,i,k],λe he=>?_⟩
   rcases List.mem_append.1 he with he|he
   ·exact j e he
   ·exact l e he
theorem EA.nil{c:bJ}:EA c true [] (some []):=⟨rfl,rfl,λe a=>(by cases a)⟩
theorem C7{R:ay}{xb:Nat}{vm:Value}{c:bJ}(h:IX R xb vm c)(h8:c.qf)(p:gw)(s:cq)(r:cb)(H:c.bg[p.1]? =some s)(F:s.bN[p.2]? =some r):
  Spec prog 181 [pT xb,.agg (lA p).toArray] R [] λu H'=>∃T,H'=[T]/\∃w Es ok,u=.tuple [w,.bool ok].toArray/\OS 325 5 jD w Es T/\Es.length<=512/\
   EA c ok Es (kT c.plain.all (c.ix p) s.name r.r):=by
 have c9:=vz h p s r H F
 have a6:=λn=>NX h h8 p s r H F n
 have c2:=h
 obtain⟨b1,c6,a3⟩:=h8 s (aW H) r (aW F)
 have c4:=looked c
 have d6:c.valid p:=⟨s,r,H,F⟩
 have pc:=h.pc
 have Z:=(h.ci.all _ (aW H)).all _ (aW F)
 generalize hA:c.plain.all=A at *
 generalize c3:c.ix p=j0 at *
 have M:kT A j0 s.name r.r=if(findAll A (dU r.r.types)).isSome then cat (λk:Nat=>(r.r.nodes[k]?).bind λn=>fk A j0 s.name r.r ((m0 r.r.nodes).getD k false) n) (List.range' 0 r.r.nodes.length)else none:=rfl
 obtain⟨vt,vn,r⟩:=r
 have d1:RS R 2 Ty.enc vt r.types:=Z.t
 have Y:RS R 5 Nd.enc vn r.nodes:=Z.d
 have e3:cC (cb.enc ⟨vt,vn,r⟩):=⟨Z.dg⟩
 have d7:=vN b1
 simp only at b1 c6 a3 M a6 d7⊢
 have e2:(m0 r.nodes).length=r.nodes.length:=by unfold m0;rw[rC,ae5]
 refine Spec.body func181 rfl results181 ntmps181 rfl<|.sr ?_
 refine .cx rfl (λb3=>?_)
 refine .ag rfl<|.ag rfl<|.z<|.mo rfl<|.q (.aT rfl)<|.ba (c9.weaken da) (λu hu=>?_)
 subst hu
 refine .bU (λb6=>?_)
 refine .bP rfl rfl<|.zs<|.sr<|.fa rfl<|.lo rfl<|.dh (vO vt r.types _ d1.rx (by omega)) (λu T2 b2=>?_)
 refine .q (.ep b2)<|.mo rfl<|.zn<|.block<|.cF [(0,_),(3,_),(6,_),(24,_),(25,_)] (X:=Nat) (λq=>q<=(dU r.types).length/\((dU r.types).take q).all (λt=>(bR A t).isSome)=true) (λq E=>(26,iN q)::E) (λ_ G=>G) (λq=>(dU r.types).length-q) 0 ⟨aev _,rfl⟩ kE.c.c.c.c.c.c rH ?_
 rintro q ⟨hq,L⟩
 refine .sr<|.q .lss<|.zs<|.cond rfl (λN=>?_) λN=>?_
 have a9:q<(dU r.types).length:=by have:=bX N;omega
 obtain⟨t,a0⟩:=bW a9
 obtain⟨ps,ok,c7,v⟩:=c4 t
 unfold nJ at v
 rw[hA]at v
 refine .kn<|.seq<|.block<|.sr ?_
 refine .aL q b2 a0 (λe4=>?_)
 refine .q (.aT rfl) ?_
 refine .bU (λb8=>?_)
 refine .bP rfl rfl<|.zs<|.cS [10] mixed<|.tO 0 rfl .move<|.tO 1 rfl (.nilCheck rfl)<|.tO 2 rfl (.fieldAddr rfl)<|.tO 3 rfl (.cm rfl)<|.tO 4 rfl (.aT rfl)<|.fM 5 rfl (.cast (.oX (c2.rm.o0 λb o hb=>.inl hb) rfl rfl) (aey (λl:List Value=>Value.tuple l.toArray) c7)) (by kernel_rfl)<|.tO 6 rfl .move<|.tO 7 rfl .extract<|.tK 8 rfl .extract<|.sT 9 rfl ?_
 refine .bU (λb9=>?_)
 refine .nil<|Next.sub<|.sT 10 rfl<|.bP rfl rfl<|.nil<|Next.mod rfl<|.tK 11 rfl .assign<|RA.nil (by kernel_rfl)<|aw<|.sr<|.mo rfl<|.q .not<|.zn<|.cond rfl (λO=>?_) λO=>?_
 refine .sr<|.ag rfl<|.az rfl<|.ret (br (aK (cI (br (aK (bj _ (.two (.tmp rfl) (.tmp rfl)) bz.jS ?_))))))
 ·refine⟨[],rfl,_,[],false,rfl,OS.nil,by simp,?_⟩
  have D:ok=false:=by simpa using O
  have hj:bR A t=none:=by
   cases f:bR A t with
   |none=>rfl
   |some j=>rw[f]at v;rw[v.1]at D;cases D
  rw[M,yx (aW a0) hj]
  rfl
 have f:(bR A t).isSome=true:=by
  have K:ok=true:=by simpa using O
  cases f:bR A t with
  |none=>rw[f]at v;rw[v]at K;cases K
  |some j=>rfl
 refine .skip<|aX<|aw<|.region<|.ia (q+1) .add<|.mo rfl<|.nil ?_
 ·exact bm (q+1) ⟨a9,m1 a0 L f⟩ (by omega) kE.c.c.c.c.c.c (aQ [2,2,2,2])
 have c1:(findAll A (dU r.types)).isSome=true:=by
  have i:=rK A (dU r.types)
  rw[dP (kM N)]at L
  cases f:findAll A (dU r.types)with
  |none=>rw[f]at i;rw[show _=false from i]at L;cases L
  |some o=>rfl
 rw[aex c1]at M
 rw[M]
 generalize hg:(λk:Nat=>(r.nodes[k]?).bind λn=>fk A j0 s.name r ((m0 r.nodes).getD k false) n)=g at *
 refine .exit<|bo<|bs<|bp<|aw<|.sr<|.fa rfl<|.lo rfl<|.dh (BW vn r.nodes _ Y.rx a3 (by omega)) (λu T9 d4=>?_)
 refine .ag rfl<|.z<|.ag rfl<|.zs<|.sr<|.fa rfl<|.lo rfl<|.q (.bO Y)<|.mo rfl<|.zn<|.block<|.cF [(0,_),(3,_),(11,_),(46,_),(47,_)] (X:=Nat×Value×List jJ×ax) (λy=>y.1<=r.nodes.length/\OS 325 5 jD y.2.1 y.2.2.1 y.2.2.2/\y.2.2.1.length<=8*y.1/\EA c true y.2.2.1 (cat g (List.range' 0 y.1))) (λy E=>(48,iN y.1)::(12,y.2.1)::E) (λy G=>y.2.2.2::G) (λy=>r.nodes.length-y.1) (0,sZ,[],[]) ⟨aev _,OS.nil,by simp,EA.nil⟩ kE.c.c.c.c.c.c.c bz.fH ?_
 rintro⟨m,vo,Es,To⟩ ⟨hm,W,b5,V⟩
 simp only at hm W b5 V⊢
 refine .sr<|.q .lss<|.zs<|.cond rfl (λQ=>?_) λQ=>?_
 have a5:m<r.nodes.length:=cy Q
 obtain⟨n,a7⟩:=bW a5
 obtain⟨I,a2⟩:∃b,(m0 r.nodes)[m]? =some b:=⟨_,aV (by omega)⟩
 have a4:g m=fk A j0 s.name r I n:=by
  rw[<-hg]
  simp only[a7,aeW]
  rw[aeD,a2]
  rfl
 have d0:List.range' 0 (m+1)=List.range' 0 m++[m]:=by rw[List.range'_1_concat];simp
 refine .kn<|.seq<|.block<|.sr<|.mo rfl ?_
 refine .bG m Y a7 (λe5=>?_)
 refine .q (.aT rfl) ?_
 refine .bU (λb4=>?_)
 refine .ag rfl<|.bP rfl rfl<|.z<|.mo rfl<|.q (.aT rfl)<|.q (.aT rfl)<|.dh ((a6 n).weaken da) (λu T4 d3=>?_)
 obtain⟨w4,S,ok,rfl,a1,e1,a⟩:=d3
 refine .mo rfl<|.q .extract<|.q .extract<|.ag rfl<|.ag rfl<|.zs<|.sr<|.mo rfl<|.q .not<|.zn<|.cond rfl (λU=>?_) λU=>?_
 refine .sr<|.ag rfl<|.az rfl<|.ret (aK (br (aK (cI (br (aK (bj _ (.two (.tmp rfl) (.tmp rfl)) bz.jS ?_)))))))
 ·refine⟨[],rfl,_,[],false,rfl,OS.nil,by simp,?_⟩
  have D:ok=false:=by simpa using U
  have B:targets A s.name r.types n=none:=by
   cases B:targets A s.name r.types n with
   |none=>rfl
   |some C=>rw[B]at a;rw[a.1]at D;cases D
  rw[tI (x:=m) (by rw[List.mem_range'_1];omega) (by rw[a4];unfold fk;rw[B];rfl)]
  rfl
 have K:ok=true:=by simpa using U
 subst K
 obtain⟨C,d2,b7,c0⟩:∃C,targets A s.name r.types n=some C/\S.map c.ix=C/\∀q∈S,c.valid q:=by
  cases B:targets A s.name r.types n with
  |none=>rw[B]at a;cases a
  |some C=>rw[B]at a;exact⟨C,rfl,a.2.1,a.2.2⟩
 refine .kn<|.sr<|.mo rfl<|.q (.ep a1)<|.mo rfl<|.zn<|.block<|.cF [(0,_),(3,_),(11,_),(13,_),(46,_),(47,_),(48,_),(62,_),(63,_)] (X:=Nat×Value×ax) (λy=>y.1<=S.length/\OS 325 5 jD y.2.1 (Es++(S.take y.1).map λq=>((p,q,I):jJ)) y.2.2) (λy E=>(64,iN y.1)::(12,y.2.1)::E) (λy G=>T4::bl b4 n.enc 199::y.2.2::G) (λy=>S.length-y.1) (0,vo,To) ⟨aev _,by simpa using W⟩ kE.c.c.c.c.c.c.c.c.c.c.c rH ?_
 rintro⟨q,v3,T3⟩ ⟨c8,J⟩
 simp only at c8 J⊢
 refine .sr<|.q .lss<|.zs<|.cond rfl (λi=>?_) λi=>?_
 have b0:q<S.length:=cy i
 obtain⟨d8,a8⟩:=bW b0
 refine .kn<|.seq<|.block<|.sr ?_
 refine .aL q a1 a8 (λe6=>?_)
 refine .q (.aT rfl) ?_
 refine .bU (λd9=>?_)
 refine .bP rfl rfl<|.zn<|.cS [9] mixed<|.tO 0 rfl .move<|.tO 1 rfl (.aT rfl)<|.tO 2 rfl (.aT rfl)<|.tO 3 rfl .move<|.tO 4 rfl .move ?_
 refine RA.aL 5 rfl m d4 a2 rfl rfl rfl (by kernel_rfl) (λe7=>?_)
 refine .tO 6 rfl (.cm rfl)<|.tO 7 rfl .cR<|.sT 8 rfl ?_
 refine .dY (λe0=>?_)
 refine .nil<|Next.sub<|.sT 9 rfl<|.append J (RS.lits (xs:=[((p,d8,I):jJ)]) rfl (by simp[jD]) (by simp[jD,aB])) (by simp only[aeG,aez,aeC,aeE];omega) (λv1 T1 d5=>?_)
 refine .nil<|Next.mod rfl<|.tK 10 rfl .assign<|RA.nil (by kernel_rfl)<|aX<|aw<|.region<|.ia (q+1) .add<|.mo rfl<|.nil ?_
 ·exact bm (q+1,v1,T1) ⟨b0,by simp only;rw[ec a8,aeB, <-List.append_assoc];exact d5⟩ (by simp only;omega) kE.c.c.c.c.c.c.c.c.c.c.c (aQ [2,2,2,2,2,2,2])
 rw[dP (kM i)]at J
 refine .exit<|bo<|bs<|bp<|aX<|aw<|.region<|.ia (m+1) .add<|.mo rfl<|.nil ?_
 ·exact bm (m+1,v3,Es++S.map (λq=>((p,q,I):jJ)),T3) ⟨a5,J,by simp only[aeG,aez];omega,by
   simp only
   rw[d0,p5]
   refine V.nN ?_
   rw[cat,a4]
   unfold fk
   rw[d2]
   simp only[cat,Option.map_some,aeW,afa]
   refine⟨rfl,?_,λe he=>?_⟩
   ·rw[<-b7,aeJ,aeJ]
    congr 1
    funext q
    simp only[ae4,bJ.ed,c3]
   ·obtain⟨q,hq,rfl⟩:=afe.1 he
    exact⟨d6,c0 q hq⟩⟩ (by simp only;omega) kE.c.c.c.c.c.c.c (aQ [2,2,2,2,2])
 have c5:m=r.nodes.length:=by have:=bF Q;omega
 refine .exit<|bo<|bs<|bp<|aw<|.sr<|.mo rfl<|.ag rfl<|.az rfl<|.ret (bj _ (.two (.tmp rfl) (.tmp rfl)) (.one [0] _) ?_)
 ·refine⟨To,by simp[take],vo,Es,true,rfl,W,by omega,?_⟩
  rw[<-c5]
  exact V
end Go.Proofs.YtdljmchhecoakaaGreat

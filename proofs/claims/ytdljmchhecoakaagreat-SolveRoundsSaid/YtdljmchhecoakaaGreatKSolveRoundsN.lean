/- What the law 'SolveRounds' uses. No condition. -/
import Derived.Test.YtdljmchhecoakaaGreatKSolveRoundsA
import Derived.Test.YtdljmchhecoakaaGreatKSolveRoundsB
import Derived.Test.YtdljmchhecoakaaGreatKSolveRoundsD
import Derived.Test.YtdljmchhecoakaaGreatKSolveRoundsE
import Derived.Test.YtdljmchhecoakaaGreatKSolveRoundsF
import Derived.Test.YtdljmchhecoakaaGreatKSolveRoundsH
import Derived.Test.YtdljmchhecoakaaGreatKSolveRoundsI
import Derived.Test.YtdljmchhecoakaaGreatKSolveRoundsK
import Derived.Test.YtdljmchhecoakaaGreatKSolveRoundsM
namespace Go.Proofs.YtdljmchhecoakaaGreat
set_option linter.defProp false
def adY:=@if_neg
def adZ:=@if_pos
def ad0:=@trivial
def ad1:=@congrArg
def ad2:=@Nat.zero_le
def ad3:=@List.length_map
def ad4:=@List.map_append
def ad5:=@List.getElem?_map
def ad6:=@List.length_singleton
def ad7:=@List.getD_eq_getElem?_getD
def ad8:=@List.length_take
def ad9:=@List.mem_singleton
def aea:=@List.getElem?_eq_some_iff
def aeb:=@List.append_nil
def aec:=@List.mem_append
def aed:=@List.length_append
def aee:=@Nat.not_lt
def aef:=@List.map_map
def aeg:=@List.take_length
def aeh:=@List.mem_cons_self
def aei:=@Option.bind_some
def aej:=@List.mem_cons
def aek:=@Nat.le_trans
def ael:=@List.length_replicate
def aem:=@decide_eq_false
def aen:=@List.mem_iff_getElem
def aeo:=@List.flatten_cons
def aep:=@List.flatten_nil
def aeq:=@Function.comp_def
def aer:=@Bool.or_eq_true
def aes:=@Option.getD_none
def aet:=@Option.isSome_iff_exists
def aeu:=@List.cons_append
def aev:=@List.nil_append
def aew:=@Nat.sub_self
def aex:=@List.append_assoc
def aey:=@List.getD_cons_zero
def aez:=@List.length_filter_le
def aeA:=@List.mem_cons_of_mem
def aeB:=@List.map_cons
def aeC:=@List.getElem?_cons_zero
def aeD:=@Option.some.injEq
def aeE:=@Bool.or_eq_false_iff
def aeF:=@decide_eq_false_iff_not
def aeG:=@decide_eq_true_eq
def aeH:=@List.mem_map
def aeI:=@Option.map_some
def aeJ:=@List.take_append_drop
def aeK:=@List.not_all_eq_any_not
def aeL:=@List.getElem_take
def aeM:=@List.getD_cons_succ
def aeN:=@List.not_mem_nil
def aeO:=@Bool.and_eq_true
def aeP:=@List.any_eq_false
def aeQ:=@List.eq_nil_of_length_eq_zero
def aeR:=@Option.getD_some
def aeS:=@List.mem_flatMap
def aeT:=@List.findIdx?_cons
open Tryz
set_option linter.unusedVariables false
set_option linter.unusedSimpArgs false
set_option maxRecDepth 4000
structure DV(R:aw)(b:Nat)(S:cQ)(vL:Value)(L:List bD):Prop where
 pc:PC R (pT b) [vL,.int .u64 S.head,.int .u64 S.et]
 rs:RS R 9 bD.enc vL L
section
variable{R:aw}{b:Nat}{S:cQ}{vL:Value}{L:List bD}
theorem DV.can(h:DV R b S vL L)(r:Int):Spec prog 86 [pT b,.int .u64 r] R [] λv H'=>v=.bool (scan S r)/\H'=[]:=by
 have c:=h.pc
 refine Spec.body func86 rfl results86 ntmps86 rfl<|.sr<|.ag rfl<|.z<|.mo rfl<|.nc rfl<|.fa rfl<|.lo rfl<|.mo rfl<|.q .leq<|.mo rfl<|.split (t:=11) rfl (λa=>?_) (λa=>?_)
 refine .gT a<|.mo rfl<|.gT a<|.mo rfl<|.gT a<|.nc rfl<|.gT a<|.fa rfl<|.gT a<|.lo rfl<|.gT a<|.q .leq<|.q (.bx a)<|.az rfl<|.ret (aY rfl ?_)
 ·refine⟨ad1 _ ?_,rfl⟩
  unfold scan
  simp_all
  try omega
 refine .gF a<|.gF a<|.gF a<|.gF a<|.gF a<|.gF a<|.q (.bs a)<|.az rfl<|.ret (aY rfl ?_)
 ·refine⟨ad1 _ ?_,rfl⟩
  unfold scan
  simp_all
  try omega
end
theorem SV.NG{R:aw}{g:Nat}{S:cQ}{ps:List RB}{vf vr:Value}{B:List (aR×(Value×ap))}{C:List (Sub×(Value×ap))}(h:SV R g S ps vf vr B C)(s:S.rows.length<=4096)(k:aR)(r:Int){L:List bD}(J:RL S L):
  Spec prog 188 [pT g,.agg [.string k.os,.string k.oi].toArray,.string k.rel,.int .u64 r] R [] λu H'=>∃T,H'=[T]/\OS 117 4 Sub.enc u (if scan S r then(L.filter λx=>x.there r&&decide (x.t.cB=k)).map (·.t.sub)else []) T:=by
 have pc:=h.pc
 have U:ps.length<=4096:=by rw[<-h.eq,ad3]at s;exact s
 obtain⟨pf,G,O,V⟩:=h.lf k
 have H:RS R 1 sQ (.slice pf (ids (λx=>x.t.cB) k ps).length G) (jK (λx=>x.t.cB) k ps):=RS.of_map (enc:=il) (f:=λp:RB=>p.1) V
 have I:(jK (λx=>x.t.cB) k ps).length<=4096:=aek (aez _ _) U
 refine Spec.jg (H':=[[]]) (by simp)<|Spec.body func188 rfl results188 ntmps188 rfl<|.sr ?_
 refine .cm rfl (λb5=>?_)
 refine .ag rfl<|.zs<|.sr<|.mo rfl<|.mo rfl<|.bj ((h.mono λb o d=>.inl d).can r) (λv Z=>?_)
 subst Z
 refine .q .not<|.zn<|.cond rfl (λj=>?_) λj=>?_
 have m:scan S r=false:=by simpa using j
 refine .sr<|.az rfl<|.ret (ba (bm _ (.one (.tmp rfl)) ((aT [1])) ?_))
 ·exact⟨_,by simp[take];rfl,by rw[m];exact OS.nil⟩
 have m:scan S r=true:=by simpa using j
 refine .kn<|.sr<|.ag rfl<|.zs<|.seq<|.cG [] mixed<|.tO 0 rfl .move<|.tO 1 rfl (.nilCheck rfl)<|.tO 2 rfl (.fieldAddr rfl)<|.tO 3 rfl (.bU rfl)<|.tO 4 rfl (.aU rfl)<|.tO 5 rfl .move<|.tO 6 rfl .cD<|.tO 7 rfl (.nh (h.mono λb o d=>.inl d).mf rfl rfl (key:=k) O)<|.tO 8 rfl .move<|.tO 11 rfl .move<|.sT 9 rfl<|.dN (vC _ (jK (λx=>x.t.cB) k ps) r _ H.rx (λp Q=>(h.pr p (List.mem_filter.1 Q).1).mono λb o d=>.inl d) (by omega)) (λu D Y=>?_)
 obtain⟨a,n,A,a1⟩:=Y
 have a4:a.length<=4096:=by
  rw[A.length_eq,ad3]
  exact aek (aez _ _) I
 have a0:a=(L.filter λx=>x.there r&&decide (x.t.cB=k)).map (·.t):=J.at_ (by
  refine A.trans (.of_eq ?_)
  rw[<-h.eq,List.filter_map,aef]
  unfold jK
  rw[List.filter_filter];rfl) a1
 refine .nil<|Next.sub<|.tO 10 rfl (.fz n)<|RA.nil (by kernel_rfl)<|aB<|.block<|.loop (X:=Nat×Value×ap) (λy=>y.1<=a.length/\OS 117 4 Sub.enc y.2.1 ((a.take y.1).map ax.sub) y.2.2) (λy=>[(9,y.2.1),(25,u),(26,iN a.length),(27,iN y.1)]) (λy=>[D,y.2.2]) (λy=>a.length-y.1) (0,sZ,[]) ⟨ad2 _,OS.nil⟩ kE.c.c.c.c (aT [0,1]) ?_
 rintro⟨i,vo,F⟩ ⟨M,e⟩
 simp only at M e⊢
 refine .sr<|.q .lss<|.zs<|.cond rfl (λl=>?_) λl=>?_
 have w:i<a.length:=cV l
 obtain⟨x,z⟩:=cE w
 have W:a.take (i+1)=a.take i++[x]:=by rw[List.take_add_one,z];rfl
 refine .kn<|.seq<|.block<|.sr ?_
 refine .aI i n z (λa5=>?_)
 refine .q (.aU rfl) ?_
 refine .bT (λa2=>?_)
 refine .bP rfl rfl<|.zn<|.region<|.mo rfl<|.fa rfl<|.q (.loadT rfl) ?_
 refine .dV (λa3=>?_)
 refine .append e (RS.lits (xs:=[x.sub]) rfl (by simp[Sub.enc]) (by simp[Sub.enc,aC])) (by simp only[ad6,ad3,ad8];omega) (λv5 E K=>?_)
 refine .ag rfl<|.nil<|bg<|aB<|.region<|.ia (i+1) .add<|.mo rfl<|.nil ?_
 ·exact bu (i+1,v5,E) ⟨w,by simp only;rw[W,ad4];exact K⟩ (by simp only;omega) kE.c.c.c.c (aT [2,2])
 refine .exit<|br<|bz<|bw<|aB<|.sr<|.mo rfl<|.az rfl<|.ret (bm _ (.one (.tmp rfl)) ((aT [1])) ?_)
 ·have N:i=a.length:=by have:=bK l;omega
  subst N
  rw[aeg,a0,aef]at e
  exact⟨F,by simp[take,bJ],by rw[m];exact e⟩
def kr(s:ca):Bool:=decide (16<s.bR.length)||s.bR.any λr=>jN isWord r.r
theorem rk(c:bN):c.plain.gH isWord=(decide (16<c.aZ.length)||decide (16<c.scopes.length)||c.aZ.any kr):=by
 unfold Cf.gH bN.plain
 simp only[ad3,List.any_map]
 congr 1
 congr 1
 funext s
 simp[kr,ca.plain,List.any_map,aeq]
def nw(r:cb):Bool:=r.r.types.all (kp isWord)
def mG(r:cb):Bool:=isWord r.r.name&&gj isWord r.r.nodes !=0&&nw r
def la(s:ca):Bool:=isWord s.name&&s.bR.all mG
theorem L8(c:bN):c.plain.right isWord cR=(c.aZ.all la&&c.scopes.all (nG isWord cR)&& !c.plain.gH isWord):=by
 unfold Cf.right
 congr 1
 congr 1
 unfold bN.plain
 simp only[List.all_map]
 congr 1
 funext s
 simp only[la,mI,ca.plain,List.all_map,aeq]
 rfl
abbrev Nm:=ByteArray×cb
def Nm.p(x:Nm):ByteArray×Rl:=(x.1,x.2.r)
def bN.kv(c:bN):List Nm:=c.aZ.flatMap λs=>s.bR.map λr=>(s.name,r)
theorem tw(c:bN):c.kv.map Nm.p=c.plain.all:=by
 unfold bN.kv Cf.all bN.plain
 simp[List.map_flatMap,List.flatMap_map,ca.plain,Nm.p,aeq]
def bN.kk(c:bN):Prop:=c.aZ.length<=16/\∀s∈c.aZ,s.bR.length<=16
theorem xm{α β:Type}{f:α->List β}{n:Nat}:∀{l:List α},(∀x∈l,(f x).length<=n)->(l.flatMap f).length<=l.length*n
 |[],_=>by simp
 |x::l,h=>by
  have b:=h x aeh
  have c:=xm λy a=>h y (aeA _ a)
  rw[List.flatMap_cons,aed,List.length_cons,Nat.succ_mul]
  omega
theorem bN.kk.kv{c:bN}(h:c.kk):c.kv.length<=256:=by
 have:=xm (f:=λs:ca=>s.bR.map λr=>(s.name,r)) (n:=16) (l:=c.aZ) λs a=>by rw[ad3];exact h.2 s a
 have b:=h.1
 unfold bN.kv
 omega
def fI(o:Option Nat):Int:=match o with|none=> -1|some i=>i
theorem ry{α:Type}{l:List α}{i k:Nat}{x y:α}(f:k<i)(g:l[i]? =some x)(j:l[k]? =some y)(e:x=y):¬l.Nodup:=by
 intro h
 obtain⟨a,b⟩:=aea.1 g
 obtain⟨c,d⟩:=aea.1 j
 have:=(List.nodup_iff_pairwise_ne.1 h)
 rw[List.pairwise_iff_getElem]at this
 exact this k i c a f (by rw[d,b,e])
def dr(n:Nat):List Value:=[iN n]
abbrev oU:=Int×Int×Bool
def wg(e:oU):List Value:=[.int .i64 e.1,.int .i64 e.2.1,.bool e.2.2]
instance(e:oU):cv (wg e):=⟨by simp[wg,aC]⟩
def Ed.m(e:Ed):oU:=(e.f,e.t,e.a)
def WE(ok:Bool)(E:List oU)(o:Option (List Ed)):Prop:=match o with
 |some E'=>ok=true/\E=E'.map Ed.m
 |none=>ok=false
def J9(eR:ByteArray)(t:Ty):Ty:=⟨t.space,if eR=⟨#[]⟩then t.rel else eR⟩
theorem qP(l:List (ByteArray×Rl)):∀ks:List Ty,match findAll l ks with
  |some o=>(ks.all λt=>(bY l t).isSome)=true/\(o.map λk:Nat=>(k:Int))=ks.map λt=>fI (bY l t)
  |none=>(ks.all λt=>(bY l t).isSome)=false
 |[]=>⟨rfl,rfl⟩
 |t::ks=>by
  have a:=qP l ks
  unfold findAll
  cases h:bY l t with
  |none=>simp[h]
  |some i=>
   simp only[aei,List.all_cons,h,Option.isSome_some,Bool.true_and,aeB]
   cases h2:findAll l ks with
   |none=>rw[h2]at a;exact a
   |some o=>rw[h2]at a;exact⟨a.1,by rw[<-a.2];rfl⟩
def Oo(l:List (ByteArray×Rl))(eR:ByteArray)(ts:List Ty):Bool:=(dK ts).all λt=>(bY l (J9 eR t)).isSome
theorem MX{a:List Ty}{j:Nat}{t:Ty}(h:a[j]? =some t):dK (a.take (j+1))=dK (a.take j)++if t.space=⟨#[]⟩then []else [t]:=by
 unfold dK
 rw[fD h,List.filter_append]
 congr 1
 by_cases e:t.space=⟨#[]⟩
 ·simp[e]
 ·simp[e]
theorem WE.all{l:List (ByteArray×Rl)}{i:Nat}{ab:Bool}(ks:List Ty):WE (ks.all λt=>(bY l t).isSome) (ks.map λt=>((i:Int),fI (bY l t),ab)) ((findAll l ks).map λts=>ts.map λt=>(⟨i,t,ab⟩:Ed)):=by
 have h:=qP l ks
 cases h2:findAll l ks with
 |none=>rw[h2]at h;exact h
 |some o=>
  rw[h2]at h
  refine⟨h.1,?_⟩
  have:(ks.map λt=>((i:Int),fI (bY l t),ab))=(ks.map λt=>fI (bY l t)).map λz=>((i:Int),z,ab):=by rw[aef];rfl
  rw[this, <-h.2]
  simp[Ed.m,aeq]
def uT(L:List Nm):Prop:=∀x∈L,x.2.r.types.length<=8/\x.2.r.nodes.length<=64/\gj isWord x.2.r.nodes≠0
theorem wi{α:Type}{x:α}:∀{l:List α} {i b:Nat},l[i]? =some x->jI b (l.take (i+1))=jI b (l.take i)++[(b+i,x)]
 |[],i,b,h=>by simp at h
 |y::l,0,b,h=>by simp only[aeC,aeD]at h;subst h;rfl
 |y::l,i+1,b,h=>by
  rw[List.take_succ_cons,List.take_succ_cons,jI,jI,wi (l:=l) (i:=i) (b:=b+1) (by simpa using h),show b+1+i=b+(i+1) by omega]
  rfl
def sh(l:List (ByteArray×Rl))(t:Ty):Bool:=decide (t.space=⟨#[]⟩)||(bY l t).isSome
theorem MY{l:List (ByteArray×Rl)}{a:List Ty}:(findAll l (dK a)).isSome=a.all (sh l):=by
 have h:=qP l (dK a)
 have e:((dK a).all λt=>(bY l t).isSome)=a.all (sh l):=by
  unfold dK
  rw[List.all_filter]
  congr 1
  funext t
  unfold sh
  cases decide (t.space=⟨#[]⟩)<;>simp
 rw[<-e]
 cases hf:findAll l (dK a)with
 |none=>rw[hf]at h;exact h.symm
 |some o=>rw[hf]at h;exact h.1.symm
theorem WE.rel{l:List (ByteArray×Rl)}{i:Nat}{a:ByteArray}{r:Rl}{ok:Bool}{E:List oU}(h:WE ok E (cat (λp:Nat×Bool=>(r.nodes[p.1]?).bind λn=>jP l i a r p.2 n) (fi r.nodes r.nodes.length false))):
  WE (r.types.all (sh l)&&ok) E (mH l i a r):=by
 unfold mH
 rw[<-MY]
 cases (findAll l (dK r.types)).isSome with
 |true=>simpa using h
 |false=>exact Bool.false_and _
theorem Bz{l:List Nd}(h:gj isWord l≠0):∃d,tree isWord l l.length=some (0,d):=by
 unfold gj at h
 cases ht:tree isWord l l.length with
 |none=>rw[ht]at h;exact absurd rfl h
 |some r=>
  obtain⟨b,d⟩:=r
  rw[ht]at h
  simp only at h
  split at h
  ·rename_i a;subst a;exact⟨d,rfl⟩
  ·exact absurd rfl h
theorem RS.gI{α:Type}{R:aw}{sz:Nat}{enc:α->List Value}:RS R sz enc (sZ) ([]:List α):=(OS.nil (E:=0) (sz:=sz) (enc:=enc)).rs λp a=>(by cases a)
abbrev fF:=Value×List Nat
def ee(q:fF):List Value:=[q.1]
structure NN(R:aw)(w:Value)(ll:List fF):Prop where
 rs:RS R 1 ee w ll
 all:∀q∈ll,RS R 1 dr q.1 q.2
theorem NN.mono{R R':aw}{w:Value}{c:List fF}(h:NN R w c)(a:∀b o,R b o->R' b o):NN R' w c:=⟨h.rs.mono a,λq d=>(h.all q d).mono a⟩
theorem NN.nil{R:aw}:NN R (sZ) []:=⟨RS.gI,λq a=>(by cases a)⟩
theorem pF:∀{l:List Sp} {i:Nat} {s:Sp},l[i]? =some s->cz l (i+1)=cz l i+s.bR.length
 |[],i,s,h=>by simp at h
 |x::l,0,s,h=>by
  simp only[aeC,aeD]at h
  subst h
  cases l<;>simp[cz]
 |x::l,i+1,s,h=>by
  have:=pF (l:=l) (i:=i) (by simpa using h)
  rw[cz,cz,this]
  omega
theorem wY{c:bN}(h:c.plain.right isWord cR=true):c.kk/\uT c.kv:=by
 have e:=nB h
 have d:c.plain.gH isWord=false:=by
  unfold Cf.right at h
  simp only[aeO,Bool.not_eq_true']at h
  exact h.2
 rw[rk]at d
 simp only[aeE,aeF,aeP,aee]at d
 refine⟨⟨by omega,λs f=>?_⟩,λx g=>?_⟩
 ·have:=d.2 s f
  unfold kr at this
  simp only[aer,aeG,not_or,aee]at this
  exact this.1
 ·have i:x.p∈c.plain.all:=by rw[<-tw];exact aeH.2 ⟨x,g,rfl⟩
  obtain⟨b,a⟩:=e _ i
  unfold mI at b
  unfold jN at a
  simp only[aeO,bne_iff_ne,ne_eq]at b
  simp only[aeE,aeF,aee]at a
  exact⟨a.1.1,a.1.2,b.1.2⟩
abbrev pK(pb:Nat)(v:Value)(b:Bool):ap:=(bl pb [v,.bool b] 215)
def dT(t:dY):Prop:=t.kind≠0/\t.text.size<=9223372036854775807/\(t.kind=2\/(t.text≠nM/\t.text≠oM/\t.text≠p7/\t.text≠oL/\t.text≠p8/\t.text≠r6))
instance(t:dY):Decidable (dT t):=by unfold dT;infer_instance
structure dg(R:aw)(pb:Nat)(st:bE)(T:ap):Prop where
 h:∃v,T=pK pb v st.2/\RS R 3 dY.enc v st.1
 ok:∀t∈st.1,dT t
theorem dg.nil{R:aw}{a:Nat}:dg R a je (pK a (sZ) true):=⟨⟨_,rfl,RS.gI⟩,λt b=>(by cases b)⟩
def kB:List dY->dY
 |[]=>⟨0,⟨#[]⟩,0⟩
 |t::_=>t
theorem yn(d:Nat)(v:Value)(b:Bool)(l:List dY)(R:aw)(h:RS R 3 dY.enc v l) [pc:PC R (pT d) [v,.bool b]]:Spec prog 201 [pT d] R [] λu H'=>u=.agg (kB l).enc.toArray/\H'=[]:=by
 refine Spec.body func201 rfl results201 ntmps201 rfl<|.sr ?_
 refine .bT (λg=>?_)
 refine .zs<|.sr<|.mo rfl<|.nc rfl<|.fa rfl<|.lo rfl<|.q (.cq h)<|.q .cr<|.zn<|.cond rfl (λa=>?_) λa=>?_
 have c:(l.length:Int)=0:=by simpa using a
 have f:l=[]:=aeQ (by omega)
 subst f
 refine .sr<|.q .cD<|.bP rfl rfl<|.zn ?_
 refine .ret (ba (bm _ (.one (.fH rfl rfl)) (.none _) ?_))
 ·exact⟨rfl,rfl⟩
 have c:¬(l.length:Int)=0:=by simpa using a
 obtain⟨t,r,rfl⟩:∃t r,l=t::r:=by
  cases l with
  |nil=>simp at c
  |cons t r=>exact⟨t,r,rfl⟩
 have e:(t::r)[0]? =some t:=rfl
 refine .kn<|.sr<|.mo rfl<|.nc rfl<|.fa rfl<|.lo rfl ?_
 refine .bZ 0 h e (λi=>?_)
 refine .q (.aU rfl)<|.bP rfl rfl<|.zn ?_
 refine .ret (bm _ (.one (.fH rfl rfl)) (.none _) ?_)
 ·exact⟨rfl,rfl⟩
theorem qO(a:Nat)(v:Value) [c:One v](b:Bool)(R:aw):Spec prog 159 [pT a] R [pK a v b] λ_ H'=>∃T',H'=[T']/\T'=pK a (sZ) true:=by
 refine Spec.body func159 rfl results159 ntmps159 rfl<|.sr<|.mo rfl<|.nc rfl<|.fa rfl<|.du rfl rfl<|.zn<|.region<|.mo rfl<|.nc rfl<|.fa rfl<|.du rfl rfl<|.nil<|fg _ .none rH ?_
 ·exact⟨_,rfl,rfl⟩
theorem lk(j:Nat)(g:bE)(T:ap)(R:aw)(w:dg R j g T)(s:ByteArray):Spec prog 156 [pT j,.string s] R [T] λu H'=>∃T',H'=[T']/\u=.bool (cC s g).isSome/\dg R j ((cC s g).getD g) T':=by
 obtain⟨⟨v,rfl,h⟩,f⟩:=w
 obtain⟨l,b⟩:=g
 simp only at h f⊢
 have D:=h.aC
 have C:=h.le
 have k:cC s ([],b)=none:=rfl
 have i:∀t r,cC s (t::r,b)=if t.kind=2\/t.text≠s then none else some (r,b):=λ_ _=>rfl
 refine Spec.body func156 rfl results156 ntmps156 rfl<|.sr<|.ag rfl<|.z<|.mo rfl<|.bj (yn j v b l _ h.rx) (λu y=>?_)
 subst y
 refine .bT (λB=>?_)
 refine .bP rfl rfl<|.zs<|.sr<|.fa rfl<|.lo rfl<|.q .cr<|.mo rfl<|.split (t:=11) rfl (λc=>?_) (λc=>?_)
 refine .gF c<|.gF c<|.gF c<|.q (.bx c)<|.mo rfl<|.gX<|.gX<|.gX<|.gX<|.q .dO<|.zn<|.jo ?_
 have d:cC s (l,b)=none:=by
  cases l with
  |nil=>exact k
  |cons t r=>
   rw[i]
   obtain⟨o,_,_⟩:=f t aeh
   simp only[kB]at *
   rw[adZ]
   by_cases e:t.kind=2
   ·exact .inl e
   ·exact .inr (by grind)
 refine .sr<|.az rfl<|.ret (ba (bm _ (.one (.tmp rfl)) (aT [1]) ?_))
 ·exact⟨_,rfl,by rw[d];rfl,by rw[d];exact⟨⟨v,rfl,h⟩,f⟩⟩
 refine .gT c<|.fa rfl<|.gT c<|.lo rfl<|.gT c<|.q .cr<|.q (.bs c)<|.mo rfl<|.split (t:=16) rfl (λa=>?_) (λa=>?_)
 refine .gF a<|.gF a<|.gF a<|.gF a<|.q (.bx a)<|.zn<|.jo ?_
 have d:cC s (l,b)=none:=by
  cases l with
  |nil=>exact k
  |cons t r=>
   rw[i]
   obtain⟨o,_,_⟩:=f t aeh
   simp only[kB]at *
   rw[adZ]
   by_cases e:t.kind=2
   ·exact .inl e
   ·exact .inr (by grind)
 refine .sr<|.az rfl<|.ret (ba (bm _ (.one (.tmp rfl)) (aT [1]) ?_))
 ·exact⟨_,rfl,by rw[d];rfl,by rw[d];exact⟨⟨v,rfl,h⟩,f⟩⟩
 refine .gT a<|.fa rfl<|.gT a<|.lo rfl<|.gT a<|.mo rfl<|.gT a<|.q .kY<|.q (.bs a)<|.zn<|.cond rfl (λp=>?_) λp=>?_
 have d:cC s (l,b)=none:=by
  cases l with
  |nil=>exact k
  |cons t r=>
   rw[i]
   obtain⟨o,_,_⟩:=f t aeh
   simp only[kB]at *
   rw[adZ]
   by_cases e:t.kind=2
   ·exact .inl e
   ·exact .inr (by grind)
 refine .sr<|.az rfl<|.ret (ba (bm _ (.one (.tmp rfl)) (aT [1]) ?_))
 ·exact⟨_,rfl,by rw[d];rfl,by rw[d];exact⟨⟨v,rfl,h⟩,f⟩⟩
 obtain⟨t,r,rfl⟩:∃t r,l=t::r:=by
  cases l with
  |nil=>simp[kB]at *
  |cons t r=>exact⟨t,r,rfl⟩
 have n:cC s (t::r,b)=some (r,b):=by
  rw[i,adY]
  simp only[kB]at *
  grind
 refine .kn<|.sr<|.mo rfl<|.mo rfl<|.nc rfl<|.fa rfl<|.lo rfl<|.rW 1 (r.length+1) h ⟨_,rfl⟩ rfl (by omega) (by simp) (λA m=>?_)
 rw[show((t::r).drop 1).take (r.length+1-1)=r by simp]at m
 have E:=m.aC
 refine .nc rfl<|.fa rfl<|.du rfl rfl<|.z<|.az rfl<|.ret (bm _ (.one (.tmp rfl)) (aT [1]) ?_)
 ·exact⟨_,rfl,by rw[n];rfl,by rw[n];exact⟨⟨A,rfl,m⟩,λt x=>f t (aeA _ x)⟩⟩
theorem rn(d:Nat)(a:bE)(T:ap)(R:aw)(g:dg R d a T)(s:ByteArray):Spec prog 203 [pT d,.string s] R [T] λ_ H'=>∃T',H'=[T']/\dg R d (fA s a) T':=by
 have i:=lk d a T R g s
 have e:fA s a=(cC s a).getD je:=rfl
 refine Spec.body func203 rfl results203 ntmps203 rfl<|.sr<|.mo rfl<|.mo rfl<|.bQ (R:=R) i (λu T' f=>?_)
 obtain⟨rfl,c⟩:=f
 refine .q .not<|.zn<|.cond rfl (λb=>?_) λb=>?_
 have h:cC s a=none:=by
  cases hh:cC s a with
  |none=>rfl
  |some x=>rw[hh]at b;simp at b
 rw[h]at c e
 simp only[aes]at c
 obtain⟨⟨v,rfl,j⟩,_⟩:=c
 have l:=j.aC
 refine .region<|.mo rfl<|.bQ (R:=R) (qO d v a.2 R) (λu T' f=>?_)
 subst f
 refine .nil<|fg _ .none rH ?_
 ·exact⟨_,rfl,by rw[e];exact dg.nil⟩
 obtain⟨x,k⟩:∃x,cC s a=some x:=by
  cases hh:cC s a with
  |none=>rw[hh]at b;simp at b
  |some x=>exact⟨x,rfl⟩
 rw[k]at c e
 refine .skip<|fg _ .none rH ?_
 ·exact⟨_,rfl,by rw[e];exact c⟩
theorem pO(d:Nat)(g:bE)(T:ap)(R:aw)(p:dg R d g T):Spec prog 202 [pT d] R [T] λu H'=>∃T',H'=[T']/\u=.string (cP isWord g).1/\dg R d (cP isWord g).2 T':=by
 obtain⟨⟨v,rfl,h⟩,j⟩:=p
 obtain⟨l,b⟩:=g
 simp only at h j⊢
 have B:=h.aC
 have A:=h.le
 have m:cP isWord ([],b)=(⟨#[]⟩,je):=rfl
 have i:∀t r,cP isWord (t::r,b)=if t.kind≠1\/isWord t.text=false then(⟨#[]⟩,je)else(t.text,(r,b)):=λ_ _=>rfl
 have w:(kB l).text.size<=9223372036854775807:=by
  cases l with
  |nil=>exact ad2 _
  |cons t r=>exact(j t aeh).2.1
 refine Spec.body func202 rfl results202 ntmps202 rfl<|.sr<|.ag rfl<|.z<|.mo rfl<|.bj (yn d v b l _ h.rx) (λu c=>?_)
 subst c
 refine .bT (λy=>?_)
 refine .bP rfl rfl<|.zs<|.sr<|.fa rfl<|.lo rfl<|.q .eJ<|.mo rfl<|.split (t:=9) rfl (λa=>?_) (λa=>?_)
 refine .gF a<|.gF a<|.gF a<|.gF a<|.q (.bx a)<|.zn<|.jo ?_
 have f:cP isWord (l,b)=(⟨#[]⟩,je):=by
  cases l with
  |nil=>exact m
  |cons t r=>
   rw[i,adZ]
   simp only[kB]at *
   by_cases e:t.kind=1
   ·right;simp_all
   ·exact .inl e
 refine .sr<|.mo rfl<|.bQ (R:=R) (qO d v b R) (λu T' c=>?_)
 subst c
 refine .z<|.az rfl<|.ret (ba (bm _ (.one (.tmp rfl)) (aT [1]) ?_))
 ·exact⟨_,rfl,by rw[f],by rw[f];exact dg.nil⟩
 refine .gT a<|.fa rfl<|.gT a<|.lo rfl<|.gT a<|.bj ((jD _ w R).weaken dJ) (λu c=>?_)
 subst c
 refine .gT a<|.q .not<|.q (.bs a)<|.zn<|.cond rfl (λo=>?_) λo=>?_
 have f:cP isWord (l,b)=(⟨#[]⟩,je):=by
  cases l with
  |nil=>exact m
  |cons t r=>
   rw[i,adZ]
   simp only[kB]at *
   by_cases e:t.kind=1
   ·right;simp_all
   ·exact .inl e
 refine .sr<|.mo rfl<|.bQ (R:=R) (qO d v b R) (λu T' c=>?_)
 subst c
 refine .z<|.az rfl<|.ret (ba (bm _ (.one (.tmp rfl)) (aT [1]) ?_))
 ·exact⟨_,rfl,by rw[f],by rw[f];exact dg.nil⟩
 obtain⟨t,r,rfl⟩:∃t r,l=t::r:=by
  cases l with
  |nil=>simp[kB]at *
  |cons t r=>exact⟨t,r,rfl⟩
 have n:cP isWord (t::r,b)=(t.text,(r,b)):=by
  rw[i,adY]
  simp_all[kB]
 refine .kn<|.sr<|.mo rfl<|.mo rfl<|.nc rfl<|.fa rfl<|.lo rfl<|.rW 1 (r.length+1) h ⟨_,rfl⟩ rfl (by omega) (by simp) (λx k=>?_)
 rw[show((t::r).drop 1).take (r.length+1-1)=r by simp]at k
 have C:=k.aC
 refine .nc rfl<|.fa rfl<|.du rfl rfl<|.z<|.fa rfl<|.lo rfl<|.az rfl<|.ret (bm _ (.one (.tmp rfl)) (aT [1]) ?_)
 ·exact⟨_,rfl,by rw[n];rfl,by rw[n];exact⟨⟨x,rfl,k⟩,λt s=>j t (aeA _ s)⟩⟩
theorem qe{s:ByteArray}{a:bE}(h:∀t∈a.1,dT t)(b:s=nM\/s=oM\/s=p7\/s=oL\/s=p8\/s=r6):cC s a=none:=by
 unfold cC
 split
 ·rfl
 ·rename_i t r e
  have ht:=(h t (by rw[e];exact aeh)).2.2
  rw[adZ]
  rcases ht with ht|⟨c,d,f,g,i,j⟩
  ·exact .inl ht
  ·right
   rcases b with rfl|rfl|rfl|rfl|rfl|rfl<;>assumption
theorem pN{W:ByteArray->Bool}{a:bE}(h:∀t∈a.1,dT t):(cP W a).1.size<=9223372036854775807:=by
 unfold cP
 split
 ·exact ad2 _
 ·rename_i t r e
  split
  ·exact ad2 _
  ·exact(h t (by rw[e];exact aeh)).2.1
section
variable{R:aw}
theorem qc(a:Nat)(b:bE)(T:ap)(c:dg R a b T)(s:ByteArray)(d:s=nM\/s=oM\/s=p7\/s=oL\/s=p8\/s=r6):Spec prog 156 [pT a,.string s] R [T] λu H'=>∃T',H'=[T']/\u=.bool false/\dg R a b T':=
 (lk a b T R c s).mono λu H' e=>by
  obtain⟨T',rfl,rfl,h⟩:=e
  rw[qe c.ok d]at h⊢
  exact⟨T',rfl,rfl,h⟩
theorem qY(b:Nat)(a:bE)(T:ap)(h:dg R b a T):Spec prog 247 [pT b] R [T] λu H'=>∃T',H'=[T']/\u=.agg (dX isWord a).1.enc.toArray/\dg R b (dX isWord a).2 T':=by
 have d:dX isWord a=match cC oN a with
  |some s=>(⟨⟨#[]⟩,⟨#[]⟩⟩,s)
  |none=>(⟨(cP isWord a).1,(cP isWord (fA p9 (cP isWord a).2)).1⟩,(cP isWord (fA p9 (cP isWord a).2)).2):=rfl
 generalize dX isWord a=out at *
 refine Spec.body func247 rfl results247 ntmps247 rfl<|.sr ?_
 refine .bT (λo=>?_)
 refine .zs<|.sr<|.mo rfl<|.bQ (R:=R) (lk b a T R h oN) (λu T' e=>?_)
 obtain⟨rfl,c⟩:=e
 refine .zn<|.cond rfl (λf=>?_) λf=>?_
 obtain⟨s,g⟩:=aet.1 f
 rw[g]at c d
 simp only[aeR]at c d
 subst d
 refine .sr<|.q .cD<|.bP rfl rfl<|.zn ?_
 refine .ret (ba (bm _ (.one (.fH rfl rfl)) (aT [1]) ?_))
 ·exact⟨_,rfl,rfl,c⟩
 have g:cC oN a=none:=by
  cases hh:cC oN a with
  |none=>rfl
  |some x=>rw[hh]at f;cases f
 rw[g]at c d
 simp only[aes]at c d
 subst d
 refine .kn<|.sr<|.mo rfl<|.bQ (R:=R) (pO b a _ R c) (λu l e=>?_)
 obtain⟨rfl,i⟩:=e
 refine .q .cD ?_
 refine .bT (λp=>?_)
 refine .bP rfl rfl<|.z<|.mo rfl ?_
 refine .bQ (R:=R) (rn b _ _ R i p9) (λu m j=>?_)
 refine .z<|.mo rfl<|.bQ (R:=R) (pO b _ _ R j) (λu n e=>?_)
 obtain⟨rfl,k⟩:=e
 refine .fa rfl<|.du rfl rfl<|.z<|.q (.aU rfl)<|.bP rfl rfl<|.zn ?_
 refine .ret (bm _ (.one (.fH rfl rfl)) (aT [2]) ?_)
 ·exact⟨_,rfl,rfl,k⟩
def dB(l:List Nd)(st:bE):List Nd×bE:=
 match cC mO st with
 |some s=>(l++[⟨1,⟨#[]⟩,⟨#[]⟩,0,0⟩],s)
 |none=>(l++[⟨2,(cP isWord st).1,⟨#[]⟩,0,0⟩],(cP isWord st).2)
theorem lE(l:List Nd)(a:bE):eO (dB l a).2 a:=by
 unfold dB
 split
 ·rename_i s h;exact(fL h).1
 ·exact jE a
theorem JD{a:bE}(h:∀t∈a.1,dT t)(f:Nat)(l:List Nd):iO isWord (f+1) l a=dB l a:=by
 rw[iO]
 unfold dB
 cases hh:cC mO a with
 |some s=>rfl
 |none=>
  rw[qe h (by simp)]
  simp only
  rw[qe (λt b=>h t ((jE a).mem b)) (by simp)]
theorem sd{a:bE}(h:∀t∈a.1,dT t)(f:Nat)(l:List Nd):mD (iO isWord (f+1)) l a=dB l a:=by
 unfold mD
 rw[JD h,qd]
 split
 ·rfl
 ·rw[qe (λt b=>h t ((lE l a).mem b)) (by simp)]
def gv(st:bE):Int×bE:=match cC gK st with
 |some s=>(4,s)
 |none=>(0,st)
theorem yO{a:bE}(h:∀t∈a.1,dT t):pI a=(cC gK a).map λs=>(4,s):=by
 unfold pI
 cases hh:cC gK a with
 |some s=>rfl
 |none=>rw[qe h (by simp)];rfl
def ob(g:Nat)(l:List Nd)(k:Int)(s:bE):List Nd×bE:=
 if k=0 then(l,s)else if s.2 then(l,s)else js (iO isWord 1) g (my (dB l s).1 k ((l.length:Int)-1)) (dB l s).2
theorem sU{g:Nat}{l:List Nd}{a:bE}(h:∀t∈a.1,dT t):js (iO isWord 1) (g+1) l a=ob g l (gv a).1 (gv a).2:=by
 rw[js,yO h]
 unfold ob gv
 cases hh:cC gK a with
 |none=>rfl
 |some s=>
  simp only[aeI]
  rw[adY (show ¬(4:Int)=0 by decide),sd (λt b=>h t ((fL hh).1.mem b))]
theorem wT{a:bE}(h:∀t∈a.1,dT t)(f:Nat):∀(g:Nat) (l:List Nd) {a:bE},(∀t∈a.1,dT t)->js (iO isWord (f+1)) g l a=js (iO isWord 1) g l a
 |0,_,_,_=>rfl
 |g+1,l,a,h=>by
  rw[js,js,yO h]
  cases hh:cC gK a with
  |none=>rfl
  |some s=>
   have b:∀t∈s.1,dT t:=λt c=>h t ((fL hh).1.mem c)
   simp only[aeI]
   rw[sd b,sd b]
   split
   ·rfl
   ·exact wT h f g _ λt c=>b t ((lE l s).mem c)
def kQ(l:List Nd)(st:bE):List Nd×bE:=js (iO isWord 1) ((dB l st).2.1.length+1) (dB l st).1 (dB l st).2
theorem BM{a:bE}(h:∀t∈a.1,dT t)(f:Nat)(l:List Nd):ox (iO isWord (f+1)) l a=kQ l a:=by
 unfold ox kQ
 rw[sd h]
 exact wT h f _ _ λt b=>h t ((lE l a).mem b)
theorem JE(c:Nat)(a:bE)(T:ap)(m:dg R c a T)(v:Value)(l:List Nd)(j:ap)(h:OS 199 5 Nd.enc v l j)(B:l.length<=3000000):Spec prog 273 [pT c,v] R [T,j] λu H'=>∃T' Tl',H'=[T',Tl']/\OS 199 5 Nd.enc u (dB l a).1 Tl'/\dg R c (dB l a).2 T':=by
 have e:dB l a=match cC mO a with
  |some s=>(l++[⟨1,⟨#[]⟩,⟨#[]⟩,0,0⟩],s)
  |none=>(l++[⟨2,(cP isWord a).1,⟨#[]⟩,0,0⟩],(cP isWord a).2):=rfl
 generalize dB l a=out at *
 have C:=h.aC
 refine Spec.body func273 rfl results273 ntmps273 rfl ?_
 refine .sr<|.ag rfl<|.zs<|.block<|.sr<|.mo rfl ?_
 refine .bQ (R:=R) (lk c a T R m mO) (λu T' b=>?_)
 obtain⟨rfl,d⟩:=b
 refine .az rfl ?_
 refine .cond rfl (λg=>?_) λg=>?_
 obtain⟨s,i⟩:=aet.1 g
 rw[i]at d e
 simp only[aeR]at d e
 subst e
 refine .sr<|.mo rfl ?_
 refine .q .cD ?_
 refine .dV (λy=>?_)
 refine .append h (RS.lits (xs:=[(⟨1,⟨#[]⟩,⟨#[]⟩,0,0⟩:Nd)]) rfl (by simp[Nd.enc]) (by simp[Nd.enc,aC])) (by simp only[ad6];omega) (λt k f=>?_)
 have r:=f.aC
 refine .az rfl ?_
 refine .ret (bF (ba (bm _ (.one (.tmp rfl)) (aT [1,1]) ?_)))
 ·exact⟨_,_,rfl,f,d⟩
 have i:cC mO a=none:=by
  cases hh:cC mO a with
  |none=>rfl
  |some x=>rw[hh]at g;cases g
 rw[i]at d e
 simp only[aes]at d e
 subst e
 refine .sr<|.mo rfl ?_
 refine .bQ (R:=R) (qc c a _ d nM (by simp)) (λu T' b=>?_)
 obtain⟨rfl,n⟩:=b
 refine .az rfl<|.di<|.skip<|bg<|aB<|.sr<|.mo rfl ?_
 refine .bQ (R:=R) (pO c a _ R n) (λu w b=>?_)
 obtain⟨rfl,o⟩:=b
 refine .q .cD ?_
 refine .bT (λA=>?_)
 refine .bP rfl rfl<|.zs<|.sr<|.mo rfl ?_
 refine .bQ (R:=R) (qc c _ _ o p8 (by simp)) (λu T' b=>?_)
 obtain⟨rfl,p⟩:=b
 refine .zn<|.di<|.kn<|.sr<|.mo rfl<|.q (.aU rfl) ?_
 refine .dV (λz=>?_)
 refine .append h (RS.lits (xs:=[(⟨2,(cP isWord a).1,⟨#[]⟩,0,0⟩:Nd)]) rfl (by simp[Nd.enc]) (by simp[Nd.enc,aC])) (by simp only[ad6];omega) (λt k f=>?_)
 have r:=f.aC
 refine .az rfl ?_
 refine .ret (bm _ (.one (.tmp rfl)) (aT [2,2]) ?_)
 ·exact⟨_,_,rfl,f,p⟩
theorem Ad(a:Nat)(d:bE)(T:ap)(p:dg R a d T)(v:Value)(l:List Nd)(i:ap)(s:OS 199 5 Nd.enc v l i)(D:l.length<=3000000):Spec prog 265 [pT a,v] R [T,i] λu H'=>∃T' Tl',H'=[T',Tl']/\OS 199 5 Nd.enc u (dB l d).1 Tl'/\dg R a (dB l d).2 T':=by
 have K:=s.aC
 refine Spec.body func265 rfl results265 ntmps265 rfl ?_
 refine .sr<|.ag rfl<|.z<|.mo rfl<|.mo rfl ?_
 refine .call [0,0] (JE (R:=Rx R []) a d T ⟨p.h.imp λv h=>⟨h.1,h.2.rx⟩,p.ok⟩ v l i s D) (λu H' k=>?_)
 obtain⟨m,C,rfl,w,g⟩:=k
 have g:dg R a (dB l d).2 m:=⟨g.h.imp λv h=>⟨h.1,h.2.mono λb o j=>j.elim id λj=>(by cases j)⟩,g.ok⟩
 have I:=w.aC
 conv=>arg 8;simp only[rest,bJ,aeu,aev]
 refine .ag rfl<|.zs<|.block ?_
 refine .cX [(0,_)] (X:=ap) (λT=>dg R a (dB l d).2 T) (λ_ E=>(1,_)::E) (λT G=>T::G) (λ_=>0) m g kE.c.c rH ?_
 rintro n f
 obtain⟨⟨B,x,A⟩,F⟩:=f
 have f:dg R a (dB l d).2 n:=⟨⟨B,x,A⟩,F⟩
 have J:=A.aC
 have L:PS n (pT a) [B,.bool (dB l d).2.2]:=PS.of (E:=215) (fr:=(0,0)) (by rw[x];simp)
 refine .seq<|.seq ?_
 refine bq.dI [(0,_),(1,_)] kE.c.c (X:=ap) (λT=>dg R a (dB l d).2 T) (λ_ E=>(17,.bool false)::E) (λT=>[T,C]) ?_ ?_
 refine .region<|.mo rfl<|.nc rfl<|.fa rfl<|.lo rfl<|.q .not<|.mo rfl ?_
 refine .split (t:=14) rfl (λe=>?_) (λe=>?_)
 refine .gT e<|.mo rfl<|.gT e ?_
 refine .bQ (R:=R) (qc a _ _ f p7 (by simp)) (λu T' k=>?_)
 obtain⟨rfl,r⟩:=k
 refine .q (.bx e) ?_
 refine .nil ?_
 ·first
   |exact aL _ r kE.c.c.c rH
   |exact aL _ f kE.c.c.c rH
 refine .gF e<|.gF e<|.q (.bs e) ?_
 refine .nil ?_
 ·first
   |exact aL _ r kE.c.c.c rH
   |exact aL _ f kE.c.c.c rH
 intro y H
 refine aB<|.di<|.exit<|br<|bz<|bw<|aB<|.sr<|.mo rfl<|.az rfl ?_
 refine .ret (bm _ (.one (.tmp rfl)) rH ?_)
 ·exact⟨_,_,rfl,w,by assumption⟩
theorem yG(d:Nat)(a:bE)(T:ap)(i:dg R d a T):Spec prog 266 [pT d] R [T] λu H'=>∃T',H'=[T']/\u=.int .i64 (gv a).1/\dg R d (gv a).2 T':=by
 have c:gv a=match cC gK a with
  |some s=>(4,s)
  |none=>(0,a):=rfl
 generalize gv a=out at *
 refine Spec.body func266 rfl results266 ntmps266 rfl ?_
 refine .sr<|.ag rfl<|.zs<|.block<|.sr<|.mo rfl ?_
 refine .bQ (R:=R) (lk d a T R i gK) (λu T' g=>?_)
 obtain⟨rfl,b⟩:=g
 refine .az rfl ?_
 refine .cond rfl (λe=>?_) λe=>?_
 obtain⟨s,f⟩:=aet.1 e
 rw[f]at b c
 simp only[aeR]at b c
 subst c
 refine .sr<|.az rfl ?_
 refine .ret (bF (ba (bm _ (.one (.tmp rfl)) rH ?_)))
 ·first
   |exact⟨_,rfl,rfl,b⟩
   |exact⟨_,rfl,rfl,h⟩
 have f:cC gK a=none:=by
  cases hh:cC gK a with
  |none=>rfl
  |some x=>rw[hh]at e;cases e
 rw[f]at b c
 simp only[aes]at b c
 subst c
 refine .sr<|.mo rfl ?_
 refine .bQ (R:=R) (qc d _ _ b oL (by simp)) (λu T' g=>?_)
 obtain⟨rfl,h⟩:=g
 refine .az rfl<|.di<|.skip<|bg<|aB<|.sr<|.az rfl ?_
 refine .ret (bm _ (.one (.tmp rfl)) rH ?_)
 ·first
   |exact⟨_,rfl,rfl,b⟩
   |exact⟨_,rfl,rfl,h⟩
theorem J4(v:Value)(l:List Nd)(c:ap)(b:OS 199 5 Nd.enc v l c)(g:l.length<=3000000)(k a:Int):Spec prog 267 [v,.int .i64 k,.int .i64 a] R [c] λu H'=>∃Tl',H'=[Tl']/\OS 199 5 Nd.enc u (my l k a) Tl':=by
 have i:=b.aC
 refine Spec.body func267 rfl results267 ntmps267 rfl ?_
 refine .sr<|.ag rfl<|.z<|.mo rfl<|.mo rfl<|.mo rfl<|.mo rfl<|.q (.fz b) ?_
 refine .q (.i64 ((l.length:Int)-1) .sub ⟨rfl,by omega,by omega⟩) ?_
 refine .q .cD ?_
 refine .dV (λf=>?_)
 refine .append b (RS.lits (xs:=[(⟨k,⟨#[]⟩,⟨#[]⟩,a,(l.length:Int)-1⟩:Nd)]) rfl (by simp[Nd.enc]) (by simp[Nd.enc,aC])) (by simp only[ad6];omega) (λj e d=>?_)
 have h:=d.aC
 refine .az rfl ?_
 refine .ret (bm _ (.one (.tmp rfl)) (aT [1]) ?_)
 ·exact⟨_,rfl,d⟩
theorem J3(l:List Nd)(k a:Int):(my l k a).length=l.length+1:=by unfold my;simp
theorem wS(l:List Nd)(a:bE):(dB l a).1.length=l.length+1:=by
 unfold dB
 split<;>simp
theorem yI(a:bE):((gv a).1≠0->(gv a).2.1.length+1<=a.1.length)/\(gv a).2.1.length<=a.1.length:=by
 unfold gv
 cases hh:cC gK a with
 |none=>exact⟨λh=>absurd rfl h,Nat.le_refl _⟩
 |some s=>have:=(fL hh).2.1;exact⟨λ_=>by simp only;omega,by simp only;omega⟩
theorem K6{a:bE}(h:∀t∈a.1,dT t):∀t∈(gv a).2.1,dT t:=by
 unfold gv
 cases hh:cC gK a with
 |none=>exact h
 |some s=>exact λt b=>h t ((fL hh).1.mem b)
theorem BN(i:Nat)(a:bE)(T:ap)(H:dg R i a T)(v:Value)(l:List Nd)(D:ap)(N:OS 199 5 Nd.enc v l D)(hl:l.length+2*a.1.length<=2500000):Spec prog 248 [pT i,v] R [T,D] λu H'=>∃T' Tl',H'=[T',Tl']/\OS 199 5 Nd.enc u (kQ l a).1 Tl'/\dg R i (kQ l a).2 T':=by
 have iv:=N.aC
 obtain⟨x,J⟩:∃x,x=kQ l a:=⟨_,rfl⟩
 have a7:∀t∈(dB l a).2.1,dT t:=λt L=>H.ok t ((lE l a).mem L)
 have b5:=(lE l a).len
 have b2:=wS l a
 have a5:ob (dB l a).2.1.length (dB l a).1 (gv (dB l a).2).1 (gv (dB l a).2).2=x:=by
  rw[J]
  unfold kQ
  rw[sU a7]
 rw[<-J]
 clear J
 obtain⟨V,b4⟩:=yI (dB l a).2
 refine Spec.body func248 rfl results248 ntmps248 rfl ?_
 refine .sr<|.ag rfl<|.z<|.mo rfl<|.mo rfl ?_
 refine .call [0,0] (Ad (R:=Rx R []) i a T ⟨H.h.imp λv h=>⟨h.1,h.2.rx⟩,H.ok⟩ v l D N (by omega)) (λu H' m=>?_)
 obtain⟨n,A,rfl,O,B⟩:=m
 have B:dg R i (dB l a).2 n:=⟨B.h.imp λv h=>⟨h.1,h.2.mono λb o I=>I.elim id λI=>(by cases I)⟩,B.ok⟩
 have i1:=O.aC
 conv=>arg 8;simp only[rest,bJ,aeu,aev]
 refine .ag rfl<|.zs<|.sr<|.mo rfl ?_
 refine .bQ (R:=R) (yG i _ _ B) (λu T' m=>?_)
 obtain⟨rfl,a2⟩:=m
 refine .az rfl<|.block ?_
 refine .cX [(0,_)] (X:=Nat×List Nd×Int×bE×Value×(ap×ap)) (λy=>ob y.1 y.2.1 y.2.2.1 y.2.2.2.1=x/\(y.2.2.1≠0->y.2.2.2.1.1.length+1<=y.1/\y.2.1.length+2*y.2.2.2.1.1.length<=2500001)/\dg R i y.2.2.2.1 y.2.2.2.2.2.1/\OS 199 5 Nd.enc y.2.2.2.2.1 y.2.1 y.2.2.2.2.2.2) (λy E=>(5,.int .i64 y.2.2.1)::(1,y.2.2.2.2.1)::E) (λy G=>y.2.2.2.2.2.1::y.2.2.2.2.2.2::G) (λy=>y.1) ((dB l a).2.1.length,(dB l a).1,(gv (dB l a).2).1,(gv (dB l a).2).2,_,(T',A)) ⟨a5,λC=>⟨V C,by have:=V C;simp only;omega⟩,a2,O⟩ kE.c.c.c rH ?_
 rintro⟨g,f,k,s,v1,⟨n,A⟩⟩ ⟨j,M,p,r⟩
 simp only at j M p r⊢
 have i3:=r.aC
 obtain⟨⟨Z,U,Y⟩,W⟩:=p
 have p:dg R i s n:=⟨⟨Z,U,Y⟩,W⟩
 have b8:=Y.aC
 have b9:PS n (pT i) [Z,.bool s.2]:=PS.of (E:=215) (fr:=(0,0)) (by rw[U];simp)
 unfold ob at j
 refine .seq<|.seq ?_
 refine bq.dI [(0,_),(1,_),(5,_)] kE.c.c.c (X:=Unit) (λ_=>True) (λ_ E=>(20,.bool (decide (k≠0)&& !s.2))::E) (λ_=>[n,A]) ?_ ?_
 refine .region<|.mo rfl<|.q .eJ<|.mo rfl ?_
 refine .split (t:=14) rfl (λe=>?_) (λe=>?_)
 refine .gT e<|.mo rfl<|.gT e<|.nc rfl<|.gT e<|.fa rfl<|.gT e<|.lo rfl<|.gT e<|.q .not<|.q (.bx e) ?_
 refine .nil ?_
 ·first
   |exact aL () ad0 (kE.c.c.c.dD rfl (by simp_all)) rH
 refine .gF e<|.gF e<|.gF e<|.gF e<|.gF e<|.q (.bs e) ?_
 refine .nil ?_
 ·first
   |exact aL () ad0 (kE.c.c.c.dD rfl (by simp_all)) rH
 intro y hy
 refine aB ?_
 refine .cond rfl (λh1=>?_) λh1=>?_
 have w:k≠0:=by simp_all
 have K:¬s.2=true:=by simp_all
 rw[adY w,adY K]at j
 obtain⟨a9,b0⟩:=M w
 have b7:=(lE f s).len
 have b1:=wS f s
 obtain⟨F,rfl⟩:∃F,g=F+1:=⟨g-1,by omega⟩
 rw[sU (λt L=>W t ((lE f s).mem L))]at j
 obtain⟨a8,b6⟩:=yI (dB f s).2
 refine .kn<|.seq<|.block<|.sr<|.mo rfl<|.q (.fz r) ?_
 refine .q (.i64 ((f.length:Int)-1) .sub ⟨rfl,by omega,by omega⟩) ?_
 refine .az rfl<|.region<|.mo rfl<|.mo rfl ?_
 refine .call [0,0] ((Ad (R:=R) i s n p v1 f A r (by omega)).weaken dJ) (λu H' m=>?_)
 obtain⟨T2,a0,rfl,Q,a3⟩:=m
 have i4:=Q.aC
 conv=>arg 8;simp only[rest,bJ,aeu,aev]
 refine .mo rfl<|.mo rfl ?_
 refine .bQ (R:=R) (J4 _ _ a0 Q (by omega) k _) (λu a1 S=>?_)
 have i5:=S.aC
 have b3:=J3 (dB f s).1 k ((f.length:Int)-1)
 refine .ag rfl<|.nil<|bg<|aB<|.region<|.mo rfl ?_
 refine .bQ (R:=R) (yG i _ _ a3) (λu T3 m=>?_)
 obtain⟨rfl,a4⟩:=m
 refine .ag rfl<|.nil ?_
 ·exact bu (F,my (dB f s).1 k ((f.length:Int)-1),(gv (dB f s).2).1,(gv (dB f s).2).2,_,(T3,a1)) ⟨j,λC=>by have:=a8 C;simp only;omega,a4,S⟩ (by simp only;omega) (((kE.d rfl).d rfl).d rfl) rH
 have a6:(f,s)=x:=by
  by_cases w:k=0
  ·rw[adZ w]at j;exact j
  ·rw[adY w]at j
   have K:s.2=true:=by simp_all
   rw[adZ K]at j;exact j
 refine .exit<|br<|bz<|bw<|aB<|.sr<|.mo rfl<|.az rfl ?_
 refine .ret (bm _ (.one (.tmp rfl)) rH ?_)
 ·subst a6
  exact⟨_,_,rfl,r,p⟩
end
theorem Ke(n:Nd)(w:n.fits)(R:aw):Spec prog 226 [.agg n.enc.toArray] R [] λu H'=>u=.bool (n.leaf isWord)/\H'=[]:=by
 obtain⟨k,j,m,a,b⟩:=n
 obtain⟨i,l⟩:=w
 simp only at i l
 refine Spec.body func226 rfl results226 ntmps226 rfl<|.sr ?_
 refine .cm rfl (λo=>?_)
 refine .ag rfl<|.zs<|.seq ?_
 refine bq.dI [(1,_)] kE.c (X:=Unit) (λ_=>True) (λ_ E=>(10,.bool (!(a==0&&b==0)))::E) (λ_=>[bl o (Nd.enc ⟨k,j,m,a,b⟩) 199]) ?_ ?_
 refine .region<|.fa rfl<|.lo rfl<|.q .eJ<|.mo rfl<|.split (t:=6) rfl (λd=>?_) (λd=>?_)
 refine .gF d<|.gF d<|.gF d<|.q (.bx d)<|.nil ?_
 ·exact aL () ad0 (kE.c.dD rfl (by grind)) rH
 refine .gT d<|.fa rfl<|.gT d<|.lo rfl<|.gT d<|.q .eJ<|.q (.bs d)<|.nil ?_
 ·exact aL () ad0 (kE.c.dD rfl (by grind)) rH
 intro y x
 refine aB<|.cond rfl (λp=>?_) λp=>?_
 refine .sr<|.az rfl<|.ret (ba (aY rfl ?_))
 ·refine⟨ad1 _ ?_,rfl⟩
  simp only[Nd.leaf]
  grind
 refine .kn<|.seq<|.sr<|.fa rfl<|.lo rfl<|.zn<|.block<|.sr<|.q .cr<|.az rfl<|.cond rfl (λr=>?_) λr=>?_
 refine .sr<|.fa rfl<|.lo rfl<|.q .gW<|.mo rfl<|.split (t:=18) rfl (λe=>?_) (λe=>?_)
 refine .gT e<|.fa rfl<|.gT e<|.lo rfl<|.gT e<|.q .gW<|.q (.bx e)<|.az rfl<|.ret (bF (ba (aY rfl ?_)))
 ·refine⟨ad1 _ ?_,rfl⟩
  simp only[Nd.leaf]
  grind
 refine .gF e<|.gF e<|.gF e<|.q (.bs e)<|.az rfl<|.ret (bF (ba (aY rfl ?_)))
 ·refine⟨ad1 _ ?_,rfl⟩
  simp only[Nd.leaf]
  grind
 refine .sr<|.q .cr<|.az rfl<|.cond rfl (λs=>?_) λs=>?_
 refine .sr<|.fa rfl<|.lo rfl<|.bj (jD j i _) (λu h=>?_)
 subst h
 refine .mo rfl<|.split (t:=28) rfl (λf=>?_) (λf=>?_)
 refine .gT f<|.fa rfl<|.gT f<|.lo rfl<|.gT f<|.q .gW<|.q (.bx f)<|.az rfl<|.ret (bF (ba (aY rfl ?_)))
 ·refine⟨ad1 _ ?_,rfl⟩
  simp only[Nd.leaf]
  grind
 refine .gF f<|.gF f<|.gF f<|.q (.bs f)<|.az rfl<|.ret (bF (ba (aY rfl ?_)))
 ·refine⟨ad1 _ ?_,rfl⟩
  simp only[Nd.leaf]
  grind
 refine .sr<|.q .cr<|.az rfl<|.cond rfl (λv=>?_) λv=>?_
 refine .sr<|.fa rfl<|.lo rfl<|.bj (jD j i _) (λu h=>?_)
 subst h
 refine .mo rfl<|.split (t:=38) rfl (λg=>?_) (λg=>?_)
 refine .gT g<|.fa rfl<|.gT g<|.lo rfl<|.gT g<|.bj (jD m l _) (λu h=>?_)
 subst h
 refine .q (.bx g)<|.az rfl<|.ret (bF (ba (aY rfl ?_)))
 ·refine⟨ad1 _ ?_,rfl⟩
  simp only[Nd.leaf]
  grind
 refine .gF g<|.gF g<|.gF g<|.q (.bs g)<|.az rfl<|.ret (bF (ba (aY rfl ?_)))
 ·refine⟨ad1 _ ?_,rfl⟩
  simp only[Nd.leaf]
  grind
 refine .skip<|bg<|aB<|.sr<|.az rfl<|.ret (aY rfl ?_)
 ·refine⟨ad1 _ ?_,rfl⟩
  simp only[Nd.leaf]
  grind
theorem sO(W:ByteArray->Bool):∀(a b:List Nd) (S:List (Nat×Nat)),ik W (a++b) S=(ik W a S).bind (ik W b)
 |[],b,S=>rfl
 |n::a,b,S=>by
  rw[aeu,ik,ik]
  cases gk W S n with
  |none=>rfl
  |some S'=>exact sO W a b S'
theorem iQ{α:Type}{A:List α}{i k:Nat}{x z:α}(a:A.length=i):(A++List.replicate (k+1) z).set i x=(A++[x])++List.replicate k z:=by
 subst a
 rw[List.set_append_right _ _ (Nat.le_refl _),aew,List.replicate_succ,List.set_cons_zero]
 simp
theorem ph{A:List Nat}{j k:Nat}{a:Nat}(h:A[j]? =some a):(A++List.replicate k 0)[j]? =some a:=by
 rw[List.getElem?_append_left (aea.1 h).1]
 exact h
def lB(S:List (Nat×Nat))(n:Nd):Prop:=n.rel≠⟨#[]⟩\/n.eR≠⟨#[]⟩\/n.b≠(S.length:Int)-1\/n.b<0\/n.a≠(S.length:Int)-1-(S.getD (S.length-1) (0,0)).1\/n.a<0
instance(S:List (Nat×Nat))(n:Nd):Decidable (lB S n):=by unfold lB;infer_instance
theorem BF{S:List (Nat×Nat)}{n:Nd}(ho:n.op=true)(h:lB S n):gk isWord S n=none:=by
 unfold gk
 rw[adZ ho]
 exact adZ h
theorem BG{S:List (Nat×Nat)}{n:Nd}(ho:n.op=true)(h:¬lB S n):gk isWord S n=some (S++[((S.getD n.a.toNat (0,0)).1+(S.getD n.b.toNat (0,0)).1+1,max (S.getD n.a.toNat (0,0)).2 (S.getD n.b.toNat (0,0)).2+1)]):=by
 unfold gk
 rw[adZ ho]
 exact adY h
theorem vV{l:List Nd}{i:Nat}{n:Nd}{S:List (Nat×Nat)}(c:l[i]? =some n)(a:ik isWord (l.take i) []=some S)(h:gk isWord S n=none):n6 isWord l=0:=by
 have b:l=l.take i++n::l.drop (i+1):=by
  rw[<-aeJ i l]
  congr 1
  ·rw[aeJ]
  ·rw[aeJ];exact v7 c
 have:ik isWord l []=none:=by
  rw[b,sO,a,aei,ik,h]
  rfl
 unfold n6
 rw[this]
theorem vW(v:Value)(l:List Nd)(R:aw)(h:RS R 5 Nd.enc v l)(s:∀x∈l,x.fits)(c7:l.length<=1000000):
    Spec prog 174 [v] R [] λu H'=>u=.int .i64 (gj isWord l:Nat)/\H'=[]:=by
  rw[<-Bw]
  refine Spec.body func174 rfl results174 ntmps174 rfl ?_
  refine .sr<|.ag rfl<|.zs ?_
  refine bq.dI [(0,_)] kE.c (X:=(Nat×ap)×(Nat×ap)) (λy=>OS 3 1 dr (.slice (some ⟨y.1.1,0,none⟩) l.length l.length) (List.replicate l.length 0) y.1.2/\OS 3 1 dr (.slice (some ⟨y.2.1,0,none⟩) l.length l.length) (List.replicate l.length 0) y.2.2) (λy E=>(3,.slice (some ⟨y.1.1,0,none⟩) l.length l.length)::(4,.slice (some ⟨y.2.1,0,none⟩) l.length l.length)::E) (λy=>[y.1.2,y.2.2]) ?_ ?_
  refine .cG [2,5] mixed ?_
  refine .tK 0 rfl .move ?_
  refine .tK 1 rfl (.cq h) ?_
  refine .tK 3 rfl .move ?_
  refine .tK 4 rfl (.cq h) ?_
  refine RA.hG 2 5 rfl rfl (by kernel_rfl) rfl ?_ ?_
  refine .makeSlice (enc:=dr) l.length 0 rfl rfl (by decide) (by simp[dr,aC]) rfl rfl (by omega) (by omega) (λL w d=>?_)
  refine .nil (Next.mod rfl ?_)
  refine .tK 6 rfl .assign ?_
  refine .sT 5 rfl ?_
  refine .makeSlice (enc:=dr) l.length 0 rfl rfl (by decide) (by simp[dr,aC]) rfl rfl (by omega) (by omega) (λM A e=>?_)
  refine .nil (Next.mod rfl ?_)
  refine .tK 7 rfl .assign ?_
  refine RA.nil (by kernel_rfl) ?_
  ·first
      |exact aL ((L,w),(M,A)) ⟨d,e⟩ kE.c.c.c (aT [0,0])
      |exact aL ((L,w),(M,A)) ⟨d,e⟩ kE.c.c.c (aT [1,0])
  refine .makeSlice (enc:=dr) l.length 0 rfl rfl (by decide) (by simp[dr,aC]) rfl rfl (by omega) (by omega) (λM A e=>?_)
  refine .nil (Next.mod rfl ?_)
  refine .sT 2 rfl ?_
  refine .makeSlice (enc:=dr) l.length 0 rfl rfl (by decide) (by simp[dr,aC]) rfl rfl (by omega) (by omega) (λL w d=>?_)
  refine .nil (Next.mod rfl ?_)
  refine .tK 6 rfl .assign<|.tK 7 rfl .assign ?_
  refine RA.nil (by kernel_rfl) ?_
  ·first
      |exact aL ((L,w),(M,A)) ⟨d,e⟩ kE.c.c.c (aT [0,0])
      |exact aL ((L,w),(M,A)) ⟨d,e⟩ kE.c.c.c (aT [1,0])
  intro y hy
  obtain⟨⟨L,w⟩,⟨M,A⟩⟩:=y
  obtain⟨d,e⟩:=hy
  simp only at d e⊢
  refine aB<|.seq<|.sr<|.mo rfl<|.q (.cq h) ?_
  refine .mo rfl<|.zn<|.block ?_
  refine .cX [(0,_),(3,_),(4,_),(13,_),(14,_)] (X:=Nat×List (Nat×Nat)×ap×ap) (λy=>y.1<=l.length/\y.2.1.length=y.1/\ik isWord (l.take y.1) []=some y.2.1/\DI isWord l y.2.1/\OS 3 1 dr (.slice (some ⟨L,0,none⟩) l.length l.length) (y.2.1.map (·.1)++List.replicate (l.length-y.1) 0) y.2.2.1/\OS 3 1 dr (.slice (some ⟨M,0,none⟩) l.length l.length) (y.2.1.map (·.2)++List.replicate (l.length-y.1) 0) y.2.2.2) (λy E=>(15,iN y.1)::E) (λy _=>[y.2.2.1,y.2.2.2]) (λy=>l.length-y.1) (0,[],w,A) ⟨ad2 _,rfl,rfl,⟨ad2 _,λj hj=>absurd hj (by simp)⟩,by simpa using d,by simpa using e⟩ kE.c.c.c.c.c.c rH (G:=[]) ?_
  rintro⟨i,S,w,A⟩ ⟨hi,o,Q,m,d,e⟩
  simp only at hi o Q m d e⊢
  refine .sr<|.q .lss<|.zs ?_
  refine .cond rfl (λh1=>?_) λh1=>?_
  have W:i<l.length:=cV h1
  obtain⟨n,J⟩:=cE W
  obtain⟨k,hk⟩:∃k,l.length-i=k+1:=⟨l.length-i-1,by omega⟩
  have K:l.length-(i+1)=k:=by omega
  rw[hk]at d e
  have Y:ik isWord (l.take (i+1)) []=gk isWord S n:=by
    rw[fD J,sO,Q,aei,ik]
    cases gk isWord S n<;>rfl
  have a3:(S.map (·.1)).length=i:=by rw[ad3,o]
  have a4:(S.map (·.2)).length=i:=by rw[ad3,o]
  have r:∀j,j<i->(S.map (·.1))[j]? =some (S.getD j (0,0)).1/\(S.map (·.2))[j]? =some (S.getD j (0,0)).2/\(S.getD j (0,0)).1<=j+1/\(S.getD j (0,0)).2<=j+1/\1<=(S.getD j (0,0)).1:=λj hj=>by
    obtain⟨d1,d2,d3⟩:=m.t j (by omega)
    have d4:=NW _ _ _ d3
    refine⟨?_,?_,d2,d4,d1⟩
    ·rw[ad5,aQ (by omega),ad7,aQ (by omega)];rfl
    ·rw[ad5,aQ (by omega),ad7,aQ (by omega)];rfl
  obtain⟨z1,a0⟩:∃z,(S.map (·.1)++List.replicate (k+1) 0)[i]? =some z:=⟨_,aQ (by rw[aed,a3,ael];omega)⟩
  obtain⟨z2,a1⟩:∃z,(S.map (·.2)++List.replicate (k+1) 0)[i]? =some z:=⟨_,aQ (by rw[aed,a4,ael];omega)⟩
  have b4:=h.le
  refine .kn<|.seq<|.block<|.sr<|.mo rfl ?_
  refine .bZ i h J (λd7=>?_)
  refine .q (.aU rfl) ?_
  refine .bT (λb6=>?_)
  refine .ag rfl<|.bP rfl rfl<|.zs<|.seq ?_
  refine bq.dI [(0,_),(3,_),(4,_),(5,_),(6,_),(13,_),(14,_),(15,_)] kE.c.c.c.c.c.c.c.c (X:=Unit) (λ_=>True) (λ_ E=>(32,.bool (!n.op))::E) (λ_=>[bl b6 n.enc 199,w,A]) ?_ ?_
  refine .region<|.fa rfl<|.lo rfl<|.q .eJ<|.mo rfl ?_
  refine .split (t:=23) rfl (λB=>?_) (λB=>?_)
  refine .gT B<|.fa rfl<|.gT B<|.lo rfl<|.gT B<|.q .eJ<|.q (.bx B) ?_
  refine .mo rfl ?_
  refine .split (t:=28) rfl (λC=>?_) (λC=>?_)
  refine .gT C<|.fa rfl<|.gT C<|.lo rfl<|.gT C<|.q .eJ<|.q (.bx C) ?_
  refine .nil ?_
  ·exact aL () ad0 (kE.c.c.c.c.c.c.c.c.dD rfl (by clear r m d e s;grind[Nd.op])) rH
  refine .gF C<|.gF C<|.gF C<|.q (.bs C) ?_
  refine .nil ?_
  ·exact aL () ad0 (kE.c.c.c.c.c.c.c.c.dD rfl (by clear r m d e s;grind[Nd.op])) rH
  refine .gF B<|.gF B<|.gF B<|.q (.bs B) ?_
  refine .mo rfl<|.gX<|.gX<|.gX<|.q .dG<|.nil ?_
  ·exact aL () ad0 (kE.c.c.c.c.c.c.c.c.dD rfl (by clear r m d e s;grind[Nd.op])) rH
  intro y hy
  refine aB ?_
  refine .cond rfl (λV=>?_) λV=>?_
  refine .seq<|.sr<|.q (.aU rfl) ?_
  refine .bj (Ke n (s n (aX J)) _) (λu hu=>?_)
  subst hu
  refine .q .not<|.zn ?_
  refine .cond rfl (λh3=>?_) λh3=>?_
  refine .sr<|.az rfl ?_
  refine .ret (ba (ba (bF (ba (dm (bF (ba (aY rfl ?_))))))))
  ·refine⟨?_,rfl⟩
   rw[vV J Q (by unfold gk;rw[adY (by have a5:n.op=false:=by simpa using V
                                      rw[a5];simp),adY (by simpa using h3)])]
   rfl
  have a5:n.op=false:=by simpa using V
  have b5:n.leaf isWord=true:=by simpa using h3
  have I:gk isWord S n=some (S++[(1,1)]):=by unfold gk;rw[adY (by rw[a5];simp),adZ b5]
  refine .kn<|.sr<|.mo rfl<|.mo rfl<|.mo rfl<|.mo rfl ?_
  refine .aI i d a0 (λd8=>?_)
  refine .cY i d a0 1 (λT N=>?_)
  rw[iQ a3]at N
  refine .aI i e a1 (λd9=>?_)
  refine .cY i e a1 1 (λU O=>?_)
  rw[iQ a4]at O
  refine .zn<|.exit<|br<|bw<|aB<|.region ?_
  refine .ia (i+1) .add ?_
  refine .mo rfl<|.nil ?_
  ·first
      |exact bu (i+1,S++[(1,1)],T,U) ⟨W,by simp[o],by simp only;rw[Y,I],m.step (by rw[o];exact J) I,by simp only;rw[K,ad4];exact N,by simp only;rw[K,ad4];exact O⟩ (by simp only;omega) kE.c.c.c.c.c.c (aT [1,1])
      |exact bu (i+1,S++[((S.getD n.a.toNat (0,0)).1+(S.getD (i-1) (0,0)).1+1,max (S.getD n.a.toNat (0,0)).2 (S.getD (i-1) (0,0)).2+1)],T,U) ⟨W,by simp[o],by simp only;rw[Y,I],m.step (by rw[o];exact J) I,by simp only;rw[K,ad4];exact N,by simp only;rw[K,ad4];exact O⟩ (by simp only;omega) kE.c.c.c.c.c.c (aT [1,1])
  refine .kn<|.seq<|.seq ?_
  refine bq.dI [(0,_),(3,_),(4,_),(5,_),(6,_),(13,_),(14,_),(15,_)] kE.c.c.c.c.c.c.c.c (X:=Unit) (λ_=>True) (λ_ E=>(79,.bool (decide (n.rel≠⟨#[]⟩\/n.eR≠⟨#[]⟩\/n.b≠(i:Int)-1\/n.b<0\/n.a≠(i:Int)-1-((S.getD (i-1) (0,0)).1:Nat)\/n.a<0)))::E) (λ_=>[bl b6 n.enc 199,w,A]) ?_ ?_
  refine .iA mixed (by kernel_rfl) ?_
  refine .fa rfl<|.lo rfl<|.q .kY<|.mo rfl ?_
  refine .split (t:=45) rfl (λF=>?_) (λF=>?_)
  refine .gF F<|.gF F<|.gF F<|.q (.bx F) ?_
  refine .mo rfl<|.gX<|.gX<|.gX<|.gX<|.gX<|.q .dO<|.mo rfl<|.gX<|.gX<|.gX<|.q .dO<|.mo rfl<|.gX<|.gX<|.gX<|.gX<|.gX<|.gX<|.gX<|.gX<|.gX<|.gX<|.gX<|.q .dO<|.mo rfl<|.gX<|.gX<|.gX<|.q .dO<|.nil ?_
  ·exact aL () ad0 (kE.c.c.c.c.c.c.c.c.dD rfl (by clear r m d e s;grind)) rH
  refine .gT F<|.fa rfl<|.gT F<|.lo rfl<|.gT F<|.q .kY<|.q (.bs F) ?_
  refine .mo rfl ?_
  refine .split (t:=50) rfl (λp=>?_) (λp=>?_)
  refine .gF p<|.gF p<|.gF p<|.gF p<|.gF p<|.q (.bx p) ?_
  refine .mo rfl<|.gX<|.gX<|.gX<|.q .dO<|.mo rfl<|.gX<|.gX<|.gX<|.gX<|.gX<|.gX<|.gX<|.gX<|.gX<|.gX<|.gX<|.q .dO<|.mo rfl<|.gX<|.gX<|.gX<|.q .dO<|.nil ?_
  ·exact aL () ad0 (kE.c.c.c.c.c.c.c.c.dD rfl (by clear r m d e s;grind)) rH
  refine .gT p<|.fa rfl<|.gT p<|.lo rfl<|.gT p<|.mo rfl<|.gT p ?_
  refine .q (.i64 ((i:Int)-1) .sub ⟨rfl,by omega,by omega⟩) ?_
  refine .gT p<|.q .eJ<|.q (.bs p) ?_
  refine .mo rfl ?_
  refine .split (t:=57) rfl (λD=>?_) (λD=>?_)
  refine .gF D<|.gF D<|.gF D<|.q (.bx D) ?_
  refine .mo rfl<|.gX<|.gX<|.gX<|.gX<|.gX<|.gX<|.gX<|.gX<|.gX<|.gX<|.gX<|.q .dO<|.mo rfl<|.gX<|.gX<|.gX<|.q .dO<|.nil ?_
  ·exact aL () ad0 (kE.c.c.c.c.c.c.c.c.dD rfl (by clear r m d e s;grind)) rH
  refine .gT D<|.fa rfl<|.gT D<|.lo rfl<|.gT D<|.q .lss<|.q (.bs D) ?_
  refine .mo rfl ?_
  refine .split (t:=62) rfl (λf=>?_) (λf=>?_)
  refine .gF f<|.gF f<|.gF f<|.gF f<|.gF f<|.gF f<|.gF f<|.gF f<|.gF f<|.gF f<|.gF f<|.q (.bx f) ?_
  refine .mo rfl<|.gX<|.gX<|.gX<|.q .dO<|.nil ?_
  ·exact aL () ad0 (kE.c.c.c.c.c.c.c.c.dD rfl (by clear r m d e s;grind)) rH
  have c6:1<=i:=by clear r m d e;grind
  obtain⟨q1,q2,q3,q4,q5⟩:=r (i-1) (by omega)
  have a7:=ph (k:=k+1) q1
  refine .gT f<|.fa rfl<|.gT f<|.lo rfl<|.gT f<|.mo rfl<|.gT f ?_
  refine .q (.i64 ((i:Int)-1) .sub ⟨rfl,by omega,by omega⟩) ?_
  refine .gT f<|.mo rfl<|.gT f<|.mo rfl<|.gT f ?_
  refine .q (.i64 ((i:Int)-1) .sub ⟨rfl,by omega,by omega⟩) ?_
  refine .gT f ?_
  refine .aI (i-1) d a7 (λe0=>?_) rfl rfl (by omega)
  refine .gT f<|.lo rfl<|.gT f ?_
  refine .q (.i64 ((i:Int)-1-((S.getD (i-1) (0,0)).1:Nat)) .sub ⟨rfl,by omega,by omega⟩) ?_
  refine .gT f<|.q .eJ<|.q (.bs f) ?_
  refine .mo rfl ?_
  refine .split (t:=75) rfl (λH=>?_) (λH=>?_)
  refine .gF H<|.gF H<|.gF H<|.q (.bx H) ?_
  refine .nil ?_
  ·exact aL () ad0 (kE.c.c.c.c.c.c.c.c.dD rfl (by clear r m d e s;grind)) rH
  refine .gT H<|.fa rfl<|.gT H<|.lo rfl<|.gT H<|.q .lss<|.q (.bs H) ?_
  refine .nil ?_
  ·exact aL () ad0 (kE.c.c.c.c.c.c.c.c.dD rfl (by clear r m d e s;grind)) rH
  intro y hy
  refine aB ?_
  refine .cond rfl (λh4=>?_) λh4=>?_
  have a6:n.op=true:=by simpa using V
  have Z:lB S n:=by unfold lB;rw[o];exact bV h4
  refine .sr<|.az rfl ?_
  refine .ret (ba (bF (ba (dm (bF (ba (aY rfl ?_)))))))
  ·refine⟨?_,rfl⟩
   rw[vV J Q (BF a6 Z)]
   rfl
  have a6:n.op=true:=by simpa using V
  have Z:¬lB S n:=by unfold lB;rw[o];exact bK h4
  have a2:=Z
  unfold lB at a2
  simp only[not_or,Decidable.not_not,o]at a2
  obtain⟨c0,c1,c2,c3,c4,c5⟩:=a2
  obtain⟨q1,q2,q3,q4,q5⟩:=r (i-1) (by omega)
  obtain⟨r1,r2,r3,r4,r5⟩:=r n.a.toNat (by omega)
  have a9:n.b.toNat=i-1:=by omega
  have a7:=ph (k:=k+1) q1
  have b7:=ph (k:=k+1) q2
  have b8:=ph (k:=k+1) r1
  have b9:=ph (k:=k+1) r2
  have I:gk isWord S n=some (S++[((S.getD n.a.toNat (0,0)).1+(S.getD (i-1) (0,0)).1+1,max (S.getD n.a.toNat (0,0)).2 (S.getD (i-1) (0,0)).2+1)]):=by
    rw[BG a6 Z,a9]
  refine .kn<|.seq ?_
  refine .dd 15 mixed (by kernel_rfl) ?_
  conv=>arg 6;dsimp only[List.take]
  refine .mo rfl<|.mo rfl<|.mo rfl<|.fa rfl<|.lo rfl ?_
  refine .aI n.a.toNat d b8 (λe1=>?_) rfl rfl (by omega)
  refine .lo rfl<|.mo rfl<|.fa rfl<|.lo rfl ?_
  refine .aI (i-1) d a7 (λe2=>?_) rfl rfl (by omega)
  refine .lo rfl ?_
  refine .q (.i64 (((S.getD n.a.toNat (0,0)).1+(S.getD (i-1) (0,0)).1:Nat):Int) .add ⟨by push_cast;rfl,by omega,by omega⟩) ?_
  refine .q (.i64 (((S.getD n.a.toNat (0,0)).1+(S.getD (i-1) (0,0)).1+1:Nat):Int) .add ⟨by push_cast;rfl,by omega,by omega⟩) ?_
  refine .aI i d a0 (λe3=>?_)
  refine .nil ?_
  refine .cY i d a0 ((S.getD n.a.toNat (0,0)).1+(S.getD (i-1) (0,0)).1+1) (λT N=>?_)
  rw[iQ a3]at N
  refine .zn ?_
  refine .dd 15 mixed (by kernel_rfl) ?_
  conv=>arg 6;dsimp only[List.take]
  refine .mo rfl<|.mo rfl<|.mo rfl<|.fa rfl<|.lo rfl ?_
  refine .aI n.a.toNat e b9 (λc8=>?_) rfl rfl (by omega)
  refine .lo rfl<|.mo rfl<|.fa rfl<|.lo rfl ?_
  refine .aI (i-1) e b7 (λc9=>?_) rfl rfl (by omega)
  refine .lo rfl<|.q .Kr ?_
  refine .q (.i64 ((max (S.getD n.a.toNat (0,0)).2 (S.getD (i-1) (0,0)).2+1:Nat):Int) .add ⟨by omega,by omega,by omega⟩) ?_
  refine .aI i e a1 (λd0=>?_)
  refine .nil ?_
  refine .cY i e a1 (max (S.getD n.a.toNat (0,0)).2 (S.getD (i-1) (0,0)).2+1) (λU O=>?_)
  rw[iQ a4]at O
  refine .nil<|bg<|aB<|.region ?_
  refine .ia (i+1) .add ?_
  refine .mo rfl<|.nil ?_
  ·first
      |exact bu (i+1,S++[(1,1)],T,U) ⟨W,by simp[o],by simp only;rw[Y,I],m.step (by rw[o];exact J) I,by simp only;rw[K,ad4];exact N,by simp only;rw[K,ad4];exact O⟩ (by simp only;omega) kE.c.c.c.c.c.c (aT [1,1])
      |exact bu (i+1,S++[((S.getD n.a.toNat (0,0)).1+(S.getD (i-1) (0,0)).1+1,max (S.getD n.a.toNat (0,0)).2 (S.getD (i-1) (0,0)).2+1)],T,U) ⟨W,by simp[o],by simp only;rw[Y,I],m.step (by rw[o];exact J) I,by simp only;rw[K,ad4];exact N,by simp only;rw[K,ad4];exact O⟩ (by simp only;omega) kE.c.c.c.c.c.c (aT [1,1])
  have b2:i=l.length:=by have:=bK h1;omega
  subst b2
  rw[aeg]at Q
  rw[aew]at d e
  simp only[List.replicate_zero,aeb]at d e
  have b4:=h.le
  refine .exit<|br<|bz<|bw<|aB<|.seq<|.seq ?_
  refine bq.dI [(0,_),(4,_)] kE.c.c (X:=Unit) (λ_=>True) (λ_ E=>(124,.bool (decide (l=[]\/(S.getD (l.length-1) (0,0)).1≠l.length)))::E) (λ_=>[w,A]) ?_ ?_
  refine .region<|.mo rfl<|.q (.cq h) ?_
  refine .q .cr<|.mo rfl ?_
  refine .split (t:=114) rfl (λg=>?_) (λg=>?_)
  refine .gF g<|.gF g<|.gF g<|.gF g<|.gF g<|.gF g<|.gF g<|.gF g<|.gF g<|.q (.bx g) ?_
  refine .nil ?_
  ·exact aL () ad0 (kE.c.c.dD rfl (by clear s m d e;rcases l with _|⟨x,l⟩<;>simp at * <;>grind)) rH
  have b3:1<=l.length:=by have:=bK g;omega
  have b0:(S.map (·.1))[l.length-1]? =some (S.getD (l.length-1) (0,0)).1:=by rw[ad5,aQ (by omega),ad7,aQ (by omega)];rfl
  refine .gT g<|.mo rfl<|.gT g<|.mo rfl<|.gT g<|.q (.cq h) ?_
  refine .gT g ?_
  refine .q (.i64 ((l.length:Int)-1) .sub ⟨rfl,by omega,by omega⟩) ?_
  refine .gT g ?_
  refine .aI (l.length-1) d b0 (λd5=>?_) rfl rfl (by omega)
  refine .gT g<|.lo rfl<|.gT g<|.mo rfl<|.gT g<|.q (.cq h) ?_
  refine .gT g<|.q .eJ<|.q (.bs g) ?_
  refine .nil ?_
  ·exact aL () ad0 (kE.c.c.dD rfl (by clear s m d e;rcases l with _|⟨x,l⟩<;>simp at * <;>grind)) rH
  intro y hy
  refine aB ?_
  refine .cond rfl (λh5=>?_) λh5=>?_
  refine .sr<|.az rfl ?_
  refine .ret (ba (aY rfl ?_))
  ·refine⟨?_,rfl⟩
   unfold n6
   rw[Q]
   simp only
   rw[adZ (bV h5)]
   rfl
  have a8:=bK h5
  have b3:1<=l.length:=by rcases l with _|⟨x,l⟩<;>simp at a8⊢
  have b1:(S.map (·.2))[l.length-1]? =some (S.getD (l.length-1) (0,0)).2:=by rw[ad5,aQ (by omega),ad7,aQ (by omega)];rfl
  refine .kn<|.sr<|.mo rfl<|.mo rfl<|.q (.cq h) ?_
  refine .q (.i64 ((l.length:Int)-1) .sub ⟨rfl,by omega,by omega⟩) ?_
  refine .aI (l.length-1) e b1 (λd6=>?_) rfl rfl (by omega)
  refine .lo rfl<|.az rfl ?_
  refine .ret (aY rfl ?_)
  ·refine⟨?_,rfl⟩
   unfold n6
   rw[Q]
   simp only
   rw[adY a8]
theorem Ty.kinds(t:Ty):eo [.s,.s] t.enc:=⟨ad0,ad0,ad0⟩
theorem Ty.eq(a b:Ty):eG a.enc b.enc=decide (a=b):=by
 obtain⟨c,d⟩:=a
 obtain⟨e,f⟩:=b
 rw[Bool.eq_iff_iff]
 simp[Ty.enc,eG,mq]
theorem Kb(t:Ty)(f:t.fits)(R:aw):Spec prog 177 [.agg t.enc.toArray] R [] λu H'=>u=.bool (kp isWord t)/\H'=[]:=by
 obtain⟨s,r⟩:=t
 obtain⟨d,e⟩:=f
 simp only at d e
 refine Spec.body func177 rfl results177 ntmps177 rfl<|.sr ?_
 refine .cm rfl (λg=>?_)
 refine .ag rfl<|.z<|.q (.aU rfl)<|.q .cD<|.q (.cast (.o5 (xs:=Ty.enc ⟨s,r⟩) (ys:=Ty.enc ⟨⟨#[]⟩,⟨#[]⟩⟩) rfl rfl (Ty.kinds _) (Ty.kinds _)) (ad1 Value.bool (Ty.eq _ _)))<|.mo rfl<|.split (t:=6) rfl (λa=>?_) (λa=>?_)
 refine .gF a<|.gF a<|.gF a<|.gF a<|.gn rfl<|.gn rfl<|.gn rfl<|.gF a<|.q (.bx a)<|.az rfl<|.ret (aY rfl ?_)
 ·refine⟨ad1 _ ?_,rfl⟩
  simp only[kp]
  grind
 refine .gT a<|.fa rfl<|.gT a<|.lo rfl<|.gT a<|.bj (jD s d _) (λu c=>?_)
 subst c
 refine .gT a<|.mo rfl<|.split (t:=10) rfl (λb=>?_) (λb=>?_)
 refine .gT b<|.fa rfl<|.gT b<|.lo rfl<|.gT b<|.bj (jD r e _) (λu c=>?_)
 subst c
 refine .gT a<|.q (.bx b)<|.q (.bs a)<|.az rfl<|.ret (aY rfl ?_)
 ·refine⟨ad1 _ ?_,rfl⟩
  simp only[kp]
  grind
 refine .gF b<|.gF b<|.gF b<|.gT a<|.q (.bs b)<|.q (.bs a)<|.az rfl<|.ret (aY rfl ?_)
 ·refine⟨ad1 _ ?_,rfl⟩
  simp only[kp]
  grind
theorem L6(t:Ty)(a:t.fits)(R:aw):Spec prog 176 [.agg t.enc.toArray] R [] λu H'=>u=.bool (!kp isWord t)/\H'=[]:=by
 refine Spec.body func176 rfl results176 ntmps176 rfl<|.sr ?_
 refine .cm rfl (λc=>?_)
 refine .ag rfl<|.z<|.q (.aU rfl)<|.bj (Kb t a _) (λu b=>?_)
 subst b
 refine .q .not<|.az rfl<|.ret (aY rfl ?_)
 ·exact⟨rfl,rfl⟩
theorem L7(s:Sc)(h:s.fits)(R:aw):Spec prog 179 [.agg s.enc.toArray] R [] λu H'=>u=.bool (!nG isWord cR s)/\H'=[]:=by
 obtain⟨n,j,i,r⟩:=s
 obtain⟨d,e,f,g⟩:=h
 simp only at d e f g
 refine Spec.body func179 rfl results179 ntmps179 rfl<|.sr ?_
 refine .cm rfl (λk=>?_)
 refine .ag rfl<|.z<|.fa rfl<|.lo rfl<|.bj (jD n d _) (λu c=>?_)
 subst c
 refine .q .not<|.mo rfl<|.split (t:=7) rfl (λb=>?_) (λb=>?_)
 refine .gF b<|.gF b<|.gF b<|.gF b<|.q (.bx b)<|.mo rfl<|.gX<|.gX<|.gX<|.gX<|.q .dO<|.az rfl<|.ret (aY rfl ?_)
 ·refine⟨ad1 _ ?_,rfl⟩
  simp only[nG]
  grind
 refine .gT b<|.fa rfl<|.gT b<|.q (.loadT rfl)<|.gT b<|.bj (sJ j i e f _) (λu c=>?_)
 subst c
 refine .gT b<|.q .eJ<|.q (.bs b)<|.mo rfl<|.split (t:=13) rfl (λa=>?_) (λa=>?_)
 refine .gF a<|.gF a<|.gF a<|.gF a<|.q (.bx a)<|.az rfl<|.ret (aY rfl ?_)
 ·refine⟨ad1 _ ?_,rfl⟩
  simp only[nG]
  grind
 refine .gT a<|.fa rfl<|.gT a<|.lo rfl<|.gT a<|.bj (jD r g _) (λu c=>?_)
 subst c
 refine .gT a<|.q .not<|.q (.bs a)<|.az rfl<|.ret (aY rfl ?_)
 ·refine⟨ad1 _ ?_,rfl⟩
  simp only[nG]
  grind
theorem Ky(p:cb)(R:aw)(h:p.is R)(R':aw)(g:∀b o,R b o->R' b o):Spec prog 161 [.agg p.enc.toArray] R' [] λu H'=>u=.bool (jN isWord p.r)/\H'=[]:=by
 obtain⟨l,f,r⟩:=p
 have j:RS R 2 Ty.enc l r.types:=h.t
 have e:RS R 5 Nd.enc f r.nodes:=h.d
 refine Spec.body func161 rfl results161 ntmps161 rfl<|.sr ?_
 refine .cm rfl (λm=>?_)
 refine .ag rfl<|.z<|.fa rfl<|.lo rfl<|.q (.cq j)<|.q .gtr<|.mo rfl<|.split (t:=7) rfl (λc=>?_) (λc=>?_)
 refine .gF c<|.gF c<|.gF c<|.gF c<|.q (.bx c)<|.mo rfl<|.gX<|.gX<|.gX<|.gX<|.q .dO<|.az rfl<|.ret (aY rfl ?_)
 ·refine⟨ad1 _ ?_,rfl⟩
  simp only[jN]
  grind
 refine .gT c<|.fa rfl<|.gT c<|.lo rfl<|.gT c<|.q (.cq e)<|.gT c<|.q .gtr<|.q (.bs c)<|.mo rfl<|.split (t:=13) rfl (λa=>?_) (λa=>?_)
 refine .gF a<|.gF a<|.gF a<|.gF a<|.q (.bx a)<|.az rfl<|.ret (aY rfl ?_)
 ·refine⟨ad1 _ ?_,rfl⟩
  simp only[jN]
  grind
 have n:r.nodes.length<=64:=by grind
 refine .gT a<|.fa rfl<|.gT a<|.lo rfl<|.gT a<|.bj ((vW f r.nodes R e h.fd (by omega)).weaken λb o i=>.inl (g b o i)) (λu k=>?_)
 subst k
 refine .gT a<|.q .gtr<|.q (.bs a)<|.az rfl<|.ret (aY rfl ?_)
 ·refine⟨ad1 _ ?_,rfl⟩
  simp only[jN]
  grind
theorem Aq(c:bN)(R:aw)(h:c.is R):Spec prog 100 [.agg c.enc.toArray] R [] λu H'=>u=.bool (!c.plain.gH isWord)/\H'=[]:=by
 rw[rk]
 obtain⟨H,F,e,C⟩:=c
 have g:=h.ss
 have v:=h.sc
 have S:=g.aC
 have T:=v.aC
 simp only at g v S T⊢
 have W:=g.le
 refine Spec.body func100 rfl results100 ntmps100 rfl<|.sr ?_
 refine .cm rfl (λx=>?_)
 refine .ag rfl<|.zs<|.seq ?_
 refine bq.dI [(1,_)] kE.c (X:=Unit) (λ_=>True) (λ_ E=>(14,.bool (decide (16<e.length)||decide (16<C.length)))::E) (λ_=>[bl x [H,F] 25]) ?_ ?_
 refine .region<|.fa rfl<|.lo rfl<|.q (.cq g)<|.q .gtr<|.mo rfl<|.split (t:=9) rfl (λa=>?_) (λa=>?_)
 refine .gF a<|.gF a<|.gF a<|.gF a<|.q (.bx a)<|.nil ?_
 ·exact aL () ad0 (kE.c.dD rfl (by grind)) rH
 refine .gT a<|.fa rfl<|.gT a<|.lo rfl<|.gT a<|.q (.cq v)<|.gT a<|.q .gtr<|.q (.bs a)<|.nil ?_
 ·exact aL () ad0 (kE.c.dD rfl (by grind)) rH
 intro y Q
 refine aB<|.cond rfl (λn=>?_) λn=>?_
 refine .sr<|.az rfl<|.ret (ba (aY rfl ?_))
 ·exact⟨by rw[n];rfl,rfl⟩
 refine .kn<|.seq<|.sr<|.fa rfl<|.lo rfl<|.q (.cq g)<|.mo rfl<|.zn<|.block<|.cX [(16,_),(17,_)] (X:=Nat) (λi=>i<=e.length/\(e.take i).any kr=false) (λi E=>(18,iN i)::E) (λ_ G=>G) (λi=>e.length-i) 0 ⟨ad2 _,rfl⟩ kE.c.c.c rH ?_
 rintro i ⟨V,A⟩
 refine .sr<|.q .lss<|.zs<|.cond rfl (λp=>?_) λp=>?_
 have z:i<e.length:=cV p
 obtain⟨⟨D,m,k⟩,j⟩:=cE z
 have w:=h.all _ (aX j)
 have B:RS R 3 cb.enc m k:=w.rs
 have Y:cv (ca.enc ⟨D,m,k⟩):=⟨w.dv⟩
 refine .kn<|.seq<|.block<|.sr ?_
 refine .bZ i g j (λZ=>?_)
 refine .q (.aU rfl) ?_
 refine .bT (λU=>?_)
 refine .bP rfl rfl<|.zs ?_
 refine bq.dI [(16,_),(17,_),(18,_)] kE.c.c.c (X:=Unit) (λ_=>True) (λ_ E=>(30,.bool (kr ⟨D,m,k⟩))::E) (λ_=>[bl x [H,F] 25]) ?_ ?_
 refine .region<|.fa rfl<|.lo rfl<|.q (.cq B)<|.q .gtr<|.mo rfl<|.split (t:=26) rfl (λd=>?_) (λd=>?_)
 refine .gF d<|.gF d<|.gF d<|.q (.bx d)<|.nil ?_
 ·exact aL () ad0 (kE.c.c.c.dD rfl (by unfold kr;simp only;grind)) (aT [1])
 refine .gT d<|.fa rfl<|.gT d<|.lo rfl<|.gT d<|.bj (LRE.iY 161 [] (λr=>jN isWord r.r) m k _ B.rx (λr N I K=>Ky r R (w.all r N) I λb o L=>K b o (.inl L))) (λu O=>?_)
 subst O
 refine .q (.bs d)<|.nil ?_
 ·exact aL () ad0 (kE.c.c.c.dD rfl (by unfold kr;simp only;grind)) (aT [1])
 intro y Q
 refine aB<|.cond rfl (λs=>?_) λs=>?_
 refine .sr<|.az rfl<|.ret (bF (ba (dm (bF (ba (aY rfl ?_))))))
 ·refine⟨?_,rfl⟩
  rw[AT j (f:=kr) s,Bool.or_true]
  rfl
 refine .skip<|bg<|aB<|.region<|.ia (i+1) .add<|.mo rfl<|.nil ?_
 ·exact bu (i+1) ⟨z,AU j A s⟩ (by omega) kE.c.c.c rH
 refine .exit<|br<|bz<|bw<|aB<|.sr<|.az rfl<|.ret (aY rfl ?_)
 ·refine⟨?_,rfl⟩
  have J:(decide (16<e.length)||decide (16<C.length))=false:=n
  have M:e.any kr=false:=by rw[<-hJ (l:=e) (i:=i) (by have:=bK p;omega)];exact A
  rw[J,M]
  rfl
theorem L9(c:bN)(R:aw)(h:c.is R):Spec prog 120 [.agg c.enc.toArray] R [] λu H'=>u=.bool (c.plain.right isWord cR)/\H'=[]:=by
 have hw:=Aq c R h
 have o:c.plain.gH isWord=false->c.kk/\∀s∈c.aZ,∀r∈s.bR,r.r.nodes.length<=64:=λx=>by
  rw[rk]at x
  simp only[aeE,aeF,aeP,aee]at x
  refine⟨⟨by omega,λs a=>?_⟩,λs a r o=>?_⟩
  ·have:=x.2 s a
   unfold kr at this
   simp only[aer,aeG,not_or,aee]at this
   exact this.1
  ·have:=x.2 s a
   unfold kr at this
   simp only[aer,aeG,not_or,aee,List.any_eq_true,not_exists,not_and]at this
   have p:=this.2 r o
   unfold jN at p
   simp only[aer,aeG,not_or,aee]at p
   exact p.1.2
 rw[L8]
 generalize a9:c.plain.gH isWord=mu at *
 obtain⟨vs,W,A,a5⟩:=c
 have C:=h.ss
 have N:=h.sc
 have i1:=C.aC
 have i2:=N.aC
 simp only at C N i1 i2⊢
 have a7:=C.le
 refine Spec.body func120 rfl results120 ntmps120 rfl<|.sr ?_
 refine .cm rfl (λY=>?_)
 refine .ag rfl<|.zs<|.sr<|.q (.aU rfl)<|.bj (hw.weaken dJ) (λu g=>?_)
 subst g
 refine .q .not<|.zn<|.cond rfl (λJ=>?_) λJ=>?_
 have a2:mu=true:=by simpa using J
 refine .sr<|.az rfl<|.ret (ba (aY rfl ?_))
 ·refine⟨?_,rfl⟩
  rw[a2]
  simp
 have S:mu=false:=by simpa using J
 obtain⟨a6,T⟩:=o S
 simp only at T
 refine .kn<|.seq<|.sr<|.fa rfl<|.lo rfl<|.q (.cq C)<|.mo rfl<|.zn<|.block<|.cX [(1,_),(11,_),(12,_)] (X:=Nat) (λi=>i<=A.length/\(A.take i).all la=true) (λi E=>(13,iN i)::E) (λ_ G=>G) (λi=>A.length-i) 0 ⟨ad2 _,rfl⟩ kE.c.c.c.c rH ?_
 rintro i ⟨hi,U⟩
 refine .sr<|.q .lss<|.zs<|.cond rfl (λp=>?_) λp=>?_
 have Q:i<A.length:=cV p
 obtain⟨⟨D,H,j⟩,a⟩:=cE Q
 have F:=h.all _ (aX a)
 have M:RS R 3 cb.enc H j:=F.rs
 have a8:=M.le
 have b3:cv (ca.enc ⟨D,H,j⟩):=⟨F.dv⟩
 refine .kn<|.seq<|.block<|.sr ?_
 refine .bZ i C a (λb5=>?_)
 refine .q (.aU rfl) ?_
 refine .bT (λZ=>?_)
 refine .bP rfl rfl<|.zs<|.sr<|.fa rfl<|.lo rfl<|.bj (jD D F.n _) (λu g=>?_)
 subst g
 refine .q .not<|.zn<|.cond rfl (λK=>?_) λK=>?_
 refine .sr<|.az rfl<|.ret (ba (bF (ba (dm (bF (ba (aY rfl ?_)))))))
 ·refine⟨?_,rfl⟩
  rw[qt a (f:=la) (by unfold la;simp only;rw[show isWord D=false by simpa using K];rfl)]
  rfl
 refine .kn<|.sr<|.fa rfl<|.lo rfl<|.q (.cq M)<|.mo rfl<|.zn<|.block<|.cX [(1,_),(11,_),(12,_),(13,_),(22,_),(23,_)] (X:=Nat) (λk=>k<=j.length/\(j.take k).all mG=true) (λk E=>(24,iN k)::E) (λ_ G=>G) (λk=>j.length-k) 0 ⟨ad2 _,rfl⟩ kE.c.c.c.c.c.c.c rH ?_
 rintro k ⟨hk,V⟩
 refine .sr<|.q .lss<|.zs<|.cond rfl (λL=>?_) λL=>?_
 have O:k<j.length:=cV L
 obtain⟨⟨w,v,r⟩,o⟩:=cE O
 have z:=F.all _ (aX o)
 have a4:RS R 2 Ty.enc w r.types:=z.t
 have a3:RS R 5 Nd.enc v r.nodes:=z.d
 have b0:cv (cb.enc ⟨w,v,r⟩):=⟨z.dv⟩
 have b2:r.nodes.length<=64:=T _ (aX a) _ (aX o)
 refine .kn<|.seq<|.block<|.sr ?_
 refine .bZ k M o (λb7=>?_)
 refine .q (.aU rfl) ?_
 refine .bT (λb6=>?_)
 refine .bP rfl rfl<|.zs ?_
 refine bq.dI [(1,_),(11,_),(12,_),(13,_),(22,_),(23,_),(24,_)] kE.c.c.c.c.c.c.c (X:=Unit) (λ_=>True) (λ_ E=>(42,.bool (!mG ⟨w,v,r⟩))::E) (λ_=>[bl Z (ca.enc ⟨D,H,j⟩) 164,bl Y [vs,W] 25]) ?_ ?_
 refine .region<|.fa rfl<|.lo rfl<|.bj (jD r.name z.n _) (λu g=>?_)
 subst g
 refine .q .not<|.mo rfl<|.split (t:=32) rfl (λb=>?_) (λb=>?_)
 refine .gF b<|.gF b<|.gF b<|.gF b<|.q (.bx b)<|.mo rfl<|.gX<|.gX<|.gX<|.q .dO<|.nil ?_
 ·exact aL () ad0 (kE.c.c.c.c.c.c.c.dD rfl (by
   have e:(r.types.any λt=> !kp isWord t)= !nw ⟨w,v,r⟩:=by unfold nw;simp[aeK]
   unfold mG
   simp only[e]at *
   grind)) (aT [1,1])
 refine .gT b<|.fa rfl<|.gT b<|.lo rfl<|.gT b<|.bj ((vW v r.nodes R a3 z.fd (by omega)).weaken dJ) (λu g=>?_)
 subst g
 refine .gT b<|.q .cr<|.q (.bs b)<|.mo rfl<|.split (t:=38) rfl (λm=>?_) (λm=>?_)
 refine .gF m<|.gF m<|.gF m<|.q (.bx m)<|.nil ?_
 ·exact aL () ad0 (kE.c.c.c.c.c.c.c.dD rfl (by
   have e:(r.types.any λt=> !kp isWord t)= !nw ⟨w,v,r⟩:=by unfold nw;simp[aeK]
   unfold mG
   simp only[e]at *
   grind)) (aT [1,1])
 refine .gT m<|.fa rfl<|.gT m<|.lo rfl<|.gT m<|.bj (LTY.iY 176 [] (λt=> !kp isWord t) w r.types _ a4.rx (λt ht I a0=>L6 t (z.ft t ht) I)) (λu g=>?_)
 subst g
 refine .q (.bs m)<|.nil ?_
 ·exact aL () ad0 (kE.c.c.c.c.c.c.c.dD rfl (by
   have e:(r.types.any λt=> !kp isWord t)= !nw ⟨w,v,r⟩:=by unfold nw;simp[aeK]
   unfold mG
   simp only[e]at *
   grind)) (aT [1,1])
 intro y hy
 refine aB<|.cond rfl (λB=>?_) λB=>?_
 refine .sr<|.az rfl<|.ret (bF (ba (dm (bF (bF (ba (dm (bF (ba (aY rfl ?_))))))))))
 ·refine⟨?_,rfl⟩
  rw[qt a (f:=la) (by unfold la;simp only;rw[qt o (f:=mG) (by simpa using B),Bool.and_false])]
  rfl
 refine .skip<|bg<|aB<|.region<|.ia (k+1) .add<|.mo rfl<|.nil ?_
 ·exact bu (k+1) ⟨O,qu o V (by simpa using B)⟩ (by omega) kE.c.c.c.c.c.c.c rH
 have x:la ⟨D,H,j⟩=true:=by
  have B:j.all mG=true:=by rw[<-hJ (l:=j) (i:=k) (by have:=bK L;omega)];exact V
  unfold la
  simp only[B,Bool.and_true]
  simpa using K
 refine .exit<|br<|bz<|bw<|bg<|aB<|.region<|.ia (i+1) .add<|.mo rfl<|.nil ?_
 ·exact bu (i+1) ⟨Q,qu a U x⟩ (by omega) kE.c.c.c.c (aT [1])
 have a1:A.all la=true:=by rw[<-hJ (l:=A) (i:=i) (by have:=bK p;omega)];exact U
 refine .exit<|br<|bz<|bw<|aB<|.sr<|.fa rfl<|.lo rfl<|.bj (LSC.iY 179 [] (λs=> !nG isWord cR s) W a5 _ N.rx (λs a I a0=>L7 s (h.fc s a) I)) (λu g=>?_)
 subst g
 refine .q .not<|.az rfl<|.ret (aY rfl ?_)
 ·refine⟨?_,rfl⟩
  rw[a1,S]
  simp[aeK]
instance Ty.tj:eM prog 249 (λk:Ty=>.agg k.enc.toArray):=eM.agg wI underlying249 rfl Ty.kinds Ty.eq
abbrev fG:=Nat×Nat
def kj(p:fG):List Value:=[iN p.1,iN p.2]
instance(p:fG):cv (kj p):=⟨by simp[kj,aC]⟩
abbrev kX(k:Ty):Value:=.agg k.enc.toArray
abbrev kD(p:fG):Value:=.agg (kj p).toArray
theorem zU(i:Nat)(a:ByteArray):∀{rs:List Rl} {b k:Nat} {r:Rl},rs[k]? =some r->(kz i a b rs)[k]? =some ((⟨a,r.name⟩:Ty),(i,b+k))
 |[],b,k,r,h=>by simp at h
 |x::rs,b,0,r,h=>by simp only[aeC,aeD]at h;subst h;rfl
 |x::rs,b,k+1,r,h=>by
  rw[kz,List.getElem?_cons_succ,zU i a (rs:=rs) (b:=b+1) (k:=k) (r:=r) (by simpa using h)]
  rw[show b+1+k=b+(k+1) by omega]
theorem zW:∀{l:List Sp} {b i k:Nat} {s:Sp} {r:Rl},l[i]? =some s->s.bR[k]? =some r->(fW b l)[cz l i+k]? =some ((⟨s.name,r.name⟩:Ty),(b+i,k))
 |[],b,i,k,s,r,h,_=>by simp at h
 |x::l,b,0,k,s,r,h,hr=>by
  simp only[aeC,aeD]at h
  subst h
  have a:=(aea.1 hr).1
  rw[fW,List.getElem?_append_left (by rw[nK];simpa[cz]using a)]
  simpa[cz]using zU b x.name (b:=0) hr
 |x::l,b,i+1,k,s,r,h,hr=>by
  rw[fW,cz,List.getElem?_append_right (by rw[nK];omega),nK,show x.bR.length+cz l i+k-x.bR.length=cz l i+k by omega,zW (l:=l) (b:=b+1) (by simpa using h) hr,show b+1+i=b+(i+1) by omega]
theorem uC:∀(l:List Sp) (b:Nat),(fW b l).length=total l
 |[],b=>rfl
 |s::l,b=>by
  have:=uC l (b+1)
  unfold total at this⊢
  rw[fW,aed,nK,this,List.length_cons,cz]
theorem yg(t:Ty):∀M:List (Ty×fG),cF t M=look t M
 |[]=>rfl
 |(k,x)::M=>by
  have a:=yg t M
  unfold look at a⊢
  rw[cF,List.find?_cons]
  by_cases e:t=k
  ·subst e;simp
  ·rw[adY e,a]
   have:decide (k=t)=false:=aem λh=>e h.symm
   simp only[this]
def lp(M:List (ByteArray×Bool))(l:List ByteArray):Prop:=∀k,cF k M=if k∈l then some true else none
theorem lp.nil:lp [] []:=λk=>by simp[cF]
theorem lp.add{M:List (ByteArray×Bool)}{l:List ByteArray}(h:lp M l)(t:ByteArray):lp (da t true M) (l++[t]):=λk=>by
 rw[mB,h k]
 by_cases e:k=t
 ·simp[e]
 ·simp[e]
def oW(xb:Nat)(c:bN)(T:ap):Prop:=∃vm Tm,T=(xb,.cells [c.vs,c.vc,vm].toArray 318 (0,0))::Tm/\MS kX kD vm (fW 0 c.plain.aZ) Tm
theorem KL(c:bN)(R:aw)(h:c.is R):Spec prog 121 [.agg c.enc.toArray] R [] λu H'=>∃T,H'=[T]/\((c.plain.dL/\∃xb,u=.tuple [pT xb,.bool true].toArray/\oW xb c T)\/(¬c.plain.dL/\u=.tuple [.pointer none,.bool false].toArray)):=by
 have c1:∀(i:Nat) s,c.aZ[i]? =some s->c.plain.aZ[i]? =some s.plain:=λi s n=>by unfold bN.plain;simp only;rw[ad5,n];rfl
 have c2:c.plain.aZ.length=c.aZ.length:=by unfold bN.plain;simp
 have K:c.plain.dL↔(c.aZ.map (·.name)).Nodup/\((fW 0 c.plain.aZ).map (·.1)).Nodup/\(c.scopes.map (·.name)).Nodup:=by
  unfold Cf.dL
  rw[uB]
  simp only[bN.plain,aef]
  exact Iff.rfl
 have b0:∀xb T,oW xb c T↔∃vm Tm,T=(xb,.cells [c.vs,c.vc,vm].toArray 318 (0,0))::Tm/\MS kX kD vm (fW 0 c.plain.aZ) Tm:=λ_ _=>Iff.rfl
 have d6:=uC c.plain.aZ 0
 generalize e5:c.plain=pl at *
 generalize hS:fW 0 pl.aZ=S at *
 have d5:∀i k s (r:Rl),pl.aZ[i]? =some s->s.bR[k]? =some r->S[cz pl.aZ i+k]? =some ((⟨s.name,r.name⟩:Ty),(i,k)):=λi k s r A B=>by
  have:=zW (b:=0) A B
  rw[hS,Nat.zero_add]at this
  exact this
 obtain⟨W,V,f,o⟩:=c
 have J:=h.ss
 have I:=h.sc
 have i1:=J.aC
 have i2:=I.aC
 simp only at J I i1 i2 c1 c2 K b0⊢
 have e2:=J.le
 have e1:=I.le
 refine Spec.body func121 rfl results121 ntmps121 rfl ?_
 refine .sr ?_
 refine .cm rfl (λb1=>?_)
 refine .ag rfl<|.ag rfl<|.z<|.q (.aU rfl) ?_
 refine .makeMap (λx=>?_)
 refine .q .cD ?_
 refine .cm rfl (λY=>?_)
 refine .ag rfl<|.z ?_
 refine .makeMap (λa8=>?_)
 refine .ag rfl<|.zs<|.sr<|.fa rfl<|.lo rfl<|.q (.cq J) ?_
 refine .mo rfl<|.zn<|.block ?_
 refine .cX [(1,_),(4,_),(5,_),(22,_),(23,_)] (G:=[bl Y [W,V,.map (some x)] 318,bl b1 [W,V] 25]) (X:=Nat×List (ByteArray×Bool)×ap×ap) (λy=>y.1<=f.length/\((f.map (·.name)).take y.1).Nodup/\lp y.2.1 ((f.map (·.name)).take y.1)/\MS kX kD (.map (some x)) (S.take (cz pl.aZ y.1)) y.2.2.1/\MS (λs:ByteArray=>.string s) (λb:Bool=>.bool b) (.map (some a8)) y.2.1 y.2.2.2) (λy E=>(24,iN y.1)::E) (λy G=>y.2.2.1::y.2.2.2::G) (λy=>f.length-y.1) (0,[],[(x,.map #[] 0)],[(a8,.map #[] 0)]) ⟨ad2 _,by simp,by simpa using lp.nil,by rw[show cz pl.aZ 0=0 by cases pl.aZ<;>rfl];exact MS.nil,MS.nil⟩ kE.c.c.c.c.c.c (aT [2,0,0,0]) ?_
 rintro⟨i,M,O,Tb⟩ ⟨hi,Q,a5,g,a0⟩
 simp only at hi Q a5 g a0⊢
 refine .sr<|.q .lss<|.zs ?_
 refine .cond rfl (λA=>?_) λA=>?_
 have b6:i<f.length:=cV A
 obtain⟨⟨d,N,m⟩,n⟩:=cE b6
 have a4:=h.all _ (aX n)
 have a3:RS R 3 cb.enc N m:=a4.rs
 have e3:=a3.le
 have e6:cv (ca.enc ⟨d,N,m⟩):=⟨a4.dv⟩
 have w:(f.map (·.name))[i]? =some d:=by rw[ad5,n];rfl
 have c0:=c1 i _ n
 have b8:=pF c0
 rw[show(ca.plain ⟨d,N,m⟩).bR.length=m.length by simp[ca.plain]]at b8
 refine .kn<|.seq<|.block<|.sr<|.mo rfl ?_
 refine .bZ i J n (λe7=>?_)
 refine .q (.aU rfl) ?_
 refine .bT (λb7=>?_)
 refine .ag rfl<|.bP rfl rfl<|.zs<|.sr<|.mo rfl<|.fa rfl<|.lo rfl ?_
 refine .q (.nh a0.rx rfl (key:=d) rfl (show _=Value.bool (decide (d∈(f.map (·.name)).take i))from by rw[a5 d];split<;>simp_all)) ?_
 refine .zn ?_
 refine .cond rfl (λB=>?_) λB=>?_
 refine .sr<|.ag rfl<|.az rfl ?_
 refine .ret (ba (bF (ba (dm (bF (ba (bm _ (.two (.tmp rfl) (.tmp rfl)) (.one [0] _) ?_)))))))
 ·refine⟨_,rfl,.inr ⟨λD=>?_,rfl⟩⟩
  have v:d∈(f.map (·.name)).take i:=by simpa using B
  obtain⟨q,H,e⟩:=aen.1 v
  rw[ad8]at H
  rw[aeL]at e
  exact ry (show q<i by omega) w (aQ (by omega)) e.symm (K.1 D).1
 have a2:d∉(f.map (·.name)).take i:=by simpa using B
 have d0:((f.map (·.name)).take (i+1)).Nodup:=by rw[fD w,List.nodup_append];exact⟨Q,by simp,λa ha b C=>by rw[ad9]at C;subst C;intro e;subst e;exact a2 ha⟩
 have d7:lp (da d true M) ((f.map (·.name)).take (i+1)):=by rw[fD w];exact a5.add d
 refine .kn<|.sr<|.mo rfl<|.fa rfl<|.lo rfl ?_
 refine .update (key:=d) (u:=true) a0 rfl rfl rfl (λa7 c5 _=>?_)
 refine .z<|.fa rfl<|.lo rfl<|.q (.cq a3) ?_
 refine .mo rfl<|.zn<|.block ?_
 refine .cX [(1,_),(4,_),(5,_),(6,_),(7,_),(22,_),(23,_),(24,_),(37,_),(38,_)] (G:=[a7,bl b7 (ca.enc ⟨d,N,m⟩) 164,bl Y [W,V,.map (some x)] 318,bl b1 [W,V] 25]) (X:=Nat×ap) (λy=>y.1<=m.length/\MS kX kD (.map (some x)) (S.take (cz pl.aZ i+y.1)) y.2) (λy E=>(39,iN y.1)::E) (λy G=>y.2::G) (λy=>m.length-y.1) (0,O) ⟨ad2 _,g⟩ kE.c.c.c.c.c.c.c.c.c.c.c (aT [1,1,0,0,0]) ?_
 rintro⟨k,O⟩ ⟨hk,g⟩
 simp only at hk g⊢
 refine .sr<|.q .lss<|.zs ?_
 refine .cond rfl (λZ=>?_) λZ=>?_
 have b5:k<m.length:=cV Z
 obtain⟨⟨vt,vn,r⟩,hr⟩:=cE b5
 have d4:=a4.all _ (aX hr)
 have e4:cv (cb.enc ⟨vt,vn,r⟩):=⟨d4.dv⟩
 have d3:(ca.plain ⟨d,N,m⟩).bR[k]? =some r:=by unfold ca.plain;simp only;rw[ad5,hr];rfl
 have b3:S[cz pl.aZ i+k]? =some ((⟨d,r.name⟩:Ty),(i,k)):=d5 i k _ r c0 d3
 obtain⟨ps,L,d1,F⟩:∃(ps:fG) (L:Bool),[((cF (⟨d,r.name⟩:Ty) (S.take (cz pl.aZ i+k))).map kD).getD (kD (0,0)),Value.bool (cF (⟨d,r.name⟩:Ty) (S.take (cz pl.aZ i+k))).isSome]=[kD ps,.bool L]/\(cF (⟨d,r.name⟩:Ty) (S.take (cz pl.aZ i+k))).isSome=L:=by
  cases cF (⟨d,r.name⟩:Ty) (S.take (cz pl.aZ i+k))with
  |none=>exact⟨(0,0),false,rfl,rfl⟩
  |some p=>exact⟨p,true,rfl,rfl⟩
 refine .kn<|.seq<|.block<|.sr<|.mo rfl ?_
 refine .bZ k a3 hr (λe8=>?_)
 refine .q (.aU rfl) ?_
 refine .bT (λb9=>?_)
 refine .ag rfl<|.bP rfl rfl<|.z<|.fa rfl<|.lo rfl<|.fa rfl<|.lo rfl ?_
 refine .q .cD ?_
 refine .bT (λd8=>?_)
 refine .bP rfl rfl<|.zs<|.seq<|.cG [10] mixed ?_
 refine .tO 0 rfl .move<|.tO 1 rfl (.nilCheck rfl)<|.tO 2 rfl (.fieldAddr rfl)<|.tO 3 rfl (.bU rfl)<|.tO 4 rfl (.aU rfl) ?_
 refine .eQ 5 rfl (.cast (.oo g.rx rfl rfl) (ad1 (λl:List Value=>Value.tuple l.toArray) d1)) (by kernel_rfl) ?_
 refine .tO 6 rfl .move<|.tO 7 rfl .extract<|.tK 8 rfl .extract ?_
 refine .sT 9 rfl ?_
 refine .bT (λd9=>?_)
 refine .nil (Next.sub ?_)
 refine .sT 10 rfl ?_
 refine .bP rfl rfl ?_
 refine .nil (Next.mod rfl ?_)
 refine .tK 11 rfl .assign ?_
 refine RA.nil (by kernel_rfl) ?_
 refine aB<|.sr<|.mo rfl<|.zn ?_
 refine .cond rfl (λh4=>?_) λh4=>?_
 refine .sr<|.ag rfl<|.az rfl ?_
 refine .ret (ba (bF (ba (dm (bF (bF (ba (dm (bF (ba (bm _ (.two (.tmp rfl) (.tmp rfl)) (.one [0] _) ?_)))))))))))
 ·refine⟨_,rfl,.inr ⟨λD=>?_,rfl⟩⟩
  have t:L=true:=h4
  rw[t]at F
  obtain⟨p,hp⟩:=aet.1 F
  have v:=tu hp
  obtain⟨q,H,e⟩:=aen.1 v
  rw[ad8]at H
  rw[aeL]at e
  have c7:(S.map (·.1))[cz pl.aZ i+k]? =some ⟨d,r.name⟩:=by rw[ad5,b3];rfl
  have d2:(S.map (·.1))[q]? =some ⟨d,r.name⟩:=by rw[ad5,aQ (by omega),e];rfl
  exact ry (show q<cz pl.aZ i+k by omega) c7 d2 rfl (K.1 D).2.1
 refine .kn ?_
 refine .dd 8 mixed (by kernel_rfl) ?_
 conv=>arg 6;dsimp only[List.take]
 refine .mo rfl<|.nc rfl<|.fa rfl<|.lo rfl<|.q (.aU rfl)<|.mo rfl<|.mo rfl ?_
 refine .q .cD ?_
 refine .nil ?_
 refine .update (key:=(⟨d,r.name⟩:Ty)) (u:=((i,k):fG)) g rfl rfl rfl (λc3 b2 _=>?_)
 rw[lL (by
  have t:L=false:=h4
  rw[t]at F
  intro v
  rw[Option.isSome_eq_false_iff,Option.isNone_iff_eq_none]at F
  exact tq.1 F v), <-fD b3]at b2
 refine .nil<|bg<|aB<|.region ?_
 refine .ia (k+1) .add ?_
 refine .mo rfl<|.nil ?_
 ·exact bu (k+1,c3) ⟨b5,b2⟩ (by simp only;omega) kE.c.c.c.c.c.c.c.c.c.c.c (aT [3,3,3,3,3])
 have c9:k=m.length:=by have:=bK Z;omega
 rw[c9, <-b8]at g
 refine .exit<|br<|bz<|bw<|bg<|aB<|.region ?_
 refine .ia (i+1) .add ?_
 refine .mo rfl<|.nil ?_
 ·exact bu (i+1,da d true M,O,a7) ⟨b6,d0,d7,g,c5⟩ (by simp only;omega) kE.c.c.c.c.c.c (aT [0,0,1,1])
 have c8:i=f.length:=by have:=bK A;omega
 subst c8
 rw[show cz pl.aZ f.length=S.length by rw[<-c2,d6];rfl,aeg]at g
 rw[show f.length=(f.map (·.name)).length by rw[ad3],aeg]at Q
 refine .exit<|br<|bz<|bw<|aB<|.sr ?_
 refine .makeMap (λa9=>?_)
 refine .ag rfl<|.zs<|.sr<|.fa rfl<|.lo rfl<|.q (.cq I) ?_
 refine .mo rfl<|.zn<|.block ?_
 refine .cX [(4,_),(13,_),(71,_),(72,_)] (X:=Nat×List (ByteArray×Bool)×ap) (λy=>y.1<=o.length/\((o.map (·.name)).take y.1).Nodup/\lp y.2.1 ((o.map (·.name)).take y.1)/\MS (λs:ByteArray=>.string s) (λb:Bool=>.bool b) (.map (some a9)) y.2.1 y.2.2) (λy E=>(73,iN y.1)::E) (λy G=>y.2.2::G) (λy=>o.length-y.1) (0,[],[(a9,.map #[] 0)]) ⟨ad2 _,by simp,by simpa using lp.nil,MS.nil⟩ kE.c.c.c.c.c rH ?_
 rintro⟨j,M3,Tc⟩ ⟨hj,U,a6,a1⟩
 simp only at hj U a6 a1⊢
 refine .sr<|.q .lss<|.zs ?_
 refine .cond rfl (λt=>?_) λt=>?_
 have b4:j<o.length:=cV t
 obtain⟨s,n⟩:=cE b4
 have w:(o.map (·.name))[j]? =some s.name:=by rw[ad5,n];rfl
 refine .kn<|.seq<|.block<|.sr ?_
 refine .bZ j I n (λe9=>?_)
 refine .q (.aU rfl) ?_
 refine .bT (λe0=>?_)
 refine .bP rfl rfl<|.zs<|.sr<|.mo rfl<|.fa rfl<|.lo rfl ?_
 refine .q (.nh a1.rx rfl (key:=s.name) rfl (show _=Value.bool (decide (s.name∈(o.map (·.name)).take j))from by rw[a6 s.name];split<;>simp_all)) ?_
 refine .zn ?_
 refine .cond rfl (λh6=>?_) λh6=>?_
 refine .sr<|.ag rfl<|.az rfl ?_
 refine .ret (ba (bF (ba (dm (bF (ba (bm _ (.two (.tmp rfl) (.tmp rfl)) (.one [0] _) ?_)))))))
 ·refine⟨_,rfl,.inr ⟨λD=>?_,rfl⟩⟩
  have v:s.name∈(o.map (·.name)).take j:=by simpa using h6
  obtain⟨q,H,e⟩:=aen.1 v
  rw[ad8]at H
  rw[aeL]at e
  exact ry (show q<j by omega) w (aQ (by omega)) e.symm (K.1 D).2.2
 have a2:s.name∉(o.map (·.name)).take j:=by simpa using h6
 refine .kn<|.region<|.mo rfl<|.fa rfl<|.lo rfl ?_
 refine .update (key:=s.name) (u:=true) a1 rfl rfl rfl (λc4 c6 _=>?_)
 refine .nil<|bg<|aB<|.region ?_
 refine .ia (j+1) .add ?_
 refine .mo rfl<|.nil ?_
 ·exact bu (j+1,da s.name true M3,c4) ⟨b4,by rw[fD w,List.nodup_append];exact⟨U,by simp,λa ha b C=>by rw[ad9]at C;subst C;intro e;subst e;exact a2 ha⟩,by simp only;rw[fD w];exact a6.add s.name,c6⟩ (by simp only;omega) kE.c.c.c.c.c (aT [1,1,1,1,1])
 refine .exit<|br<|bz<|bw<|aB<|.sr<|.mo rfl<|.ag rfl<|.az rfl ?_
 refine .ret (bm _ (.two (.tmp rfl) (.tmp rfl)) (.one [3,1] _) ?_)
 ·refine⟨_,rfl,.inl ⟨K.2 ⟨Q,g.nd,?_⟩,Y,rfl,(b0 _ _).2 ⟨_,O,by simp[take,bJ],g⟩⟩⟩
  rw[hJ (by rw[ad3];have:=bK t;omega)]at U
  exact U
theorem bo.jd{H:aG}:bo H [[]]:=⟨H.flatten,by simp⟩
structure IX(R:aw)(xb:Nat)(vm:Value)(c:bN):Prop where
 pc:PC R (pT xb) [c.vs,c.vc,vm]
 om:One vm
 ci:c.is R
 rm:RM R kX kD vm (fW 0 c.plain.aZ)
theorem RM.oq{κ β:Type} [DecidableEq κ]{R R':aw}{encK:κ->Value}{a:β->Value}{m:Value}{M:List (κ×β)}(h:RM R encK a m M)(i:∀b o,R b o->R' b o):RM R' encK a m M:=by
 obtain⟨b,d,c,e,f,g⟩:=h
 exact⟨b,d,c,e,i _ _ f,g⟩
theorem IX.mono{R R':aw}{xb:Nat}{vm:Value}{c:bN}(h:IX R xb vm c)(a:∀b o,R b o->R' b o):IX R' xb vm c:=⟨h.pc.mono a,h.om,h.ci.mono a,h.rm.oq a⟩
theorem oW.view{R:aw}{xb:Nat}{c:bN}{T:ap}(h:oW xb c T)(e:c.is R):∃vm,IX (λb o=>R b o\/(b,o)∈T) xb vm c:=by
 obtain⟨vm,g,rfl,a⟩:=h
 refine⟨vm,⟨PC.of (E:=318) (fr:=(0,0)) ?_,a.one,e.mono λb o d=>.inl d,a.rm λp f=>.inr (by simp[f])⟩⟩
 exact .inr (by simp)
def bN.valid(c:bN)(p:fG):Prop:=∃s r,c.aZ[p.1]? =some s/\s.bR[p.2]? =some r
def bN.ix(c:bN)(p:fG):Nat:=cz c.plain.aZ p.1+p.2
theorem Lg{c:bN}{i:Nat}{a:Sp}(h:c.plain.aZ[i]? =some a):∃s,c.aZ[i]? =some s/\a=s.plain:=by
 unfold bN.plain at h
 simp only at h
 rw[ad5]at h
 cases hs:c.aZ[i]? with
 |none=>rw[hs]at h;cases h
 |some s=>rw[hs]at h;exact⟨s,rfl,by simpa using h.symm⟩
theorem oz{c:bN}{i:Nat}{s:ca}(h:c.aZ[i]? =some s):c.plain.aZ[i]? =some s.plain:=by unfold bN.plain;simp only;rw[ad5,h];rfl
theorem yT{s:ca}{k:Nat}{r:cb}(h:s.bR[k]? =some r):s.plain.bR[k]? =some r.r:=by unfold ca.plain;simp only;rw[ad5,h];rfl
theorem Lx{s:ca}{k:Nat}{a:Rl}(h:s.plain.bR[k]? =some a):∃r,s.bR[k]? =some r/\a=r.r:=by
 unfold ca.plain at h
 simp only at h
 rw[ad5]at h
 cases hs:s.bR[k]? with
 |none=>rw[hs]at h;cases h
 |some s=>rw[hs]at h;exact⟨s,rfl,by simpa using h.symm⟩
def mU(c:bN)(t:Ty)(ps:fG)(ok:Bool):Prop:=match bY c.plain.all t with
 |none=>ok=false
 |some j=>ok=true/\c.ix ps=j/\c.valid ps
theorem looked(c:bN)(t:Ty):∃(ps:fG) (ok:Bool),[((cF t (fW 0 c.plain.aZ)).map kD).getD (kD (0,0)),Value.bool (cF t (fW 0 c.plain.aZ)).isSome]=[kD ps,.bool ok]/\mU c t ps ok:=by
 have h:=Kk c.plain t
 rw[yg]
 unfold mU
 cases hl:look t (fW 0 c.plain.aZ)with
 |none=>rw[hl]at h;exact⟨(0,0),false,rfl,by rw[h]⟩
 |some p=>
  obtain⟨i,k⟩:=p
  rw[hl]at h
  obtain⟨a,s,r,b,d,_⟩:=h
  obtain⟨j,e,rfl⟩:=Lg b
  obtain⟨g,f,rfl⟩:=Lx d
  exact⟨(i,k),true,rfl,by rw[a];exact⟨rfl,rfl,j,g,e,f⟩⟩
theorem tY{R:aw}{xb:Nat}{vm:Value}{c:bN}(h:IX R xb vm c)(p:fG)(s:ca)(r:cb)(b:c.aZ[p.1]? =some s)(a:s.bR[p.2]? =some r):
  Spec prog 229 [pT xb,.agg (kj p).toArray] R [] λu H'=>u=.agg r.enc.toArray/\H'=[]:=by
 obtain⟨i,k⟩:=p
 obtain⟨B,m,A,z⟩:=c
 obtain⟨o,n,r⟩:=r
 have l:=h.pc
 have d:=h.ci.ss
 have g:=d.aC
 have j:One m:=RS.aC h.ci.sc
 simp only at d g j b a l⊢
 have e:=h.ci.all _ (aX b)
 have f:=e.all _ (aX a)
 have w:cv (cb.enc ⟨o,n,r⟩):=⟨f.dv⟩
 refine Spec.body func229 rfl results229 ntmps229 rfl<|.sr ?_
 refine .cm rfl (λt=>?_)
 refine .bT (λv=>?_)
 refine .zs<|.dd 14 mixed (by kernel_rfl) ?_
 conv=>arg 6;dsimp only[List.take]
 refine .mo rfl<|.nc rfl<|.fa rfl<|.fa rfl<|.lo rfl<|.fa rfl<|.lo rfl ?_
 refine .bZ i d b (λx=>?_)
 refine .fa rfl<|.lo rfl<|.fa rfl<|.lo rfl ?_
 refine .bZ k e.rs a (λy=>?_)
 refine .q (.aU rfl)<|.nil<|.bP rfl rfl<|.zn ?_
 refine .ret (bm _ (.one (.fH rfl rfl)) (.none _) ?_)
 ·exact⟨rfl,rfl⟩
theorem uw(v:Value)(l:List Ty)(R:aw)(h:RS R 2 Ty.enc v l)(w:l.length<=100000):Spec prog 230 [v] R [] λu H'=>∃T,H'=[T]/\OS 249 2 Ty.enc u (dK l) T:=by
 have C:=h.aC
 have x:=h.le
 refine Spec.body func230 rfl results230 ntmps230 rfl<|.sr<|.ag rfl<|.z<|.ag rfl<|.zs<|.sr<|.mo rfl<|.q (.cq h)<|.mo rfl<|.zn<|.block<|.cX [(6,_),(7,_)] (X:=Nat×Value×ap) (λy=>y.1<=l.length/\OS 249 2 Ty.enc y.2.1 (dK (l.take y.1)) y.2.2) (λy E=>(8,iN y.1)::(3,y.2.1)::E) (λy G=>y.2.2::G) (λy=>l.length-y.1) (0,sZ,[]) ⟨ad2 _,OS.nil⟩ kE.c.c.c.c bo.gb ?_
 rintro⟨i,p,f⟩ ⟨n,a⟩
 simp only at n a⊢
 have B:=a.aC
 have A:(dK (l.take i)).length<=100000:=aek (aez _ _) (by rw[ad8];omega)
 refine .sr<|.q .lss<|.zs<|.cond rfl (λb=>?_) λb=>?_
 have e:i<l.length:=cV b
 obtain⟨t,j⟩:=cE e
 have g:=MX j
 refine .kn<|.seq<|.block<|.sr ?_
 refine .bZ i h j (λF=>?_)
 refine .q (.aU rfl) ?_
 refine .bT (λs=>?_)
 refine .bP rfl rfl<|.z<|.fa rfl<|.lo rfl<|.q .kY<|.zn<|.cond rfl (λd=>?_) λd=>?_
 refine .region<|.mo rfl<|.q (.aU rfl) ?_
 refine .dV (λr=>?_)
 refine .append a (RS.lits (xs:=[t]) rfl (by simp[Ty.enc]) (by simp[Ty.enc,aC])) (by simp only[ad6];omega) (λo m k=>?_)
 have D:=k.aC
 refine .ag rfl<|.nil<|bg<|aB<|.region<|.ia (i+1) .add<|.mo rfl<|.nil ?_
 ·exact bu (i+1,o,m) ⟨e,by simp only;rw[g,adY (by simpa using d)];exact k⟩ (by simp only;omega) kE.c.c.c.c (aT [2])
 refine .skip<|bg<|aB<|.region<|.ia (i+1) .add<|.mo rfl<|.nil ?_
 ·exact bu (i+1,p,f) ⟨e,by simp only;rw[g,adZ (by simpa using d),aeb];exact a⟩ (by simp only;omega) kE.c.c.c.c (aT [1])
 refine .exit<|br<|bz<|bw<|aB<|.sr<|.mo rfl<|.az rfl<|.ret (bm _ (.one (.tmp rfl)) (.one [0] _) ?_)
 ·refine⟨f,by simp[take],?_⟩
  rw[hJ (lF b)]at a
  exact a
def n9(b:Bool):List Value:=[.bool b]
theorem AB(v:Value)(l:List Nd)(R:aw)(h:RS R 5 Nd.enc v l)(U:gj isWord l≠0)(hl:l.length<=100000):Spec prog 231 [v] R [] λu H'=>∃T,H'=[T]/\OS 4 1 n9 u (mg l) T:=by
 have iv:=h.aC
 have a9:=h.le
 obtain⟨d,a2⟩:=Bz U
 obtain⟨_,_,_,S⟩:=hU _ _ a2
 have a0:(List.replicate l.length false).length=l.length:=ael
 generalize K:List.replicate l.length false=out0 at *
 refine Spec.body func231 rfl results231 ntmps231 rfl<|.sr<|.ag rfl<|.z<|.mo rfl<|.q (.cq h)<|.makeSlice (enc:=n9) l.length false rfl rfl (by decide) (by simp[n9,aC]) rfl rfl (by omega) (by omega) (λA O F=>?_)
 rw[K]at F
 refine .ag rfl<|.zs<|.sr<|.mo rfl<|.q (.cq h)<|.q (.i64 ((l.length:Int)-1) .sub ⟨rfl,by omega,by omega⟩)<|.az rfl<|.block<|.cX [(0,_),(3,_)] (X:=Nat×ap) (λy=>y.1<=l.length/\OS 4 1 n9 (.slice (some ⟨A,0,none⟩) l.length l.length) (down l y.1 (l.length-y.1) out0) y.2) (λy E=>(4,.int .i64 ((y.1:Int)-1))::E) (λy G=>y.2::G) (λy=>y.1) (l.length,O) ⟨Nat.le_refl _,by simp only;rw[aew];exact F⟩ kE.c.c.c rH ?_
 rintro⟨m,D⟩ ⟨W,g⟩
 simp only at W g⊢
 refine .seq<|.sr<|.mo rfl<|.q .geq<|.zn<|.cond rfl (λj=>?_) λj=>?_
 obtain⟨e,rfl⟩:∃e,m=e+1:=⟨m-1,by have:=bV j;omega⟩
 obtain⟨n,r⟩:∃n,l[e]? =some n:=⟨_,aQ (by omega)⟩
 have V:((e+1:Nat):Int)-1=(e:Int):=by omega
 have s:=S e (ad2 _) (by omega)
 have H:down l e (l.length-e) out0=fX l (down l (e+1) (l.length-(e+1)) out0) e:=by
  rw[show l.length-e=1+(l.length-(e+1)) by omega,sN]
  rfl
 have a8:(down l (e+1) (l.length-(e+1)) out0).length=l.length:=by rw[qG,a0]
 generalize hX:down l (e+1) (l.length-(e+1)) out0=X at *
 have i:fX l X e=if n.op then(X.set n.a.toNat (X.getD e false)).set n.b.toNat ((X.set n.a.toNat (X.getD e false)).getD e false||n.kind==6)else X:=by unfold fX;rw[r]
 have I:decide (4<=n.kind)=n.op:=by
  cases ho:n.op with
  |true=>unfold Nd.op at ho;simp only[aer,beq_iff_eq]at ho;exact decide_eq_true (by omega)
  |false=>
   rw[l8 r ho]at s
   split at s
   ·rename_i C
    unfold Nd.leaf at C
    refine aem λh4=>?_
    rw[adY (by omega),adY (by omega),adY (by omega),Bool.and_false]at C
    cases C
   ·cases s
 rw[V]
 refine .kn<|.seq<|.block<|.sr<|.mo rfl<|.mo rfl ?_
 refine .bZ e h r (λb0=>?_)
 refine .q (.aU rfl) ?_
 refine .bT (λb5=>?_)
 refine .bP rfl rfl<|.z<|.fa rfl<|.lo rfl<|.q .geq<|.zn<|.cond rfl (λk=>?_) λk=>?_
 have J:n.op=true:=by rw[<-I];exact k
 obtain⟨rr,a1⟩:=aet.1 s
 obtain⟨b',x',y',t1,t2,t3,t4,t5,_,_,_⟩:=nQ r J a1
 have a6:=Ai t1
 have a7:=(hU _ _ t3).1
 obtain⟨za,M⟩:∃z,X[n.a.toNat]? =some z:=⟨_,aQ (by omega)⟩
 obtain⟨p,N⟩:∃z,X[e]? =some z:=⟨_,aQ (by omega)⟩
 have a3:X.getD e false=p:=by rw[ad7,N];rfl
 rw[adZ J,a3]at i
 obtain⟨z2,L⟩:∃z,(X.set n.a.toNat p)[e]? =some z:=⟨_,aQ (by rw[List.length_set];omega)⟩
 obtain⟨z3,w⟩:∃z,(X.set n.a.toNat p)[n.b.toNat]? =some z:=⟨_,aQ (by rw[List.length_set];omega)⟩
 have a4:(X.set n.a.toNat p).getD e false=z2:=by rw[ad7,L];rfl
 rw[a4]at i
 refine .seq<|.dd 8 mixed (by kernel_rfl) ?_
 conv=>arg 6;dsimp only[List.take]
 refine .mo rfl<|.fa rfl<|.lo rfl<|.mo rfl<|.mo rfl ?_
 refine .aI e g N (λb1=>?_)
 refine .lo rfl<|.aI n.a.toNat g M (λb2=>?_) rfl rfl (by omega)
 refine .nil ?_
 refine .cY n.a.toNat g M p (λT1 o=>?_)
 refine .zn ?_
 refine bq.dI [(0,_),(3,_),(4,_)] kE.c.c.c (X:=ap) (λT=>OS 4 1 n9 (.slice (some ⟨A,0,none⟩) l.length l.length) (fX l X e) T) (λ_ E=>E) (λT=>[T]) ?_ ?_
 refine .dd 13 mixed (by kernel_rfl) ?_
 conv=>arg 6;dsimp only[List.take]
 refine .mo rfl<|.fa rfl<|.lo rfl<|.mo rfl<|.mo rfl ?_
 refine .aI e o L (λb3=>?_)
 refine .lo rfl<|.mo rfl<|.split (t:=38) rfl (λf=>?_) (λf=>?_)
 refine .gF f<|.gF f<|.gF f<|.q (.bx f)<|.aI n.b.toNat o w (λa5=>?_) rfl rfl (by omega)
 refine .nil ?_
 refine .cY n.b.toNat o w _ (λx B=>?_)
 refine .nil ?_
 ·exact aL x (by rw[i];simpa only[j,k,f,Bool.true_or,Bool.false_or]using B) kE.c.c.c (aT [1])
 refine .gT f<|.fa rfl<|.gT f<|.lo rfl<|.gT f<|.q .cr<|.q (.bs f)<|.aI n.b.toNat o w (λa5=>?_) rfl rfl (by omega)
 refine .nil ?_
 refine .cY n.b.toNat o w _ (λx B=>?_)
 refine .nil ?_
 ·exact aL x (by rw[i];simpa only[j,k,f,Bool.true_or,Bool.false_or]using B) kE.c.c.c (aT [1])
 intro y hy
 have Q:OS 4 1 n9 (.slice (some ⟨A,0,none⟩) l.length l.length) (fX l X e) y:=hy
 refine bg<|aB<|.region<|.mo rfl<|.q (.i64 ((e:Int)-1) .sub ⟨rfl,by omega,by omega⟩)<|.ag rfl<|.nil ?_
 ·exact bu (e,y) ⟨by simp only;omega,by simp only;rw[H];exact Q⟩ (by simp only;omega) kE.c.c.c rH
 have Z:¬n.op=true:=by rw[<-I,k];simp
 rw[adY Z]at i
 refine .skip<|bg<|aB<|.region<|.mo rfl<|.q (.i64 ((e:Int)-1) .sub ⟨rfl,by omega,by omega⟩)<|.ag rfl<|.nil ?_
 ·exact bu (e,D) ⟨by simp only;omega,by simp only;rw[H,i];exact g⟩ (by simp only;omega) kE.c.c.c (aT [1])
 refine .exit<|br<|bz<|bw<|aB<|.sr<|.mo rfl<|.az rfl<|.ret (bm _ (.one (.tmp rfl)) (.one [0] _) ?_)
 ·refine⟨D,by simp[take],?_⟩
  have Y:m=0:=by have:=bK j;omega
  subst Y
  unfold mg
  rw[K]
  exact g
def NA(c:bN)(ok:Bool)(S:List fG)(o:Option (List Nat)):Prop:=match o with
 |none=>ok=false
 |some ts=>ok=true/\S.map c.ix=ts/\∀p∈S,c.valid p
def TN(l:List (ByteArray×Rl))(sp:ByteArray)(r:Rl)(n:Nd)(tys:List Ty):Prop:=targets l sp r.types n=findAll l tys/\tys.length<=8
theorem uv{a:List Ty}{n:Nat}(h:a.length<=n):(dK a).length<=n:=aek (aez _ _) h
theorem xd(l:List (ByteArray×Rl)):∀(a:List Ty) (t:Ty),findAll l (a++[t])=(findAll l a).bind λx=>(bY l t).map λi=>x++[i]
 |[],t=>by
  rw[aev,findAll,findAll]
  cases bY l t<;>rfl
 |x::a,t=>by
  rw[aeu,findAll,findAll,xd l a t]
  cases bY l x with
  |none=>rfl
  |some i=>
   cases findAll l a with
   |none=>rfl
   |some u=>cases bY l t<;>rfl
theorem xe{l:List (ByteArray×Rl)}{t:Ty}{a:List Ty}(h:t∈a)(c:bY l t=none):findAll l a=none:=by
 cases hf:findAll l a with
 |none=>rfl
 |some o=>obtain⟨i,b,_⟩:=pa hf h;rw[c]at b;cases b
theorem ot{c:bN}{p:fG}{s:ca}{r:cb}(b:c.aZ[p.1]? =some s)(a:s.bR[p.2]? =some r):c.plain.all[c.ix p]? =some (s.name,r.r):=by
 have:=vj (oz b) (yT a)
 unfold bN.ix Cf.all
 exact this
def bN.o9(c:bN):Prop:=∀s∈c.aZ,∀r∈s.bR,r.r.types.length<=8/\r.r.nodes.length<=64/\gj isWord r.r.nodes≠0
theorem KC{R:aw}{xb:Nat}{vm:Value}{c:bN}(h:IX R xb vm c)(I:c.o9)(p:fG)(s:ca)(r:cb)(J:c.aZ[p.1]? =some s)(hr:s.bR[p.2]? =some r)(n:Nd):
  Spec prog 232 [pT xb,.agg (kj p).toArray,.agg n.enc.toArray] R [] λu H'=>∃T,H'=[T]/\∃w S ok,u=.tuple [w,.bool ok].toArray/\OS 321 2 kj w S T/\S.length<=8/\
   NA c ok S (targets c.plain.all s.name r.r.types n):=by
 have b3:=tY h p s r J hr
 have a2:=h
 have b8:=(I s (aX J) r (aX hr)).1
 have b2:=looked c
 obtain⟨i,k⟩:=p
 have pc:=h.pc
 have om:=h.om
 have a7:=h.ci.ss
 have i1:=a7.aC
 have i2:One c.vc:=RS.aC h.ci.sc
 have b7:=h.ci.all _ (aX J)
 have a6:=b7.all _ (aX hr)
 have e0:One s.v:=RS.aC b7.rs
 have d8:cv (cb.enc r):=⟨a6.dv⟩
 simp only at J hr
 have e5:=a7.pc J
 generalize Y:c.plain.all=A at *
 refine Spec.body func232 rfl results232 ntmps232 rfl<|.sr ?_
 refine .cm rfl (λb4=>?_)
 refine .cm rfl (λb5=>?_)
 refine .ag rfl<|.ag rfl<|.zs ?_
 refine bq.dI [(0,_),(5,_)] kE.c.c (X:=Nat) (λ_=>True) (λy E=>(9,pT y)::(8,.string s.name)::E) (λy=>[bl y r.enc 167,bl b5 n.enc 199,bl b4 (kj (i,k)) 321]) ?_ ?_
 refine .cG [15] mixed<|.tO 0 rfl .move<|.tO 1 rfl (.nilCheck rfl)<|.tO 2 rfl (.fieldAddr rfl)<|.tO 3 rfl (.fieldAddr rfl)<|.tO 4 rfl (.bU rfl)<|.tO 5 rfl (.fieldAddr rfl)<|.tO 6 rfl (.bU rfl)<|.tO 7 rfl (.bZ i a7 J rfl rfl rfl)<|.tO 8 rfl (.fieldAddr rfl)<|.tO 9 rfl (.bU rfl)<|.tO 10 rfl .move<|.tO 11 rfl (.aU rfl)<|RA.hG 12 13 rfl rfl (by kernel_rfl) rfl ?_ ?_
 refine .bj (b3.weaken dJ) (λu B=>?_)
 subst B
 refine .nil<|Next.sub<|.sT 13 rfl ?_
 refine .bT (λb9=>?_)
 refine .nil<|Next.sub<|.tO 14 rfl .assign<|.sT 15 rfl<|.bP rfl rfl<|.nil<|Next.mod rfl<|RA.nil (by kernel_rfl) ?_
 ·exact aL b9 ad0 kE.c.c.c.c rH
 refine .bT (λb9=>?_)
 refine .nil<|Next.sub<|.sT 12 rfl<|.bj (b3.weaken dJ) (λu B=>?_)
 subst B
 refine .nil<|Next.sub<|.tO 14 rfl .assign<|.sT 15 rfl<|.bP rfl rfl<|.nil<|Next.mod rfl<|RA.nil (by kernel_rfl) ?_
 ·exact aL b9 ad0 kE.c.c.c.c rH
 intro y hy
 obtain⟨vt,vn,r⟩:=r
 have b6:RS R 2 Ty.enc vt r.types:=a6.t
 have e1:One vt:=b6.aC
 have d9:One vn:=RS.aC a6.d
 refine aB<|.sr<|.ag rfl<|.zs<|.sr<|.fa rfl<|.lo rfl<|.zn<|.block<|.sr<|.q .cr<|.az rfl ?_
 refine bq.dI [(0,_)] kE.c (X:=Value×List Ty×ap) (λy=>OS 249 2 Ty.enc y.1 y.2.1 y.2.2/\TN A s.name r n y.2.1) (λy E=>(10,y.1)::E) (λy=>[y.2.2]) ?_ ?_
 refine .cond rfl (λD=>?_) λD=>?_
 refine .region<|.fa rfl<|.lo rfl<|.dN (uw vt r.types _ b6.rx (by simp only at b8;omega)) (λu L B=>?_)
 have iu:=B.aC
 refine .ag rfl<|.nil ?_
 ·exact aL (u,dK r.types,L) ⟨B,by unfold targets;rw[adZ (by simpa using D)],uv b8⟩ kE.c.c (aT [0])
 refine .sr<|.q .cr<|.az rfl<|.cond rfl (λH=>?_) λH=>?_
 refine .region<|.mo rfl<|.fa rfl<|.lo rfl ?_
 refine .q .cD ?_
 refine .dV (λd6=>?_)
 refine .ag rfl<|.nil ?_
 ·exact aL (_,[(⟨s.name,n.rel⟩:Ty)],_) ⟨OS.lits (xs:=[(⟨s.name,n.rel⟩:Ty)]) rfl (by simp[Ty.enc]) (by simp[Ty.enc,aC]),by unfold targets;rw[adY (by simpa using D),adZ (by simpa using H)],by simp⟩ ((kE.d rfl).d rfl) (aT [0])
 refine .sr<|.q .cr<|.az rfl<|.cond rfl (λM=>?_) λM=>?_
 obtain⟨C,ok,a5,a⟩:=b2 (⟨s.name,n.rel⟩:Ty)
 refine .seq<|.cG [13] mixed<|.tO 0 rfl .move<|.tO 1 rfl (.nilCheck rfl)<|.tO 2 rfl (.fieldAddr rfl)<|.tO 3 rfl (.bU rfl)<|.tO 4 rfl .move<|.tO 5 rfl (.fieldAddr rfl)<|.tO 6 rfl (.bU rfl)<|.tO 7 rfl .cD<|.eQ 8 rfl (.cast (.oo (a2.rm.oq λb o hb=>.inl hb) rfl rfl) (ad1 (λl:List Value=>Value.tuple l.toArray) a5)) (by kernel_rfl)<|.tO 9 rfl .move<|.tO 10 rfl .extract<|.tK 11 rfl .extract<|.sT 12 rfl ?_
 refine .bT (λd2=>?_)
 refine .nil<|Next.sub<|.sT 13 rfl<|.bP rfl rfl<|.nil<|Next.mod rfl<|.tK 14 rfl .assign<|RA.nil (by kernel_rfl)<|aB<|.seq<|.sr<|.mo rfl<|.q .not<|.zn<|.cond rfl (λh4=>?_) λh4=>?_
 refine .sr<|.ag rfl<|.az rfl<|.ret (ba (qW (bF (ba (bm _ (.two (.tmp rfl) (.tmp rfl)) bo.jd ?_)))))
 ·refine⟨[],rfl,_,[],false,rfl,OS.nil,by simp,?_⟩
  have O:ok=false:=by simpa using h4
  have m:bY A ⟨s.name,n.rel⟩=none:=by
   unfold mU at a
   rw[Y]at a
   cases hf:bY A ⟨s.name,n.rel⟩with
   |none=>rfl
   |some j=>rw[hf]at a;rw[a.1]at O;cases O
  unfold targets
  rw[adY (by simpa using D),adY (by simpa using H),adZ (by simpa using M),m]
  rfl
 have a4:ok=true:=by simpa using h4
 subst a4
 obtain⟨j,m,a3,s2,f,a1,a0⟩:∃j,bY A ⟨s.name,n.rel⟩=some j/\c.ix C=j/\c.valid C:=by
  unfold mU at a
  rw[Y]at a
  cases hf:bY A ⟨s.name,n.rel⟩with
  |none=>rw[hf]at a;cases a
  |some j=>rw[hf]at a;exact⟨j,rfl,a.2.1,a.2.2⟩
 have c4:=tY a2 C s2 f a1 a0
 obtain⟨c0,e6,f⟩:=f
 have c5:=(h.ci.all _ (aX a1)).all _ (aX a0)
 have c6:RS R 2 Ty.enc c0 f.types:=c5.t
 have c7:f.types.length<=8:=(I _ (aX a1) _ (aX a0)).1
 have a9:(A.map (·.2.types)).getD j []=f.types:=by
  have:=ot a1 a0
  rw[Y,a3]at this
  rw[ad7,ad5,this]
  rfl
 refine .kn<|.seq<|.sr<|.mo rfl<|.q (.aU rfl)<|.bj (c4.weaken dJ) (λu B=>?_)
 subst B
 refine .q (.JF underlying167 rfl rfl wA rfl)<|.dN (uw c0 f.types _ c6.rx (by omega)) (λu T2 a8=>?_)
 have e2:=a8.aC
 have c9:=uv c7
 refine .q (.fz a8)<|.mo rfl<|.zn<|.block<|.cX [(0,_),(5,_),(67,_),(68,_)] (X:=Nat×Value×ap) (λy=>y.1<=(dK f.types).length/\OS 249 2 Ty.enc y.2.1 (((dK f.types).take y.1).map λt=>(⟨t.space,n.eR⟩:Ty)) y.2.2) (λy E=>(69,iN y.1)::(10,y.2.1)::E) (λy G=>y.2.2::G) (λy=>(dK f.types).length-y.1) (0,sZ,[]) ⟨ad2 _,OS.nil⟩ kE.c.c.c.c.c.c bo.gb ?_
 rintro⟨q,vo,To⟩ ⟨hq,g⟩
 simp only at hq g⊢
 have io:=g.aC
 refine .sr<|.q .lss<|.zs<|.cond rfl (λh5=>?_) λh5=>?_
 have Q:q<(dK f.types).length:=by have:=bV h5;omega
 obtain⟨t,K⟩:=cE Q
 refine .kn<|.seq<|.block<|.sr ?_
 refine .aI q a8 K (λe3=>?_)
 refine .q (.aU rfl) ?_
 refine .bT (λd3=>?_)
 refine .bP rfl rfl<|.zn<|.region<|.mo rfl<|.fa rfl<|.lo rfl<|.fa rfl<|.lo rfl ?_
 refine .q .cD ?_
 refine .dV (λd7=>?_)
 refine .append g (RS.lits (xs:=[(⟨t.space,n.eR⟩:Ty)]) rfl (by simp[Ty.enc]) (by simp[Ty.enc,aC])) (by simp only[ad3,ad8,ad6];omega) (λv1 L U=>?_)
 have d0:=U.aC
 refine .ag rfl<|.nil<|bg<|aB<|.region<|.ia (q+1) .add<|.mo rfl<|.nil ?_
 ·exact bu (q+1,v1,L) ⟨Q,by simp only;rw[fD K,ad4];exact U⟩ (by simp only;omega) kE.c.c.c.c.c.c (aT [2,2,2,2,2,2])
 rw[hJ (lF h5)]at g
 refine .exit<|br<|bz<|bw<|aB<|.sr<|.mo rfl<|.q (.fz g)<|.q .cr<|.zn<|.cond rfl (λW=>?_) λW=>?_
 have c3:dK f.types=[]:=by have N:=eq_of_beq W;rw[ad3]at N;exact aeQ (by omega)
 refine .sr<|.ag rfl<|.az rfl<|.ret (qW (bF (ba (bm _ (.two (.tmp rfl) (.tmp rfl)) bo.jd ?_))))
 ·refine⟨[],rfl,_,[],false,rfl,OS.nil,by simp,?_⟩
  unfold targets
  rw[adY (by simpa using D),adY (by simpa using H),adZ (by simpa using M),m]
  simp only
  rw[a9,c3]
  rfl
 have c2:dK f.types≠[]:=by intro e;rw[e]at W;simp at W
 refine .skip ?_
 ·exact aL (vo,(dK f.types).map λt=>(⟨t.space,n.eR⟩:Ty),To) ⟨g,by
   unfold targets
   rw[adY (by simpa using D),adY (by simpa using H),adZ (by simpa using M),m]
   simp only
   rw[a9]
   cases hz:dK f.types with
   |nil=>exact absurd hz c2
   |cons z zs=>rfl,by rw[ad3];exact c9⟩ kE.c.c (aT [0])
 refine .skip ?_
 ·exact aL (sZ,[],[]) ⟨OS.nil,by unfold targets;rw[adY (by simpa using D),adY (by simpa using H),adY (by simpa using M)];rfl,by simp⟩ kE.c.c bo.jd
 intro x hx
 obtain⟨w,V,Tt⟩:=x
 obtain⟨Z,b1,c1⟩:=hx
 simp only at Z b1 c1⊢
 have iw:=Z.aC
 rw[b1]
 refine bg<|aB<|.sr<|.ag rfl<|.zs<|.sr<|.mo rfl<|.q (.fz Z)<|.mo rfl<|.zn<|.block<|.cX [(0,_),(85,_),(86,_)] (X:=Nat×Value×List fG×ap) (λy=>y.1<=V.length/\OS 321 2 kj y.2.1 y.2.2.1 y.2.2.2/\y.2.2.1.length=y.1/\NA c true y.2.2.1 (findAll A (V.take y.1))) (λy E=>(87,iN y.1)::(15,y.2.1)::E) (λy G=>y.2.2.2::G) (λy=>V.length-y.1) (0,sZ,[],[]) ⟨ad2 _,OS.nil,rfl,⟨rfl,rfl,λp hp=>(by cases hp)⟩⟩ kE.c.c.c.c.c bo.gb ?_
 rintro⟨q,vo,S,To⟩ ⟨hq,g,b0,F⟩
 simp only at hq g b0 F⊢
 have io:=g.aC
 refine .sr<|.q .lss<|.zs<|.cond rfl (λN=>?_) λN=>?_
 have Q:q<V.length:=cV N
 obtain⟨t,K⟩:=cE Q
 obtain⟨C,ok,a5,a⟩:=b2 t
 unfold mU at a
 rw[Y]at a
 refine .kn<|.seq<|.block<|.sr ?_
 refine .aI q Z K (λe4=>?_)
 refine .q (.aU rfl) ?_
 refine .bT (λd4=>?_)
 refine .bP rfl rfl<|.zs<|.cG [10] mixed<|.tO 0 rfl .move<|.tO 1 rfl (.nilCheck rfl)<|.tO 2 rfl (.fieldAddr rfl)<|.tO 3 rfl (.bU rfl)<|.tO 4 rfl (.aU rfl)<|.eQ 5 rfl (.cast (.oo (a2.rm.oq λb o hb=>.inl hb) rfl rfl) (ad1 (λl:List Value=>Value.tuple l.toArray) a5)) (by kernel_rfl)<|.tO 6 rfl .move<|.tO 7 rfl .extract<|.tK 8 rfl .extract<|.sT 9 rfl ?_
 refine .bT (λd5=>?_)
 refine .nil<|Next.sub<|.sT 10 rfl<|.bP rfl rfl<|.nil<|Next.mod rfl<|.tK 11 rfl .assign<|RA.nil (by kernel_rfl)<|aB<|.seq<|.sr<|.mo rfl<|.q .not<|.zn<|.cond rfl (λI=>?_) λI=>?_
 refine .sr<|.ag rfl<|.az rfl<|.ret (ba (bF (ba (dm (bF (ba (bm _ (.two (.tmp rfl) (.tmp rfl)) bo.jd ?_)))))))
 ·refine⟨[],rfl,_,[],false,rfl,OS.nil,by simp,?_⟩
  have O:ok=false:=by simpa using I
  have m:bY A t=none:=by
   cases hf:bY A t with
   |none=>rfl
   |some j=>rw[hf]at a;rw[a.1]at O;cases O
  rw[xe (aX K) m]
  rfl
 have a4:ok=true:=by simpa using I
 subst a4
 obtain⟨j,m,a3,c8⟩:∃j,bY A t=some j/\c.ix C=j/\c.valid C:=by
  cases hf:bY A t with
  |none=>rw[hf]at a;cases a
  |some j=>rw[hf]at a;exact⟨j,rfl,a.2.1,a.2.2⟩
 refine .kn<|.region<|.mo rfl<|.q (.aU rfl) ?_
 refine .dV (λd1=>?_)
 refine .append g (RS.lits (xs:=[C]) rfl (by simp[kj]) (by simp[kj,aC])) (by simp only[ad6];omega) (λv1 L U=>?_)
 have d0:=U.aC
 refine .ag rfl<|.nil<|bg<|aB<|.region<|.ia (q+1) .add<|.mo rfl<|.nil ?_
 ·exact bu (q+1,v1,S++[C],L) ⟨Q,U,by simp[b0],by
   simp only
   rw[fD K,xd,m]
   cases hf:findAll A (V.take q)with
   |none=>rw[hf]at F;cases F
   |some o=>
    rw[hf]at F
    obtain⟨_,n1,n2⟩:=F
    refine⟨rfl,by rw[ad4,n1];simp[a3],λp hp=>?_⟩
    rcases aec.1 hp with hp|hp
    ·exact n2 p hp
    ·rw[ad9]at hp;subst hp;exact c8⟩ (by simp only;omega) kE.c.c.c.c.c (aT [3,3])
 rw[hJ (lF N)]at F
 refine .exit<|br<|bz<|bw<|aB<|.sr<|.mo rfl<|.ag rfl<|.az rfl<|.ret (bm _ (.two (.tmp rfl) (.tmp rfl)) (.one [0] _) ?_)
 ·exact⟨To,by simp[take],vo,S,true,rfl,g,by omega,F⟩
abbrev iT:=fG×fG×Bool
def iK(e:iT):List Value:=[iN e.1.1,iN e.1.2,iN e.2.1.1,iN e.2.1.2,.bool e.2.2]
instance(e:iT):cv (iK e):=⟨by simp[iK,aC]⟩
def bN.ed(c:bN)(e:iT):Ed:=⟨c.ix e.1,c.ix e.2.1,e.2.2⟩
def EA(c:bN)(ok:Bool)(Es:List iT)(o:Option (List Ed)):Prop:=match o with
 |none=>ok=false
 |some E=>ok=true/\Es.map c.ed=E/\∀e∈Es,c.valid e.1/\c.valid e.2.1
theorem sI{α β:Type}{f:α->Option (List β)}{x:α}:∀{l:List α},x∈l->f x=none->cat f l=none
 |[],hx,_=>by cases hx
 |y::l,hx,h=>by
  rw[cat]
  rcases aej.1 hx with rfl|hx
  ·rw[h];rfl
  ·rw[sI hx h]
   cases f y<;>rfl
theorem EA.o2{c:bN}{d f:List iT}{a b:Option (List Ed)}(g:EA c true d a)(h:EA c true f b):EA c true (d++f) (a.bind λx=>b.map (x++ ·)):=by
 cases a with
 |none=>cases g
 |some a=>
  cases b with
  |none=>cases h
  |some b=>
   obtain⟨_,i,j⟩:=g
   obtain⟨_,k,l⟩:=h
   refine⟨rfl,by rw[ad4,i,k],λe he=>?_⟩
   rcases aec.1 he with he|he
   ·exact j e he
   ·exact l e he
theorem EA.nil{c:bN}:EA c true [] (some []):=⟨rfl,rfl,λe a=>(by cases a)⟩
theorem BI{R:aw}{xb:Nat}{vm:Value}{c:bN}(h:IX R xb vm c)(h8:c.o9)(p:fG)(s:ca)(r:cb)(H:c.aZ[p.1]? =some s)(F:s.bR[p.2]? =some r):
  Spec prog 181 [pT xb,.agg (kj p).toArray] R [] λu H'=>∃T,H'=[T]/\∃w Es ok,u=.tuple [w,.bool ok].toArray/\OS 325 5 iK w Es T/\Es.length<=512/\
   EA c ok Es (jR c.plain.all (c.ix p) s.name r.r):=by
 have c9:=tY h p s r H F
 have a6:=λn=>KC h h8 p s r H F n
 have c2:=h
 obtain⟨b1,c6,a3⟩:=h8 s (aX H) r (aX F)
 have c4:=looked c
 have d6:c.valid p:=⟨s,r,H,F⟩
 have pc:=h.pc
 have Z:=(h.ci.all _ (aX H)).all _ (aX F)
 generalize hA:c.plain.all=A at *
 generalize c3:c.ix p=j0 at *
 have M:jR A j0 s.name r.r=if(findAll A (dK r.r.types)).isSome then cat (λk:Nat=>(r.r.nodes[k]?).bind λn=>jP A j0 s.name r.r ((mg r.r.nodes).getD k false) n) (List.range' 0 r.r.nodes.length)else none:=rfl
 obtain⟨vt,vn,r⟩:=r
 have d1:RS R 2 Ty.enc vt r.types:=Z.t
 have Y:RS R 5 Nd.enc vn r.nodes:=Z.d
 have e3:cv (cb.enc ⟨vt,vn,r⟩):=⟨Z.dv⟩
 have d7:=uv b1
 simp only at b1 c6 a3 M a6 d7⊢
 have e2:(mg r.nodes).length=r.nodes.length:=by unfold mg;rw[qG,ael]
 refine Spec.body func181 rfl results181 ntmps181 rfl<|.sr ?_
 refine .cm rfl (λb3=>?_)
 refine .ag rfl<|.ag rfl<|.z<|.mo rfl<|.q (.aU rfl)<|.bj (c9.weaken dJ) (λu hu=>?_)
 subst hu
 refine .bT (λb6=>?_)
 refine .bP rfl rfl<|.zs<|.sr<|.fa rfl<|.lo rfl<|.dN (uw vt r.types _ d1.rx (by omega)) (λu T2 b2=>?_)
 refine .q (.fz b2)<|.mo rfl<|.zn<|.block<|.cX [(0,_),(3,_),(6,_),(24,_),(25,_)] (X:=Nat) (λq=>q<=(dK r.types).length/\((dK r.types).take q).all (λt=>(bY A t).isSome)=true) (λq E=>(26,iN q)::E) (λ_ G=>G) (λq=>(dK r.types).length-q) 0 ⟨ad2 _,rfl⟩ kE.c.c.c.c.c.c rH ?_
 rintro q ⟨hq,L⟩
 refine .sr<|.q .lss<|.zs<|.cond rfl (λN=>?_) λN=>?_
 have a9:q<(dK r.types).length:=by have:=bV N;omega
 obtain⟨t,a0⟩:=cE a9
 obtain⟨ps,ok,c7,v⟩:=c4 t
 unfold mU at v
 rw[hA]at v
 refine .kn<|.seq<|.block<|.sr ?_
 refine .aI q b2 a0 (λe4=>?_)
 refine .q (.aU rfl) ?_
 refine .bT (λb8=>?_)
 refine .bP rfl rfl<|.zs<|.cG [10] mixed<|.tO 0 rfl .move<|.tO 1 rfl (.nilCheck rfl)<|.tO 2 rfl (.fieldAddr rfl)<|.tO 3 rfl (.bU rfl)<|.tO 4 rfl (.aU rfl)<|.eQ 5 rfl (.cast (.oo (c2.rm.oq λb o hb=>.inl hb) rfl rfl) (ad1 (λl:List Value=>Value.tuple l.toArray) c7)) (by kernel_rfl)<|.tO 6 rfl .move<|.tO 7 rfl .extract<|.tK 8 rfl .extract<|.sT 9 rfl ?_
 refine .bT (λb9=>?_)
 refine .nil<|Next.sub<|.sT 10 rfl<|.bP rfl rfl<|.nil<|Next.mod rfl<|.tK 11 rfl .assign<|RA.nil (by kernel_rfl)<|aB<|.sr<|.mo rfl<|.q .not<|.zn<|.cond rfl (λO=>?_) λO=>?_
 refine .sr<|.ag rfl<|.az rfl<|.ret (bF (ba (dm (bF (ba (bm _ (.two (.tmp rfl) (.tmp rfl)) bo.jd ?_))))))
 ·refine⟨[],rfl,_,[],false,rfl,OS.nil,by simp,?_⟩
  have D:ok=false:=by simpa using O
  have hj:bY A t=none:=by
   cases f:bY A t with
   |none=>rfl
   |some j=>rw[f]at v;rw[v.1]at D;cases D
  rw[M,xe (aX a0) hj]
  rfl
 have f:(bY A t).isSome=true:=by
  have K:ok=true:=by simpa using O
  cases f:bY A t with
  |none=>rw[f]at v;rw[v]at K;cases K
  |some j=>rfl
 refine .skip<|bg<|aB<|.region<|.ia (q+1) .add<|.mo rfl<|.nil ?_
 ·exact bu (q+1) ⟨a9,qu a0 L f⟩ (by omega) kE.c.c.c.c.c.c (aT [2,2,2,2])
 have c1:(findAll A (dK r.types)).isSome=true:=by
  have i:=qP A (dK r.types)
  rw[hJ (lF N)]at L
  cases f:findAll A (dK r.types)with
  |none=>rw[f]at i;rw[show _=false from i]at L;cases L
  |some o=>rfl
 rw[adZ c1]at M
 rw[M]
 generalize hg:(λk:Nat=>(r.nodes[k]?).bind λn=>jP A j0 s.name r ((mg r.nodes).getD k false) n)=g at *
 refine .exit<|br<|bz<|bw<|aB<|.sr<|.fa rfl<|.lo rfl<|.dN (AB vn r.nodes _ Y.rx a3 (by omega)) (λu T9 d4=>?_)
 refine .ag rfl<|.z<|.ag rfl<|.zs<|.sr<|.fa rfl<|.lo rfl<|.q (.cq Y)<|.mo rfl<|.zn<|.block<|.cX [(0,_),(3,_),(11,_),(46,_),(47,_)] (X:=Nat×Value×List iT×ap) (λy=>y.1<=r.nodes.length/\OS 325 5 iK y.2.1 y.2.2.1 y.2.2.2/\y.2.2.1.length<=8*y.1/\EA c true y.2.2.1 (cat g (List.range' 0 y.1))) (λy E=>(48,iN y.1)::(12,y.2.1)::E) (λy G=>y.2.2.2::G) (λy=>r.nodes.length-y.1) (0,sZ,[],[]) ⟨ad2 _,OS.nil,by simp,EA.nil⟩ kE.c.c.c.c.c.c.c bo.gb ?_
 rintro⟨m,vo,Es,To⟩ ⟨hm,W,b5,V⟩
 simp only at hm W b5 V⊢
 refine .sr<|.q .lss<|.zs<|.cond rfl (λQ=>?_) λQ=>?_
 have a5:m<r.nodes.length:=cV Q
 obtain⟨n,a7⟩:=cE a5
 obtain⟨I,a2⟩:∃b,(mg r.nodes)[m]? =some b:=⟨_,aQ (by omega)⟩
 have a4:g m=jP A j0 s.name r I n:=by
  rw[<-hg]
  simp only[a7,aei]
  rw[ad7,a2]
  rfl
 have d0:List.range' 0 (m+1)=List.range' 0 m++[m]:=by rw[List.range'_1_concat];simp
 refine .kn<|.seq<|.block<|.sr<|.mo rfl ?_
 refine .bZ m Y a7 (λe5=>?_)
 refine .q (.aU rfl) ?_
 refine .bT (λb4=>?_)
 refine .ag rfl<|.bP rfl rfl<|.z<|.mo rfl<|.q (.aU rfl)<|.q (.aU rfl)<|.dN ((a6 n).weaken dJ) (λu T4 d3=>?_)
 obtain⟨w4,S,ok,rfl,a1,e1,a⟩:=d3
 refine .mo rfl<|.q .extract<|.q .extract<|.ag rfl<|.ag rfl<|.zs<|.sr<|.mo rfl<|.q .not<|.zn<|.cond rfl (λU=>?_) λU=>?_
 refine .sr<|.ag rfl<|.az rfl<|.ret (ba (bF (ba (dm (bF (ba (bm _ (.two (.tmp rfl) (.tmp rfl)) bo.jd ?_)))))))
 ·refine⟨[],rfl,_,[],false,rfl,OS.nil,by simp,?_⟩
  have D:ok=false:=by simpa using U
  have B:targets A s.name r.types n=none:=by
   cases B:targets A s.name r.types n with
   |none=>rfl
   |some C=>rw[B]at a;rw[a.1]at D;cases D
  rw[sI (x:=m) (by rw[List.mem_range'_1];omega) (by rw[a4];unfold jP;rw[B];rfl)]
  rfl
 have K:ok=true:=by simpa using U
 subst K
 obtain⟨C,d2,b7,c0⟩:∃C,targets A s.name r.types n=some C/\S.map c.ix=C/\∀q∈S,c.valid q:=by
  cases B:targets A s.name r.types n with
  |none=>rw[B]at a;cases a
  |some C=>rw[B]at a;exact⟨C,rfl,a.2.1,a.2.2⟩
 refine .kn<|.sr<|.mo rfl<|.q (.fz a1)<|.mo rfl<|.zn<|.block<|.cX [(0,_),(3,_),(11,_),(13,_),(46,_),(47,_),(48,_),(62,_),(63,_)] (X:=Nat×Value×ap) (λy=>y.1<=S.length/\OS 325 5 iK y.2.1 (Es++(S.take y.1).map λq=>((p,q,I):iT)) y.2.2) (λy E=>(64,iN y.1)::(12,y.2.1)::E) (λy G=>T4::bl b4 n.enc 199::y.2.2::G) (λy=>S.length-y.1) (0,vo,To) ⟨ad2 _,by simpa using W⟩ kE.c.c.c.c.c.c.c.c.c.c.c rH ?_
 rintro⟨q,v3,T3⟩ ⟨c8,J⟩
 simp only at c8 J⊢
 refine .sr<|.q .lss<|.zs<|.cond rfl (λi=>?_) λi=>?_
 have b0:q<S.length:=cV i
 obtain⟨d8,a8⟩:=cE b0
 refine .kn<|.seq<|.block<|.sr ?_
 refine .aI q a1 a8 (λe6=>?_)
 refine .q (.aU rfl) ?_
 refine .bT (λd9=>?_)
 refine .bP rfl rfl<|.zn<|.cG [9] mixed<|.tO 0 rfl .move<|.tO 1 rfl (.aU rfl)<|.tO 2 rfl (.aU rfl)<|.tO 3 rfl .move<|.tO 4 rfl .move ?_
 refine RA.aI 5 rfl m d4 a2 rfl rfl rfl (by kernel_rfl) (λe7=>?_)
 refine .tO 6 rfl (.bU rfl)<|.tO 7 rfl .cD<|.sT 8 rfl ?_
 refine .dV (λe0=>?_)
 refine .nil<|Next.sub<|.sT 9 rfl<|.append J (RS.lits (xs:=[((p,d8,I):iT)]) rfl (by simp[iK]) (by simp[iK,aC])) (by simp only[aed,ad3,ad8,ad6];omega) (λv1 T1 d5=>?_)
 refine .nil<|Next.mod rfl<|.tK 10 rfl .assign<|RA.nil (by kernel_rfl)<|bg<|aB<|.region<|.ia (q+1) .add<|.mo rfl<|.nil ?_
 ·exact bu (q+1,v1,T1) ⟨b0,by simp only;rw[fD a8,ad4, <-aex];exact d5⟩ (by simp only;omega) kE.c.c.c.c.c.c.c.c.c.c.c (aT [2,2,2,2,2,2,2])
 rw[hJ (lF i)]at J
 refine .exit<|br<|bz<|bw<|bg<|aB<|.region<|.ia (m+1) .add<|.mo rfl<|.nil ?_
 ·exact bu (m+1,v3,Es++S.map (λq=>((p,q,I):iT)),T3) ⟨a5,J,by simp only[aed,ad3];omega,by
   simp only
   rw[d0,sG]
   refine V.o2 ?_
   rw[cat,a4]
   unfold jP
   rw[d2]
   simp only[cat,aeI,aei,aeb]
   refine⟨rfl,?_,λe he=>?_⟩
   ·rw[<-b7,aef,aef]
    congr 1
    funext q
    simp only[aeq,bN.ed,c3]
   ·obtain⟨q,hq,rfl⟩:=aeH.1 he
    exact⟨d6,c0 q hq⟩⟩ (by simp only;omega) kE.c.c.c.c.c.c.c (aT [2,2,2,2,2])
 have c5:m=r.nodes.length:=by have:=bK Q;omega
 refine .exit<|br<|bz<|bw<|aB<|.sr<|.mo rfl<|.ag rfl<|.az rfl<|.ret (bm _ (.two (.tmp rfl) (.tmp rfl)) (.one [0] _) ?_)
 ·refine⟨To,by simp[take],vo,Es,true,rfl,W,by omega,?_⟩
  rw[<-c5]
  exact V
theorem wV{c:bN}(h:uT c.kv):c.o9:=λs b r a=>h (s.name,r) (aeS.2 ⟨s,b,aeH.2 ⟨r,a,rfl⟩⟩)
theorem MJ{R:aw}{xb:Nat}{vm:Value}{c:bN}(h:IX R xb vm c)(h8:c.o9)(t:c.kk):
  Spec prog 122 [pT xb] R [] λu H'=>∃T,H'=[T]/\∃w Es ok,u=.tuple [w,.bool ok].toArray/\OS 325 5 iK w Es T/\Es.length<=131072/\EA c ok Es c.plain.kP:=by
 have b3:=λp s r a J=>BI h h8 p s r a J
 have b5:=h
 have c0:=looked c
 have pc:=h.pc
 have Y:=h.ci.ss
 have W:=h.ci.sc
 have d3:=Y.le
 have d2:=W.le
 have b2:=h.ci.all
 have b0:=qf c.plain
 have d6:=t.kv
 have b9:c.plain.all.length=c.kv.length:=by rw[<-tw,ad3]
 have c5:c.plain.aZ.length=c.aZ.length:=by unfold bN.plain;simp
 have c3:∀(i:Nat) (s:ca),c.aZ[i]? =some s->c.plain.aZ[i]? =some s.plain:=λi s a=>oz a
 have c6:=λ(p:fG) (s:ca) (r:cb)=>ot (c:=c) (p:=p) (s:=s) (r:=r)
 have U:c.plain.kP=if rV c.plain then cat (λp:Nat×(ByteArray×Rl)=>jR c.plain.all p.1 p.2.1 p.2.2) (jI 0 c.plain.all)else none:=rfl
 have a8:rV c.plain=c.scopes.all λs:Sc=>(bY c.plain.all ⟨s.kw,s.rel⟩).isSome:=rfl
 have b7:∀i k,c.ix (i,k)=cz c.plain.aZ i+k:=λ_ _=>rfl
 generalize hA:c.plain.all=A at *
 generalize S:cz c.plain.aZ=of at *
 generalize hg:(λp:Nat×(ByteArray×Rl)=>jR A p.1 p.2.1 p.2.2)=g at *
 have c1:of 0=0:=by rw[<-S];cases c.plain.aZ<;>rfl
 refine Spec.body func122 rfl results122 ntmps122 rfl<|.sr<|.ag rfl<|.ag rfl<|.z<|.ag rfl<|.zs<|.sr<|.mo rfl<|.nc rfl<|.fa rfl<|.fa rfl<|.lo rfl<|.q (.cq Y)<|.mo rfl<|.zn<|.block<|.cX [(0,_),(18,_),(19,_)] (X:=Nat×Value×List iT×ap) (λy=>y.1<=c.aZ.length/\OS 325 5 iK y.2.1 y.2.2.1 y.2.2.2/\y.2.2.1.length<=512*of y.1/\EA c true y.2.2.1 (cat g (jI 0 (A.take (of y.1))))) (λy E=>(20,iN y.1)::(4,y.2.1)::E) (λy G=>y.2.2.2::G) (λy=>c.aZ.length-y.1) (0,sZ,[],[]) ⟨ad2 _,OS.nil,by simp,by simp only;rw[c1];exact EA.nil⟩ kE.c.c.c.c.c bo.gb ?_
 rintro⟨i,K,Es,F⟩ ⟨hi,n,m,f⟩
 simp only at hi n m f⊢
 refine .sr<|.q .lss<|.zs<|.cond rfl (λL=>?_) λL=>?_
 have a3:i<c.aZ.length:=cV L
 obtain⟨⟨e,v,d⟩,a⟩:=cE a3
 have a9:=b2 _ (aX a)
 have a7:RS R 3 cb.enc v d:=a9.rs
 have d4:=a7.le
 have d7:cv (ca.enc ⟨e,v,d⟩):=⟨a9.dv⟩
 have a6:=c3 i _ a
 have a5:=pF a6
 have a4:=tE a6
 rw[S,show(ca.plain ⟨e,v,d⟩).bR.length=d.length by simp[ca.plain]]at a5 a4
 rw[b0,b9]at a4
 refine .kn<|.seq<|.block<|.sr<|.mo rfl ?_
 refine .bZ i Y a (λd8=>?_)
 refine .q (.aU rfl) ?_
 refine .bT (λb6=>?_)
 refine .ag rfl<|.bP rfl rfl<|.z<|.fa rfl<|.lo rfl<|.q (.cq a7)<|.mo rfl<|.zn<|.block<|.cX [(0,_),(5,_),(18,_),(19,_),(20,_),(27,_)] (X:=Nat×Value×List iT×ap) (λy=>y.1<=d.length/\OS 325 5 iK y.2.1 y.2.2.1 y.2.2.2/\y.2.2.1.length<=512*(of i+y.1)/\EA c true y.2.2.1 (cat g (jI 0 (A.take (of i+y.1))))) (λy E=>(28,iN y.1)::(4,y.2.1)::E) (λy G=>bl b6 (ca.enc ⟨e,v,d⟩) 164::y.2.2.2::G) (λy=>d.length-y.1) (0,K,Es,F) ⟨ad2 _,n,m,f⟩ kE.c.c.c.c.c.c.c.c rH ?_
 rintro⟨k,K,Es,F⟩ ⟨hk,n,m,f⟩
 simp only at hk n m f⊢
 refine .sr<|.q .lss<|.zs<|.cond rfl (λM=>?_) λM=>?_
 have a2:k<d.length:=cV M
 obtain⟨r,J⟩:=cE a2
 have Z:=b3 (i,k) _ r a J
 have H:=c6 (i,k) _ r a J
 rw[b7]at Z H
 have a0:g (of i+k,(e,r.r))=jR A (of i+k) e r.r:=by rw[<-hg]
 have d5:of i+k<A.length:=(aea.1 H).1
 refine .kn<|.seq<|.block<|.sr<|.mo rfl<|.ag rfl<|.z<|.mo rfl<|.mo rfl<|.mo rfl<|.q .cD<|.dN (Z.weaken dJ) (λu T4 c7=>?_)
 obtain⟨w4,Fs,ok,rfl,b1,d1,B⟩:=c7
 refine .mo rfl<|.q .extract<|.q .extract<|.ag rfl<|.ag rfl<|.zs<|.sr<|.mo rfl<|.q .not<|.zn<|.cond rfl (λN=>?_) λN=>?_
 refine .sr<|.ag rfl<|.az rfl<|.ret (ba (bF (ba (dm (bF (bF (ba (dm (bF (ba (bm _ (.two (.tmp rfl) (.tmp rfl)) bo.jd ?_)))))))))))
 ·refine⟨[],rfl,_,[],false,rfl,OS.nil,by simp,?_⟩
  have D:ok=false:=by simpa using N
  rw[U]
  split
  ·rw[sI (x:=(of i+k,(e,r.r))) (by have:=qK (i:=0) H;rwa [Nat.zero_add]at this) (by
    rw[a0]
    cases hrc:jR A (of i+k) e r.r with
    |none=>rfl
    |some o=>rw[show jR A (of i+k) (⟨e,v,d⟩:ca).name r.r=some o from hrc]at B;rw[B.1]at D;cases D)]
   rfl
  ·rfl
 have I:ok=true:=by simpa using N
 subst I
 refine .kn<|.region<|.mo rfl<|.mo rfl<|.append n b1.rx (by omega) (λv1 T1 c8=>?_)
 refine .ag rfl<|.nil<|bg<|aB<|.region<|.ia (k+1) .add<|.mo rfl<|.nil ?_
 ·exact bu (k+1,v1,Es++Fs,T1) ⟨a2,c8,by simp only[aed];omega,by
   simp only
   rw[show of i+(k+1)=of i+k+1 by omega,wi H,sG]
   refine f.o2 ?_
   rw[cat,Nat.zero_add,show g (of i+k,(⟨e,v,d⟩:ca).name,r.r)=jR A (of i+k) e r.r from a0]
   revert B
   generalize jR A (of i+k) (⟨e,v,d⟩:ca).name r.r=o
   intro B
   cases o with
   |none=>exact B
   |some o=>simpa[cat]using B⟩ (by simp only;omega) kE.c.c.c.c.c.c.c.c (aT [1,1,1])
 have b8:k=d.length:=by have:=bK M;omega
 rw[b8, <-a5]at m f
 refine .exit<|br<|bz<|bw<|bg<|aB<|.region<|.ia (i+1) .add<|.mo rfl<|.nil ?_
 ·exact bu (i+1,K,Es,F) ⟨a3,n,m,f⟩ (by simp only;omega) kE.c.c.c.c.c (aT [1])
 have b4:i=c.aZ.length:=by have:=bK L;omega
 have c2:of i=A.length:=by rw[b4, <-c5, <-S, <-b0];rfl
 rw[c2,aeg]at f
 refine .exit<|br<|bz<|bw<|aB<|.seq<|.sr<|.mo rfl<|.nc rfl<|.fa rfl<|.fa rfl<|.lo rfl<|.q (.cq W)<|.mo rfl<|.zn<|.block<|.cX [(0,_),(4,_),(50,_),(51,_)] (X:=Nat) (λj=>j<=c.scopes.length/\(c.scopes.take j).all (λs:Sc=>(bY A ⟨s.kw,s.rel⟩).isSome)=true) (λj E=>(52,iN j)::E) (λ_ G=>G) (λj=>c.scopes.length-j) 0 ⟨ad2 _,rfl⟩ kE.c.c.c.c.c rH ?_
 rintro j ⟨hj,V⟩
 refine .sr<|.q .lss<|.zs<|.cond rfl (λO=>?_) λO=>?_
 have a1:j<c.scopes.length:=cV O
 obtain⟨s,a⟩:=cE a1
 obtain⟨ps,ok,c4,C⟩:=c0 (⟨s.kw,s.rel⟩:Ty)
 unfold mU at C
 rw[hA]at C
 refine .kn<|.seq<|.block<|.sr ?_
 refine .bZ j W a (λd9=>?_)
 refine .q (.aU rfl) ?_
 refine .bT (λc9=>?_)
 refine .bP rfl rfl<|.zs<|.cG [15] mixed<|.tO 0 rfl .move<|.tO 1 rfl (.nilCheck rfl)<|.tO 2 rfl (.fieldAddr rfl)<|.tO 3 rfl (.bU rfl)<|.tO 4 rfl (.fieldAddr rfl)<|.tO 5 rfl (.fieldAddr rfl)<|.tO 6 rfl (.bU rfl)<|.tO 7 rfl (.fieldAddr rfl)<|.tO 8 rfl (.bU rfl)<|.tO 9 rfl .cD<|.eQ 10 rfl (.cast (.oo (b5.rm.oq λb o hb=>.inl hb) rfl rfl) (ad1 (λl:List Value=>Value.tuple l.toArray) c4)) (by kernel_rfl)<|.tO 11 rfl .move<|.tO 12 rfl .extract<|.tK 13 rfl .extract<|.sT 14 rfl ?_
 refine .bT (λd0=>?_)
 refine .nil<|Next.sub<|.sT 15 rfl<|.bP rfl rfl<|.nil<|Next.mod rfl<|.tK 16 rfl .assign<|RA.nil (by kernel_rfl)<|aB<|.sr<|.mo rfl<|.q .not<|.zn<|.cond rfl (λQ=>?_) λQ=>?_
 refine .sr<|.ag rfl<|.az rfl<|.ret (bF (ba (dm (bF (ba (bm _ (.two (.tmp rfl) (.tmp rfl)) bo.jd ?_))))))
 ·refine⟨[],rfl,_,[],false,rfl,OS.nil,by simp,?_⟩
  have D:ok=false:=by simpa using Q
  have hj:bY A ⟨s.kw,s.rel⟩=none:=by
   cases t:bY A ⟨s.kw,s.rel⟩with
   |none=>rfl
   |some j=>rw[t]at C;rw[C.1]at D;cases D
  rw[U,a8,qt a (by rw[hj];rfl)]
  rfl
 have t:(bY A ⟨s.kw,s.rel⟩).isSome=true:=by
  have I:ok=true:=by simpa using Q
  cases t:bY A ⟨s.kw,s.rel⟩with
  |none=>rw[t]at C;rw[C]at I;cases I
  |some j=>rfl
 refine .skip<|bg<|aB<|.region<|.ia (j+1) .add<|.mo rfl<|.nil ?_
 ·exact bu (j+1) ⟨a1,qu a V t⟩ (by omega) kE.c.c.c.c.c (aT [2])
 refine .exit<|br<|bz<|bw<|aB<|.sr<|.mo rfl<|.ag rfl<|.az rfl<|.ret (bm _ (.two (.tmp rfl) (.tmp rfl)) (.one [0] _) ?_)
 ·refine⟨F,by simp[take],K,Es,true,rfl,n,aek m (Nat.mul_le_mul_left 512 (show of i<=256 by omega)),?_⟩
  rw[hJ (lF O)]at V
  rw[U,a8,V,adZ rfl]
  exact f
abbrev gD:=fF×ap
def nV(w:Value)(LL:List gD)(To:ap):Prop:=OS 182 1 ee w (LL.map (·.1)) To/\∀q∈LL,OS 3 1 dr q.1.1 q.1.2 q.2
def mX(w:Value)(LL:List gD)(T:ap):Prop:=∃To,T=To++LL.flatMap (·.2)/\nV w LL To
theorem xX{α:Type}{l:List α}{i:Nat}{x:α}(h:l[i]? =some x):∃A B,l=A++x::B/\A.length=i/\∀y,l.set i y=A++y::B:=by
 refine⟨l.take i,l.drop (i+1),?_,?_,λy=>?_⟩
 ·have:=v7 h
  rw[<-this,aeJ]
 ·rw[ad8];have:=(aea.1 h).1;omega
 ·exact List.set_eq_take_append_cons_drop.trans (adZ (aea.1 h).1)
theorem Mj(w:Value)(d:List gD)(T:ap)(h:mX w d T)(e:iT)(a b:Nat)(t I:gD)(s:d[e.1.1]? =some t)(A:d[e.2.1.1]? =some I)(r:t.1.2[e.1.2]? =some a)(i:I.1.2[e.2.1.2]? =some b)(a1:b<=1000000000)(R:aw):
  Spec prog 182 [w,.agg (iK e).toArray] R [T] λu H'=>∃T',H'=[T']/\((u=.bool false/\b+(if e.2.2 then 1 else 0)<=a/\mX w d T')\/(u=.bool true/\a<b+(if e.2.2 then 1 else 0)/\∃Tn,mX w (d.set e.1.1 ((t.1.1,t.1.2.set e.1.2 (b+(if e.2.2 then 1 else 0))),Tn)) T')):=by
 obtain⟨f,rfl,g,m⟩:=h
 obtain⟨⟨k,l⟩,⟨v,B⟩,j⟩:=e
 obtain⟨⟨J,S⟩,V⟩:=t
 obtain⟨⟨K,U⟩,Z⟩:=I
 simp only at s A r i⊢
 have n:=m _ (aX s)
 have F:=m _ (aX A)
 simp only at n F
 have G:(d.map (·.1))[k]? =some (J,S):=by rw[ad5,s];rfl
 have Q:(d.map (·.1))[v]? =some (K,U):=by rw[ad5,A];rfl
 have O:∀(q:gD),q∈d->∀p∈q.2,p∈d.flatMap (·.2):=λq hq p Y=>aeS.2 ⟨q,hq,Y⟩
 obtain⟨L,M,y,a0,H⟩:=xX s
 have a2:RC R [f,d.flatMap (·.2)] (eE J (l*1)) (dr a):=⟨(n.pc r).mono λb o i=>.inr (by have:=O _ (aX s) _ i;simp[this])⟩
 have a3:RC R [f,d.flatMap (·.2)] (eE K (B*1)) (dr b):=⟨(F.pc i).mono λb o i=>.inr (by have:=O _ (aX A) _ i;simp[this])⟩
 have a4:PS f (eE w (k*1)) (ee (J,S)):=⟨g.pc G⟩
 have a5:PS f (eE w (v*1)) (ee (K,U)):=⟨g.pc Q⟩
 refine Spec.jg (H':=[f,d.flatMap (·.2)]) (by simp)<|Spec.body func182 rfl results182 ntmps182 rfl<|.sr ?_
 refine .cm rfl (λN=>?_)
 refine .ag rfl<|.zs<|.iA mixed (by kernel_rfl)<|.mo rfl<|.fa rfl<|.fa rfl<|.lo rfl<|.q (.bZ v g.sg Q rfl rfl rfl)<|.lo rfl<|.fa rfl<|.fa rfl<|.lo rfl<|.q (.bZ B F.sg i rfl rfl rfl)<|.lo rfl<|.ag rfl<|.zs<|.sr<|.fa rfl<|.lo rfl<|.zn ?_
 refine bq.dI [(0,_),(3,_)] kE.c.c (X:=Unit) (λ_=>True) (λ_ E=>(5,.int .i64 ((b+(if j then 1 else 0):Nat):Int))::E) (λ_=>[bl N (iK ((k,l),(v,B),j)) 325,f,d.flatMap (·.2)]) ?_ ?_
 refine .cond rfl (λC=>?_) λC=>?_
 refine .region<|.mo rfl<|.ia (b+1) .add<|.ag rfl<|.nil ?_
 ·exact aL () ad0 (kE.c.c.qD rfl (by have h:j=_:=C;simp[h])) rH
 refine .skip ?_
 ·exact aL () ad0 (kE.c.c.qD rfl (by have h:j=_:=C;simp[h])) rH
 intro x hx
 refine aB<|.seq<|.seq<|.iA mixed (by kernel_rfl)<|.mo rfl<|.fa rfl<|.fa rfl<|.lo rfl<|.q (.bZ k g.sg G rfl rfl rfl)<|.lo rfl<|.fa rfl<|.fa rfl<|.lo rfl<|.q (.bZ l n.sg r rfl rfl rfl)<|.lo rfl<|.mo rfl<|.q .geq<|.zn<|.cond rfl (λD=>?_) λD=>?_
 refine .sr<|.az rfl<|.ret (ba (bm _ (.one (.tmp rfl)) (.one [1,1] _) ?_))
 ·refine⟨_,rfl,.inl ⟨rfl,by have:=bV D;omega,f,by simp[take,bJ],g,m⟩⟩
 refine .kn<|.seq<|.dd 11 mixed (by kernel_rfl) ?_
 conv=>arg 6;dsimp only[List.take]
 refine .mo rfl<|.fa rfl<|.fa rfl<|.lo rfl<|.q (.bZ k g.sg G rfl rfl rfl)<|.lo rfl<|.fa rfl<|.fa rfl<|.lo rfl<|.mo rfl<|.q (.bZ l n.sg r rfl rfl rfl)<|.nil ?_
 refine .sub (H':=[bl N (iK ((k,l),(v,B),j)) 325,f,V,L.flatMap (·.2)++M.flatMap (·.2)]) (bo.eV (by
  rw[y]
  simp only[List.flatMap_append,List.flatMap_cons,aeo,aep,aeb]
  refine .append_left _ (.append_left _ ?_)
  rw[<-aex, <-aex]
  exact List.perm_append_comm.append_right _)) ?_
 refine .cY l n r (b+(if j then 1 else 0)) (λTn W=>?_)
 refine .z<|.az rfl<|.ret (bm _ (.one (.tmp rfl)) ((aT [1,1,1]).trans (bo.eV (H':=[f++(L.flatMap (·.2)++(Tn++M.flatMap (·.2)))]) (by simp only[take,bJ,aey,aeM,aeo,aep,aeb];refine .append_left _ ?_;rw[<-aex, <-aex];exact List.perm_append_comm.append_right _))) ?_)
 ·refine⟨_,rfl,.inr ⟨rfl,by have:=bK D;omega,Tn,f,?_,?_,λq hq=>?_⟩⟩
  ·rw[H];simp
  ·refine g.congr ?_
   rw[H,y]
   simp[ee]
  ·rw[H]at hq
   rcases aec.1 hq with hq|hq
   ·exact m q (by rw[y];exact List.mem_append_left _ hq)
   ·rcases aej.1 hq with rfl|hq
    ·exact W
    ·exact m q (by rw[y];exact List.mem_append_right _ (aeA _ hq))
theorem ui{c:bN}{X:List Nat}{p:fG}(g:c.valid p)(i:X.length=total c.plain.aZ):∃s:Sp,c.plain.aZ[p.1]? =some s/\p.2<s.bR.length/\(rows c.plain.aZ X)[p.1]? =some ((X.drop (cz c.plain.aZ p.1)).take s.bR.length)/\c.ix p<X.length/\
  ((X.drop (cz c.plain.aZ p.1)).take s.bR.length)[p.2]? =some (X.getD (c.ix p) 0):=by
 obtain⟨s,r,f,e⟩:=g
 have a:=oz f
 have d:=(aea.1 (yT e)).1
 have h:=tE a
 have b:c.ix p<X.length:=by unfold bN.ix;omega
 refine⟨s.plain,a,d,pV a,b,?_⟩
 rw[List.getElem?_take,adZ d,List.getElem?_drop,ad7]
 unfold bN.ix at b⊢
 rw[aQ b]
 rfl
theorem Mh{c:bN}(w:Value)(a:List gD)(T:ap)(h:mX w a T)(X:List Nat)(j:X.length=total c.plain.aZ)(k:a.map (·.1.2)=rows c.plain.aZ X)(e:iT)(s:c.valid e.1/\c.valid e.2.1)(D:∀x∈X,x<=1000000000)(R:aw):
  Spec prog 182 [w,.agg (iK e).toArray] R [T] λu H'=>∃T',H'=[T']/\∃ch LL',u=.bool ch/\ch=decide (fB X (c.ed e)≠X)/\mX w LL' T'/\LL'.map (·.1.2)=rows c.plain.aZ (fB X (c.ed e)):=by
 obtain⟨Q,t,v,y,z,A⟩:=ui s.1 j
 obtain⟨S,U,V,K,L,M⟩:=ui s.2 j
 have p:∀{i:Nat} {o:List Nat},(rows c.plain.aZ X)[i]? =some o->∃q:gD,a[i]? =some q/\q.1.2=o:=λ{i o} b=>by
  rw[<-k,ad5]at b
  cases hq:a[i]? with
  |none=>rw[hq]at b;cases b
  |some q=>rw[hq]at b;exact⟨q,rfl,by simpa using b⟩
 obtain⟨I,F,r⟩:=p y
 obtain⟨J,G,H⟩:=p K
 have C:X.getD (c.ix e.2.1) 0<=1000000000:=D _ (by rw[ad7,aQ L];exact List.getElem_mem _)
 have O:X.getD (c.ix e.1) 0=X.getD (c.ed e).f 0:=rfl
 refine(Mj w a T h e (X.getD (c.ix e.1) 0) (X.getD (c.ix e.2.1) 0) I J F G (by rw[r];exact A) (by rw[H];exact M) C R).mono λu H' m=>?_
 obtain⟨T',rfl,m⟩:=m
 refine⟨T',rfl,?_⟩
 rcases m with⟨rfl,B,g⟩|⟨rfl,B,N,g⟩
 ·have d:fB X (c.ed e)=X:=adY (by show ¬X.getD (c.ix e.1) 0<X.getD (c.ix e.2.1) 0+_;unfold Ed.w bN.ed;simp only;omega)
  refine⟨false,a,rfl,?_,g,?_⟩
  ·rw[d];simp
  ·rw[d];exact k
 ·have d:fB X (c.ed e)=X.set (c.ix e.1) (X.getD (c.ix e.2.1) 0+if e.2.2 then 1 else 0):=adZ (by show X.getD (c.ix e.1) 0<X.getD (c.ix e.2.1) 0+_;unfold Ed.w bN.ed;simp only;omega)
  refine⟨true,_,rfl,?_,g,?_⟩
  ·rw[d,eq_comm,decide_eq_true_iff]
   intro E
   have:=ad1 (λl:List Nat=>l.getD (c.ix e.1) 0) E
   rw[m6 _ _ _ _ z,adZ rfl]at this
   omega
  ·rw[d]
   have:=zj (n:=X) (x:=X.getD (c.ix e.2.1) 0+if e.2.2 then 1 else 0) t v j
   unfold bN.ix at this⊢
   rw[this,List.map_set,k,r]
theorem Mi{A X:List Nat}{e:Ed}(d:∀i,A.getD i 0<=X.getD i 0)(l:X.length=A.length)(k:e.f<X.length):fB X e≠A↔(X≠A\/fB X e≠X):=by
 have c:=λi=>rP X e k i
 constructor
 ·intro h
  by_cases g:X=A
  ·exact .inr (by rw[g]at h⊢;exact h)
  ·exact .inl g
 ·rintro(h|h) b
  ·refine h (ng l λi _=>?_)
   have j:=d i
   have a:=c i
   rw[b]at a
   omega
  ·refine h (ng (by rw[oC]) λi _=>?_)
   have j:=d i
   have a:=c i
   rw[b]at a⊢
   omega
theorem Me{X:List Nat}{e:Ed}{b:Nat}(h:∀x∈X,x<=b):∀x∈fB X e,x<=b+1:=by
 intro x hx
 unfold fB at hx
 split at hx
 ·rcases List.mem_or_eq_of_mem_set hx with hx|rfl
  ·have:=h x hx;omega
  ·have a:X.getD e.t 0<=b:=by
    rw[ad7]
    cases hq:X[e.t]? with
    |none=>exact ad2 _
    |some q=>exact h q (aX hq)
   have c:e.w<=1:=by unfold Ed.w;split<;>omega
   omega
 ·have:=h x hx;omega
theorem M5{R:aw}{xb:Nat}{vm:Value}{c:bN}(h:IX R xb vm c)(hf:c.kk)(ve:Value)(a:List iT)(b7:RS R 5 iK ve a)(c0:a.length<=131072)(N:∀e∈a,c.valid e.1/\c.valid e.2.1):
  Spec prog 123 [pT xb,ve] R [] λu H'=>∃T,H'=[T]/\match settle (a.map c.ed) (total c.plain.aZ+1) (List.replicate (total c.plain.aZ) 0)with
   |none=>u=.tuple [sZ,.bool false].toArray
   |some A=>∃w ll,u=.tuple [w,.bool true].toArray/\NN (sg T) w ll/\ll.map (·.2)=rows c.plain.aZ A:=by
 have d0:=h
 have pc:=h.pc
 have L:=h.ci.ss
 have e5:=L.le
 have e6:=hf.1
 have c6:=h.ci.all
 have f2:=qf c.plain
 have e4:c.plain.all.length=c.kv.length:=by rw[<-tw,ad3]
 have e9:=hf.kv
 have f1:c.plain.aZ.length=c.aZ.length:=by unfold bN.plain;simp
 have d6:∀(i:Nat) (s:ca),c.aZ[i]? =some s->c.plain.aZ[i]? =some s.plain:=λi s t=>oz t
 have e0:=zk c.plain.aZ
 have d8:=λw O T hh X v hr e N hb R=>Mh (c:=c) w O T hh X v hr e N hb R
 have e1:=uC c.plain.aZ 0
 have c8:∀e∈a,(c.ed e).f<total c.plain.aZ:=λe he=>by
  obtain⟨s,_,F,_,r,_⟩:=ui (X:=List.replicate (total c.plain.aZ) 0) (N e he).1 (by simp)
  rw[ael]at r
  exact r
 generalize f3:total c.plain.aZ=tot at *
 refine Spec.body func123 rfl results123 ntmps123 rfl<|.sr<|.ag rfl<|.ag rfl<|.z<|.mo rfl<|.nc rfl<|.fa rfl<|.fa rfl<|.lo rfl<|.q (.cq L) ?_
 refine .makeSlice (enc:=ee) c.aZ.length ((sZ,[]):fF) rfl rfl (by decide) (by simp[ee,aC]) rfl rfl (by omega) (by omega) (λQ T6 c3=>?_)
 refine .ag rfl<|.zs<|.sr<|.mo rfl<|.nc rfl<|.fa rfl<|.fa rfl<|.lo rfl<|.q (.cq L)<|.mo rfl<|.zn<|.block<|.cX [(0,_),(1,_),(6,_),(23,_),(24,_)] (X:=Nat×List gD×ap) (λy=>y.1<=c.aZ.length/\y.2.1.length=y.1/\OS 182 1 ee (.slice (some ⟨Q,0,none⟩) c.aZ.length c.aZ.length) (y.2.1.map (·.1)++List.replicate (c.aZ.length-y.1) ((sZ,[]):fF)) y.2.2/\(∀q∈y.2.1,OS 3 1 dr q.1.1 q.1.2 q.2)/\y.2.1.map (·.1.2)=((c.plain.aZ.take y.1).map λs=>List.replicate s.bR.length 0)) (λy E=>(25,iN y.1)::E) (λy G=>y.2.2::y.2.1.flatMap (·.2)::G) (λy=>c.aZ.length-y.1) (0,[],T6) (G:=[]) ⟨ad2 _,rfl,by simp only[List.map_nil,aev,Nat.sub_zero];exact c3,λq hq=>(by cases hq),by simp⟩ kE.c.c.c.c.c.c ((aT [0]).trans (bo.eV (by simp[take]))) ?_
 rintro⟨i,D,To⟩ ⟨hi,Z,l,hI,Y⟩
 simp only at hi Z l hI Y⊢
 refine .sr<|.q .lss<|.zs<|.cond rfl (λS=>?_) λS=>?_
 have b1:i<c.aZ.length:=cV S
 obtain⟨⟨sn,sv,d⟩,t⟩:=cE b1
 have b5:=c6 _ (aX t)
 have b4:RS R 3 cb.enc sv d:=b5.rs
 have e7:=b4.le
 have f4:cv (ca.enc ⟨sn,sv,d⟩):=⟨b5.dv⟩
 have f0:d.length<=16:=hf.2 _ (aX t)
 have d5:=d6 i _ t
 obtain⟨k,hk⟩:∃k,c.aZ.length-i=k+1:=⟨c.aZ.length-i-1,by omega⟩
 have d2:c.aZ.length-(i+1)=k:=by omega
 rw[hk]at l
 have a3:(D.map (·.1)).length=i:=by rw[ad3,Z]
 obtain⟨z,hz⟩:∃z,(D.map (·.1)++List.replicate (k+1) ((sZ,[]):fF))[i]? =some z:=⟨_,aQ (by rw[aed,a3,ael];omega)⟩
 refine .kn<|.seq<|.block<|.sr<|.mo rfl ?_
 refine .bZ i L t (λf5=>?_)
 refine .q (.aU rfl) ?_
 refine .bT (λb8=>?_)
 refine .ag rfl<|.bP rfl rfl<|.zn<|.region<|.mo rfl<|.mo rfl<|.fa rfl<|.lo rfl<|.q (.cq b4) ?_
 refine .makeSlice (enc:=dr) d.length 0 rfl rfl (by decide) (by simp[dr,aC]) rfl rfl (by omega) (by omega) (λbn Tn c4=>?_)
 refine .aI i l hz (λf6=>?_)
 refine .cY i l hz ((.slice (some ⟨bn,0,none⟩) d.length d.length,List.replicate d.length 0):fF) (λC a4=>?_)
 rw[iQ a3]at a4
 refine .nil<|bg<|aB<|.region<|.ia (i+1) .add<|.mo rfl<|.nil ?_
 ·exact bu (i+1,D++[((.slice (some ⟨bn,0,none⟩) d.length d.length,List.replicate d.length 0),Tn)],C) ⟨b1,by simp[Z],by simp only;rw[d2,ad4];exact a4,λq hq=>by
   rcases aec.1 hq with hq|hq
   ·exact hI q hq
   ·rw[ad9]at hq;subst hq;exact c4,by simp only;rw[fD d5,ad4,ad4,Y];simp[ca.plain]⟩ (by simp only;omega) kE.c.c.c.c.c.c ((aT [2,2,0]).trans (bo.eV (by simp[take,bJ])))
 have c9:i=c.aZ.length:=by have:=bK S;omega
 have b9:D.map (·.1.2)=rows c.plain.aZ (List.replicate tot 0):=by
  rw[e0,Y,hJ (by omega)]
 rw[c9,aew]at l
 simp only[List.replicate_zero,aeb]at l
 refine .exit<|br<|bz<|bw<|aB<|.seq<|.sr<|.mo rfl<|.nc rfl<|.fa rfl<|.lo rfl<|.q (.xP (d0.rm.oq λb o hb=>.inl hb) rfl) ?_
 rw[e1]
 refine .ia (tot+1) .add<|.mo rfl<|.zn<|.block<|.cX [(1,_),(6,_),(43,_)] (X:=Nat×List Nat×List gD×ap) (λy=>y.1<=tot+1/\y.2.1.length=tot/\mX (.slice (some ⟨Q,0,none⟩) c.aZ.length c.aZ.length) y.2.2.1 y.2.2.2/\y.2.2.1.map (·.1.2)=rows c.plain.aZ y.2.1/\(∀x∈y.2.1,x<=y.1*a.length)/\settle (a.map c.ed) (tot+1) (List.replicate tot 0)=settle (a.map c.ed) (tot+1-y.1) y.2.1) (λy E=>(44,iN y.1)::E) (λy _=>[y.2.2.2]) (λy=>tot+1-y.1) (0,List.replicate tot 0,D,To++(D.flatMap (·.2)++[])) (G:=[]) ⟨ad2 _,by simp,⟨To,by simp,l,hI⟩,b9,λx g=>by rw[List.eq_of_mem_replicate g];exact ad2 _,rfl⟩ kE.c.c.c.c (bo.one [0,0] _) ?_
 rintro⟨m,A,O,T⟩ ⟨hm,W,a5,b3,a7,M⟩
 simp only at hm W a5 b3 a7 M⊢
 refine .sr<|.q .lss<|.zs<|.cond rfl (λF=>?_) λF=>?_
 have d4:m<tot+1:=by have:=bV F;omega
 have e8:m*a.length<=256*131072:=Nat.mul_le_mul (by omega) c0
 refine .kn<|.seq<|.block<|.sr<|.ag rfl<|.zs<|.sr<|.mo rfl<|.q (.cq b7)<|.mo rfl<|.zn<|.block<|.cX [(1,_),(6,_),(43,_),(44,_),(46,_),(47,_)] (X:=Nat×List Nat×List gD×ap) (λy=>y.1<=a.length/\y.2.1=((a.take y.1).map c.ed).foldl fB A/\y.2.1.length=tot/\mX (.slice (some ⟨Q,0,none⟩) c.aZ.length c.aZ.length) y.2.2.1 y.2.2.2/\y.2.2.1.map (·.1.2)=rows c.plain.aZ y.2.1/\(∀x∈y.2.1,x<=m*a.length+y.1)/\∀i,A.getD i 0<=y.2.1.getD i 0) (λy E=>(48,iN y.1)::(9,.bool (decide (y.2.1≠A)))::E) (λy _=>[y.2.2.2]) (λy=>a.length-y.1) (0,A,O,T) (G:=[]) ⟨ad2 _,rfl,W,a5,b3,λx g=>a7 x g,λi=>Nat.le_refl _⟩ ((kE.c.c.c.c.c.c.dD rfl (by simp)).cons rfl) rH ?_
 rintro⟨j,X,B,TX⟩ ⟨hj,v,n,H,K,J,a2⟩
 simp only at hj v n H K J a2⊢
 refine .sr<|.q .lss<|.zs<|.cond rfl (λU=>?_) λU=>?_
 have b0:j<a.length:=cV U
 obtain⟨e,a1⟩:=cE b0
 have a9:=aX a1
 have d9:=d8 _ B TX H X n K e (N e a9) (λx g=>by have:=J x g;omega)
 have a8:=c8 e a9
 refine .kn<|.seq<|.block<|.sr ?_
 refine .bZ j b7 a1 (λf7=>?_)
 refine .q (.aU rfl) ?_
 refine .bT (λe3=>?_)
 refine .bP rfl rfl<|.z<|.mo rfl<|.q (.aU rfl)<|.bQ (d9 R) (λu C hu=>?_)
 obtain⟨ch,L1,rfl,c7,c5,d7⟩:=hu
 refine .zn ?_
 refine bq.dI [(1,_),(6,_),(43,_),(44,_),(46,_),(47,_),(48,_)] kE.c.c.c.c.c.c.c (X:=Unit) (λ_=>True) (λ_ E=>(9,.bool (decide (X≠A)||ch))::E) (λ_=>[C]) ?_ ?_
 refine .cond rfl (λr=>?_) λr=>?_
 refine .region<|.ag rfl<|.nil ?_
 ·exact aL () ad0 (kE.c.c.c.c.c.c.c.dD rfl (by simp[r])) (aT [1])
 refine .skip ?_
 ·exact aL () ad0 (kE.c.c.c.c.c.c.c.dD rfl (by simp[r])) (aT [1])
 intro x g
 refine bg<|aB<|.region<|.ia (j+1) .add<|.mo rfl<|.nil ?_
 ·exact bu (j+1,fB X (c.ed e),L1,C) ⟨b0,by simp only;rw[fD a1,ad4,List.foldl_append, <-v];rfl,by simp only;rw[oC,n],c5,d7,λy hy=>by have:=Me J y hy;simp only;omega,λi=>aek (a2 i) (rP X _ (by rw[n];exact a8) i)⟩ (by simp only;omega) ((kE.c.c.c.c.c.c.dD rfl (by
   simp only
   rw[c7, <-Bool.decide_or]
   exact decide_eq_decide.2 (Mi a2 (by rw[n,W]) (by rw[n];exact a8)).symm)).cons rfl) rH
 have d1:j=a.length:=by have:=bK U;omega
 have a0:X=pass (a.map c.ed) A:=by rw[v,d1,aeg];rfl
 refine .exit<|br<|bz<|bw<|aB<|.sr<|.mo rfl<|.q .not<|.zn<|.cond rfl (λV=>?_) λV=>?_
 have I:X=A:=Decidable.not_not.1 (show ¬¬X=A by simpa using V)
 refine .sr<|.mo rfl<|.ag rfl<|.az rfl<|.ret (bF (ba (dm (bF (ba (bm _ (.two (.tmp rfl) (.tmp rfl)) (.one [0] _) ?_))))))
 ·refine⟨_,rfl,?_⟩
  rw[M,show tot+1-m=tot+1-(m+1)+1 by omega,settle,adZ (by rw[<-a0];exact I)]
  obtain⟨e2,a6,c2,c1⟩:=H
  refine⟨_,B.map (·.1),rfl,⟨c2.rs λp hp=>?_,λq hq=>?_⟩,?_⟩
  ·show p∈_
   simp[take,a6,hp]
  ·obtain⟨q2,b2,rfl⟩:=aeH.1 hq
   refine(c1 q2 b2).rs λp hp=>?_
   show p∈_
   have:p∈B.flatMap (·.2):=aeS.2 ⟨q2,b2,hp⟩
   simp only[take,a6,aey,aeo,aep,aeb]
   exact List.mem_append_right _ this
  ·rw[aef, <-I]
   exact K
 have I:X≠A:=by simpa using V
 refine .skip<|bg<|aB<|.region<|.ia (m+1) .add<|.mo rfl<|.nil ?_
 ·exact bu (m+1,X,B,TX) ⟨d4,n,H,K,λx g=>by have h6:=J x g;simp only;rw[Nat.add_mul];omega,by
   simp only
   rw[M,show tot+1-m=tot+1-(m+1)+1 by omega,settle,adY (by rw[<-a0];exact I), <-a0]⟩ (by simp only;omega) kE.c.c.c.c rH
 refine .exit<|br<|bz<|bw<|aB<|.sr<|.ag rfl<|.az rfl<|.ret (bm _ (.two (.tmp rfl) (.tmp rfl)) (.one [0] _) ?_)
 ·refine⟨_,rfl,?_⟩
  have d3:m=tot+1:=by have:=bK F;omega
  rw[M,d3,aew,settle]
theorem MZ{c:bN}{k:Nat}{E:List Ed}(h:c.plain.all.length=k):settle E (k+1) (List.replicate k 0)=settle E (c.plain.all.length+1) (List.replicate c.plain.all.length 0):=by rw[h]
def SA(c:bN)(ok:Bool)(w:Value)(T:ap)(o:Option (List Nat)):Prop:=match o with
 |none=>ok=false
 |some A=>ok=true/\∃ll,NN (sg T) w ll/\ll.map (·.2)=rows c.plain.aZ A
theorem KW(c:bN)(R:aw)(h:c.is R):Spec prog 67 [.agg c.enc.toArray] R [] λu H'=>∃T,H'=[T]/\∃w ll,u=.tuple [w,.int .i64 (c.plain.numbers isWord cR).1].toArray/\NN (sg T) w ll/\ll.map (·.2)=(c.plain.numbers isWord cR).2:=by
 rw[<-KV]
 have hR:=L9 c R h
 have X:=KL c R h
 have a2:=wY (c:=c)
 have a:c.plain.rz isWord cR=if c.plain.right isWord cR=false then((4:Int),([]:List (List Nat)))else if ¬c.plain.dL then(10,[])else match c.plain.kP with|none=>(14,[])|some E=>match settle E (c.plain.all.length+1) (List.replicate c.plain.all.length 0)with|none=>(15,[])|some n=>(0,rows c.plain.aZ n):=rfl
 have a1:=λ(R:aw) xb vm (H:IX R xb vm c) Q F=>MJ (R:=R) (xb:=xb) (vm:=vm) H Q F
 have a5:=λ(R:aw) xb vm (H:IX R xb vm c) F ve f a8 hl hv=>M5 (R:=R) (xb:=xb) (vm:=vm) H F ve f a8 hl hv
 have a6:=qf c.plain
 generalize a9:c.plain.rz isWord cR=nn at *
 refine Spec.body func67 rfl results67 ntmps67 rfl<|.sr ?_
 refine .cm rfl (λb1=>?_)
 refine .ag rfl<|.ag rfl<|.zs<|.sr<|.q (.aU rfl)<|.bj (hR.weaken dJ) (λu v=>?_)
 subst v
 refine .q .not<|.zn<|.cond rfl (λk=>?_) λk=>?_
 refine .sr<|.ag rfl<|.az rfl<|.ret (ba (bm _ (.two (.tmp rfl) (.tmp rfl)) bo.jd ?_))
 ·refine⟨[],rfl,sZ,[],?_,.nil,?_⟩
  ·rw[a,adZ (by simpa using k)]
  ·rw[a,adZ (by simpa using k)];rfl
 have N:c.plain.right isWord cR=true:=by simpa using k
 obtain⟨L,Z⟩:=a2 N
 rw[adY (by rw[N];simp)]at a
 refine .kn<|.sr<|.q (.aU rfl)<|.dN (X.weaken dJ) (λu J v=>?_)
 obtain⟨o,m,rfl,y,v⟩:∃(o:Option Addr) (m:Bool),u=.tuple [.pointer o,.bool m].toArray/\m=decide c.plain.dL/\(m=true->∃xb,o=some ⟨xb,0,none⟩/\oW xb c J):=by
  rcases v with⟨i,xb,rfl,V⟩|⟨i,rfl⟩
  ·exact⟨_,true,rfl,(decide_eq_true i).symm,λ_=>⟨xb,rfl,V⟩⟩
  ·exact⟨_,false,rfl,(aem i).symm,λG=>(by cases G)⟩
 refine .mo rfl<|.q .extract<|.q .extract<|.ag rfl<|.ag rfl<|.zs<|.sr<|.mo rfl<|.q .not<|.zn<|.cond rfl (λs=>?_) λs=>?_
 refine .sr<|.ag rfl<|.az rfl<|.ret (ba (bm _ (.two (.tmp rfl) (.tmp rfl)) bo.jd ?_))
 ·have d:m=false:=by simpa using s
  rw[d]at y
  have i:¬c.plain.dL:=bK y.symm
  refine⟨[],rfl,sZ,[],?_,.nil,?_⟩
  ·rw[a,adZ i]
  ·rw[a,adZ i];rfl
 have M:m=true:=by simpa using s
 obtain⟨xb,rfl,W⟩:=v M
 rw[M]at y
 have i:c.plain.dL:=bV y.symm
 rw[adY (λG=>G i)]at a
 obtain⟨vm,K⟩:=W.view h
 refine .kn<|.sr<|.mo rfl<|.dN ((a1 _ xb vm K (wV Z) L).weaken λb o hb=>hb.elim .inl λhb=>.inr (by simp[hb])) (λu O a7=>?_)
 obtain⟨w6,f,I,rfl,a0,a3,j⟩:=a7
 refine .mo rfl<|.q .extract<|.q .extract<|.ag rfl<|.ag rfl<|.zs<|.sr<|.mo rfl<|.q .not<|.zn<|.cond rfl (λt=>?_) λt=>?_
 have d:I=false:=by simpa using t
 have D:c.plain.kP=none:=by
  cases he:c.plain.kP with
  |none=>rfl
  |some E=>rw[he]at j;rw[j.1]at d;cases d
 rw[D]at a
 simp only at a
 refine .sr<|.ag rfl<|.az rfl<|.ret (ba (bm _ (.two (.tmp rfl) (.tmp rfl)) bo.jd ?_))
 ·refine⟨[],rfl,sZ,[],?_,.nil,?_⟩
  ·rw[a]
  ·rw[a];rfl
 have d:I=true:=by simpa using t
 obtain⟨E,D,S,U⟩:∃E,c.plain.kP=some E/\f.map c.ed=E/\∀e∈f,c.valid e.1/\c.valid e.2.1:=by
  cases he:c.plain.kP with
  |none=>rw[he]at j;rw[show I=false from j]at d;cases d
  |some E=>rw[he]at j;exact⟨E,rfl,j.2.1,j.2.2⟩
 subst S
 rw[D]at a
 simp only at a
 rw[<-MZ a6.symm]at a
 refine .kn<|.sr<|.mo rfl<|.mo rfl<|.dN ((a5 _ xb vm (K.mono (R':=λb o=>R b o\/(b,o)∈J\/(b,o)∈O) λb o hb=>hb.elim .inl λhb=>.inr (.inl hb)) L w6 f (a0.rs λp hp=>.inr (.inr hp)) a3 U).weaken λb o hb=>hb.elim .inl λhb=>.inr (by rcases hb with hb|hb<;>simp[hb])) (λu B z=>?_)
 obtain⟨x,r,rfl,l⟩:∃(x:Value) (r:Bool),u=.tuple [x,.bool r].toArray/\SA c r x B (settle (f.map c.ed) (total c.plain.aZ+1) (List.replicate (total c.plain.aZ) 0)):=by
  cases g:settle (f.map c.ed) (total c.plain.aZ+1) (List.replicate (total c.plain.aZ) 0)with
  |none=>rw[g]at z;exact⟨_,_,z,rfl⟩
  |some A=>rw[g]at z;obtain⟨w,ll,k,s,t⟩:=z;exact⟨w,true,k,rfl,ll,s,t⟩
 refine .mo rfl<|.q .extract<|.q .extract<|.ag rfl<|.ag rfl<|.zs<|.sr<|.mo rfl<|.q .not<|.zn<|.cond rfl (λC=>?_) λC=>?_
 have d:r=false:=by simpa using C
 have g:settle (f.map c.ed) (total c.plain.aZ+1) (List.replicate (total c.plain.aZ) 0)=none:=by
  cases g:settle (f.map c.ed) (total c.plain.aZ+1) (List.replicate (total c.plain.aZ) 0)with
  |none=>rfl
  |some A=>rw[g]at l;rw[l.1]at d;cases d
 rw[g]at a
 simp only at a
 refine .sr<|.ag rfl<|.az rfl<|.ret (ba (bm _ (.two (.tmp rfl) (.tmp rfl)) bo.jd ?_))
 ·refine⟨[],rfl,sZ,[],?_,.nil,?_⟩
  ·rw[a]
  ·rw[a];rfl
 have d:r=true:=by simpa using C
 obtain⟨A,g,ll,Y,a4⟩:∃A,settle (f.map c.ed) (total c.plain.aZ+1) (List.replicate (total c.plain.aZ) 0)=some A/\∃ll,NN (sg B) x ll/\ll.map (·.2)=rows c.plain.aZ A:=by
  cases g:settle (f.map c.ed) (total c.plain.aZ+1) (List.replicate (total c.plain.aZ) 0)with
  |none=>rw[g]at l;rw[show r=false from l]at d;cases d
  |some A=>rw[g]at l;exact⟨A,rfl,l.2⟩
 rw[g]at a
 simp only at a
 refine .kn<|.sr<|.mo rfl<|.ag rfl<|.az rfl<|.ret (bm _ (.two (.tmp rfl) (.tmp rfl)) (.one [0] _) ?_)
 ·refine⟨B,by simp[take],x,ll,?_,Y,?_⟩
  ·rw[a]
  ·rw[a];exact a4
namespace LIN
theorem mZ(v:Value)(xs:List Nat)(R:aw)(h:RS R 1 dr v xs)(i:xs.length<=1000000):
  Spec prog 143 [v] R [] λv' H'=>∃T,H'=[T]/\OS 3 1 dr v' xs T:=by
 obtain⟨b,d,rfl⟩:=h.val
 have f:∀H,RS (Rx R H) 1 dr (.slice b xs.length d) xs:=λH=>h.rx
 refine Spec.jg (H':=[[]]) (by simp)<|Spec.body func143 rfl results143 ntmps143 rfl<|.sr<|.ag rfl<|.zs<|.sr<|.mo rfl<|.q (.qM rfl rfl)<|.zn<|.cond rfl (λa=>?_) λa=>?_
 refine .sr<|.az rfl<|.ret (ba (bm _ (.one (.tmp rfl)) (.one [0] _) ?_))
 ·obtain rfl:b=none:=by simpa using a
  have:=h.ru
  subst this
  exact⟨[],rfl,OS.nil⟩
 refine .kn<|.sr ?_
 refine .qy (λg=>?_)
 refine .mo rfl ?_
 refine .append (OS.empty (enc:=dr) (sz:=1)) (f _) (by simp;omega) (λv' c e=>?_)
 refine .az rfl<|.ret (bm _ (.one (.tmp rfl)) (.one [0] _) ?_)
 ·exact⟨c,by simp[take],by simpa using e⟩
end LIN
def bN.s4(c:bN):Prop:=c.kk/\c.o9/\c.scopes.length<=16
theorem wW{c:bN}(h:c.plain.right isWord cR=true):c.s4:=by
 obtain⟨b,d⟩:=wY h
 refine⟨b,wV d,?_⟩
 have a:c.plain.gH isWord=false:=by
  unfold Cf.right at h
  simp only[aeO,Bool.not_eq_true']at h
  exact h.2
 rw[rk]at a
 simp only[aeE,aeF,aee]at a
 exact a.1.2
theorem vU(c:bN)(R:aw)(h:c.is R)(hf:c.s4):Spec prog 68 [.agg c.enc.toArray] R [] λu H'=>∃T,H'=[T]/\∃c':bN,u=.agg c'.enc.toArray/\c'.is (sg T)/\c'.plain=c.plain:=by
 obtain⟨⟨b4,a4⟩,h8,b0⟩:=hf
 obtain⟨vs,vc,O,a7⟩:=c
 have F:=h.ss
 have a0:=h.sc
 have i1:=F.aC
 have i2:=a0.aC
 simp only at F a0 i1 i2 b4 a4 b0
 have c4:=F.le
 refine Spec.body func68 rfl results68 ntmps68 rfl<|.sr ?_
 refine .cm rfl (λb1=>?_)
 refine .bT (λb2=>?_)
 refine .z ?_
 refine .bT (λb3=>?_)
 refine .zs<|.sr<|.fa rfl<|.lo rfl<|.q (.cq F)<|.mo rfl<|.zn<|.block<|.cX [(1,_),(2,_),(3,_),(10,_),(11,_)] (X:=Nat×Value×List ca×ap×ap) (λy=>y.1<=O.length/\OS 164 2 ca.enc y.2.1 y.2.2.1 y.2.2.2.1/\(∀s∈y.2.2.1,s.is (sg y.2.2.2.2))/\y.2.2.1.map (·.plain)=(O.take y.1).map (·.plain)) (λy E=>(12,iN y.1)::E) (λy G=>y.2.2.2.1::y.2.2.2.2::bl b3 [y.2.1,sZ] 25::G) (λy=>O.length-y.1) (0,sZ,[],[],[]) ⟨by simp,OS.nil,λs e=>(by cases e),by simp⟩ kE.c.c.c.c.c.c bo.iy ?_
 rintro⟨i,w,L,To,Ti⟩ ⟨hi,J,Y,C⟩
 simp only at hi J Y C⊢
 have io:=J.aC
 have c3:L.length=i:=by have:=ad1 List.length C;rw[ad3,ad3,ad8]at this;omega
 refine .sr<|.q .lss<|.zs<|.cond rfl (λV=>?_) λV=>?_
 have a2:i<O.length:=cV V
 obtain⟨⟨x,sv,j⟩,e⟩:=cE a2
 have N:=h.all _ (aX e)
 have M:RS R 3 cb.enc sv j:=N.rs
 have c8:=M.aC
 have c5:=M.le
 have d0:cv (ca.enc ⟨x,sv,j⟩):=⟨N.dv⟩
 have a9:=a4 _ (aX e)
 simp only at a9
 refine .kn<|.seq<|.block<|.sr ?_
 refine .bZ i F e (λd4=>?_)
 refine .q (.aU rfl) ?_
 refine .bT (λb5=>?_)
 refine .bP rfl rfl<|.z<|.fa rfl<|.lo rfl ?_
 refine .q .cD ?_
 refine .bT (λb6=>?_)
 refine .bP rfl rfl<|.zs<|.sr<|.fa rfl<|.lo rfl<|.q (.cq M)<|.mo rfl<|.zn<|.block<|.cX [(1,_),(2,_),(3,_),(6,_),(10,_),(11,_),(12,_),(20,_),(21,_)] (X:=Nat×Value×List cb×ap×ap) (λy=>y.1<=j.length/\OS 167 3 cb.enc y.2.1 y.2.2.1 y.2.2.2.1/\(∀r∈y.2.2.1,r.is (sg y.2.2.2.2))/\y.2.2.1.map (·.r)=(j.take y.1).map (·.r)) (λy E=>(22,iN y.1)::E) (λy G=>y.2.2.2.1::y.2.2.2.2::bl b6 [.string x,y.2.1] 164::G) (λy=>j.length-y.1) (0,sZ,[],[],[]) ⟨by simp,OS.nil,λs e=>(by cases e),by simp⟩ kE.c.c.c.c.c.c.c.c.c.c bo.iy ?_
 rintro⟨k,w2,A,T2,S⟩ ⟨hk,K,Z,D⟩
 simp only at hk K Z D⊢
 have b9:=K.aC
 have c2:A.length=k:=by have:=ad1 List.length D;rw[ad3,ad3,ad8]at this;omega
 refine .sr<|.q .lss<|.zs<|.cond rfl (λW=>?_) λW=>?_
 have a1:k<j.length:=cV W
 obtain⟨⟨vt,vn,r⟩,l⟩:=cE a1
 have m:=N.all _ (aX l)
 have a5:RS R 2 Ty.enc vt r.types:=m.t
 have a3:RS R 5 Nd.enc vn r.nodes:=m.d
 have c9:=a5.aC
 have c7:=a3.aC
 have c6:cv (cb.enc ⟨vt,vn,r⟩):=⟨m.dv⟩
 obtain⟨b7,a8,_⟩:=h8 _ (aX e) _ (aX l)
 simp only at b7 a8
 refine .kn<|.seq<|.block<|.sr ?_
 refine .bZ k M l (λd5=>?_)
 refine .q (.aU rfl) ?_
 refine .bT (λb8=>?_)
 refine .bP rfl rfl<|.zn ?_
 refine bq.dI [(1,_),(2,_),(3,_),(6,_),(10,_),(11,_),(12,_),(20,_),(21,_),(22,_)] kE.c.c.c.c.c.c.c.c.c.c (X:=(Value×ap)×(Value×ap)×(Value×ap)) (λy=>OS 167 3 cb.enc y.1.1 (A++[(⟨y.2.1.1,y.2.2.1,r⟩:cb)]) y.1.2/\OS 249 2 Ty.enc y.2.1.1 r.types y.2.1.2/\OS 199 5 Nd.enc y.2.2.1 r.nodes y.2.2.2) (λ_ E=>E) (λy=>[y.1.2,y.2.1.2,y.2.2.2,S,bl b6 [.string x,y.1.1] 164,bl b5 (ca.enc ⟨x,sv,j⟩) 164,To,Ti,bl b3 [w,sZ] 25,bl b2 [sZ,sZ] 25,bl b1 [vs,vc] 25]) ?_ ?_
 refine .cG [12,14] mixed<|.tO 0 rfl (.fieldAddr rfl)<|.tO 1 rfl (.bU rfl)<|.tO 2 rfl (.fieldAddr rfl)<|.tO 3 rfl (.bU rfl)<|.tO 4 rfl (.fieldAddr rfl)<|.tO 5 rfl (.bU rfl)<|.tO 7 rfl (.fieldAddr rfl)<|.tO 8 rfl (.bU rfl)<|.sT 6 rfl<|.dN (LTY.mZ vt r.types _ a5.rx (by omega)) (λut U v=>?_)
 obtain⟨pt,ct,rfl,_⟩:=v.shape
 have d3:=v.aC
 refine .nil<|Next.sub<|.sT 9 rfl<|.dN (LND.mZ vn r.nodes _ a3.rx (by omega)) (λun Q p=>?_)
 obtain⟨pn,cn,rfl,_⟩:=p.shape
 have d2:=p.aC
 refine .nil<|Next.sub<|.tO 10 rfl .cD<|.sT 11 rfl ?_
 refine .dV (λc0=>?_)
 refine .nil<|Next.sub<|.sT 12 rfl<|.append K (RS.lits (xs:=[(⟨.slice pt r.types.length ct,.slice pn r.nodes.length cn,r⟩:cb)]) rfl (by simp[cb.enc]) (by intro y g u H;rw[ad9]at g;subst g;simp only[cb.enc,aej,aeN,or_false]at H;rcases H with rfl|rfl|rfl<;>rfl)) (by simp only[ad6];omega) (λI B f=>?_)
 have i5:=f.aC
 refine .nil<|Next.mod rfl<|.tK 13 rfl (.eH rfl)<|.sT 14 rfl<|.du rfl rfl<|.nil<|Next.mod rfl<|RA.nil (by kernel_rfl) ?_
 ·exact aL ((I,B),(_,U),(_,Q)) ⟨f,v,p⟩ ((((((((((kE.d rfl).d rfl).d rfl).d rfl).d rfl).d rfl).d rfl).d rfl).d rfl).d rfl) (aT [4,2,1,2,2,2,2,2,2,2,2])
 intro y g
 obtain⟨⟨I,B⟩,⟨ut,U⟩,⟨un,Q⟩⟩:=y
 obtain⟨f,v,p⟩:=g
 simp only at f v p⊢
 have i5:=f.aC
 refine bg<|aB<|.region<|.ia (k+1) .add<|.mo rfl<|.nil ?_
 ·exact bu (k+1,I,A++[⟨ut,un,r⟩],B,U++(Q++S)) ⟨a1,f,λq hq=>by
   rcases aec.1 hq with hq|hq
   ·exact(Z q hq).mono λb o a=>gB (gB a)
   ·rw[ad9]at hq
    subst hq
    exact⟨m.n,v.sg.mono λb o a=>iD a,p.sg.mono λb o a=>gB (iD a),m.ft,m.fd⟩,by simp only;rw[fD l,ad4,ad4,D];rfl⟩ (by simp only;omega) kE.c.c.c.c.c.c.c.c.c.c (bo.eV (by simp[cT,bN.enc,ca.enc]))
 rw[hJ (lF W)]at D
 refine .exit<|br<|bz<|bw<|aB<|.region<|.fa rfl<|.lo rfl<|.q (.aU rfl) ?_
 refine .dV (λc1=>?_)
 refine .append J (RS.lits (xs:=[(⟨x,w2,A⟩:ca)]) rfl (by simp[ca.enc]) (by intro y g u H;rw[ad9]at g;subst g;simp only[ca.enc,aej,aeN,or_false]at H;rcases H with rfl|rfl;rfl;exact b9.h)) (by simp only[ad6];omega) (λI B f=>?_)
 have i5:=f.aC
 refine .fa rfl<|.du rfl rfl<|.nil<|bg<|aB<|.region<|.ia (i+1) .add<|.mo rfl<|.nil ?_
 ·exact bu (i+1,I,L++[⟨x,w2,A⟩],B,T2++(S++Ti)) ⟨a2,f,λq hq=>by
   rcases aec.1 hq with hq|hq
   ·exact(Y q hq).mono λb o a=>gB (gB a)
   ·rw[ad9]at hq
    subst hq
    exact⟨N.n,K.sg.mono λb o a=>iD a,λr l=>(Z r l).mono λb o a=>gB (iD a)⟩,by
   simp only
   rw[fD e,ad4,ad4,C]
   simp only[aeB,List.map_nil]
   congr 1
   unfold ca.plain
   simp only
   rw[D]⟩ (by simp only;omega) kE.c.c.c.c.c.c ((aT [5,1,1,3,3,3,3]).trans (bo.eV (by simp[take,bJ,cT,bN.enc])))
 rw[hJ (lF V)]at C
 refine .exit<|br<|bz<|bw<|aB<|.sr<|.fa rfl<|.lo rfl<|.dN (LSC.mZ vc a7 _ a0.rx (by omega)) (λuc Tc a6=>?_)
 have d1:=a6.aC
 refine .fa rfl<|.du rfl rfl<|.z<|.q (.aU rfl)<|.bP rfl rfl<|.zn ?_
 refine .ret (bm _ (.one (.fH rfl rfl)) (.one [1,1,0] _) ?_)
 ·refine⟨_,rfl,⟨w,uc,L,a7⟩,rfl,⟨J.sg.mono λb o a=>?_,a6.sg.mono λb o a=>?_,λs e=>(Y s e).mono λb o a=>?_,h.fc⟩,?_⟩
  ·simp only[take,bJ,aey,aeM,aeo,aep,aeb];exact iD a
  ·simp only[take,bJ,aey,aeM,aeo,aep,aeb];exact gB (gB a)
  ·simp only[take,bJ,aey,aeM,aeo,aep,aeb];exact gB (iD a)
  ·unfold bN.plain;simp only;rw[C]
def cb.zero:cb:=⟨sZ,sZ,⟨⟨#[]⟩,[],[]⟩⟩
def l9(c:bN)(t:Ty)(r:cb)(ok:Bool):Prop:=match bY c.plain.all t with
 |none=>ok=false/\r=cb.zero
 |some j=>ok=true/\∃p s,c.aZ[p.1]? =some s/\s.bR[p.2]? =some r/\c.ix p=j
theorem JK{l:List (ByteArray×Rl)}{t:Ty}(h:∀j x,j<l.length->l[j]? =some x->gJ x≠t):bY l t=none:=by
 unfold bY
 rw[List.findIdx?_eq_none_iff]
 intro x b
 obtain⟨j,a,e⟩:=aen.1 b
 have:=h j x a (by rw[aQ a,e])
 simpa using this
theorem JL{l:List (ByteArray×Rl)}{t:Ty}{i:Nat}{x:ByteArray×Rl}(d:l[i]? =some x)(b:gJ x=t)(h:∀j y,j<i->l[j]? =some y->gJ y≠t):bY l t=some i:=by
 obtain⟨c,e⟩:=aea.1 d
 unfold bY
 rw[List.findIdx?_eq_some_iff_getElem]
 refine⟨c,by rw[e];exact decide_eq_true b,λj a=>?_⟩
 have:=h j _ a (aQ (by omega))
 simpa using this
theorem zM(c:bN)(R:aw)(h:c.is R)(e b:ByteArray):Spec prog 144 [.agg c.enc.toArray,.string e,.string b] R [] λu H'=>H'=[]/\∃r ok,u=.tuple [.agg r.enc.toArray,.bool ok].toArray/\l9 c ⟨e,b⟩ r ok:=by
 have J:=h.ss
 have b2:=J.le
 have a1:=h.all
 have a8:=qf c.plain
 have a7:c.plain.aZ.length=c.aZ.length:=by unfold bN.plain;simp
 have a5:∀(i:Nat) (s:ca),c.aZ[i]? =some s->c.plain.aZ[i]? =some s.plain:=λi s f=>oz f
 have a9:=λ(p:fG) (s:ca) (r:cb)=>ot (c:=c) (p:=p) (s:=s) (r:=r)
 have O:∀i k,c.ix (i,k)=cz c.plain.aZ i+k:=λ_ _=>rfl
 have N:∀r ok,l9 c ⟨e,b⟩ r ok=(match bY c.plain.all ⟨e,b⟩with
  |none=>ok=false/\r=cb.zero
  |some j=>ok=true/\∃p s,c.aZ[p.1]? =some s/\s.bR[p.2]? =some r/\c.ix p=j):=λ_ _=>rfl
 generalize hA:c.plain.all=A at *
 generalize C:cz c.plain.aZ=of at *
 have a2:of 0=0:=by rw[<-C];cases c.plain.aZ<;>rfl
 refine Spec.body func144 rfl results144 ntmps144 rfl<|.sr ?_
 refine .cm rfl (λV=>?_)
 refine .bT (λW=>?_)
 refine .ag rfl<|.zs<|.sr<|.fa rfl<|.lo rfl<|.q (.cq J)<|.mo rfl<|.zn<|.block<|.cX [(1,_),(2,_),(6,_),(13,_),(14,_)] (X:=Nat) (λi=>i<=c.aZ.length/\∀j x,j<of i->A[j]? =some x->gJ x≠⟨e,b⟩) (λi E=>(15,iN i)::E) (λ_ G=>G) (λi=>c.aZ.length-i) 0 ⟨ad2 _,λj x n=>by rw[a2]at n;omega⟩ kE.c.c.c.c.c.c rH ?_
 rintro i ⟨hi,T⟩
 refine .sr<|.q .lss<|.zs<|.cond rfl (λw=>?_) λw=>?_
 have S:i<c.aZ.length:=cV w
 obtain⟨⟨l,v,d⟩,f⟩:=cE S
 have I:=a1 _ (aX f)
 have H:RS R 3 cb.enc v d:=I.rs
 have b4:=H.le
 have b7:cv (ca.enc ⟨l,v,d⟩):=⟨I.dv⟩
 have a4:=a5 i _ f
 have a3:=pF a4
 rw[C,show(ca.plain ⟨l,v,d⟩).bR.length=d.length by simp[ca.plain]]at a3
 refine .kn<|.seq<|.block<|.sr ?_
 refine .bZ i J f (λb8=>?_)
 refine .q (.aU rfl) ?_
 refine .bT (λY=>?_)
 refine .bP rfl rfl<|.z<|.fa rfl<|.lo rfl<|.q (.cq H)<|.mo rfl<|.zn<|.block<|.cX [(1,_),(2,_),(6,_),(9,_),(13,_),(14,_),(15,_),(20,_),(21,_)] (X:=Nat) (λk=>k<=d.length/\∀j x,j<of i+k->A[j]? =some x->gJ x≠⟨e,b⟩) (λk E=>(22,iN k)::E) (λ_ G=>G) (λk=>d.length-k) 0 ⟨ad2 _,λj x n=>T j x (by omega)⟩ kE.c.c.c.c.c.c.c.c.c.c rH ?_
 rintro k ⟨hk,F⟩
 refine .sr<|.q .lss<|.zs<|.cond rfl (λm=>?_) λm=>?_
 have Q:k<d.length:=cV m
 obtain⟨⟨L,K,r⟩,o⟩:=cE Q
 have a6:=I.all _ (aX o)
 have b5:cv (cb.enc ⟨L,K,r⟩):=⟨a6.dv⟩
 have D:=a9 (i,k) _ _ f o
 rw[O]at D
 refine .kn<|.seq<|.block<|.sr ?_
 refine .bZ k H o (λc0=>?_)
 refine .q (.aU rfl) ?_
 refine .bT (λU=>?_)
 refine .bP rfl rfl<|.zs ?_
 refine bq.dI [(1,_),(2,_),(6,_),(9,_),(11,_),(13,_),(14,_),(15,_),(20,_),(21,_),(22,_)] kE.c.c.c.c.c.c.c.c.c.c.c (X:=Unit) (λ_=>True) (λ_ E=>(35,.bool (decide (l=e)&&decide (r.name=b)))::E) (λ_=>[bl U (cb.enc ⟨L,K,r⟩) 167,bl Y (ca.enc ⟨l,v,d⟩) 164,bl W [.string ⟨#[]⟩,sZ,sZ] 167,bl V c.enc 25]) ?_ ?_
 refine .region<|.fa rfl<|.lo rfl<|.mo rfl<|.q .gW<|.mo rfl<|.split (t:=30) rfl (λa=>?_) (λa=>?_)
 refine .gT a<|.fa rfl<|.gT a<|.lo rfl<|.gT a<|.mo rfl<|.gT a<|.q .gW<|.q (.bx a)<|.nil ?_
 ·exact aL () ad0 (kE.c.c.c.c.c.c.c.c.c.c.c.dD rfl (by simp[m,a])) rH
 refine .gF a<|.gF a<|.gF a<|.gF a<|.q (.bs a)<|.nil ?_
 ·exact aL () ad0 (kE.c.c.c.c.c.c.c.c.c.c.c.dD rfl (by simp[m,a])) rH
 intro y hy
 refine aB<|.cond rfl (λB=>?_) λB=>?_
 refine .sr<|.q (.aU rfl)<|.bP rfl rfl<|.az rfl ?_
 refine .ret (bF (ba (dm (bF (bF (ba (dm (bF (ba (bm _ (.two (.fH rfl rfl) (.tmp rfl)) (.none _) ?_))))))))))
 ·refine⟨rfl,⟨L,K,r⟩,true,rfl,?_⟩
  have M:l=e/\r.name=b:=by simpa using B
  rw[N,JL D (show(⟨l,r.name⟩:Ty)=_ by rw[M.1,M.2]) F]
  exact⟨rfl,(i,k),_,f,o,O i k⟩
 refine .skip<|bg<|aB<|.region<|.ia (k+1) .add<|.mo rfl<|.nil ?_
 ·exact bu (k+1) ⟨Q,λj x n g=>by
   rcases Nat.lt_or_ge j (of i+k)with hh|hh
   ·exact F j x hh g
   ·obtain rfl:j=of i+k:=by omega
    rw[D]at g
    cases g
    intro he
    injection he with e1 e2
    have Z:l=e:=e1
    have a0:r.name=b:=e2
    simp[Z,a0]at B⟩ (by omega) kE.c.c.c.c.c.c.c.c.c.c (aT [1,1,1])
 have b1:k=d.length:=by have:=bK m;omega
 refine .exit<|br<|bz<|bw<|bg<|aB<|.region<|.ia (i+1) .add<|.mo rfl<|.nil ?_
 ·exact bu (i+1) ⟨S,λj x n g=>F j x (by omega) g⟩ (by omega) kE.c.c.c.c.c.c (aT [1,1])
 refine .exit<|br<|bz<|bw<|aB<|.sr<|.q .cD<|.bP rfl rfl<|.az rfl ?_
 refine .ret (bm _ (.two (.fH rfl rfl) (.tmp rfl)) (.none _) ?_)
 ·refine⟨rfl,cb.zero,false,rfl,?_⟩
  have b0:of i=A.length:=by
   have:i=c.aZ.length:=by have:=bK w;omega
   rw[this, <-a7, <-C, <-a8]
   rfl
  rw[N,JK λj x n g=>T j x (by omega) g]
  exact⟨rfl,rfl⟩
theorem M6(t:Ty)(s:Sub)(R:aw):Spec prog 243 [.agg t.enc.toArray,.agg s.enc.toArray] R [] λu H'=>u=.bool (kl s t)/\H'=[]:=by
 obtain⟨e,d⟩:=t
 obtain⟨k,j,h,i⟩:=s
 refine Spec.body func243 rfl results243 ntmps243 rfl<|.sr ?_
 refine .cm rfl (λf=>?_)
 refine .cm rfl (λg=>?_)
 refine .ag rfl<|.zs<|.sr<|.fa rfl<|.lo rfl<|.q .kY<|.zn<|.cond rfl (λc=>?_) λc=>?_
 refine .sr<|.q (.aU rfl)<|.q .cD<|.q (.cast (.o5 (xs:=Ty.enc ⟨e,d⟩) (ys:=Ty.enc ⟨⟨#[]⟩,⟨#[]⟩⟩) rfl rfl (Ty.kinds _) (Ty.kinds _)) (ad1 Value.bool (Ty.eq _ _)))<|.az rfl<|.ret (ba (aY rfl ?_))
 ·refine⟨ad1 _ ?_,rfl⟩
  simp only[kl]
  grind
 refine .kn<|.sr<|.fa rfl<|.lo rfl<|.q .kY<|.mo rfl<|.split (t:=14) rfl (λa=>?_) (λa=>?_)
 refine .gT a<|.fa rfl<|.gT a<|.lo rfl<|.gT a<|.fa rfl<|.gT a<|.fa rfl<|.gT a<|.lo rfl<|.gT a<|.q .gW<|.q (.bx a)<|.mo rfl<|.split (t:=22) rfl (λb=>?_) (λb=>?_)
 refine .gT b<|.fa rfl<|.gT b<|.lo rfl<|.gT b<|.fa rfl<|.gT b<|.lo rfl<|.gT b<|.q .gW<|.q (.bx b)<|.az rfl<|.ret (aY rfl ?_)
 ·refine⟨ad1 _ ?_,rfl⟩
  simp only[kl]
  grind
 refine .gF b<|.gF b<|.gF b<|.gF b<|.gF b<|.q (.bs b)<|.az rfl<|.ret (aY rfl ?_)
 ·refine⟨ad1 _ ?_,rfl⟩
  simp only[kl]
  grind
 refine .gF a<|.gF a<|.gF a<|.gF a<|.gF a<|.gF a<|.q (.bs a)<|.mo rfl<|.gX<|.gX<|.gX<|.gX<|.gX<|.q .dG<|.az rfl<|.ret (aY rfl ?_)
 ·refine⟨ad1 _ ?_,rfl⟩
  simp only[kl]
  grind
theorem AR(t:Ty)(s:Sub)(b c d:Value)(q:Nat)(R:aw) [pc:PC R (pT q) (b::c::d::s.enc)]:Spec prog 242 [.agg t.enc.toArray,pT q] R [] λu H'=>u=.bool (kl s t)/\H'=[]:=by
 refine Spec.body func242 rfl results242 ntmps242 rfl<|.sr ?_
 refine .cm rfl (λe=>?_)
 refine .ag rfl<|.z<|.q (.aU rfl)<|.fa rfl<|.q (.loadT rfl)<|.bj (M6 t s _) (λu a=>?_)
 subst a
 refine .az rfl<|.ret (aY rfl ?_)
 ·exact⟨rfl,rfl⟩
theorem AS(c:bN)(R:aw)(h:c.is R)(t:ax):Spec prog 189 [.agg c.enc.toArray,.agg t.enc.toArray] R [] λu H'=>u=.int .i64 (if allowed c.plain t.cB t.sub then 0 else 14)/\H'=[]:=by
 have B:=zM c R h t.os t.rel
 have n:=h.all
 have A:allowed c.plain t.cB t.sub=match bY c.plain.all ⟨t.os,t.rel⟩with
  |none=>false
  |some i=>((c.plain.all.map (·.2.types)).getD i []).any (kl t.sub):=rfl
 refine Spec.body func189 rfl results189 ntmps189 rfl<|.sr ?_
 refine .cm rfl (λF=>?_)
 refine .cm rfl (λk=>?_)
 refine .ag rfl<|.z<|.q (.aU rfl)<|.fa rfl<|.fa rfl<|.lo rfl<|.fa rfl<|.lo rfl<|.bj ((B.mono λu H' d=>⟨d.2,d.1⟩).weaken dJ) (λu d=>?_)
 obtain⟨r,C,rfl,b⟩:=d
 obtain⟨g,v,l⟩:∃g,RS R 2 Ty.enc r.vt g/\allowed c.plain t.cB t.sub=(C&&g.any (kl t.sub)):=by
  rw[A]
  unfold l9 at b
  cases hf:bY c.plain.all ⟨t.os,t.rel⟩with
  |none=>rw[hf]at b;obtain⟨rfl,rfl⟩:=b;exact⟨[],RS.gI,rfl⟩
  |some j=>
   rw[hf]at b
   obtain⟨rfl,p,s,f,e,o⟩:=b
   refine⟨r.r.types,((n _ (aX f)).all _ (aX e)).t,?_⟩
   have:=ot f e
   rw[o]at this
   simp only[Bool.true_and]
   rw[ad7,ad5,this]
   rfl
 have H:cv r.enc:=by
  unfold l9 at b
  cases hf:bY c.plain.all ⟨t.os,t.rel⟩with
  |none=>rw[hf]at b;obtain⟨_,rfl⟩:=b;exact⟨by simp[cb.enc,cb.zero,aC]⟩
  |some j=>rw[hf]at b;obtain⟨_,p,s,f,e,o⟩:=b;exact⟨((n _ (aX f)).all _ (aX e)).dv⟩
 obtain⟨D,J,r⟩:=r
 simp only at v
 refine .mo rfl<|.q .extract<|.q .extract ?_
 refine .bT (λG=>?_)
 refine .bP rfl rfl<|.ag rfl<|.zs<|.sr<|.mo rfl<|.q .not<|.mo rfl<|.split (t:=19) rfl (λa=>?_) (λa=>?_)
 refine .gF a<|.gF a<|.gF a<|.gF a<|.gF a<|.q (.bx a)<|.zn<|.jo<|.sr<|.az rfl<|.ret (ba (aY rfl ?_))
 ·refine⟨?_,rfl⟩
  rw[l,adY (by simp_all)]
 refine .gT a<|.fa rfl<|.gT a<|.lo rfl<|.gT a<|.q .makeFunc<|.gT a ?_
 refine .bj (LTY.iY 242 [pT k] (kl t.sub) D g _ v.rx (λy _ m x=>by
  have I:PC m (pT k) (.string t.os:: .string t.oi:: .string t.rel::t.sub.enc):=PC.of (E:=119) (fr:=(0,0)) (x _ _ (.inr (by simp[ax.enc,Sub.enc,ax.sub])))
  exact AR y t.sub _ _ _ k m)) (λu d=>?_)
 subst d
 refine .gT a<|.q .not<|.q (.bs a)<|.zn<|.cond rfl (λw=>?_) λw=>?_
 refine .sr<|.az rfl<|.ret (ba (aY rfl ?_))
 ·refine⟨?_,rfl⟩
  rw[l,adY (by simp_all)]
 refine .kn<|.sr<|.az rfl<|.ret (aY rfl ?_)
 ·refine⟨?_,rfl⟩
  rw[l,adZ (by simp_all)]
structure dx where
 rev:Int
 c:bN
 vn:Value
 ll:List fF
def dx.enc(e:dx):List Value:=[.int .u64 e.rev,e.c.vs,e.c.vc,e.vn]
structure dx.is(R:aw)(e:dx):Prop where
 c:e.c.is R
 n:NN R e.vn e.ll
 ok:(e.c.plain.numbers isWord cR).1=0
 eq:e.ll.map (·.2)=(e.c.plain.numbers isWord cR).2
theorem dx.is.mono{R R':aw}{e:dx}(h:e.is R)(a:∀b o,R b o->R' b o):e.is R':=⟨h.c.mono a,h.n.mono a,h.ok,h.eq⟩
theorem dx.is.dv{R:aw}{e:dx}(h:e.is R):∀u∈e.enc,aC u=true:=by
 have b:=h.c.ss.aC
 have d:=h.c.sc.aC
 have f:=h.n.rs.aC
 intro u a
 simp only[dx.enc,aej,aeN,or_false]at a
 rcases a with rfl|rfl|rfl|rfl
 ·rfl
 ·exact b.h
 ·exact d.h
 ·exact f.h
theorem zg{c:Cf}(h:(c.numbers isWord cR).1=0):c.right isWord cR=true:=by
 cases hr:c.right isWord cR with
 |true=>rfl
 |false=>unfold Cf.numbers at h;rw[adZ hr]at h;cases h
def HI(hb:Nat)(es:List dx)(gone:Nat)(T:ap):Prop:=∃vl Te Tp,T=(hb,.cells [.bool true,vl,iN gone].toArray 155 (0,0))::(Te++Tp)/\OS 159 4 dx.enc vl es Te/\∀e∈es,e.is (sg Tp)
structure HV(R:aw)(hb:Nat)(vl:Value)(es:List dx)(gone:Nat):Prop where
 pc:PC R (pT hb) [.bool true,vl,iN gone]
 rs:RS R 4 dx.enc vl es
 all:∀e∈es,e.is R
theorem HI.view{a:Nat}{d:List dx}{f:Nat}{T:ap}{R:aw}(h:HI a d f T)(c:∀p∈T,R p.1 p.2):∃vl,HV R a vl d f:=by
 obtain⟨vl,m,g,rfl,j,i⟩:=h
 refine⟨vl,PC.of (E:=155) (fr:=(0,0)) (c (a,_) (by simp)),j.rs λp l=>c p (by simp[l]),λe k=>(i e k).mono λb o a=>c (b,o) ?_⟩
 have:(b,o)∈g:=a
 simp[this]
theorem xy(R:aw):Spec prog 48 [] R [] λu H'=>∃T,H'=[T]/\∃hb,u=pT hb/\HI hb [] 0 T:=by
 refine Spec.body func48 rfl results48 ntmps48 rfl<|.sr<|.ag rfl<|.z<|.q .cD ?_
 refine .cm rfl (λa=>?_)
 refine .az rfl<|.ret (bm _ (.one (.tmp rfl)) (.one [0] _) ?_)
 ·exact⟨_,rfl,a,rfl,sZ,[],[],rfl,OS.nil,λe b=>(by cases b)⟩
section
variable{R:aw}{hb:Nat}{vl:Value}{es:List dx}{gone:Nat}
theorem HV.made(h:HV R hb vl es gone):Spec prog 66 [pT hb] R [] λu H'=>u=.bool true/\H'=[]:=by
 have a:=h.pc
 refine Spec.body func66 rfl results66 ntmps66 rfl<|.sr<|.ag rfl<|.z<|.mo rfl<|.q (.yl rfl rfl)<|.mo rfl<|.gt rfl<|.mo rfl<|.gt rfl<|.nc rfl<|.gt rfl<|.fa rfl<|.gt rfl<|.lo rfl<|.q .dO<|.az rfl<|.ret (aY rfl ?_)
 ·exact⟨rfl,rfl⟩
def hl(es:List dx)(r:Int):Nat->Option Nat
 |0=>none
 |n+1=>match es[n]? with
  |some e=>if e.rev<=r then some n else hl es r n
  |none=>hl es r n
theorem pi{b:List dx}{r:Int}:∀{n i:Nat},hl b r n=some i->i<n/\∃e,b[i]? =some e
 |0,i,h=>by cases h
 |n+1,i,h=>by
  unfold hl at h
  split at h
  ·rename_i e d
   split at h
   ·cases h;exact⟨by omega,e,d⟩
   ·obtain⟨c,a⟩:=pi h;exact⟨by omega,a⟩
  ·obtain⟨c,a⟩:=pi h;exact⟨by omega,a⟩
theorem HV.last(h:HV R hb vl es gone)(r:Int):Spec prog 75 [pT hb,.int .u64 r] R [] λu H'=>u=.int .i64 (fI (hl es r es.length))/\H'=[]:=by
 have v:=h.pc
 have f:=h.rs
 have o:=f.le
 have k:=h.all
 refine Spec.body func75 rfl results75 ntmps75 rfl<|.sr<|.ag rfl<|.zs<|.sr<|.mo rfl<|.bj (h.made.weaken dJ) (λu l=>?_)
 subst l
 refine .q .not<|.zn<|.di<|.kn<|.sr<|.ag rfl<|.zs<|.sr<|.mo rfl<|.nc rfl<|.fa rfl<|.lo rfl<|.q (.cq f)<|.mo rfl<|.zn<|.block<|.cX [(1,_),(14,_),(15,_)] (X:=Nat) (λi=>i<=es.length) (λi E=>(16,iN i)::(5,.int .i64 (fI (hl es r i)))::E) (λ_ G=>G) (λi=>es.length-i) 0 (ad2 _) kE.c.c.c.c.c rH ?_
 rintro i n
 refine .sr<|.q .lss<|.zs<|.cond rfl (λb=>?_) λb=>?_
 have g:i<es.length:=cV b
 obtain⟨e,d⟩:=cE g
 have p:cv e.enc:=⟨(k e (aX d)).dv⟩
 have j:hl es r (i+1)=if e.rev<=r then some i else hl es r i:=by rw[hl,d]
 refine .kn<|.seq<|.block<|.sr<|.mo rfl ?_
 refine .bZ i f d (λt=>?_)
 refine .q (.aU rfl) ?_
 refine .bT (λm=>?_)
 refine .ag rfl<|.bP rfl rfl<|.z<|.fa rfl<|.fa rfl<|.lo rfl<|.mo rfl<|.q .leq<|.zn ?_
 refine bq.dI [(1,_),(14,_),(15,_),(16,_)] kE.c.c.c.c (X:=Unit) (λ_=>True) (λ_ E=>(5,.int .i64 (fI (hl es r (i+1))))::E) (λ_=>[]) ?_ ?_
 refine .cond rfl (λa=>?_) λa=>?_
 refine .region<|.mo rfl<|.ag rfl<|.nil ?_
 ·exact aL () ad0 (kE.c.c.c.c.qD rfl (by rw[j];first|rw[adZ (bV a)];rfl|rw[adY (bK a)])) (bo.none _)
 refine .skip ?_
 ·exact aL () ad0 (kE.c.c.c.c.qD rfl (by rw[j];first|rw[adZ (bV a)];rfl|rw[adY (bK a)])) (bo.none _)
 intro x s
 refine bg<|aB<|.region<|.ia (i+1) .add<|.mo rfl<|.nil ?_
 ·exact bu (i+1) g (by omega) kE.c.c.c.c.c rH
 refine .exit<|br<|bz<|bw<|aB<|.sr<|.mo rfl<|.az rfl<|.ret (aY rfl ?_)
 ·refine⟨?_,rfl⟩
  rw[show i=es.length by have:=bK b;omega]
def sB(es:List dx)(gone:Nat)(r:Int):Int:=match hl es r es.length with
 |none=>0
 |some i=>(gone+i+1:Nat)
def fY(es:List dx)(r:Int):Option dx:=(hl es r es.length).bind λi=>es[i]?
theorem HV.at_(h:HV R hb vl es gone)(r:Int)(x:gone<=1000000/\es.length<=1000000):Spec prog 27 [pT hb,.int .u64 r] R [] λu H'=>∃T,H'=[T]/\∃c':bN,u=.tuple [.agg c'.enc.toArray,.int .i64 (sB es gone r)].toArray/\c'.is (sg T)/\c'.plain=((fY es r).map (·.c.plain)).getD ⟨[],[]⟩:=by
 have H:=h.pc
 have k:=h.rs
 have G:=k.le
 have t:=h.all
 obtain⟨C,D⟩:=x
 refine Spec.body func27 rfl results27 ntmps27 rfl<|.sr ?_
 refine .bT (λp=>?_)
 refine .ag rfl<|.z<|.mo rfl<|.mo rfl<|.bj ((h.last r).weaken dJ) (λu m=>?_)
 subst m
 refine .ag rfl<|.zs<|.sr<|.mo rfl<|.q .lss<|.zn<|.cond rfl (λa=>?_) λa=>?_
 have o:hl es r es.length=none:=by
  cases hh:hl es r es.length with
  |none=>rfl
  |some i=>rw[hh]at a;simp only[fI]at a;have:=bV a;omega
 refine .sr<|.q .cD<|.bP rfl rfl<|.az rfl ?_
 refine .ret (ba (bm _ (.two (.fH rfl rfl) (.tmp rfl)) bo.jd ?_))
 ·refine⟨[],rfl,⟨sZ,sZ,[],[]⟩,?_,⟨RS.gI,RS.gI,λs l=>(by cases l),λs l=>(by cases l)⟩,?_⟩
  ·unfold sB;rw[o];rfl
  ·unfold fY;rw[o];rfl
 obtain⟨i,g⟩:∃i,hl es r es.length=some i:=by
  cases hh:hl es r es.length with
  |none=>rw[hh]at a;simp[fI]at a
  |some i=>exact⟨i,rfl⟩
 obtain⟨F,e,f⟩:=pi g
 have n:=t e (aX f)
 have v:=vU e.c R n.c (wW (zg n.ok))
 have w:fI (hl es r es.length)=(i:Int):=by rw[g];rfl
 have I:=k.pc f
 rw[w]
 refine .kn<|.seq ?_
 refine bq.dI [(4,_)] kE.c (X:=bN×ap) (λy=>y.1.is (sg y.2)/\y.1.plain=e.c.plain) (λ_ E=>(5,.int .i64 ((gone+i+1:Nat):Int))::E) (λy=>[y.2,bl p y.1.enc 25]) ?_ ?_
 refine .cG [17] mixed<|.tO 0 rfl .move<|.tO 1 rfl (.nilCheck rfl)<|.tO 2 rfl (.fieldAddr rfl)<|.tO 3 rfl (.bU rfl)<|.tO 4 rfl .move<|.tO 5 rfl (.bZ i k f rfl rfl rfl)<|.tO 6 rfl (.fieldAddr rfl)<|.tO 7 rfl (.fieldAddr rfl)<|.tO 8 rfl (.loadT rfl)<|.tK 10 rfl .move<|.tK 11 rfl (.lO rfl)<|.tK 12 rfl (.eH rfl)<|.tK 13 rfl (.bU rfl)<|.tK 14 rfl .move<|.take 15 rfl (.i64 ((gone+i:Nat):Int) .add ⟨by omega,by omega,by omega⟩) (by kernel_rfl)<|.take 16 rfl (.i64 ((gone+i+1:Nat):Int) .add ⟨by omega,by omega,by omega⟩) (by kernel_rfl)<|.sT 9 rfl<|.dN (v.weaken dJ) (λu j m=>?_)
 obtain⟨c',rfl,b,d⟩:=m
 have B:cv c'.enc:=⟨b.dv⟩
 refine .nil<|Next.sub<|.sT 17 rfl<|.bP rfl rfl<|.nil<|Next.mod rfl<|.tK 18 rfl .assign<|RA.nil (by kernel_rfl) ?_
 ·exact aL (c',j) ⟨b,d⟩ kE.c.c (by first|exact bo.refl _|exact bo.pick [0,0] _|exact aT [1,0])
 intro y A
 obtain⟨c',j⟩:=y
 obtain⟨b,d⟩:=A
 simp only at b d⊢
 refine aB<|.ret (bm _ (.two (.fH rfl rfl) (.tmp rfl)) (.one [0] _) ?_)
 ·refine⟨j,by simp[take],c',?_,b,?_⟩
  ·unfold sB;rw[g]
  ·unfold fY;rw[g,aei,f];exact d
end
theorem HV.numbers{R:aw}{d:Nat}{vl:Value}{a:List dx}{J:Nat}(h:HV R d vl a J)(r:Int)(S:∀e∈a,e.ll.length<=1000000/\∀q∈e.ll,q.2.length<=1000000):Spec prog 82 [pT d,.int .u64 r] R [] λu H'=>∃T,H'=[T]/\∃ll,NN (sg T) u ll/\ll.map (·.2)=((fY a r).map λe=>e.ll.map (·.2)).getD []:=by
 have pc:=h.pc
 have V:=h.rs
 have K:=h.all
 refine Spec.body func82 rfl results82 ntmps82 rfl<|.sr<|.ag rfl<|.z<|.mo rfl<|.mo rfl<|.bj ((h.last r).weaken dJ) (λu l=>?_)
 subst l
 refine .ag rfl<|.zs<|.sr<|.mo rfl<|.q .lss<|.zn<|.cond rfl (λg=>?_) λg=>?_
 have p:hl a r a.length=none:=by
  cases hh:hl a r a.length with
  |none=>rfl
  |some i=>rw[hh]at g;simp only[fI]at g;have:=bV g;omega
 refine .sr<|.az rfl<|.ret (ba (bm _ (.one (.tmp rfl)) bo.jd ?_))
 ·refine⟨[],rfl,[],.nil,?_⟩
  unfold fY;rw[p];rfl
 obtain⟨i,w⟩:∃i,hl a r a.length=some i:=by
  cases hh:hl a r a.length with
  |none=>rw[hh]at g;simp[fI]at g
  |some i=>exact⟨i,rfl⟩
 obtain⟨a2,e,m⟩:=pi w
 have M:=K e (aX m)
 have p:=M.n
 have C:=p.rs
 obtain⟨a3,Q⟩:=S e (aX m)
 have N:fI (hl a r a.length)=(i:Int):=by rw[w];rfl
 rw[N]
 refine .kn<|.sr<|.ag rfl<|.zs<|.sr<|.mo rfl<|.nc rfl<|.fa rfl<|.lo rfl<|.mo rfl ?_
 refine .bZ i V m (λa4=>?_)
 refine .fa rfl<|.lo rfl<|.q (.cq C)<|.mo rfl<|.zn<|.block<|.cX [(21,_),(22,_)] (X:=Nat×Value×List fF×ap×ap) (λy=>y.1<=e.ll.length/\OS 182 1 ee y.2.1 y.2.2.1 y.2.2.2.1/\(∀q∈y.2.2.1,RS (sg y.2.2.2.2) 1 dr q.1 q.2)/\y.2.2.1.map (·.2)=(e.ll.take y.1).map (·.2)) (λy E=>(23,iN y.1)::(6,y.2.1)::E) (λy G=>y.2.2.2.1::y.2.2.2.2::G) (λy=>e.ll.length-y.1) (0,sZ,[],[],[]) ⟨ad2 _,OS.nil,λq f=>(by cases f),rfl⟩ kE.c.c.c.c bo.iy ?_
 rintro⟨k,vo,L,I,x⟩ ⟨O,v,t,j⟩
 simp only at O v t j⊢
 have a1:L.length=k:=by have:=ad1 List.length j;rw[ad3,ad3,ad8]at this;omega
 refine .sr<|.q .lss<|.zs<|.cond rfl (λs=>?_) λs=>?_
 have B:k<e.ll.length:=cV s
 obtain⟨q,f⟩:=cE B
 have U:=p.all q (aX f)
 refine .kn<|.seq<|.block<|.sr ?_
 refine .bZ k C f (λa5=>?_)
 refine .lo rfl<|.az rfl<|.region<|.mo rfl<|.mo rfl<|.dN (LIN.mZ q.1 q.2 _ U.rx (Q q (aX f))) (λu F l=>?_)
 have iu:=l.aC
 obtain⟨D,A,rfl,_⟩:=l.shape
 refine .lA (λa0=>?_)
 refine .append v (RS.lits (xs:=[((.slice D q.2.length A,q.2):fF)]) rfl (by simp[ee]) (by simp[ee,aC])) (by simp only[ad6];omega) (λZ H W=>?_)
 refine .ag rfl<|.nil<|bg<|aB<|.region<|.ia (k+1) .add<|.mo rfl<|.nil ?_
 ·exact bu (k+1,Z,L++[(.slice D q.2.length A,q.2)],H,F++x) ⟨B,W,λY hq'=>by
   rcases aec.1 hq' with hq'|hq'
   ·exact(t Y hq').mono λb o d=>gB d
   ·rw[ad9]at hq'
    subst hq'
    exact l.sg.mono λb o d=>iD d,by simp only;rw[fD f,ad4,ad4,j];rfl⟩ (by simp only;omega) kE.c.c.c.c ((aT [2,1,1]).trans (bo.eV (by simp[take,bJ])))
 refine .exit<|br<|bz<|bw<|aB<|.sr<|.mo rfl<|.az rfl<|.ret (bm _ (.one (.tmp rfl)) (.one [0,0] _) ?_)
 ·refine⟨I++x,by simp[take,bJ],L,⟨v.sg.mono λb o d=>iD d,λq f=>(t q f).mono λb o d=>gB d⟩,?_⟩
  rw[hJ (lF s)]at j
  unfold fY;rw[w,aei,m,j];rfl
def m7(es:List dx)(rev:Int)(c:Cf):Int:=
 if(es.getLast?.map λe=>decide (rev<=e.rev)).getD false then 12 else if(c.numbers isWord cR).1≠0 then(c.numbers isWord cR).1 else if 16<=es.length then 8 else 0
theorem xt(f:Nat)(d:List dx)(j:Nat)(T:ap)(h:HI f d j T)(b8:d.length<=1000)(rev:Int)(c:bN)(R:aw)(hc:c.is R):
  Spec prog 20 [pT f,.int .u64 rev,.agg c.enc.toArray] R [T] λu H'=>∃T',H'=[T']/\u=.int .i64 (m7 d rev c.plain)/\(m7 d rev c.plain=0->∃e:dx,e.rev=rev/\e.c.plain=c.plain/\HI f (d++[e]) j T')/\(m7 d rev c.plain≠0->HI f d j T'):=by
 have b3:=KW c R hc
 have a9:=vU c R hc
 obtain⟨k,l,g,rfl,m,x⟩:=h
 have b4:(c.plain.numbers isWord cR).1=0->c.s4:=λv=>wW (zg v)
 have C:m7 d rev c.plain=if(d.getLast?.map λe=>decide (rev<=e.rev)).getD false then 12 else if(c.plain.numbers isWord cR).1≠0 then(c.plain.numbers isWord cR).1 else if 16<=d.length then 8 else 0:=rfl
 generalize hk:m7 d rev c.plain=kc at *
 generalize a5:c.plain.numbers isWord cR=nn at *
 have a8:∀D:aw,(∀p∈((f,.cells [.bool true,k,iN j].toArray 155 (0,0))::(l++g):ap),D p.1 p.2)->HV D f k d j:=λD L=>by
  refine⟨PC.of (E:=155) (fr:=(0,0)) (L (f,_) (by simp)),m.rs λp hp=>L p (by simp[hp]),λe he=>(x e he).mono λb o f=>L (b,o) ?_⟩
  have:(b,o)∈g:=f
  simp[this]
 have M:∀w,HI f d j w↔∃k l g,w=(f,.cells [.bool true,k,iN j].toArray 155 (0,0))::(l++g)/\OS 159 4 dx.enc k d l/\∀e∈d,e.is (sg g):=λ_=>Iff.rfl
 refine Spec.jg (H':=[bl f [.bool true,k,iN j] 155,l,g]) (by simp)<|Spec.body func20 rfl results20 ntmps20 rfl<|.sr ?_
 refine .cm rfl (λb5=>?_)
 refine .ag rfl<|.zs<|.block<|.sr<|.mo rfl ?_
 refine .bj (HV.made (a8 _ λp hp=>.inr (by
  rcases aej.1 hp with rfl|hp
  ·simp
  ·rcases aec.1 hp with hp|hp<;>simp[hp]))) (λu S=>?_)
 subst S
 refine .q .not<|.az rfl<|.di<|.seq ?_
 refine bq.dI [(0,_),(1,_),(5,_)] kE.c.c.c (X:=Unit) (λ_=>True) (λ_ E=>(13,.bool ((d.getLast?.map λe=>decide (rev<=e.rev)).getD false))::E) (λ_=>[bl b5 c.enc 25,bl f [.bool true,k,iN j] 155,l,g]) ?_ ?_
 refine .iA mixed (by kernel_rfl)<|.mo rfl<|.nc rfl<|.fa rfl<|.lo rfl<|.q (.fz m)<|.q .gtr<|.mo rfl<|.split (t:=20) rfl (λa=>?_) (λa=>?_)
 obtain⟨n,hn⟩:∃n,d.length=n+1:=⟨d.length-1,by have:=bV a;omega⟩
 obtain⟨V,O⟩:∃e,d[n]? =some e:=⟨_,aQ (by omega)⟩
 have a3:d.getLast? =some V:=by rw[List.getLast?_eq_getElem?,hn];exact O
 have b9:=x V (aX O)
 refine .gT a<|.mo rfl<|.gT a<|.mo rfl<|.gT a<|.nc rfl<|.gT a<|.fa rfl<|.gT a<|.lo rfl<|.gT a<|.mo rfl<|.gT a<|.nc rfl<|.gT a<|.fa rfl<|.gT a<|.lo rfl<|.gT a<|.q (.fz m)<|.gT a<|.q (.i64 (n:Int) .sub ⟨by omega,by omega,by omega⟩)<|.gT a ?_
 refine .aI n m O (λc2=>?_)
 refine .gT a<|.fa rfl<|.gT a<|.fa rfl<|.gT a<|.lo rfl<|.gT a<|.q .leq<|.q (.bx a)<|.ag rfl<|.nil ?_
 ·exact aL () ad0 (kE.c.c.c.dD rfl (by first|rfl|(rw[a3];rfl))) rH
 have b2:d=[]:=aeQ (by have:=bK a;omega)
 subst b2
 refine .gF a<|.gF a<|.gF a<|.gF a<|.gF a<|.gF a<|.gF a<|.gF a<|.gF a<|.gF a<|.gF a<|.gF a<|.gF a<|.gF a<|.gF a<|.gF a<|.q (.bs a)<|.ag rfl<|.nil ?_
 ·exact aL () ad0 (kE.c.c.c.dD rfl (by first|rfl|(rw[a3];rfl))) rH
 intro y hy
 refine aB<|.cond rfl (λz=>?_) λz=>?_
 refine .sr<|.az rfl<|.ret (bF (ba (bm _ (.one (.tmp rfl)) (.one [1,1,1] _) ?_)))
 ·have r:((d.getLast?.map λe=>decide (rev<=e.rev)).getD false)=true:=z
  have i:kc=12:=by rw[C,adZ r]
  have Q:kc≠0:=by rw[i];decide
  exact⟨_,rfl,by rw[i],λs=>absurd s Q,λ_=>(M _).2 ⟨k,l,g,by simp[take,bJ],m,x⟩⟩
 refine .skip<|bg<|aB<|.sr<|.q (.aU rfl)<|.dN (b3.weaken dJ) (λu T7 b6=>?_)
 obtain⟨w7,ll,rfl,K,b0⟩:=b6
 have i7:=K.rs.aC
 refine .mo rfl<|.q .extract<|.q .extract<|.ag rfl<|.ag rfl<|.zs<|.block<|.sr<|.mo rfl<|.q .eJ<|.az rfl<|.cond rfl (λI=>?_) λI=>?_
 have a4:nn.1≠0:=by simpa using I
 refine .sr<|.mo rfl<|.az rfl<|.ret (bF (ba (bm _ (.one (.tmp rfl)) (.one [2,2,2] _) ?_)))
 ·have r:((d.getLast?.map λe=>decide (rev<=e.rev)).getD false)=false:=z
  have i:kc=nn.1:=by rw[C,adY (by rw[r];simp),adZ a4]
  exact⟨_,rfl,by rw[i],λs=>absurd (i.symm.trans s) a4,λ_=>(M _).2 ⟨k,l,g,by simp[take,bJ],m,x⟩⟩
 have v:nn.1=0:=by simpa using I
 refine .sr<|.mo rfl<|.nc rfl<|.fa rfl<|.lo rfl<|.q (.fz m)<|.q .geq<|.az rfl<|.cond rfl (λJ=>?_) λJ=>?_
 refine .sr<|.az rfl<|.ret (bF (ba (bm _ (.one (.tmp rfl)) (.one [2,2,2] _) ?_)))
 ·have r:((d.getLast?.map λe=>decide (rev<=e.rev)).getD false)=false:=z
  have i:kc=8:=by rw[C,adY (by rw[r];simp),adY (by rw[v];simp),adZ (by have:=bV J;omega)]
  have Q:kc≠0:=by rw[i];decide
  exact⟨_,rfl,by rw[i],λs=>absurd s Q,λ_=>(M _).2 ⟨k,l,g,by simp[take,bJ],m,x⟩⟩
 have b1:¬16<=d.length:=by have:=bK J;omega
 have r:((d.getLast?.map λe=>decide (rev<=e.rev)).getD false)=false:=z
 have i:kc=0:=by rw[C,adY (by rw[r];simp),adY (by rw[v];simp),adY b1]
 refine .skip<|bg<|aB<|.seq ?_
 refine bq.dI [] (dC.nil _) (X:=Value×ap×dx×ap) (λy=>OS 159 4 dx.enc y.1 (d++[y.2.2.1]) y.2.1/\y.2.2.1.is (sg y.2.2.2)/\y.2.2.1.rev=rev/\y.2.2.1.c.plain=c.plain) (λ_ E=>E) (λy=>[bl f [.bool true,y.1,iN j] 155,y.2.1,y.2.2.2,g]) ?_ ?_
 refine .cG [12,15] mixed<|.tK 0 rfl .move<|.tO 1 rfl .move<|.tO 2 rfl (.nilCheck rfl)<|.tO 3 rfl (.fieldAddr rfl)<|.tO 4 rfl (.bU rfl)<|.tO 5 rfl .move<|.tO 6 rfl (.aU rfl)<|.tO 9 rfl .move<|.sT 7 rfl<|.dN ((a9 (b4 v)).weaken dJ) (λu G S=>?_)
 obtain⟨H,rfl,A,N⟩:=S
 have c0:One H.vs:=RS.aC A.ss
 have c1:One H.vc:=RS.aC A.sc
 obtain⟨ps,cs,W⟩:=A.ss.val
 obtain⟨pc,cc,Y⟩:=A.sc.val
 obtain⟨pw,cw,Z⟩:=K.rs.val
 obtain⟨c4,c3,a7,a6⟩:=H
 simp only at W Y Z
 subst W Y Z
 refine .nil<|Next.sub<|.tO 8 rfl .cD<|.tO 10 rfl .cD<|.sT 11 rfl ?_
 refine .dV (λb7=>?_)
 refine .nil<|Next.sub<|.sT 12 rfl<|.append m (RS.lits (xs:=[(⟨rev,⟨.slice ps a7.length cs,.slice pc a6.length cc,a7,a6⟩,.slice pw ll.length cw,ll⟩:dx)]) rfl (by simp[dx.enc]) (by simp[dx.enc,aC])) (by simp only[ad6];omega) (λU F B=>?_)
 have i5:=B.aC
 refine .nil<|Next.mod rfl<|.tK 13 rfl (.lO rfl)<|.tK 14 rfl (.eH rfl)<|.sT 15 rfl<|.du rfl rfl<|.nil<|Next.mod rfl<|RA.nil (by kernel_rfl) ?_
 ·exact aL (U,F,_,G++T7) ⟨B,⟨A.mono λb o f=>iD f,K.mono λb o f=>gB f,by simp only;rw[N,a5];exact v,by simp only;rw[N,a5];exact b0⟩,rfl,N⟩ (dC.nil _) (by first|exact(aT [4,4,1,1,2]).trans (bo.eV (by simp[take,bJ,cT]))|exact(aT [3,3,0,1,2]).trans (bo.eV (by simp[take,bJ,cT])))
 intro y hy
 obtain⟨U,F,e5,G⟩:=y
 obtain⟨B,a0,a2,a1⟩:=hy
 simp only at B a0 a2 a1⊢
 refine aB<|.sr<|.az rfl<|.ret (bm _ (.one (.tmp rfl)) (.one [0,0,0,0] _) ?_)
 ·refine⟨_,rfl,by rw[i],λ_=>⟨e5,a2,a1,U,F,G++g,by simp[take,bJ],B,λe he=>?_⟩,λs=>absurd i s⟩
  rcases aec.1 he with he|he
  ·exact(x e he).mono λb o f=>gB f
  ·rw[ad9]at he
   subst he
   exact a0.mono λb o f=>iD f
def sl(L:List bD)(t:ax)(z:Int):Prop:=(∃(j:Nat) (x:bD),z=j/\L[j]? =some x/\x.eW t=true/\∀k y,k<j->L[k]? =some y->y.eW t=false)\/(z= -1/\eP L t=false)
theorem sl.lt{L:List bD}{t:ax}{z:Int}(h:sl L t z):decide (z<0)= !eP L t:=by
 rcases h with⟨j,x,rfl,b,a,_⟩|⟨rfl,h⟩
 ·rw[aem (by omega),eP,List.any_eq_true.2 ⟨x,aX b,a⟩];rfl
 ·rw[h];rfl
section
variable{R:aw}{b:Nat}{S:cQ}{vL:Value}{L:List bD}
theorem DV.find(h:DV R b S vL L)(t:ax):Spec prog 111 [pT b,.agg t.enc.toArray] R [] λu H'=>(∃z,u=.int .i64 z/\sl L t z)/\H'=[]:=by
 have F:=h.pc
 have B:=h.rs.aC
 have A:=h.rs.le
 obtain⟨G,C,rfl⟩:=h.rs.val
 have n:=h.rs
 refine Spec.body func111 rfl results111 ntmps111 rfl<|.sr ?_
 refine .cm rfl (λo=>?_)
 refine .ag rfl<|.zs<|.sr<|.az rfl<|.block<|.loop (X:=Nat) (λi=>i<=L.length/\∀k y,k<i->L[k]? =some y->y.eW t=false) (λi=>[(0,pT b),(3,pT o),(5,iN i)]) (λ_=>[bl o t.enc 119]) (λi=>L.length-i) 0 ⟨ad2 _,λk y e=>absurd e (Nat.not_lt_zero _)⟩ kE.c.c.c rH ?_
 rintro i ⟨v,g⟩
 refine .seq<|.sr<|.mo rfl<|.mo rfl<|.nc rfl<|.fa rfl<|.lo rfl<|.q (.cq n)<|.q .lss<|.zn<|.cond rfl (λl=>?_) λl=>?_
 have m:i<L.length:=cV l
 obtain⟨x,f⟩:=cE m
 refine .kn<|.seq<|.block<|.seq<|.iA mixed (by kernel_rfl) ?_
 refine .mo rfl<|.nc rfl<|.fa rfl<|.lo rfl<|.mo rfl ?_
 refine .bZ i n f (λD=>?_)
 refine .fa rfl<|.q (.loadT rfl) ?_
 refine .q (.aU rfl)<|.q (.o5 rfl rfl (ax.kinds x.t) (ax.kinds t)) ?_
 rw[show eG (List.take 7 (List.drop 0 x.enc)) t.enc=decide (x.t=t)from ax.eq x.t t]
 refine .mo rfl<|.split (t:=25) rfl (λa=>?_) (λa=>?_)
 refine .gT a<|.mo rfl<|.gT a<|.nc rfl<|.gT a<|.fa rfl<|.gT a<|.lo rfl<|.gT a<|.mo rfl<|.gT a ?_
 refine .bZ i n f (λE=>?_)
 refine .gT a<|.fa rfl<|.gT a<|.lo rfl<|.gT a<|.q .cr<|.q (.bx a)<|.zn<|.cond rfl (λr=>?_) λr=>?_
 refine .sr<|.mo rfl<|.az rfl<|.ret (bF (ba (dm (bF (ba (aY rfl ?_))))))
 ·exact⟨⟨_,rfl,.inl ⟨i,x,rfl,f,by unfold bD.eW;simp_all,g⟩⟩,rfl⟩
 refine .skip<|bg<|aB<|.region<|.mo rfl<|.ia (i+1) .add<|.ag rfl<|.nil ?_
 ·exact bu (i+1) ⟨m,λk y e d=>by
   rcases Nat.lt_or_eq_of_le (Nat.le_of_lt_succ e)with h3|h3
   ·exact g k y h3 d
   ·subst h3
    rw[f]at d
    cases d
    unfold bD.eW
    simp_all⟩ (by omega) kE.c.c.c rH
 refine .gF a<|.gF a<|.gF a<|.gF a<|.gF a<|.gF a<|.gF a<|.gF a<|.gF a<|.q (.bs a)<|.zn<|.di<|.skip<|bg<|aB<|.region<|.mo rfl<|.ia (i+1) .add<|.ag rfl<|.nil ?_
 ·exact bu (i+1) ⟨m,λk y e d=>by
   rcases Nat.lt_or_eq_of_le (Nat.le_of_lt_succ e)with h3|h3
   ·exact g k y h3 d
   ·subst h3
    rw[f]at d
    cases d
    unfold bD.eW
    simp_all⟩ (by omega) kE.c.c.c rH
 refine .exit<|br<|bz<|bw<|aB<|.sr<|.az rfl<|.ret (aY rfl ?_)
 ·have w:i=L.length:=by have:=bK l;omega
  refine⟨⟨_,rfl,.inr ⟨rfl,?_⟩⟩,rfl⟩
  unfold eP
  rw[aeP]
  intro y d p
  obtain⟨j,s,rfl⟩:=aen.1 d
  have:=g j _ (by omega) (aQ s)
  rw[this]at p
  cases p
end
theorem xv(c:Cf):m7 [] 0 c=(c.numbers isWord cR).1:=by
 unfold m7
 simp only[List.getLast?_nil,Option.map_none,aes,Bool.false_eq_true,if_false,List.length_nil]
 by_cases h:(c.numbers isWord cR).1=0
 ·rw[adY (by rw[h];simp),h];rfl
 ·rw[adZ h]
abbrev jB(n:Nat):Value:=iN n
def kZ(c:Cf)(num:List Nat):List (Ty×Nat):=(c.all.map gJ).zip num
theorem KU(c:Cf)(num:List Nat)(a:num.length=c.all.length)(t:Ty):(cF t (kZ c num)).getD 0=match bY c.all t with|none=>0|some i=>num.getD i 0:=by
 unfold kZ bY
 generalize c.all=A at *
 induction A generalizing num with
 |nil=>simp[cF]
 |cons x A ih=>
  cases num with
  |nil=>simp at a
  |cons n num=>
   have:=ih num (by simpa using a)
   rw[aeB,List.zip_cons_cons,cF,aeT]
   by_cases e:t=gJ x
   ·subst e;simp
   ·rw[adY e,this]
    have b:decide (gJ x=t)=false:=aem λh=>e h.symm
    rw[b]
    cases List.findIdx? (λx=>decide (gJ x=t)) A with
    |none=>rfl
    |some i=>rfl
theorem tB(c:bN)(R:aw)(h:c.is R)(hu:c.plain.dL)(w:Value)(J:List fF)(num:List Nat)(M:NN R w J)(a6:J.map (·.2)=rows c.plain.aZ num)(O:num.length=c.plain.all.length):
  Spec prog 81 [.agg c.enc.toArray,w] R [] λu H'=>∃T,H'=[T]/\MS kX jB u (kZ c.plain num) T:=by
 have I:=h.ss
 have c1:=I.le
 have a2:=h.all
 have a8:=M.rs
 have a7:=M.all
 have b5:=qf c.plain
 have b4:c.plain.aZ.length=c.aZ.length:=by unfold bN.plain;simp
 have W:∀(i:Nat) (s:ca),c.aZ[i]? =some s->c.plain.aZ[i]? =some s.plain:=λi s d=>oz d
 have b6:=λ(p:fG) (s:ca) (r:cb)=>ot (c:=c) (p:=p) (s:=s) (r:=r)
 have a4:∀i k,c.ix (i,k)=cz c.plain.aZ i+k:=λ_ _=>rfl
 have b8:(c.plain.all.map gJ).Nodup:=hu.2.1
 have C:kZ c.plain num=(c.plain.all.map gJ).zip num:=rfl
 generalize hA:c.plain.all=A at *
 generalize hQ:kZ c.plain num=Q at *
 have a1:Q.length=A.length:=by rw[C];simp[O]
 have a0:Q.map (·.1)=A.map gJ:=by rw[C];exact List.map_fst_zip (by simp[O])
 have b3:∀i s,c.aZ[i]? =some s->∃v,J[i]? =some (v,(num.drop (cz c.plain.aZ i)).take s.bR.length):=λi s d=>by
  have f:=pV (n:=num) (W i s d)
  rw[<-a6,ad5,show s.plain.bR.length=s.bR.length by simp[ca.plain]]at f
  obtain⟨⟨v,r⟩,g,K⟩:=Option.map_eq_some_iff.1 f
  exact⟨v,by rw[g];simp only at K;rw[K]⟩
 generalize o:cz c.plain.aZ=of at *
 have a9:of 0=0:=by rw[<-o];cases c.plain.aZ<;>rfl
 refine Spec.body func81 rfl results81 ntmps81 rfl<|.sr ?_
 refine .cm rfl (λb2=>?_)
 refine .ag rfl<|.z ?_
 refine .makeMap (λm=>?_)
 refine .ag rfl<|.zs<|.sr<|.fa rfl<|.lo rfl<|.q (.cq I)<|.mo rfl<|.zn<|.block<|.cX [(1,_),(5,_),(12,_),(13,_)] (X:=Nat×ap) (λy=>y.1<=c.aZ.length/\MS kX jB (.map (some m)) (Q.take (of y.1)) y.2) (λy E=>(14,iN y.1)::E) (λy G=>y.2::G) (λy=>c.aZ.length-y.1) (0,[(m,.map #[] 0)]) ⟨ad2 _,by rw[a9];exact MS.nil⟩ kE.c.c.c.c.c rH ?_
 rintro⟨i,T⟩ ⟨hi,b⟩
 simp only at hi b⊢
 refine .sr<|.q .lss<|.zs<|.cond rfl (λf=>?_) λf=>?_
 have S:i<c.aZ.length:=cV f
 obtain⟨⟨j,l,a⟩,d⟩:=cE S
 have H:=a2 _ (aX d)
 have F:RS R 3 cb.enc l a:=H.rs
 have c2:=F.le
 have c4:cv (ca.enc ⟨j,l,a⟩):=⟨H.dv⟩
 have V:=pF (W i _ d)
 rw[o,show(ca.plain ⟨j,l,a⟩).bR.length=a.length by simp[ca.plain]]at V
 obtain⟨vr,B⟩:=b3 i _ d
 simp only at B
 have Y:=a7 _ (aX B)
 simp only at Y
 refine .kn<|.seq<|.block<|.sr<|.mo rfl ?_
 refine .bZ i I d (λc5=>?_)
 refine .q (.aU rfl) ?_
 refine .bT (λb7=>?_)
 refine .ag rfl<|.bP rfl rfl<|.z<|.fa rfl<|.lo rfl<|.q (.cq F)<|.mo rfl<|.zn<|.block<|.cX [(1,_),(5,_),(6,_),(7,_),(12,_),(13,_),(14,_),(20,_),(21,_)] (X:=Nat×ap) (λy=>y.1<=a.length/\MS kX jB (.map (some m)) (Q.take (of i+y.1)) y.2) (λy E=>(22,iN y.1)::E) (G:=[bl b2 c.enc 25]) (λy G=>bl b7 (ca.enc ⟨j,l,a⟩) 164::y.2::G) (λy=>a.length-y.1) (0,T) ⟨ad2 _,b⟩ kE.c.c.c.c.c.c.c.c.c.c rH ?_
 rintro⟨k,T⟩ ⟨hk,b⟩
 simp only at hk b⊢
 refine .sr<|.q .lss<|.zs<|.cond rfl (λg=>?_) λg=>?_
 have x:k<a.length:=cV g
 obtain⟨⟨vt,vn,r⟩,D⟩:=cE x
 have b0:=H.all _ (aX D)
 have c3:cv (cb.enc ⟨vt,vn,r⟩):=⟨b0.dv⟩
 have t:=b6 (i,k) _ _ d D
 rw[a4]at t
 have c0:of i+k<A.length:=(aea.1 t).1
 obtain⟨n,U⟩:∃n,num[of i+k]? =some n:=⟨_,aQ (by omega)⟩
 have b1:((num.drop (of i)).take a.length)[k]? =some n:=by rw[List.getElem?_take_of_lt x,List.getElem?_drop];exact U
 have N:Q[of i+k]? =some (⟨j,r.name⟩,n):=by
  rw[C,List.getElem?_zip_eq_some]
  exact⟨by rw[ad5,t];rfl,U⟩
 refine .kn<|.seq<|.block<|.sr<|.mo rfl ?_
 refine .bZ k F D (λc6=>?_)
 refine .q (.aU rfl) ?_
 refine .bT (λb9=>?_)
 refine .ag rfl<|.bP rfl rfl<|.zn<|.dd 13 mixed (by kernel_rfl) ?_
 conv=>arg 6;dsimp only[List.take]
 refine .mo rfl<|.fa rfl<|.lo rfl<|.fa rfl<|.lo rfl ?_
 refine .q .cD ?_
 refine .mo rfl<|.mo rfl ?_
 refine .bZ i a8 B (λc7=>?_)
 refine .lo rfl<|.mo rfl ?_
 refine .bZ k Y b1 (λc8=>?_)
 refine .lo rfl<|.nil<|.update (key:=(⟨j,r.name⟩:Ty)) (u:=n) b rfl rfl rfl (λZ L _=>?_)
 rw[lL (λhm=>by
  obtain⟨q,hq,e⟩:=aen.1 hm
  rw[ad3,ad8]at hq
  rw[List.getElem_map,aeL]at e
  have f:(Q.map (·.1))[of i+k]? =some ⟨j,r.name⟩:=by rw[ad5,N];rfl
  have g:(Q.map (·.1))[q]? =some ⟨j,r.name⟩:=by rw[ad5,aQ (by omega),aeI,e]
  exact ry (show q<of i+k by omega) f g rfl (by rw[a0];exact b8)), <-fD N]at L
 refine .nil<|bg<|aB<|.region<|.ia (k+1) .add<|.mo rfl<|.nil ?_
 ·exact bu (k+1,Z) ⟨x,L⟩ (by simp only;omega) kE.c.c.c.c.c.c.c.c.c.c (aT [1,1,1])
 have a5:k=a.length:=by have:=bK g;omega
 rw[a5, <-V]at b
 refine .exit<|br<|bz<|bw<|bg<|aB<|.region<|.ia (i+1) .add<|.mo rfl<|.nil ?_
 ·exact bu (i+1,T) ⟨S,b⟩ (by simp only;omega) kE.c.c.c.c.c (aT [1,1])
 refine .exit<|br<|bz<|bw<|aB<|.sr<|.mo rfl<|.az rfl<|.ret (bm _ (.one (.tmp rfl)) (.one [0] _) ?_)
 ·refine⟨_,rfl,?_⟩
  have a3:i=c.aZ.length:=by have:=bK f;omega
  have:of i=Q.length:=by
   rw[a3,a1, <-b4, <-o];exact b5
  rw[this,aeg]at b
  simpa[take]using b
structure aO where
 k:aR
 found:Bool
 vn:Value
 nodes:List Nd
 vu:Value
 fb:List ByteArray
 vl:Value
 ll:List fF
 number:Nat
def aO.enc(p:aO):List Value:=[.string p.k.os,.string p.k.oi,.string p.k.rel,.bool p.found,p.vn,p.vu,p.vl,iN p.number]
def aO.plain(p:aO):bB:=⟨p.k,p.found,p.nodes,p.number,p.fb,p.ll.map (·.2)⟩
structure aO.is(R:aw)(p:aO):Prop where
 n:RS R 5 Nd.enc p.vn p.nodes
 u:RS R 1 cO p.vu p.fb
 l:NN R p.vl p.ll
theorem aO.is.mono{R R':aw}{p:aO}(h:p.is R)(a:∀b o,R b o->R' b o):p.is R':=⟨h.n.mono a,h.u.mono a,h.l.mono a⟩
theorem aO.is.dv{R:aw}{p:aO}(h:p.is R):∀u∈p.enc,aC u=true:=by
 have b:=h.n.aC
 have c:=h.u.aC
 have d:=h.l.rs.aC
 intro u a
 simp only[aO.enc,aej,aeN,or_false]at a
 rcases a with rfl|rfl|rfl|rfl|rfl|rfl|rfl|rfl
 ·rfl
 ·rfl
 ·rfl
 ·rfl
 ·exact b.h
 ·exact c.h
 ·exact d.h
 ·rfl
instance aR.Oj:eM prog 269 (λk:aR=>.agg k.enc.toArray):=eM.agg wJ underlying269 rfl aR.kinds aR.eq
abbrev xI(k:aR):Value:=.agg k.enc.toArray
structure XC where
 c:bN
 num:List Nat
 vn:Value
 g:Nat
 S:cQ
 L:List bD
 rev:Int
 b:Int
def XC.sub(x:XC)(k:aR):List Sub:=if scan x.S x.rev then(x.L.filter λy=>y.there x.rev&&decide (y.t.cB=k)).map (·.t.sub)else []
structure XC.ok(R:aw)(x:XC):Prop where
 c:x.c.is R
 n:RM R kX jB x.vn (kZ x.c.plain x.num)
 nl:x.num.length=x.c.plain.all.length
 s:∃ps vf vr Mf Mr,SV R x.g x.S ps vf vr Mf Mr
 l:RL x.S x.L
 len:x.S.rows.length<=1000
theorem XC.ok.mono{R R':aw}{x:XC}(h:x.ok R)(a:∀b o,R b o->R' b o):x.ok R':=⟨h.c.mono a,h.n.mono a,h.nl,let ⟨ps,vf,vr,Mf,Mr,h1⟩:=h.s;⟨ps,vf,vr,Mf,Mr,h1.mono a⟩,h.l,h.len⟩
def XC.cells(x:XC)(va vp:Value)(e:Nat):List Value:=[x.c.vs,x.c.vc,x.vn,.pointer (some ⟨x.g,0,none⟩),.int .u64 x.rev,va,vp,iN e,.int .i64 x.b]
abbrev XC.gE(x:XC)(xb:Nat)(va vp:Value)(e:Nat):ap:=(bl xb (x.cells va vp e) 190)
def gL(ps:List aO)(va:Value)(T:ap):Prop:=∃M,MS xI jB va M T/\∀k,cF k M=gw (ps.map aO.plain) k
theorem Lb(x:XC)(R:aw)(h:x.ok R)(xb:Nat)(va a:Value)(e:Nat)(ps:List aO) [g:One va] [pc:PC R (pT xb) (x.cells va a e)](c:RS R 8 aO.enc a ps)(f:e<=1000000000000)(d:0<=x.b/\x.b<=9223372036854775807):
  Spec prog 84 [pT xb] R [] λu H'=>u=.bool (decide (x.b<(ps.length+e:Nat)))/\H'=[]:=by
 refine Spec.body func84 rfl results84 ntmps84 rfl<|.sr<|.ag rfl<|.zs<|.iA mixed (by kernel_rfl)<|.mo rfl<|.nc rfl<|.fa rfl<|.fa rfl<|.lo rfl<|.q (.cq c) ?_
 refine .mo rfl<|.nc rfl<|.fa rfl<|.lo rfl<|.mo rfl ?_
 refine .nc rfl<|.fa rfl<|.fa rfl<|.lo rfl ?_
 refine .q (.i64 (x.b-e) .sub ⟨by omega,by omega,by omega⟩) ?_
 refine .q .gtr<|.az rfl<|.ret (aY rfl ?_)
 ·refine⟨ad1 _ ?_,rfl⟩
  rw[decide_eq_decide]
  omega
theorem Le{ps:List bB}{p:bB}(h:gw ps p.k=none)(k:aR):gw (ps++[p]) k=if k=p.k then some ps.length else gw ps k:=by
 unfold gw at h⊢
 rw[List.findIdx?_append]
 by_cases e:k=p.k
 ·subst e
  rw[h,adZ rfl]
  simp[aeT]
 ·rw[adY e]
  have a:decide (p.k=k)=false:=aem λh=>e h.symm
  simp[aeT,a]
theorem gL.add{ps:List aO}{p:aO}{va:Value}{T:ap}{M:List (aR×Nat)}(b:MS xI jB va (da p.k ps.length M) T)(a:∀k,cF k M=gw (ps.map aO.plain) k)(h:gw (ps.map aO.plain) p.k=none):gL (ps++[p]) va T:=
 ⟨_,b,λk=>by
  rw[mB,a,ad4,aeB,List.map_nil,Le h]
  rw[ad3]
  rfl⟩
def uV(x:XC)(R:aw)(xb:Nat)(ps:List aO)(e:Nat)(va:Value)(k:aR)(u:Value)(H':aG):Prop:=∃ps' vp Ta To,H'=[x.gE xb va vp e,Ta,To]/\u=.int .i64 ((eD x.c.plain x.num (ps.map aO.plain) k).2:Nat)/\ps'.map aO.plain=(eD x.c.plain x.num (ps.map aO.plain) k).1/\gL ps' va Ta/\OS 95 8 aO.enc vp ps' To/\∃l,ps'=ps++l/\∀p∈l,p.is R
theorem yS(x:XC)(R:aw)(h:x.ok R)(xb:Nat)(ps:List aO)(e:Nat)(va t:Value)(g m:ap)(hA:gL ps va g)(L:OS 95 8 aO.enc t ps m)(hl:ps.length<=3000000)(k:aR):
  Spec prog 83 [pT xb,.agg [.string k.os,.string k.oi].toArray,.string k.rel] R [x.gE xb va t e,g,m] (uV x R xb ps e va k):=by
 have U:∀u D,uV x R xb ps e va k u D↔∃ps' t g m,D=[x.gE xb va t e,g,m]/\u=.int .i64 ((eD x.c.plain x.num (ps.map aO.plain) k).2:Nat)/\ps'.map aO.plain=(eD x.c.plain x.num (ps.map aO.plain) k).1/\gL ps' va g/\OS 95 8 aO.enc t ps' m/\∃l,ps'=ps++l/\∀p∈l,p.is R:=λ_ _=>Iff.rfl
 have a1:=zM x.c R h.c k.os k.rel
 have hn:=h.n
 have a8:=KU x.c.plain x.num h.nl
 obtain⟨M,J,K⟩:=hA
 have a5:∀i,gw (ps.map aO.plain) k=some i->eD x.c.plain x.num (ps.map aO.plain) k=(ps.map aO.plain,i):=λi O=>by unfold eD;rw[O]
 have a6:gw (ps.map aO.plain) k=none->eD x.c.plain x.num (ps.map aO.plain) k=(ps.map aO.plain++[one x.c.plain x.num k],ps.length):=λO=>by unfold eD;rw[O];simp
 have a4:=λ(p:aO) (T:ap)=>gL.add (ps:=ps) (p:=p) (va:=va) (T:=T) (M:=M)
 have b1:one x.c.plain x.num k=match bY x.c.plain.all ⟨k.os,k.rel⟩with
  |none=>⟨k,false,[],0,[],[]⟩
  |some i=>⟨k,true,(x.c.plain.all.map (·.2.nodes)).getD i [],x.num.getD i 0,[],[]⟩:=rfl
 have N:=h.c.all
 have b5:=λ(p:fG) (s:ca) (r:cb)=>ot (c:=x.c) (p:=p) (s:=s) (r:=r)
 obtain⟨i0,ok,b3,Z⟩:∃(i:Nat) (ok:Bool),[((cF k M).map jB).getD (jB 0),Value.bool (cF k M).isSome]=[jB i,.bool ok]/\gw (ps.map aO.plain) k=if ok then some i else none:=by
  rw[K k]
  cases gw (ps.map aO.plain) k with
  |none=>exact⟨0,false,rfl,rfl⟩
  |some i=>exact⟨i,true,rfl,rfl⟩
 refine Spec.body func83 rfl results83 ntmps83 rfl<|.sr ?_
 refine .cm rfl (λb4=>?_)
 refine .ag rfl<|.z<|.q (.aU rfl)<|.mo rfl<|.q .cD ?_
 refine .bT (λb7=>?_)
 refine .bP rfl rfl<|.zs<|.seq<|.iA mixed (by kernel_rfl)<|.mo rfl<|.nc rfl<|.fa rfl<|.lo rfl<|.q (.aU rfl)<|.q (.cast (.oo J.rx rfl rfl) (ad1 (λl:List Value=>Value.tuple l.toArray) b3))<|.mo rfl<|.q .extract<|.q .extract<|.ag rfl<|.ag rfl<|.z<|.mo rfl<|.zn<|.cond rfl (λI=>?_) λI=>?_
 have b2:ok=true:=I
 subst b2
 have V:=a5 i0 Z
 refine .sr<|.mo rfl<|.az rfl<|.ret (ba (bm _ (.one (.tmp rfl)) (aT [2,2,2]) ?_))
 ·refine(U _ _).2 ⟨ps,t,g,m,?_,?_,?_,⟨M,J,K⟩,L,[],by simp,λp G=>(by cases G)⟩
  ·simp[take,bJ]
  ·rw[V]
  ·rw[V]
 have b0:ok=false:=I
 subst b0
 have Y:gw (ps.map aO.plain) k=none:=Z
 have W:=a6 Y
 refine .kn<|.seq ?_
 refine bq.dI [(0,_),(2,_),(4,_),(7,_)] kE.c.c.c.c (X:=Nat×cb×Bool) (λy=>l9 x.c ⟨k.os,k.rel⟩ y.2.1 y.2.2/\cv y.2.1.enc) (λy E=>(10,.pointer (some ⟨y.1,0,none⟩))::(11,.bool y.2.2)::E) (λy=>[[(y.1,.cells y.2.1.enc.toArray 167 (0,0))],bl b7 k.enc 269,bl b4 [.string k.os,.string k.oi] 44,x.gE xb va t e,g,m]) ?_ ?_
 refine .cG [12] mixed<|.tO 0 rfl .move<|.tO 1 rfl (.nilCheck rfl)<|.tO 2 rfl (.fieldAddr rfl) ?_
 refine .tO 3 rfl (.loadT rfl) ?_
 refine .tO 4 rfl (.fieldAddr rfl)<|.tO 5 rfl (.bU rfl)<|.tO 6 rfl .move<|RA.hG 7 11 rfl rfl (by kernel_rfl) rfl ?_ ?_
 refine .bj ((a1.mono λu D f=>⟨f.2,f.1⟩).weaken dJ) (λu f=>?_)
 obtain⟨r,v,rfl,a⟩:=f
 have B:cv r.enc:=by
  unfold l9 at a
  cases hf:bY x.c.plain.all ⟨k.os,k.rel⟩with
  |none=>rw[hf]at a;obtain⟨_,rfl⟩:=a;exact⟨by simp[cb.enc,cb.zero,aC]⟩
  |some j=>rw[hf]at a;obtain⟨_,p,s,A,w,Q⟩:=a;exact⟨((N _ (aX A)).all _ (aX w)).dv⟩
 refine .nil<|Next.sub<|.tO 8 rfl .move<|.tO 9 rfl .extract<|.tK 10 rfl .extract<|.sT 11 rfl ?_
 refine .bT (λH=>?_)
 refine .nil<|Next.sub<|.sT 12 rfl<|.bP rfl rfl<|.nil<|Next.mod rfl<|.tK 13 rfl .assign<|RA.nil (by kernel_rfl) ?_
 ·exact aL (H,r,v) ⟨a,B⟩ kE.c.c.c.c.c.c rH
 refine .bT (λH=>?_)
 refine .nil<|Next.sub<|.sT 7 rfl<|.bj ((a1.mono λu D f=>⟨f.2,f.1⟩).weaken dJ) (λu f=>?_)
 obtain⟨r,v,rfl,a⟩:=f
 have B:cv r.enc:=by
  unfold l9 at a
  cases hf:bY x.c.plain.all ⟨k.os,k.rel⟩with
  |none=>rw[hf]at a;obtain⟨_,rfl⟩:=a;exact⟨by simp[cb.enc,cb.zero,aC]⟩
  |some j=>rw[hf]at a;obtain⟨_,p,s,A,w,Q⟩:=a;exact⟨((N _ (aX A)).all _ (aX w)).dv⟩
 refine .nil<|Next.sub<|.tO 8 rfl .move<|.tO 9 rfl .extract<|.tK 10 rfl .extract<|.sT 12 rfl<|.bP rfl rfl<|.nil<|Next.mod rfl<|.tK 13 rfl .assign<|RA.nil (by kernel_rfl) ?_
 ·exact aL (H,r,v) ⟨a,B⟩ kE.c.c.c.c.c.c rH
 intro y hy
 obtain⟨bb,r,v⟩:=y
 obtain⟨a,B⟩:=hy
 simp only at a B⊢
 obtain⟨C,a9,a7⟩:∃C,(cF (⟨k.os,k.rel⟩:Ty) (kZ x.c.plain x.num)).getD 0=C/\((cF (⟨k.os,k.rel⟩:Ty) (kZ x.c.plain x.num)).map jB).getD (jB 0)=jB C:=by
  cases cF (⟨k.os,k.rel⟩:Ty) (kZ x.c.plain x.num)with
  |none=>exact⟨0,rfl,rfl⟩
  |some i=>exact⟨i,rfl,rfl⟩
 obtain⟨a0,F⟩:one x.c.plain x.num k=⟨k,v,r.r.nodes,C,[],[]⟩/\RS R 5 Nd.enc r.vn r.r.nodes:=by
  rw[b1, <-a9,a8]
  unfold l9 at a
  cases hf:bY x.c.plain.all ⟨k.os,k.rel⟩with
  |none=>rw[hf]at a;obtain⟨rfl,rfl⟩:=a;exact⟨rfl,RS.gI⟩
  |some j=>
   rw[hf]at a
   obtain⟨rfl,p,s,A,w,Q⟩:=a
   refine⟨?_,((N _ (aX A)).all _ (aX w)).d⟩
   have:=b5 p s r A w
   rw[Q]at this
   simp only[ad7,ad5,this]
   rfl
 obtain⟨vt,vd,r⟩:=r
 simp only at a0 F
 have b8:One vd:=F.aC
 obtain⟨pd,cd,rfl⟩:=F.val
 refine aB<|.seq<|.dd 11 mixed (by kernel_rfl) ?_
 conv=>arg 6;dsimp only[List.take]
 refine .mo rfl<|.nc rfl<|.fa rfl<|.lo rfl<|.q (.aU rfl)<|.mo rfl<|.nc rfl<|.fa rfl<|.fa rfl<|.lo rfl<|.q (.fz L)<|.nil ?_
 refine .update (key:=k) (u:=ps.length) J rfl rfl rfl (λa3 S _=>?_)
 refine .zs<|.cG [22,26] mixed<|.tK 0 rfl .move<|.tO 1 rfl .move<|.tO 2 rfl (.nilCheck rfl)<|.tO 3 rfl (.fieldAddr rfl)<|.tO 4 rfl (.fieldAddr rfl)<|.tO 5 rfl (.bU rfl)<|.tO 6 rfl (.aU rfl)<|.tO 7 rfl .move<|.tO 8 rfl .move<|.tO 9 rfl (.fieldAddr rfl)<|.tO 10 rfl (.bU rfl)<|.tO 11 rfl .move<|.tO 12 rfl (.nilCheck rfl)<|.tO 13 rfl (.fieldAddr rfl)<|.tO 14 rfl (.bU rfl)<|.tO 15 rfl (.fieldAddr rfl)<|.tO 16 rfl (.bU rfl)<|.tO 17 rfl .move<|.tO 18 rfl .cD<|.eQ 19 rfl (.nh (hn.mono λb o hb=>.inl hb) rfl rfl (key:=(⟨k.os,k.rel⟩:Ty)) a7) (by kernel_rfl)<|.tO 20 rfl .cD<|.sT 21 rfl ?_
 refine .dV (λb6=>?_)
 refine .nil<|Next.sub<|.sT 22 rfl<|.append L (RS.lits (xs:=[(⟨k,v,.slice pd r.nodes.length cd,r.nodes,sZ,[],sZ,[],C⟩:aO)]) rfl (by simp[aO.enc]) (by simp[aO.enc,aC])) (by simp only[ad6];omega) (λv5 T5 a2=>?_)
 have i5:=a2.aC
 refine .nil<|Next.mod rfl<|.tK 23 rfl (.lO rfl)<|.tK 24 rfl (.eH rfl)<|.tK 25 rfl (.eH rfl)<|.sT 26 rfl<|.du rfl rfl<|.nil<|Next.mod rfl<|RA.nil (by kernel_rfl)<|aB<|.seq<|.iA mixed (by kernel_rfl)<|.mo rfl<|.nc rfl<|.fa rfl<|.lo rfl<|.q (.aU rfl)<|.q (.nh S.rx rfl rfl (key:=k) rfl)<|.az rfl<|.ret (bm _ (.one (.tmp rfl)) (aT [4,4,4]) ?_)
 ·refine(U _ _).2 ⟨_,v5,a3,T5,?_,?_,?_,a4 _ _ S K Y,a2,_,rfl,λp G=>?_⟩
  ·simp[take,bJ,cT,XC.cells]
  ·rw[W,mB,adZ rfl];rfl
  ·rw[W,a0,ad4];rfl
  ·rw[ad9]at G
   subst G
   exact⟨F,RS.gI,NN.nil⟩
end Go.Proofs.YtdljmchhecoakaaGreat

/- What the law 'ExpandRight' uses. No condition. -/
import Derived.Test.YtenilfmlfldogaaGreatDoorKExpandRightB
import Derived.Test.YtenilfmlfldogaaGreatDoorKExpandRightF
import Derived.Test.YtenilfmlfldogaaGreatDoorKExpandRightH
namespace Go.Proofs.YtenilfmlfldogaaGreatDoor
set_option linter.defProp false
def adL:=@List.mem_iff_getElem
def adM:=@Nat.lt_or_ge
def adN:=@List.take_add_one
def adO:=@Bool.and_eq_true
def adP:=@List.getElem?_eq_some_iff
def adQ:=@List.mem_map
def adR:=@List.any_eq_true
def adS:=@List.any_eq_false
def adT:=@List.cons_append
def adU:=@List.mem_flatten
def adV:=@List.getD_eq_getElem?_getD
def adW:=@decide_eq_true_eq
def adX:=@Nat.succ_ne_zero
set_option linter.unusedVariables false
abbrev QS:=List Bool×List Bool
def rV(ps:List cB)(i:Nat):Nat:=((ps[i]?).map (·.number)).getD 0
def pL(ps:List cB)(q:List Bool)(i:Nat):Prop:=q.getD i false=true/\∀j,q.getD j false=true->rV ps i<rV ps j\/(rV ps i=rV ps j/\i<=j)
def Qr(v q:List Bool)(k:Nat):List Bool:=if v.getD k false then q else q.set k true
def NW(ps:List cB)(user:ByteArray)(s:QS)(i:Nat):QS:=
 if s.1.getD i false|| !(m5 ps user).ex i (λj=>s.1.getD j false)then(s.1,s.2.set i false)
 else(s.1.set i true,(qI ps i).foldl (Qr (s.1.set i true)) (s.2.set i false))
inductive iY(ps:List cB)(user:ByteArray):Nat->QS->Prop
 |start:iY ps user 0 (List.replicate ps.length false,ps.map (·.found))
 |step {k:Nat} {s:QS} {i:Nat}:iY ps user k s->pL ps s.2 i->iY ps user (k+1) (NW ps user s i)
section
variable{ps:List cB}{user:ByteArray}
theorem pL.dZ{q:List Bool}{i j:Nat}(h:pL ps q i)(a:pL ps q j):i=j:=by
 have b:=h.2 j a.1
 have c:=a.2 i h.1
 omega
theorem iY.dZ:∀{k:Nat} {s t:QS},iY ps user k s->iY ps user k t->s=t
 |0,_,_,.start,.start=>rfl
 |k+1,_,_,.step h1 n1,.step h2 n2=>by
  have e:=iY.dZ h1 h2
  subst e
  rw[n1.dZ n2]
theorem iY.zj{m:Nat}:∀{k:Nat} {s:QS},iY ps user k s->m<k->∃t i,iY ps user m t/\pL ps t.2 i
 |0,_,_,hm=>absurd hm (by omega)
 |k+1,_,.step (i:=i) (s:=s) h n,hm=>by
  by_cases e:m=k
  ·subst e;exact⟨s,i,h,n⟩
  ·exact iY.zj h (by omega)
def ux(q:List Bool):Prop:=∀i,q.getD i false=false
theorem iY.last{k m:Nat}{s t:QS}(h:iY ps user k s)(b:ux s.2)(a:iY ps user m t)(g:ux t.2):k=m/\s=t:=by
 have c:∀{k m:Nat} {s t:QS},iY ps user k s->ux s.2->iY ps user m t->¬k<m:=by
  intro k m s t h b a f
  obtain⟨u,i,j,d⟩:=a.zj f
  have e:=h.dZ j
  subst e
  have:=d.1
  rw[b i]at this
  cases this
 have e:k=m:=by
  have l:=c h b a
  have n:=c a g h
  omega
 subst e
 exact⟨rfl,h.dZ a⟩
structure sM(ps:List cB)(user:ByteArray):Prop where
 ok:(m5 ps user).OK
 lt:∀p∈ps,∀x∈p.leads.flatten,x<ps.length
 nf:∀p∈ps,p.found=false->p.leads=[]
 ln:∀p∈ps,p.leads.length=p.nodes.length
theorem My{i j:Nat}:i∈qI ps j↔∃p,ps[i]? =some p/\j∈p.leads.flatten:=by
 unfold qI
 rw[List.mem_filter,List.mem_range]
 constructor
 ·rintro⟨a,b⟩
  rw[bE a,Option.map_some,Option.getD_some]at b
  exact⟨_,bE a,cq b⟩
 ·rintro⟨p,a,b⟩
  refine⟨(adP.1 a).1,?_⟩
  rw[a]
  simpa using b
theorem sM.back(h:sM ps user){i j:Nat}:i∈qI ps j↔(m5 ps user).to i j:=by
 rw[My]
 constructor
 ·rintro⟨p,c,d⟩
  obtain⟨l,b,k⟩:=adU.1 d
  obtain⟨e,f,m⟩:=adL.1 b
  have g:e<p.nodes.length:=by rw[<-h.ln p (aV c)];exact f
  refine⟨p,c,e,p.nodes[e],bE g,?_⟩
  rw[adV,bE f,m]
  exact k
 ·rintro⟨p,c,e,n,d,a⟩
  refine⟨p,c,adU.2 ?_⟩
  rw[adV]at a
  cases b:p.leads[e]? with
  |none=>rw[b]at a;cases a
  |some l=>rw[b]at a;exact⟨l,aV b,a⟩
end
section
variable{W:ByteArray->Bool}{F:ByteArray->ByteArray->Bool}{c:Cf}{num:List Nat}{sub:bc->List Sub}{k:bc}{N:Nat}
theorem gH.gr(a:gH c num sub k N):qq c num sub (opened c num sub k N).1 (opened c num sub k N).1.length:=by
 have h:=rO N a.2
 exact⟨h.one,λj p b d=>h.op j p (Nat.lt_of_lt_of_le b a.1) d⟩
theorem yN{x:bc}(h:(one c num x).found=false):(one c num x).nodes=[]:=by
 unfold one at h⊢
 split at h
 ·rfl
 ·cases h
theorem nt.ps(h:nt W F c num)(j:gH c num sub k N)(user:ByteArray):sM (opened c num sub k N).1 user:=by
 have f:=j.gr
 refine⟨h.MN j user,λp b x v=>?_,λp b n=>?_,λp b=>?_⟩
 ·obtain⟨i,a,e⟩:=adL.1 b
  have g:=(f.op i p a (by rw[bE a,e])).1
  obtain⟨l,s,t⟩:=adU.1 v
  obtain⟨m,o,q⟩:=adL.1 s
  have u:m<p.nodes.length:=by rw[<-g.1];exact o
  have d:=g.2 m _ (bE u)
  rw[adV,bE o,Option.getD_some,q]at d
  have r:((opened c num sub k N).1.map (·.k))[x]? ∈(eh c sub p.k p.nodes[m]).map some:=by rw[<-d];exact adQ.2 ⟨x,t,rfl⟩
  obtain⟨y,_,w⟩:=adQ.1 r
  have:=(adP.1 w.symm).1
  rwa [List.length_map]at this
 ·obtain⟨i,a,e⟩:=adL.1 b
  have g:=(f.op i p a (by rw[bE a,e])).1
  obtain⟨z,A,_⟩:=f.one p b
  rw[z]at n
  have:=yN n
  rw[<-A]at this
  have d:=g.1
  rw[this]at d
  exact List.eq_nil_of_length_eq_zero d
 ·obtain⟨i,a,e⟩:=adL.1 b
  exact(f.op i p a (by rw[bE a,e])).1.1
def gw(kind:Int):ByteArray:=
 if kind=1 then⟨#[116,104,105,115]⟩else if kind=2 then⟨#[114,101,108]⟩else if kind=3 then⟨#[97,114,114,111,119]⟩else if kind=4 then⟨#[111,114]⟩else if kind=5 then⟨#[97,110,100]⟩else⟨#[98,117,116]⟩
def kq(k:bc):ByteArray:=k.os++⟨#[58]⟩++k.oi++⟨#[35]⟩++k.rel
end
open Tryz
set_option maxRecDepth 4000
namespace LTY
theorem nA(v:Value)(xs:List Ty)(R:aw)(h:RS R 2 Ty.enc v xs)(i:xs.length<=1000000):
  Spec prog 86 [v] R [] λv' H'=>∃T,H'=[T]/\OS 186 2 Ty.enc v' xs T:=by
 obtain⟨b,d,rfl⟩:=h.val
 have f:∀H,RS (Rx R H) 2 Ty.enc (.slice b xs.length d) xs:=λH=>h.rx
 refine Spec.fP (H':=[[]]) (by simp) ?_
 refine Spec.body func86 rfl results86 ntmps86 rfl ?_
 refine .sr<|.ag rfl<|.zs<|.sr<|.mo rfl<|.q (.qT rfl rfl) ?_
 refine .zn ?_
 refine .cond rfl (λa=>?_) λa=>?_
 refine .sr<|.az rfl ?_
 refine .ret (aI (bu _ (.one (.tmp rfl)) (.one [0] _) ?_))
 ·obtain rfl:b=none:=by simpa using a
  have:=h.rI
  subst this
  exact⟨[],rfl,OS.nil⟩
 refine .kn<|.sr ?_
 refine .qK (λg=>?_)
 refine .mo rfl ?_
 refine .append (OS.empty (enc:=Ty.enc) (sz:=2)) (f _) (by simp;omega) (λv' c e=>?_)
 refine .az rfl ?_
 refine .ret (bu _ (.one (.tmp rfl)) (.one [0] _) ?_)
 ·exact⟨c,by simp[take],by simpa using e⟩
theorem li(f:FuncId)(caps:List Value) [e:aT prog f](p:Ty->Bool)(v:Value)(l:List Ty)(R:aw)(h:RS R 2 Ty.enc v l)(D:∀s∈l,∀R',(∀b o,R b o->R' b o)->Spec prog f ((λt:Ty=>Value.agg t.enc.toArray) s::caps) R' [] λu H'=>u=.bool (p s)/\H'=[]):
  Spec prog 164 [v,.func (.func f) #[] caps.toArray] R [] λu H'=>(∃k:Int,u=.int .i64 k/\((∃(i:Nat) (x:Ty),l[i]? =some x/\p x=true/\(∀j y,j<i->l[j]? =some y->p y=false)/\k=i)\/((∀y∈l,p y=false)/\k= -1)))/\H'=[]:=by
 have H:=h.le
 refine Spec.body func164 rfl results164 ntmps164 rfl ?_
 refine .sr<|.ag rfl<|.zs<|.sr<|.mo rfl<|.q (.bL h) ?_
 refine .mo rfl<|.zn<|.block ?_
 refine .loop (X:=Nat) (λi=>i<=l.length/\∀j z,j<i->l[j]? =some z->p z=false) (λi=>[(0,v),(1,.func (.func f) #[] caps.toArray),(7,.int .i64 l.length),(8,iN i)]) (λ_=>[]) (λi=>l.length-i) 0 ⟨by omega,by omega⟩ kE.c.c.c.c rH ?_
 rintro i ⟨G,w⟩
 refine .sr<|.q .lss<|.zs ?_
 refine .cond rfl (λg=>?_) λg=>?_
 have E:i<l.length:=by simp at g;omega
 obtain⟨z,d⟩:=cm E
 have A:=aV d
 have I:=(⟨h.one z A⟩:bZ (Ty.enc z))
 refine .kn<|.seq<|.block<|.sr<|.mo rfl<|.ag rfl<|.z<|.mo rfl<|.mo rfl<|.mo rfl ?_
 refine .bI i h d (λJ=>?_)
 refine .q (.aP rfl) ?_
 refine .fY (first:=[]) (captured:=caps) (vs:=[(λt:Ty=>Value.agg t.enc.toArray) z]) (D z A _ λb o B=>.inl B) (λu F=>?_)
 subst F
 refine .zn ?_
 refine .cond rfl (λm=>?_) λm=>?_
 refine .sr<|.mo rfl<|.az rfl ?_
 refine .ret (bf (aI (cK (bf (aI (aM rfl ?_))))))
 ·exact⟨⟨_,rfl,.inl ⟨i,z,d,m,w,rfl⟩⟩,rfl⟩
 refine .skip<|bi<|ay<|.region ?_
 refine .q (.inc (n:=i) (by omega)) ?_
 refine .mo rfl<|.nil ?_
 ·exact aW (i+1) ⟨by omega,λj y r a=>by
   rcases adM j i with hh|hh
   ·exact w j y hh a
   ·obtain rfl:j=i:=by omega
    rw[d]at a;cases a;exact m⟩ (by omega) kE.c.c.c.c rH
 refine .exit<|bz<|bG<|bB<|ay<|.sr<|.az rfl ?_
 refine .ret (aM rfl ?_)
 ·have C:i=l.length:=by simp at g;omega
  subst C
  refine⟨⟨_,rfl,.inr ⟨λy a=>?_,rfl⟩⟩,rfl⟩
  obtain⟨j,r,rfl⟩:=adL.1 a
  exact w j _ r (bE r)
theorem jd(f:FuncId)(caps:List Value) [e:aT prog f](p:Ty->Bool)(v:Value)(l:List Ty)(R:aw)(h:RS R 2 Ty.enc v l)(j:∀s∈l,∀R',(∀b o,R b o->R' b o)->Spec prog f ((λt:Ty=>Value.agg t.enc.toArray) s::caps) R' [] λu H'=>u=.bool (p s)/\H'=[]):
  Spec prog 126 [v,.func (.func f) #[] caps.toArray] R [] λu H'=>u=.bool (l.any p)/\H'=[]:=by
 refine Spec.body func126 rfl results126 ntmps126 rfl ?_
 refine .sr<|.ag rfl<|.z<|.mo rfl<|.mo rfl ?_
 refine .aR (li f caps p v l _ h.rx λs r R' d=>j s r R' λb o g=>d b o (.inl g)) (λu w=>?_)
 obtain⟨k,rfl,m⟩:=w
 have n:decide (0<=k)=l.any p:=by
  rcases m with⟨i,x,a,c,_,rfl⟩|⟨a,rfl⟩
  ·rw[adR.2 ⟨x,aV a,c⟩];simp
  ·rw[adS.2 λy A=>by rw[a y A];simp];rfl
 refine .q .geq<|.az rfl ?_
 refine .ret (aM rfl ?_)
 ·exact⟨by simp only[n],rfl⟩
end LTY
namespace LSC
theorem nA(v:Value)(xs:List Sc)(R:aw)(h:RS R 4 Sc.enc v xs)(i:xs.length<=1000000):
  Spec prog 88 [v] R [] λv' H'=>∃T,H'=[T]/\OS 106 4 Sc.enc v' xs T:=by
 obtain⟨b,d,rfl⟩:=h.val
 have f:∀H,RS (Rx R H) 4 Sc.enc (.slice b xs.length d) xs:=λH=>h.rx
 refine Spec.fP (H':=[[]]) (by simp) ?_
 refine Spec.body func88 rfl results88 ntmps88 rfl ?_
 refine .sr<|.ag rfl<|.zs<|.sr<|.mo rfl<|.q (.qT rfl rfl) ?_
 refine .zn ?_
 refine .cond rfl (λa=>?_) λa=>?_
 refine .sr<|.az rfl ?_
 refine .ret (aI (bu _ (.one (.tmp rfl)) (.one [0] _) ?_))
 ·obtain rfl:b=none:=by simpa using a
  have:=h.rI
  subst this
  exact⟨[],rfl,OS.nil⟩
 refine .kn<|.sr ?_
 refine .qK (λg=>?_)
 refine .mo rfl ?_
 refine .append (OS.empty (enc:=Sc.enc) (sz:=4)) (f _) (by simp;omega) (λv' c e=>?_)
 refine .az rfl ?_
 refine .ret (bu _ (.one (.tmp rfl)) (.one [0] _) ?_)
 ·exact⟨c,by simp[take],by simpa using e⟩
theorem li(f:FuncId)(caps:List Value) [e:aT prog f](p:Sc->Bool)(v:Value)(l:List Sc)(R:aw)(h:RS R 4 Sc.enc v l)(D:∀s∈l,∀R',(∀b o,R b o->R' b o)->Spec prog f ((λt:Sc=>Value.agg t.enc.toArray) s::caps) R' [] λu H'=>u=.bool (p s)/\H'=[]):
  Spec prog 165 [v,.func (.func f) #[] caps.toArray] R [] λu H'=>(∃k:Int,u=.int .i64 k/\((∃(i:Nat) (x:Sc),l[i]? =some x/\p x=true/\(∀j y,j<i->l[j]? =some y->p y=false)/\k=i)\/((∀y∈l,p y=false)/\k= -1)))/\H'=[]:=by
 have H:=h.le
 refine Spec.body func165 rfl results165 ntmps165 rfl ?_
 refine .sr<|.ag rfl<|.zs<|.sr<|.mo rfl<|.q (.bL h) ?_
 refine .mo rfl<|.zn<|.block ?_
 refine .loop (X:=Nat) (λi=>i<=l.length/\∀j z,j<i->l[j]? =some z->p z=false) (λi=>[(0,v),(1,.func (.func f) #[] caps.toArray),(7,.int .i64 l.length),(8,iN i)]) (λ_=>[]) (λi=>l.length-i) 0 ⟨by omega,by omega⟩ kE.c.c.c.c rH ?_
 rintro i ⟨G,w⟩
 refine .sr<|.q .lss<|.zs ?_
 refine .cond rfl (λg=>?_) λg=>?_
 have E:i<l.length:=by simp at g;omega
 obtain⟨z,d⟩:=cm E
 have A:=aV d
 have I:=(⟨h.one z A⟩:bZ (Sc.enc z))
 refine .kn<|.seq<|.block<|.sr<|.mo rfl<|.ag rfl<|.z<|.mo rfl<|.mo rfl<|.mo rfl ?_
 refine .bI i h d (λJ=>?_)
 refine .q (.aP rfl) ?_
 refine .fY (first:=[]) (captured:=caps) (vs:=[(λt:Sc=>Value.agg t.enc.toArray) z]) (D z A _ λb o B=>.inl B) (λu F=>?_)
 subst F
 refine .zn ?_
 refine .cond rfl (λm=>?_) λm=>?_
 refine .sr<|.mo rfl<|.az rfl ?_
 refine .ret (bf (aI (cK (bf (aI (aM rfl ?_))))))
 ·exact⟨⟨_,rfl,.inl ⟨i,z,d,m,w,rfl⟩⟩,rfl⟩
 refine .skip<|bi<|ay<|.region ?_
 refine .q (.inc (n:=i) (by omega)) ?_
 refine .mo rfl<|.nil ?_
 ·exact aW (i+1) ⟨by omega,λj y r a=>by
   rcases adM j i with hh|hh
   ·exact w j y hh a
   ·obtain rfl:j=i:=by omega
    rw[d]at a;cases a;exact m⟩ (by omega) kE.c.c.c.c rH
 refine .exit<|bz<|bG<|bB<|ay<|.sr<|.az rfl ?_
 refine .ret (aM rfl ?_)
 ·have C:i=l.length:=by simp at g;omega
  subst C
  refine⟨⟨_,rfl,.inr ⟨λy a=>?_,rfl⟩⟩,rfl⟩
  obtain⟨j,r,rfl⟩:=adL.1 a
  exact w j _ r (bE r)
theorem jd(f:FuncId)(caps:List Value) [e:aT prog f](p:Sc->Bool)(v:Value)(l:List Sc)(R:aw)(h:RS R 4 Sc.enc v l)(j:∀s∈l,∀R',(∀b o,R b o->R' b o)->Spec prog f ((λt:Sc=>Value.agg t.enc.toArray) s::caps) R' [] λu H'=>u=.bool (p s)/\H'=[]):
  Spec prog 129 [v,.func (.func f) #[] caps.toArray] R [] λu H'=>u=.bool (l.any p)/\H'=[]:=by
 refine Spec.body func129 rfl results129 ntmps129 rfl ?_
 refine .sr<|.ag rfl<|.z<|.mo rfl<|.mo rfl ?_
 refine .aR (li f caps p v l _ h.rx λs r R' d=>j s r R' λb o g=>d b o (.inl g)) (λu w=>?_)
 obtain⟨k,rfl,m⟩:=w
 have n:decide (0<=k)=l.any p:=by
  rcases m with⟨i,x,a,c,_,rfl⟩|⟨a,rfl⟩
  ·rw[adR.2 ⟨x,aV a,c⟩];simp
  ·rw[adS.2 λy A=>by rw[a y A];simp];rfl
 refine .q .geq<|.az rfl ?_
 refine .ret (aM rfl ?_)
 ·exact⟨by simp only[n],rfl⟩
end LSC
namespace LRE
theorem li(f:FuncId)(caps:List Value) [e:aT prog f](p:cv->Bool)(v:Value)(l:List cv)(R:aw)(h:RS R 3 cv.enc v l)(D:∀s∈l,∀R',(∀b o,R b o->R' b o)->Spec prog f ((λt:cv=>Value.agg t.enc.toArray) s::caps) R' [] λu H'=>u=.bool (p s)/\H'=[]):
  Spec prog 197 [v,.func (.func f) #[] caps.toArray] R [] λu H'=>(∃k:Int,u=.int .i64 k/\((∃(i:Nat) (x:cv),l[i]? =some x/\p x=true/\(∀j y,j<i->l[j]? =some y->p y=false)/\k=i)\/((∀y∈l,p y=false)/\k= -1)))/\H'=[]:=by
 have H:=h.le
 refine Spec.body func197 rfl results197 ntmps197 rfl ?_
 refine .sr<|.ag rfl<|.zs<|.sr<|.mo rfl<|.q (.bL h) ?_
 refine .mo rfl<|.zn<|.block ?_
 refine .loop (X:=Nat) (λi=>i<=l.length/\∀j z,j<i->l[j]? =some z->p z=false) (λi=>[(0,v),(1,.func (.func f) #[] caps.toArray),(7,.int .i64 l.length),(8,iN i)]) (λ_=>[]) (λi=>l.length-i) 0 ⟨by omega,by omega⟩ kE.c.c.c.c rH ?_
 rintro i ⟨G,w⟩
 refine .sr<|.q .lss<|.zs ?_
 refine .cond rfl (λg=>?_) λg=>?_
 have E:i<l.length:=by simp at g;omega
 obtain⟨z,d⟩:=cm E
 have A:=aV d
 have I:=(⟨h.one z A⟩:bZ (cv.enc z))
 refine .kn<|.seq<|.block<|.sr<|.mo rfl<|.ag rfl<|.z<|.mo rfl<|.mo rfl<|.mo rfl ?_
 refine .bI i h d (λJ=>?_)
 refine .q (.aP rfl) ?_
 refine .fY (first:=[]) (captured:=caps) (vs:=[(λt:cv=>Value.agg t.enc.toArray) z]) (D z A _ λb o B=>.inl B) (λu F=>?_)
 subst F
 refine .zn ?_
 refine .cond rfl (λm=>?_) λm=>?_
 refine .sr<|.mo rfl<|.az rfl ?_
 refine .ret (bf (aI (cK (bf (aI (aM rfl ?_))))))
 ·exact⟨⟨_,rfl,.inl ⟨i,z,d,m,w,rfl⟩⟩,rfl⟩
 refine .skip<|bi<|ay<|.region ?_
 refine .q (.inc (n:=i) (by omega)) ?_
 refine .mo rfl<|.nil ?_
 ·exact aW (i+1) ⟨by omega,λj y r a=>by
   rcases adM j i with hh|hh
   ·exact w j y hh a
   ·obtain rfl:j=i:=by omega
    rw[d]at a;cases a;exact m⟩ (by omega) kE.c.c.c.c rH
 refine .exit<|bz<|bG<|bB<|ay<|.sr<|.az rfl ?_
 refine .ret (aM rfl ?_)
 ·have C:i=l.length:=by simp at g;omega
  subst C
  refine⟨⟨_,rfl,.inr ⟨λy a=>?_,rfl⟩⟩,rfl⟩
  obtain⟨j,r,rfl⟩:=adL.1 a
  exact w j _ r (bE r)
theorem jd(f:FuncId)(caps:List Value) [e:aT prog f](p:cv->Bool)(v:Value)(l:List cv)(R:aw)(h:RS R 3 cv.enc v l)(j:∀s∈l,∀R',(∀b o,R b o->R' b o)->Spec prog f ((λt:cv=>Value.agg t.enc.toArray) s::caps) R' [] λu H'=>u=.bool (p s)/\H'=[]):
  Spec prog 157 [v,.func (.func f) #[] caps.toArray] R [] λu H'=>u=.bool (l.any p)/\H'=[]:=by
 refine Spec.body func157 rfl results157 ntmps157 rfl ?_
 refine .sr<|.ag rfl<|.z<|.mo rfl<|.mo rfl ?_
 refine .aR (li f caps p v l _ h.rx λs r R' d=>j s r R' λb o g=>d b o (.inl g)) (λu w=>?_)
 obtain⟨k,rfl,m⟩:=w
 have n:decide (0<=k)=l.any p:=by
  rcases m with⟨i,x,a,c,_,rfl⟩|⟨a,rfl⟩
  ·rw[adR.2 ⟨x,aV a,c⟩];simp
  ·rw[adS.2 λy A=>by rw[a y A];simp];rfl
 refine .q .geq<|.az rfl ?_
 refine .ret (aM rfl ?_)
 ·exact⟨by simp only[n],rfl⟩
end LRE
namespace LND
theorem nA(v:Value)(xs:List Nd)(R:aw)(h:RS R 5 Nd.enc v xs)(i:xs.length<=1000000):
  Spec prog 87 [v] R [] λv' H'=>∃T,H'=[T]/\OS 204 5 Nd.enc v' xs T:=by
 obtain⟨b,d,rfl⟩:=h.val
 have f:∀H,RS (Rx R H) 5 Nd.enc (.slice b xs.length d) xs:=λH=>h.rx
 refine Spec.fP (H':=[[]]) (by simp) ?_
 refine Spec.body func87 rfl results87 ntmps87 rfl ?_
 refine .sr<|.ag rfl<|.zs<|.sr<|.mo rfl<|.q (.qT rfl rfl) ?_
 refine .zn ?_
 refine .cond rfl (λa=>?_) λa=>?_
 refine .sr<|.az rfl ?_
 refine .ret (aI (bu _ (.one (.tmp rfl)) (.one [0] _) ?_))
 ·obtain rfl:b=none:=by simpa using a
  have:=h.rI
  subst this
  exact⟨[],rfl,OS.nil⟩
 refine .kn<|.sr ?_
 refine .qK (λg=>?_)
 refine .mo rfl ?_
 refine .append (OS.empty (enc:=Nd.enc) (sz:=5)) (f _) (by simp;omega) (λv' c e=>?_)
 refine .az rfl ?_
 refine .ret (bu _ (.one (.tmp rfl)) (.one [0] _) ?_)
 ·exact⟨c,by simp[take],by simpa using e⟩
end LND
section
variable{c:Cf}{num:List Nat}{sub:bc->List Sub}{k:bc}
theorem gH.ex{B:Nat}(h:∀i,(opened c num sub k i).1.length<=B):∃N,gH c num sub k N:=by
 have b:∀m,(∃N,N<=m/\gH c num sub k N)\/∀j,j<=m->j<(opened c num sub k j).1.length:=by
  intro m
  induction m with
  |zero=>
   refine .inr λj a=>?_
   obtain rfl:j=0:=by omega
   simp[opened]
  |succ m ih=>
   rcases ih with⟨N,h1,h2⟩|ih
   ·exact .inl ⟨N,by omega,h2⟩
   ·by_cases h1:m+1<(opened c num sub k (m+1)).1.length
    ·exact .inr λj a=>by
      rcases adM j (m+1)with h2|h2
      ·exact ih j (by omega)
      ·obtain rfl:j=m+1:=by omega
       exact h1
    ·exact .inl ⟨m+1,Nat.le_refl _,by omega,λj a=>ih j (by omega)⟩
 rcases b (B+1)with⟨N,_,h1⟩|h1
 ·exact⟨N,h1⟩
 ·have:=h1 (B+1) (Nat.le_refl _)
  have:=h (B+1)
  omega
def lI(c:Cf)(num:List Nat)(sub:bc->List Sub)(k:bc)(b:Int)(can:Bool)(N:Nat):List cB×Nat×Int:=
 if b<1 then([],0,2)else if can=false then([],0,12)
 else if(((opened c num sub k N).1.length+(opened c num sub k N).2:Nat):Int)<=b then((opened c num sub k N).1,(opened c num sub k N).2,0)else([],0,16)
theorem K9{P:bc->Prop}{a b:List cB}(h:Grown c num P a b){i:Nat}(e:∀j p,i<=j->a[j]? =some p->p=one c num p.k):∀j p,i<=j->b[j]? =some p->p=one c num p.k:=by
 obtain⟨⟨l,rfl,g⟩,_⟩:=h
 intro j p f d
 rcases adM j a.length with h1|h1
 ·rw[List.getElem?_append_left h1]at d
  exact e j p f d
 ·rw[List.getElem?_append_right h1]at d
  exact(g p (aV d)).2
theorem yP:∀(i:Nat) (j:Nat) (p:cB),i<=j->(opened c num sub k i).1[j]? =some p->p=one c num p.k
 |0,j,p,_,a=>by
  have:=aV a
  simp only[opened,List.mem_singleton]at this
  subst this
  rw[pX]
 |i+1,j,p,b,a=>by
  have d:=λj p b a=>yP i j p b a
  change (eX c num sub (opened c num sub k i).1 i).1[j]? =some p at a
  unfold eX at a
  split at a
  ·exact d j p (by omega) a
  ·rw[List.getElem?_set_ne (by omega)]at a
   exact K9 (lG _ _ _) d j p (by omega) a
theorem Nl{ps:List cB}{i:Nat}{p:cB}(d:ps[i]? =some p)(a:p=one c num p.k)(b:p.found=false):eX c num sub ps i=(ps,0):=by
 have g:p.nodes=[]:=by rw[a];exact yN (by rw[<-a];exact b)
 have q:p.gk=[]/\p.leads=[]:=by
  rw[a]
  unfold one
  split<;>exact⟨rfl,rfl⟩
 obtain⟨h,o⟩:=q
 obtain⟨k,f,n,m,u,l⟩:=p
 simp only at h o g b
 subst h o g b
 unfold eX
 rw[d]
 simp only[dp,Bool.false_eq_true,if_false]
 refine Prod.ext ?_ rfl
 refine List.ext_getElem? λj=>?_
 rw[List.getElem?_set]
 split
 ·rename_i e;subst e
  have:=(adP.1 d).1
  rw[if_pos this,d]
 ·rfl
theorem vJ:∀(ks:List bc) (ps:List cB) (x:bc),dJ c num ps (ks++[x])=((ff c num (dJ c num ps ks).1 x).1,(dJ c num ps ks).2++[(ff c num (dJ c num ps ks).1 x).2])
 |[],ps,x=>rfl
 |y::ks,ps,x=>by
  rw[adT,dJ,vJ ks _ x]
  rfl
theorem vO(y:bc):∀(ns:List Nd) (ps:List cB) (n:Nd),dp c num sub y ps (ns++[n])=((dJ c num (dp c num sub y ps ns).1 (eh c sub y n)).1,(dp c num sub y ps ns).2++[(dJ c num (dp c num sub y ps ns).1 (eh c sub y n)).2])
 |[],ps,n=>rfl
 |m::ns,ps,n=>by
  rw[adT,dp,vO y ns _ n]
  rfl
theorem AR{ks:List bc}{i:Nat}{x:bc}(h:ks[i]? =some x)(ps:List cB):dJ c num ps (ks.take (i+1))=((ff c num (dJ c num ps (ks.take i)).1 x).1,(dJ c num ps (ks.take i)).2++[(ff c num (dJ c num ps (ks.take i)).1 x).2]):=by
 rw[show ks.take (i+1)=ks.take i++[x] by rw[adN,h];rfl,vJ]
theorem AU{a:List Nd}{i:Nat}{n:Nd}(h:a[i]? =some n)(y:bc)(ps:List cB):dp c num sub y ps (a.take (i+1))=((dJ c num (dp c num sub y ps (a.take i)).1 (eh c sub y n)).1,(dp c num sub y ps (a.take i)).2++[(dJ c num (dp c num sub y ps (a.take i)).1 (eh c sub y n)).2]):=by
 rw[show a.take (i+1)=a.take i++[n] by rw[adN,h];rfl,vO]
theorem vG:∀(a b:List bc) (ps:List cB),(dJ c num ps (a++b)).1=(dJ c num (dJ c num ps a).1 b).1
 |[],b,ps=>rfl
 |x::a,b,ps=>by rw[adT,dJ,dJ];exact vG a b _
theorem vM(y:bc):∀(a b:List Nd) (ps:List cB),(dp c num sub y ps (a++b)).1=(dp c num sub y (dp c num sub y ps a).1 b).1
 |[],b,ps=>rfl
 |x::a,b,ps=>by rw[adT,dp,dp];exact vM y a b _
theorem AQ(ks:List bc)(i:Nat)(ps:List cB):(dJ c num ps (ks.take i)).1.length<=(dJ c num ps ks).1.length:=by
 have h:=vG (c:=c) (num:=num) (ks.take i) (ks.drop i) ps
 rw[List.take_append_drop]at h
 rw[h]
 exact(oe _ _).len
theorem AT(y:bc)(a:List Nd)(i:Nat)(ps:List cB):(dp c num sub y ps (a.take i)).1.length<=(dp c num sub y ps a).1.length:=by
 have h:=vM (c:=c) (num:=num) (sub:=sub) y (a.take i) (a.drop i) ps
 rw[List.take_append_drop]at h
 rw[h]
 exact(lG _ _ _).len
theorem AP(ks:List bc)(ps:List cB):ps.length<=(dJ c num ps ks).1.length:=(oe _ _).len
theorem AS(y:bc)(a:List Nd)(ps:List cB):ps.length<=(dp c num sub y ps a).1.length:=(lG _ _ _).len
def kP(a:List Nat)(l:List Nat):List Nat:=l.foldl (λa x=>if x∈a then a else a++[x]) a
theorem zJ(a l m:List Nat):kP a (l++m)=kP (kP a l) m:=List.foldl_append
theorem Pc(a:List Nat)(x:Nat):kP a [x]=if x∈a then a else a++[x]:=rfl
theorem Pd{l:List Nat}{i x:Nat}(h:l[i]? =some x)(a:List Nat):kP a (l.take (i+1))=if x∈kP a (l.take i)then kP a (l.take i)else kP a (l.take i)++[x]:=by
 rw[show l.take (i+1)=l.take i++[x] by rw[adN,h];rfl,zJ,Pc]
theorem Nj{ps:List cB}{i:Nat}{p:cB}(a:ps[i]? =some p):eX c num sub ps i=((dp c num sub p.k ps p.nodes).1.set i {p with gk:=if p.found then ig c sub p.k else [],leads:=(dp c num sub p.k ps p.nodes).2},m4 (dp c num sub p.k ps p.nodes).2.flatten):=by unfold eX;rw[a]
theorem Ns(i:Nat):opened c num sub k (i+1)=((eX c num sub (opened c num sub k i).1 i).1,(opened c num sub k i).2+(eX c num sub (opened c num sub k i).1 i).2):=rfl
end
theorem M5{W:ByteArray->Bool}{l:List Nd}(h:fC W l≠0):∀n∈l,1<=n.kind/\n.kind<=6/\(n.rel=⟨#[]⟩\/W n.rel=true)/\(n.dx=⟨#[]⟩\/W n.dx=true):=λn o=>by
 unfold fC at h
 cases ht:tree W l l.length with
 |none=>rw[ht]at h;exact absurd rfl h
 |some p=>
  obtain⟨b,x⟩:=p
  rw[ht]at h
  simp only at h
  have m:b=0:=by
   by_cases d:b=0
   ·exact d
   ·rw[if_neg d]at h;exact absurd rfl h
  subst m
  obtain⟨i,f,e⟩:=adL.1 o
  have q:=(ju _ _ ht).2.2.2 i (Nat.zero_le _) f
  have g:l[i]? =some n:=by rw[bE f,e]
  obtain⟨r,c⟩:=Option.isSome_iff_exists.1 q
  cases ho:n.op with
  |true=>
   obtain⟨_,_,_,_,_,_,_,_,j,k,_⟩:=ni g ho c
   unfold Nd.op at ho
   simp only[Bool.or_eq_true,beq_iff_eq]at ho
   exact⟨by omega,by omega,.inl j,.inl k⟩
  |false=>
   rw[kT g ho]at c
   split at c
   ·rename_i a
    unfold Nd.leaf at a
    simp only[adO]at a
    obtain⟨_,a⟩:=a
    split at a
    ·simp only[adO,adW]at a
     exact⟨by omega,by omega,.inl a.1,.inl a.2⟩
    ·split at a
     ·simp only[adO,adW]at a
      exact⟨by omega,by omega,.inr a.1,.inl a.2⟩
     ·split at a
      ·simp only[adO]at a
       exact⟨by omega,by omega,.inr a.1,.inr a.2⟩
      ·cases a
   ·cases c
section
variable{W:ByteArray->Bool}{F:ByteArray->ByteArray->Bool}{c:Cf}{num:List Nat}{sub:bc->List Sub}
theorem ui(d:c.right W F=true){k:bc}:∀n∈(one c num k).nodes,1<=n.kind/\n.kind<=6/\(n.rel=⟨#[]⟩\/W n.rel=true)/\(n.dx=⟨#[]⟩\/W n.dx=true):=λn b=>by
 obtain⟨y,e,b⟩:=rN b
 have a:=(m9 d y e).1
 unfold mH at a
 simp only[adO,bne_iff_ne,ne_eq]at a
 exact M5 a.1.2 n b
def jq(B:Nat)(x:bc):Prop:=x.os.size<=B/\x.oi.size<=B/\x.rel.size<=B
theorem BC{B:Nat}(j:c.right W F=true)(d:∀s,W s=true->s.size<=B)(f:∀k,∀s∈sub k,s.ss.size<=B/\s.si.size<=B/\s.sr.size<=B):np c num sub (jq B):=λx g n l y a=>by
 obtain⟨_,_,h3,h4⟩:=ui j n l
 have m:n.rel.size<=B:=by
  rcases h3 with h3|h3
  ·rw[h3];exact Nat.zero_le _
  ·exact d _ h3
 have o:n.dx.size<=B:=by
  rcases h4 with h4|h4
  ·rw[h4];exact Nat.zero_le _
  ·exact d _ h4
 have e:∀z s,s∈fK c sub z->s∈sub z:=λz s b=>by
  unfold fK fitting at b
  exact(List.mem_filter.1 (List.mem_filter.1 b).1).1
 unfold eh at a
 split at a
 ·obtain⟨s,b,rfl⟩:=adQ.1 a
  exact f _ s (e _ s b)
 ·split at a
  ·obtain⟨s,b,rfl⟩:=adQ.1 a
   obtain⟨h,i,_⟩:=f _ s (e _ s b)
   exact⟨h,i,o⟩
  ·split at a
   ·rw[List.mem_singleton]at a
    subst a
    exact⟨g.1,g.2.1,m⟩
   ·cases a
theorem Nr{B:Nat}(b:c.right W F=true)(a:∀s,W s=true->s.size<=B)(f:∀k,∀s∈sub k,s.ss.size<=B/\s.si.size<=B/\s.sr.size<=B){k:bc}(d:jq B k)(i:Nat):∀p∈(opened c num sub k i).1,jq B p.k:=
 λp e=>((pY (BC b a f) d i).u p e).1
end
inductive J where
 |mk (kind:Int) (b:Bool) (n:Int) (text:ByteArray) (list:List J) (keys:List ByteArray)
inductive di(R:aw):List Value->J->Prop
 |mk {kind:Int} {b:Bool} {n:Int} {text:ByteArray} {vl vk:Value} {l:List (List Value×J)} {keys:List ByteArray} (hl:RS R 6 (λp:List Value×J=>p.1) vl l) (hk:RS R 1 dV vk keys) (h:∀p∈l,di R p.1 p.2):
  di R [.int .i64 kind,.bool b,.int .i64 n,.string text,vl,vk] (.mk kind b n text (l.map (·.2)) keys)
theorem di.mono{R R':aw}(a:∀b o,R b o->R' b o){cs:List Value}{j:J}(h:di R cs j):di R' cs j:=by
 induction h with
 |mk hl hk _ ih=>exact .mk (hl.mono a) (hk.mono a) ih
theorem di.cN{R:aw}{cs:List Value}{j:J}(h:di R cs j):∀u∈cs,aq u=true:=by
 cases h with
 |mk hl hk _=>
  have b:=hl.aq
  have c:=hk.aq
  intro u a
  simp only[List.mem_cons,List.not_mem_nil,or_false]at a
  rcases a with rfl|rfl|rfl|rfl|rfl|rfl
  ·rfl
  ·rfl
  ·rfl
  ·rfl
  ·exact b.h
  ·exact c.h
theorem di.open{R:aw}{cs:List Value}{j:J}(h:di R cs j):∃(kind:Int) (b:Bool) (n:Int) (text:ByteArray) (vl vk:Value) (l:List (List Value×J)) (keys:List ByteArray),
  cs=[.int .i64 kind,.bool b,.int .i64 n,.string text,vl,vk]/\j=.mk kind b n text (l.map (·.2)) keys/\RS R 6 (λp:List Value×J=>p.1) vl l/\RS R 1 dV vk keys/\∀p∈l,di R p.1 p.2:=by
 cases h with
 |mk hl hk h=>exact⟨_,_,_,_,_,_,_,_,rfl,rfl,hl,hk,h⟩
def m1:J:=.mk 0 false 0 ⟨#[]⟩ [] []
def nH(b:Bool):J:=.mk 1 b 0 ⟨#[]⟩ [] []
def ko(n:Int):J:=.mk 2 false n ⟨#[]⟩ [] []
def dG(s:ByteArray):J:=.mk 3 false 0 s [] []
def eE(l:List J):J:=.mk 4 false 0 ⟨#[]⟩ l []
def iF(ks:List ByteArray)(l:List J):J:=.mk 5 false 0 ⟨#[]⟩ l ks
theorem O1(v w:Value)(l m:List ByteArray)(R:aw)(h:RS R 1 dV v l)(k:RS R 1 dV w m):
  Spec prog 31 [v,w] R [] λu H'=>u=.bool (decide (l=m))/\H'=[]:=by
 have t:=h.le
 refine Spec.body func31 rfl results31 ntmps31 rfl ?_
 refine .sr<|.ag rfl<|.zs<|.sr<|.mo rfl<|.q (.bL h) ?_
 refine .mo rfl<|.q (.bL k) ?_
 refine .q .eT<|.zn ?_
 refine .cond rfl (λb=>?_) λb=>?_
 refine .sr<|.az rfl ?_
 refine .ret (aI (aM rfl ?_))
 ·exact⟨by rw[decide_eq_false (λe:l=m=>by simp[e]at b)],rfl⟩
 have x:l.length=m.length:=by simp at b;omega
 refine .kn<|.seq<|.sr<|.az rfl<|.block ?_
 refine .loop (X:=Nat) (λi=>i<=l.length/\l.take i=m.take i) (λi=>[(0,v),(1,w),(5,iN i)]) (λ_=>[]) (λi=>l.length-i) 0 ⟨by omega,by simp⟩ kE.c.c.c rH ?_
 rintro i ⟨s,g⟩
 refine .seq<|.sr<|.mo rfl<|.mo rfl<|.q (.bL h) ?_
 refine .q .lss<|.zn ?_
 refine .cond rfl (λd=>?_) λd=>?_
 have p:i<l.length:=by simp at d;omega
 obtain⟨z,a⟩:=cm p
 obtain⟨y,j⟩:∃y,m[i]? =some y:=⟨_,bE (by omega)⟩
 refine .kn<|.seq<|.block<|.seq ?_
 refine .eo mixed (by kernel_rfl) ?_
 refine .mo rfl<|.mo rfl ?_
 refine .bI i h a (λB=>?_)
 refine .lo rfl<|.mo rfl<|.mo rfl ?_
 refine .bI i k j (λA=>?_)
 refine .lo rfl<|.q .gd<|.zn ?_
 refine .cond rfl (λf=>?_) λf=>?_
 refine .sr<|.az rfl ?_
 refine .ret (bf (aI (cK (bf (aI (aM rfl ?_))))))
 ·refine⟨?_,rfl⟩
  have r:z≠y:=by simpa using f
  rw[decide_eq_false (λe:l=m=>r (by rw[e,j]at a;cases a;rfl))]
 refine .skip<|bi<|ay<|.region<|.mo rfl ?_
 refine .q (.inc (n:=i) (by omega)) ?_
 refine .ag rfl<|.nil ?_
 ·exact aW (i+1) ⟨by omega,by
   have e:z=y:=by simpa using f
   rw[adN,adN,g,a,j,e]⟩ (by omega) kE.c.c.c rH
 refine .exit<|bz<|bG<|bB<|ay<|.sr<|.az rfl ?_
 refine .ret (aM rfl ?_)
 ·refine⟨?_,rfl⟩
  have o:i=l.length:=by simp at d;omega
  rw[o,List.take_length,List.take_of_length_le (by omega)]at g
  rw[decide_eq_true g]
abbrev JP:=List Value×J
abbrev iE(p:JP):List Value:=p.1
theorem nh{cs:List Value}(h:cs.length=6):∃a b c d f g,cs=[a,b,c,d,f,g]:=by
 match cs,h with
 |[a,b,c,d,f,g],_=>exact⟨a,b,c,d,f,g,rfl⟩
def jW(c:UInt8):Bool:=decide (32<=c.toNat)&&(decide (c.toNat<127)&&(decide (c≠34)&&decide (c≠92)))
def dm(s:ByteArray):Prop:=∀c∈s.data.toList,jW c=true
def dF:Nat->J->Prop
 |0,_=>False
 |d+1,.mk k b n s l ks=>
  (k=1/\n=0/\s=⟨#[]⟩/\l=[]/\ks=[])\/
  (k=2/\b=false/\(0<=n/\n<64)/\s=⟨#[]⟩/\l=[]/\ks=[])\/
  (k=3/\b=false/\n=0/\dm s/\l=[]/\ks=[])\/
  (k=4/\b=false/\n=0/\s=⟨#[]⟩/\(∀x∈l,dF d x)/\ks=[])\/
  (k=5/\b=false/\n=0/\s=⟨#[]⟩/\(∀x∈l,dF d x)/\(∀t∈ks,dm t)/\ks.Nodup/\ks.length=l.length)
def cP:List (List UInt8)->List UInt8
 |[]=>[]
 |x::xs=>x++xs.flatMap λy=>44::y
theorem tE{xs:List (List UInt8)}{y:List UInt8}:cP (xs++[y])=cP xs++(if xs=[]then y else 44::y):=by
 cases xs with
 |nil=>simp[cP]
 |cons x xs=>simp[cP]
def hM(xs:List (List UInt8))(i:Nat):List UInt8:=if i=0 then cP xs else(xs.drop i).flatMap λy=>44::y
theorem N8{xs:List (List UInt8)}{i:Nat}{y:List UInt8}(h:xs[i]? =some y):hM xs i=(if i=0 then y else 44::y)++hM xs (i+1):=by
 obtain⟨a,rfl⟩:=adP.1 h
 unfold hM
 rw[if_neg (adX i)]
 cases i with
 |zero=>
  cases xs with
  |nil=>simp at a
  |cons x xs=>simp[cP]
 |succ i=>
  rw[if_neg (adX i),if_neg (adX i),List.drop_eq_getElem_cons a,List.flatMap_cons]
theorem N7{xs:List (List UInt8)}{i:Nat}(h:xs.length<=i):hM xs i=[]:=by
 unfold hM
 split
 ·rename_i a
  subst a
  have:xs=[]:=List.length_eq_zero_iff.1 (by omega)
  subst this;rfl
 ·rw[List.drop_eq_nil_of_le h];rfl
def mm(n:Nat):UInt8:=UInt8.ofNat (48+n)
def eR(n:Nat):List UInt8:=if n<10 then [mm n]else [mm (n/10),mm (n % 10)]
def dX(s:ByteArray):List UInt8:=34::(s.data.toList++[34])
def bT(b:Bool):List UInt8:=if b then [116,114,117,101]else [102,97,108,115,101]
def pJ:Nat->J->List UInt8
 |0,_=>[]
 |d+1,.mk k b n s l ks=>
  if k=1 then bT b else if k=2 then eR n.toNat else if k=3 then dX s
  else if k=4 then 91::(cP (l.map (pJ d))++[93])
  else 123::(cP ((ks.zip l).map λp=>dX p.1++58::pJ d p.2)++[125])
def my(c:UInt8):Bool:=decide (c=34)||(decide (c=91)||(decide (c=123)||(decide (c=116)||(decide (c=102)||(decide (48<=c.toNat)&&decide (c.toNat<=57))))))
theorem BL(n:Nat)(h:n<10):(mm n).toNat=48+n:=by
 unfold mm
 rw[UInt8.toNat_ofNat']
 exact Nat.mod_eq_of_lt (by omega)
theorem wD(n:Nat)(h:n<10):my (mm n)=true:=by
 have:=BL n h
 unfold my
 simp only[Bool.or_eq_true,adO,adW]
 omega
theorem Nx{d:Nat}{j:J}(h:dF d j):∃c r,pJ d j=c::r/\my c=true:=by
 match d,j,h with
 |d+1,.mk k b n s l ks,h=>
  unfold dF at h
  rcases h with⟨h,_⟩|⟨h,_,a,_⟩|⟨h,_⟩|⟨h,_⟩|⟨h,_⟩
  ·subst h
   cases b
   ·exact⟨102,[97,108,115,101],by simp[pJ,bT],by decide⟩
   ·exact⟨116,[114,117,101],by simp[pJ,bT],by decide⟩
  ·subst h
   rw[pJ]
   simp only[show ¬((2:Int)=1) by decide,if_false,if_true]
   unfold eR
   split
   ·rename_i h
    exact⟨_,[],rfl,wD _ h⟩
   ·exact⟨_,[mm (n.toNat % 10)],rfl,wD _ (by omega)⟩
  ·subst h;exact⟨34,s.data.toList++[34],by rw[pJ];simp[dX],by decide⟩
  ·subst h;exact⟨91,cP (l.map (pJ d))++[93],by rw[pJ];simp,by decide⟩
  ·subst h;exact⟨123,cP ((ks.zip l).map λp=>dX p.1++58::pJ d p.2)++[125],by rw[pJ];simp,by decide⟩
namespace LJS
theorem li(f:FuncId)(caps:List Value) [e:aT prog f](p:JP->Bool)(v:Value)(l:List JP)(R:aw)(h:RS R 6 iE v l)(I:∀s∈l,∀R',(∀b o,R b o->R' b o)->Spec prog f ((λp:JP=>Value.agg p.1.toArray) s::caps) R' [] λu H'=>u=.bool (p s)/\H'=[]):
  Spec prog 115 [v,.func (.func f) #[] caps.toArray] R [] λu H'=>(∃k:Int,u=.int .i64 k/\((∃(i:Nat) (x:JP),l[i]? =some x/\p x=true/\(∀j y,j<i->l[j]? =some y->p y=false)/\k=i)\/((∀y∈l,p y=false)/\k= -1)))/\H'=[]:=by
 have M:=h.le
 refine Spec.body func115 rfl results115 ntmps115 rfl ?_
 refine .sr<|.ag rfl<|.zs<|.sr<|.mo rfl<|.q (.bL h) ?_
 refine .mo rfl<|.zn<|.block ?_
 refine .loop (X:=Nat) (λi=>i<=l.length/\∀j z,j<i->l[j]? =some z->p z=false) (λi=>[(0,v),(1,.func (.func f) #[] caps.toArray),(7,.int .i64 l.length),(8,iN i)]) (λ_=>[]) (λi=>l.length-i) 0 ⟨by omega,by omega⟩ kE.c.c.c.c rH ?_
 rintro i ⟨L,t⟩
 refine .sr<|.q .lss<|.zs ?_
 refine .cond rfl (λg=>?_) λg=>?_
 have J:i<l.length:=by simp at g;omega
 obtain⟨z,d⟩:=cm J
 have w:=aV d
 obtain⟨Q,S⟩:=z
 obtain⟨A,B,C,D,E,F,rfl⟩:=nh (h.len _ w)
 have N:=(⟨h.one _ w⟩:bZ [A,B,C,D,E,F])
 refine .kn<|.seq<|.block<|.sr<|.mo rfl<|.ag rfl<|.z<|.mo rfl<|.mo rfl<|.mo rfl ?_
 refine .bI i h d (λO=>?_)
 refine .q (.aP rfl) ?_
 refine .fY (first:=[]) (captured:=caps) (vs:=[.agg [A,B,C,D,E,F].toArray]) (I _ w _ λb o G=>.inl G) (λu K=>?_)
 subst K
 refine .zn ?_
 refine .cond rfl (λm=>?_) λm=>?_
 refine .sr<|.mo rfl<|.az rfl ?_
 refine .ret (bf (aI (cK (bf (aI (aM rfl ?_))))))
 ·exact⟨⟨_,rfl,.inl ⟨i,_,d,m,t,rfl⟩⟩,rfl⟩
 refine .skip<|bi<|ay<|.region ?_
 refine .q (.inc (n:=i) (by omega)) ?_
 refine .mo rfl<|.nil ?_
 ·exact aW (i+1) ⟨by omega,λj y r a=>by
   rcases adM j i with hh|hh
   ·exact t j y hh a
   ·obtain rfl:j=i:=by omega
    rw[d]at a;cases a;exact m⟩ (by omega) kE.c.c.c.c rH
 refine .exit<|bz<|bG<|bB<|ay<|.sr<|.az rfl ?_
 refine .ret (aM rfl ?_)
 ·have H:i=l.length:=by simp at g;omega
  subst H
  refine⟨⟨_,rfl,.inr ⟨λy a=>?_,rfl⟩⟩,rfl⟩
  obtain⟨j,r,rfl⟩:=adL.1 a
  exact t j _ r (bE r)
theorem jd(f:FuncId)(caps:List Value) [e:aT prog f](p:JP->Bool)(v:Value)(l:List JP)(R:aw)(h:RS R 6 iE v l)(j:∀s∈l,∀R',(∀b o,R b o->R' b o)->Spec prog f ((λp:JP=>Value.agg p.1.toArray) s::caps) R' [] λu H'=>u=.bool (p s)/\H'=[]):
  Spec prog 68 [v,.func (.func f) #[] caps.toArray] R [] λu H'=>u=.bool (l.any p)/\H'=[]:=by
 refine Spec.body func68 rfl results68 ntmps68 rfl ?_
 refine .sr<|.ag rfl<|.z<|.mo rfl<|.mo rfl ?_
 refine .aR (li f caps p v l _ h.rx λs r R' d=>j s r R' λb o g=>d b o (.inl g)) (λu t=>?_)
 obtain⟨k,rfl,m⟩:=t
 have n:decide (0<=k)=l.any p:=by
  rcases m with⟨i,x,a,c,_,rfl⟩|⟨a,rfl⟩
  ·rw[adR.2 ⟨x,aV a,c⟩];simp
  ·rw[adS.2 λy w=>by rw[a y w];simp];rfl
 refine .q .geq<|.az rfl ?_
 refine .ret (aM rfl ?_)
 ·exact⟨by simp only[n],rfl⟩
end LJS
theorem MA{α:Type}{l:List α}{i:Nat}{x:α}(h:l[i]? =some x)(y:α):y∈l.take (i+1)↔y∈l.take i\/y=x:=by
 rw[adN,h];simp
theorem Px(v:Value)(l:List ByteArray)(s:ByteArray)(R:aw)(h:RS R 1 dV v l):
  Spec prog 153 [v,.string s] R [] λu H'=>(∃k:Int,u=.int .i64 k/\(0<=k↔s∈l))/\H'=[]:=by
 have m:=h.le
 refine Spec.body func153 rfl results153 ntmps153 rfl ?_
 refine .sr<|.ag rfl<|.zs<|.sr<|.mo rfl<|.q (.bL h) ?_
 refine .mo rfl<|.zn<|.block ?_
 refine .loop (X:=Nat) (λi=>i<=l.length/\s∉l.take i) (λi=>[(0,v),(1,.string s),(7,.int .i64 l.length),(8,iN i)]) (λ_=>[]) (λi=>l.length-i) 0 ⟨by omega,by simp⟩ kE.c.c.c.c rH ?_
 rintro i ⟨j,e⟩
 refine .sr<|.q .lss<|.zs ?_
 refine .cond rfl (λb=>?_) λb=>?_
 have g:i<l.length:=by simp at b;omega
 obtain⟨z,f⟩:=cm g
 refine .kn<|.seq<|.block<|.sr<|.mo rfl<|.ag rfl<|.z<|.mo rfl<|.mo rfl<|.mo rfl ?_
 refine .bI i h f (λo=>?_)
 refine .lo rfl<|.q .ec<|.zn ?_
 refine .cond rfl (λa=>?_) λa=>?_
 refine .sr<|.mo rfl<|.az rfl ?_
 refine .ret (bf (aI (cK (bf (aI (aM rfl ?_))))))
 ·have d:s=z:=by simpa using a
  exact⟨⟨_,rfl,by rw[d];simp[aV f]⟩,rfl⟩
 refine .skip<|bi<|ay<|.region ?_
 refine .q (.inc (n:=i) (by omega)) ?_
 refine .mo rfl<|.nil ?_
 ·exact aW (i+1) ⟨by omega,by rw[MA f];simp at a;simp[e,a]⟩ (by omega) kE.c.c.c.c rH
 refine .exit<|bz<|bG<|bB<|ay<|.sr<|.az rfl ?_
 refine .ret (aM rfl ?_)
 ·have d:i=l.length:=by simp at b;omega
  rw[d,List.take_length]at e
  exact⟨⟨_,rfl,by simp[e]⟩,rfl⟩
theorem Pa(v:Value)(l:List ByteArray)(s:ByteArray)(R:aw)(h:RS R 1 dV v l):
  Spec prog 119 [v,.string s] R [] λu H'=>u=.bool (decide (s∈l))/\H'=[]:=by
 refine Spec.body func119 rfl results119 ntmps119 rfl ?_
 refine .sr<|.ag rfl<|.z<|.mo rfl<|.mo rfl ?_
 refine .aR (Px v l s _ h.rx) (λu b=>?_)
 obtain⟨k,rfl,a⟩:=b
 refine .q .geq<|.az rfl ?_
 refine .ret (aM rfl ?_)
 ·exact⟨by simp only[a],rfl⟩
end Go.Proofs.YtenilfmlfldogaaGreatDoor

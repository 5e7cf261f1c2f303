/- What the law 'ReachFinds' uses. No condition. -/
import Derived.Test.YtdljmchhecoakaaGreatKReachFindsB
import Derived.Test.YtdljmchhecoakaaGreatKReachFindsF
import Derived.Test.YtdljmchhecoakaaGreatKReachFindsH
namespace Go.Proofs.YtdljmchhecoakaaGreat
open Tryz (prog)
set_option linter.unusedVariables false
set_option maxRecDepth 4000
namespace LSC
theorem mF(v:Value)(xs:List Sc)(R:aB)(h:RS R 4 Sc.enc v xs)(i:xs.length<=1000000):
  Spec prog 126 [v] R [] λv' H'=>∃T,H'=[T]/\OS 169 4 Sc.enc v' xs T:=by
 obtain⟨b,d,rfl⟩:=h.val
 have f:∀H,RS (Rx R H) 4 Sc.enc (.slice b xs.length d) xs:=λH=>h.rx
 refine Spec.gx (H':=[[]]) (by simp) ?_
 refine Spec.body Tryz.func126 rfl Tryz.results126 Tryz.ntmps126 rfl ?_
 refine .sr<|.ag rfl<|.zs<|.sr<|.mo rfl<|.q (.qp rfl rfl) ?_
 refine .zn ?_
 refine .cond rfl (λa=>?_) λa=>?_
 refine .sr<|.az rfl ?_
 refine .ret (aF (bj _ (.one (.tmp rfl)) (.one [0] _) ?_))
 ·obtain rfl:b=none:=by simpa using a
  have:=h.qW
  subst this
  exact⟨[],rfl,OS.nil⟩
 refine .kn<|.sr ?_
 refine .qj (λg=>?_)
 refine .mo rfl ?_
 refine .append (OS.empty (enc:=Sc.enc) (sz:=4)) (f _) (by simp;omega) (λv' c e=>?_)
 refine .az rfl ?_
 refine .ret (bj _ (.one (.tmp rfl)) (.one [0] _) ?_)
 ·exact⟨c,by simp[take],by simpa using e⟩
theorem lg(f:FuncId)(caps:List Value) [e:aW prog f](p:Sc->Bool)(v:Value)(l:List Sc)(R:aB)(h:RS R 4 Sc.enc v l)(D:∀s∈l,∀R',(∀b o,R b o->R' b o)->Spec prog f ((λt:Sc=>Value.agg t.enc.toArray) s::caps) R' [] λu H'=>u=.bool (p s)/\H'=[]):
  Spec prog 228 [v,.func (.func f) #[] caps.toArray] R [] λu H'=>(∃k:Int,u=.int .i64 k/\((∃(i:Nat) (x:Sc),l[i]? =some x/\p x=true/\(∀j y,j<i->l[j]? =some y->p y=false)/\k=i)\/((∀y∈l,p y=false)/\k= -1)))/\H'=[]:=by
 have H:=h.le
 refine Spec.body Tryz.func228 rfl Tryz.results228 Tryz.ntmps228 rfl ?_
 refine .sr<|.ag rfl<|.zs<|.sr<|.mo rfl<|.q (.bD h) ?_
 refine .mo rfl<|.zn<|.block ?_
 refine .loop (X:=Nat) (λi=>i<=l.length/\∀j z,j<i->l[j]? =some z->p z=false) (λi=>[(0,v),(1,.func (.func f) #[] caps.toArray),(7,.int .i64 l.length),(8,iN i)]) (λ_=>[]) (λi=>l.length-i) 0 ⟨by omega,by omega⟩ kE.c.c.c.c rH ?_
 rintro i ⟨G,w⟩
 refine .sr<|.q .lss<|.zs ?_
 refine .cond rfl (λg=>?_) λg=>?_
 have E:i<l.length:=by simp at g;omega
 obtain⟨z,d⟩:=bU E
 have A:=aX d
 have I:=(⟨h.one z A⟩:bW (Sc.enc z))
 refine .kn<|.seq<|.block<|.sr<|.mo rfl<|.ag rfl<|.z<|.mo rfl<|.mo rfl<|.mo rfl ?_
 refine .bA i h d (λJ=>?_)
 refine .q (.aI rfl) ?_
 refine .fE (first:=[]) (captured:=caps) (vs:=[(λt:Sc=>Value.agg t.enc.toArray) z]) (D z A _ λb o B=>.inl B) (λu F=>?_)
 subst F
 refine .zn ?_
 refine .cond rfl (λm=>?_) λm=>?_
 refine .sr<|.mo rfl<|.az rfl ?_
 refine .ret (bg (aF (cz (bg (aF (aH rfl ?_))))))
 ·exact⟨⟨_,rfl,.inl ⟨i,z,d,m,w,rfl⟩⟩,rfl⟩
 refine .skip<|ba<|aw<|.region ?_
 refine .q (.inc (n:=i) (by omega)) ?_
 refine .mo rfl<|.nil ?_
 ·exact bi (i+1) ⟨by omega,λj y r a=>by
   rcases Nat.lt_or_ge j i with hh|hh
   ·exact w j y hh a
   ·obtain rfl:j=i:=by omega
    rw[d]at a;cases a;exact m⟩ (by omega) kE.c.c.c.c rH
 refine .exit<|bq<|bz<|br<|aw<|.sr<|.az rfl ?_
 refine .ret (aH rfl ?_)
 ·have C:i=l.length:=by simp at g;omega
  subst C
  refine⟨⟨_,rfl,.inr ⟨λy a=>?_,rfl⟩⟩,rfl⟩
  obtain⟨j,r,rfl⟩:=List.mem_iff_getElem.1 a
  exact w j _ r (bB r)
theorem iW(f:FuncId)(caps:List Value) [e:aW prog f](p:Sc->Bool)(v:Value)(l:List Sc)(R:aB)(h:RS R 4 Sc.enc v l)(j:∀s∈l,∀R',(∀b o,R b o->R' b o)->Spec prog f ((λt:Sc=>Value.agg t.enc.toArray) s::caps) R' [] λu H'=>u=.bool (p s)/\H'=[]):
  Spec prog 178 [v,.func (.func f) #[] caps.toArray] R [] λu H'=>u=.bool (l.any p)/\H'=[]:=by
 refine Spec.body Tryz.func178 rfl Tryz.results178 Tryz.ntmps178 rfl ?_
 refine .sr<|.ag rfl<|.z<|.mo rfl<|.mo rfl ?_
 refine .bd (lg f caps p v l _ h.rx λs r R' d=>j s r R' λb o g=>d b o (.inl g)) (λu w=>?_)
 obtain⟨k,rfl,m⟩:=w
 have n:decide (0<=k)=l.any p:=by
  rcases m with⟨i,x,a,c,_,rfl⟩|⟨a,rfl⟩
  ·rw[List.any_eq_true.2 ⟨x,aX a,c⟩];simp
  ·rw[List.any_eq_false.2 λy A=>by rw[a y A];simp];rfl
 refine .q .geq<|.az rfl ?_
 refine .ret (aH rfl ?_)
 ·exact⟨by simp only[n],rfl⟩
end LSC
namespace LRE
theorem lg(f:FuncId)(caps:List Value) [e:aW prog f](p:bQ->Bool)(v:Value)(l:List bQ)(R:aB)(h:RS R 3 bQ.enc v l)(D:∀s∈l,∀R',(∀b o,R b o->R' b o)->Spec prog f ((λt:bQ=>Value.agg t.enc.toArray) s::caps) R' [] λu H'=>u=.bool (p s)/\H'=[]):
  Spec prog 207 [v,.func (.func f) #[] caps.toArray] R [] λu H'=>(∃k:Int,u=.int .i64 k/\((∃(i:Nat) (x:bQ),l[i]? =some x/\p x=true/\(∀j y,j<i->l[j]? =some y->p y=false)/\k=i)\/((∀y∈l,p y=false)/\k= -1)))/\H'=[]:=by
 have H:=h.le
 refine Spec.body Tryz.func207 rfl Tryz.results207 Tryz.ntmps207 rfl ?_
 refine .sr<|.ag rfl<|.zs<|.sr<|.mo rfl<|.q (.bD h) ?_
 refine .mo rfl<|.zn<|.block ?_
 refine .loop (X:=Nat) (λi=>i<=l.length/\∀j z,j<i->l[j]? =some z->p z=false) (λi=>[(0,v),(1,.func (.func f) #[] caps.toArray),(7,.int .i64 l.length),(8,iN i)]) (λ_=>[]) (λi=>l.length-i) 0 ⟨by omega,by omega⟩ kE.c.c.c.c rH ?_
 rintro i ⟨G,w⟩
 refine .sr<|.q .lss<|.zs ?_
 refine .cond rfl (λg=>?_) λg=>?_
 have E:i<l.length:=by simp at g;omega
 obtain⟨z,d⟩:=bU E
 have A:=aX d
 have I:=(⟨h.one z A⟩:bW (bQ.enc z))
 refine .kn<|.seq<|.block<|.sr<|.mo rfl<|.ag rfl<|.z<|.mo rfl<|.mo rfl<|.mo rfl ?_
 refine .bA i h d (λJ=>?_)
 refine .q (.aI rfl) ?_
 refine .fE (first:=[]) (captured:=caps) (vs:=[(λt:bQ=>Value.agg t.enc.toArray) z]) (D z A _ λb o B=>.inl B) (λu F=>?_)
 subst F
 refine .zn ?_
 refine .cond rfl (λm=>?_) λm=>?_
 refine .sr<|.mo rfl<|.az rfl ?_
 refine .ret (bg (aF (cz (bg (aF (aH rfl ?_))))))
 ·exact⟨⟨_,rfl,.inl ⟨i,z,d,m,w,rfl⟩⟩,rfl⟩
 refine .skip<|ba<|aw<|.region ?_
 refine .q (.inc (n:=i) (by omega)) ?_
 refine .mo rfl<|.nil ?_
 ·exact bi (i+1) ⟨by omega,λj y r a=>by
   rcases Nat.lt_or_ge j i with hh|hh
   ·exact w j y hh a
   ·obtain rfl:j=i:=by omega
    rw[d]at a;cases a;exact m⟩ (by omega) kE.c.c.c.c rH
 refine .exit<|bq<|bz<|br<|aw<|.sr<|.az rfl ?_
 refine .ret (aH rfl ?_)
 ·have C:i=l.length:=by simp at g;omega
  subst C
  refine⟨⟨_,rfl,.inr ⟨λy a=>?_,rfl⟩⟩,rfl⟩
  obtain⟨j,r,rfl⟩:=List.mem_iff_getElem.1 a
  exact w j _ r (bB r)
theorem iW(f:FuncId)(caps:List Value) [e:aW prog f](p:bQ->Bool)(v:Value)(l:List bQ)(R:aB)(h:RS R 3 bQ.enc v l)(j:∀s∈l,∀R',(∀b o,R b o->R' b o)->Spec prog f ((λt:bQ=>Value.agg t.enc.toArray) s::caps) R' [] λu H'=>u=.bool (p s)/\H'=[]):
  Spec prog 160 [v,.func (.func f) #[] caps.toArray] R [] λu H'=>u=.bool (l.any p)/\H'=[]:=by
 refine Spec.body Tryz.func160 rfl Tryz.results160 Tryz.ntmps160 rfl ?_
 refine .sr<|.ag rfl<|.z<|.mo rfl<|.mo rfl ?_
 refine .bd (lg f caps p v l _ h.rx λs r R' d=>j s r R' λb o g=>d b o (.inl g)) (λu w=>?_)
 obtain⟨k,rfl,m⟩:=w
 have n:decide (0<=k)=l.any p:=by
  rcases m with⟨i,x,a,c,_,rfl⟩|⟨a,rfl⟩
  ·rw[List.any_eq_true.2 ⟨x,aX a,c⟩];simp
  ·rw[List.any_eq_false.2 λy A=>by rw[a y A];simp];rfl
 refine .q .geq<|.az rfl ?_
 refine .ret (aH rfl ?_)
 ·exact⟨by simp only[n],rfl⟩
end LRE
namespace LND
theorem mF(v:Value)(xs:List Nd)(R:aB)(h:RS R 5 Nd.enc v xs)(i:xs.length<=1000000):
  Spec prog 125 [v] R [] λv' H'=>∃T,H'=[T]/\OS 199 5 Nd.enc v' xs T:=by
 obtain⟨b,d,rfl⟩:=h.val
 have f:∀H,RS (Rx R H) 5 Nd.enc (.slice b xs.length d) xs:=λH=>h.rx
 refine Spec.gx (H':=[[]]) (by simp) ?_
 refine Spec.body Tryz.func125 rfl Tryz.results125 Tryz.ntmps125 rfl ?_
 refine .sr<|.ag rfl<|.zs<|.sr<|.mo rfl<|.q (.qp rfl rfl) ?_
 refine .zn ?_
 refine .cond rfl (λa=>?_) λa=>?_
 refine .sr<|.az rfl ?_
 refine .ret (aF (bj _ (.one (.tmp rfl)) (.one [0] _) ?_))
 ·obtain rfl:b=none:=by simpa using a
  have:=h.qW
  subst this
  exact⟨[],rfl,OS.nil⟩
 refine .kn<|.sr ?_
 refine .qj (λg=>?_)
 refine .mo rfl ?_
 refine .append (OS.empty (enc:=Nd.enc) (sz:=5)) (f _) (by simp;omega) (λv' c e=>?_)
 refine .az rfl ?_
 refine .ret (bj _ (.one (.tmp rfl)) (.one [0] _) ?_)
 ·exact⟨c,by simp[take],by simpa using e⟩
end LND
section
variable{c:Cf}{num:List Nat}{sub:aU->List Sub}{k:aU}
theorem gl.ex{B:Nat}(h:∀i,(opened c num sub k i).1.length<=B):∃N,gl c num sub k N:=by
 have b:∀m,(∃N,N<=m/\gl c num sub k N)\/∀j,j<=m->j<(opened c num sub k j).1.length:=by
  intro m
  induction m with
  |zero=>
   refine .inr λj a=>?_
   obtain rfl:j=0:=by omega
   simp[opened]
  |succ m ih=>
   rcases ih with⟨N,h1,h2⟩|ih
   ·exact .inl ⟨N,by omega,h2⟩
   ·by_cases h1:m+1<(opened c num sub k (m+1)).1.length
    ·exact .inr λj a=>by
      rcases Nat.lt_or_ge j (m+1)with h2|h2
      ·exact ih j (by omega)
      ·obtain rfl:j=m+1:=by omega
       exact h1
    ·exact .inl ⟨m+1,Nat.le_refl _,by omega,λj a=>ih j (by omega)⟩
 rcases b (B+1)with⟨N,_,h1⟩|h1
 ·exact⟨N,h1⟩
 ·have:=h1 (B+1) (Nat.le_refl _)
  have:=h (B+1)
  omega
def ke(c:Cf)(num:List Nat)(sub:aU->List Sub)(k:aU)(b:Int)(can:Bool)(N:Nat):List cG×Nat×Int:=
 if b<1 then([],0,2)else if can=false then([],0,12)
 else if(((opened c num sub k N).1.length+(opened c num sub k N).2:Nat):Int)<=b then((opened c num sub k N).1,(opened c num sub k N).2,0)else([],0,16)
theorem Kd{P:aU->Prop}{a b:List cG}(h:Grown c num P a b){i:Nat}(e:∀j p,i<=j->a[j]? =some p->p=one c num p.k):∀j p,i<=j->b[j]? =some p->p=one c num p.k:=by
 obtain⟨⟨l,rfl,g⟩,_⟩:=h
 intro j p f d
 rcases Nat.lt_or_ge j a.length with h1|h1
 ·rw[List.getElem?_append_left h1]at d
  exact e j p f d
 ·rw[List.getElem?_append_right h1]at d
  exact(g p (aX d)).2
theorem tN:∀(i:Nat) (j:Nat) (p:cG),i<=j->(opened c num sub k i).1[j]? =some p->p=one c num p.k
 |0,j,p,_,a=>by
  have:=aX a
  simp only[opened,List.mem_singleton]at this
  subst this
  rw[pa]
 |i+1,j,p,b,a=>by
  have d:=λj p b a=>tN i j p b a
  change (eF c num sub (opened c num sub k i).1 i).1[j]? =some p at a
  unfold eF at a
  split at a
  ·exact d j p (by omega) a
  ·rw[List.getElem?_set_ne (by omega)]at a
   exact Kd (kB _ _ _) d j p (by omega) a
theorem Lr{ps:List cG}{i:Nat}{p:cG}(d:ps[i]? =some p)(a:p=one c num p.k)(b:p.found=false):eF c num sub ps i=(ps,0):=by
 have g:p.nodes=[]:=by rw[a];exact Ln (by rw[<-a];exact b)
 have q:p.jA=[]/\p.leads=[]:=by
  rw[a]
  unfold one
  split<;>exact⟨rfl,rfl⟩
 obtain⟨h,o⟩:=q
 obtain⟨k,f,n,m,u,l⟩:=p
 simp only at h o g b
 subst h o g b
 unfold eF
 rw[d]
 simp only[cY,Bool.false_eq_true,if_false]
 refine Prod.ext ?_ rfl
 refine List.ext_getElem? λj=>?_
 rw[List.getElem?_set]
 split
 ·rename_i e;subst e
  have:=(List.getElem?_eq_some_iff.1 d).1
  rw[if_pos this,d]
 ·rfl
theorem u4:∀(ks:List aU) (ps:List cG) (x:aU),dd c num ps (ks++[x])=((dZ c num (dd c num ps ks).1 x).1,(dd c num ps ks).2++[(dZ c num (dd c num ps ks).1 x).2])
 |[],ps,x=>rfl
 |y::ks,ps,x=>by
  rw[List.cons_append,dd,u4 ks _ x]
  rfl
theorem vb(y:aU):∀(ns:List Nd) (ps:List cG) (n:Nd),cY c num sub y ps (ns++[n])=((dd c num (cY c num sub y ps ns).1 (eh c sub y n)).1,(cY c num sub y ps ns).2++[(dd c num (cY c num sub y ps ns).1 (eh c sub y n)).2])
 |[],ps,n=>rfl
 |m::ns,ps,n=>by
  rw[List.cons_append,cY,vb y ns _ n]
  rfl
theorem u5{ks:List aU}{i:Nat}{x:aU}(h:ks[i]? =some x)(ps:List cG):dd c num ps (ks.take (i+1))=((dZ c num (dd c num ps (ks.take i)).1 x).1,(dd c num ps (ks.take i)).2++[(dZ c num (dd c num ps (ks.take i)).1 x).2]):=by
 rw[show ks.take (i+1)=ks.take i++[x] by rw[List.take_add_one,h];rfl,u4]
theorem vg{a:List Nd}{i:Nat}{n:Nd}(h:a[i]? =some n)(y:aU)(ps:List cG):cY c num sub y ps (a.take (i+1))=((dd c num (cY c num sub y ps (a.take i)).1 (eh c sub y n)).1,(cY c num sub y ps (a.take i)).2++[(dd c num (cY c num sub y ps (a.take i)).1 (eh c sub y n)).2]):=by
 rw[show a.take (i+1)=a.take i++[n] by rw[List.take_add_one,h];rfl,vb]
theorem uY:∀(a b:List aU) (ps:List cG),(dd c num ps (a++b)).1=(dd c num (dd c num ps a).1 b).1
 |[],b,ps=>rfl
 |x::a,b,ps=>by rw[List.cons_append,dd,dd];exact uY a b _
theorem u6(y:aU):∀(a b:List Nd) (ps:List cG),(cY c num sub y ps (a++b)).1=(cY c num sub y (cY c num sub y ps a).1 b).1
 |[],b,ps=>rfl
 |x::a,b,ps=>by rw[List.cons_append,cY,cY];exact u6 y a b _
theorem u3(ks:List aU)(i:Nat)(ps:List cG):(dd c num ps (ks.take i)).1.length<=(dd c num ps ks).1.length:=by
 have h:=uY (c:=c) (num:=num) (ks.take i) (ks.drop i) ps
 rw[List.take_append_drop]at h
 rw[h]
 exact(nD _ _).len
theorem u9(y:aU)(a:List Nd)(i:Nat)(ps:List cG):(cY c num sub y ps (a.take i)).1.length<=(cY c num sub y ps a).1.length:=by
 have h:=u6 (c:=c) (num:=num) (sub:=sub) y (a.take i) (a.drop i) ps
 rw[List.take_append_drop]at h
 rw[h]
 exact(kB _ _ _).len
theorem Aj(ks:List aU)(ps:List cG):ps.length<=(dd c num ps ks).1.length:=(nD _ _).len
theorem Ak(y:aU)(a:List Nd)(ps:List cG):ps.length<=(cY c num sub y ps a).1.length:=(kB _ _ _).len
def iB(a:List Nat)(l:List Nat):List Nat:=l.foldl (λa x=>if x∈a then a else a++[x]) a
theorem pH(a l m:List Nat):iB a (l++m)=iB (iB a l) m:=List.foldl_append
theorem zc(a:List Nat)(x:Nat):iB a [x]=if x∈a then a else a++[x]:=rfl
theorem Nf{l:List Nat}{i x:Nat}(h:l[i]? =some x)(a:List Nat):iB a (l.take (i+1))=if x∈iB a (l.take i)then iB a (l.take i)else iB a (l.take i)++[x]:=by
 rw[show l.take (i+1)=l.take i++[x] by rw[List.take_add_one,h];rfl,pH,zc]
theorem zb{l:List Nat}{n:Nat}(h:∀x∈l,x<n):(iB [] l).length<=n:=ye h
theorem yq{ps:List cG}{i:Nat}{p:cG}(a:ps[i]? =some p):eF c num sub ps i=((cY c num sub p.k ps p.nodes).1.set i {p with jA:=if p.found then gj c sub p.k else [],leads:=(cY c num sub p.k ps p.nodes).2},kK (cY c num sub p.k ps p.nodes).2.flatten):=by unfold eF;rw[a]
theorem yt(i:Nat):opened c num sub k (i+1)=((eF c num sub (opened c num sub k i).1 i).1,(opened c num sub k i).2+(eF c num sub (opened c num sub k i).1 i).2):=rfl
end
set_option linter.unusedSimpArgs false
theorem fv.gw:fv ⟨[],0,0⟩:=⟨by simp,by simp,by simp,by simp,by simp,by simp⟩
end Go.Proofs.YtdljmchhecoakaaGreat

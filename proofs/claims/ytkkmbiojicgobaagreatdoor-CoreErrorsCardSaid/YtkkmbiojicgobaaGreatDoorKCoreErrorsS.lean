/- What the law 'CoreErrors' uses. No condition. -/
import Derived.Test.YtkkmbiojicgobaaGreatDoorKCoreErrorsQ
import Derived.Test.YtkkmbiojicgobaaGreatDoorKCoreErrorsR
set_option linter.unusedSimpArgs false
set_option linter.unusedVariables false
namespace Go.Proofs.YtkkmbiojicgobaaGreatDoor
set_option linter.defProp false
def aeD:=@if_neg
def aeE:=@if_pos
def aeF:=@Option.getD_some
def aeG:=@List.length_cons
def aeH:=@Option.filter_some
open Tryz
set_option linter.unusedVariables false
set_option maxRecDepth 4000
theorem NV(a:Value)(d:One a)(R:av):Spec prog 161 [a] R [] λu H'=>∃T,H'=[T]/\∃b,u=.func (.func 212) #[] #[pT b]/\T=(bl b [a] 23):=by
 refine Spec.body func161 rfl results161 ntmps161 rfl ?_
 refine .sr ?_
 refine .ko rfl (λc=>?_)
 refine .ag rfl<|.z<|.q .makeFunc<|.az rfl ?_
 refine .ret (aR _ (.one (.tmp rfl)) (.one [0] _) ?_)
 ·exact⟨_,rfl,c,rfl,by simp[take]⟩
theorem NI(d:Value)(l:List ByteArray)(i:l.length<=1000000)(b:Nat)(R:av)(h:RS R 1 bB d l) [pc:PC R (pT b) [d]]:
  Spec prog 160 [.func (.func 212) #[] #[pT b]] R [] λu H'=>∃T,H'=[T]/\∃ys,OS 9 1 bB u ys T/\ys.Perm l/\ys.Pairwise (λa b=>cp b a=false):=by
 refine Spec.body func160 rfl results160 ntmps160 rfl ?_
 refine .sr<|.ag rfl<|.z<|.mo rfl ?_
 refine .da (Ni d l i b _ h.rx) (λu T e=>?_)
 have o:=e.aw
 refine .ag rfl<|.z<|.mo rfl ?_
 refine .bW (SST.jK (c:=fT) (ok:=λ_=>True) u l T _ e (by omega) rfl (λ_ _=>trivial) qQ.so) (λp n m=>?_)
 obtain⟨rfl,ys,g,j,k⟩:=m
 refine .z<|.mo rfl<|.az rfl ?_
 refine .ret (aR _ (.one (.tmp rfl)) (.one [0] _) ?_)
 ·exact⟨_,rfl,ys,by simpa[take]using g,j,k.ordered.imp λ{a b} f=>by rw[wa]at f;exact f⟩
theorem uE:∀{l:List ByteArray},(l.Pairwise λa b=>cp b a=false)->((eR l).length=l.length↔l.Nodup)
 |[],_=>by simp[eR]
 |[x],_=>by simp[eR]
 |x::y::r,h=>by
  have c:=List.pairwise_cons.1 h
  have f:=uE c.2
  have g:=rD (y::r)
  simp only[eR]
  split
  ·rename_i e
   subst e
   constructor
   ·intro h9;simp only[aeG]at h9 g;omega
   ·intro h9;simp at h9
  ·rename_i d
   have j:x∉y::r:=λi=>by
    rcases List.mem_cons.1 i with h9|h9
    ·exact d h9
    ·exact d (lx ((List.pairwise_cons.1 c.2).1 x h9) (c.1 y (by simp)))
   rw[aeG,List.nodup_cons,aeG (a:=x)]
   constructor
   ·intro h9;exact⟨j,f.1 (by omega)⟩
   ·intro h9;rw[f.2 h9.2]
theorem Ln(a:Value)(l:List ByteArray)(k:l.length<=1000000)(R:av)(h:RS R 1 bB a l):
  Spec prog 88 [a] R [] λu H'=>u=.bool (decide l.Nodup)/\H'=[]:=by
 have o:=h.aw
 refine Spec.body func88 rfl results88 ntmps88 rfl ?_
 refine .sr<|.ag rfl<|.z<|.mo rfl ?_
 refine .da (NV a o _) (λu T c=>?_)
 obtain⟨b,rfl,rfl⟩:=c
 refine .da (NI a l k b _ h.rx) (λu j c=>?_)
 obtain⟨p,f,i,m⟩:=c
 have n:=i.length_eq
 have s:=f.aw
 refine .bW (uC u p j _ f (by omega)) (λv r g=>?_)
 have t:=g.aw
 refine .q (.ec g) ?_
 refine .mo rfl<|.q (.dl h) ?_
 refine .q .bS<|.az rfl ?_
 refine .ret (aO rfl ?_)
 ·refine⟨congrArg Value.bool ?_,rfl⟩
  have e:=uE m
  rw[i.nodup_iff,n]at e
  rw[Bool.eq_iff_iff]
  simp only[beq_iff_eq,decide_eq_true_eq]
  constructor
  ·intro d;exact e.1 (by omega)
  ·intro d;have:=e.2 d;omega
theorem Ol{V:List (ByteArray×Tok)}{a id:ByteArray}{now:Int}{t:Tok}(h:aU a V=some t)(b:t.kind=2)(c:t.aE=id)(d:t.used=false)(e:now<t.cq):gu V a id now=(t.mark,0,cT a t.mark V):=by
 unfold gu
 rw[h]
 simp only
 rw[aeD (by simp[b,c]),aeD (by simp[d]),aeD (by omega)]
theorem Om{V:List (ByteArray×Tok)}{a id:ByteArray}{now:Int}{t:Tok}(h:aU a V=some t)(b:t.kind=2)(c:t.aE=id)(d:t.used=true):gu V a id now=(t,10,V.filter λx=> !(x.2.family==t.family)):=by
 unfold gu
 rw[h]
 simp only
 rw[aeD (by simp[b,c]),aeE (by simp[d])]
theorem N2{V:List (ByteArray×Tok)}{a:ByteArray}{now:Int}{t:Tok}(h:iZ V a now=some t):aU a V=some t/\now<t.cq:=by
 unfold iZ at h
 obtain⟨b,c⟩:=Option.filter_eq_some_iff.1 h
 exact⟨b,by simpa using c⟩
theorem LM{V:List (ByteArray×Tok)}{a id:ByteArray}{t:Tok}(h:aU a V=some t)(b:t.kind=2)(c:t.aE=id):fq V a id=some t:=by
 unfold fq
 rw[h,aeH,aeE (by simp[b,c])]
theorem w5{V:List (ByteArray×Tok)}{a id:ByteArray}{now:Int}(i:((fq V a id).filter λt=>t.used).isSome=false):
  (∃t,iZ V a now=some t/\t.kind=2/\t.aE=id/\t.used=false/\fq V a id=some t/\now<t.cq/\aU a V=some t)\/
  (¬(∃t,iZ V a now=some t/\t.kind=2/\t.aE=id)/\∀t,fq V a id=some t->t.used=false/\t.cq<=now):=by
 have k:∀t,fq V a id=some t->t.used=false:=λt g=>by
  rw[g,aeH]at i
  cases e:t.used
  ·rfl
  ·rw[e]at i;simp at i
 by_cases h:∃t,iZ V a now=some t/\t.kind=2/\t.aE=id
 ·obtain⟨t,b,c,d⟩:=h
  obtain⟨f,l⟩:=N2 b
  have j:=LM f c d
  exact .inl ⟨t,b,c,d,k t j,j,l,f⟩
 ·refine .inr ⟨h,λt g=>⟨k t g,?_⟩⟩
  obtain⟨b,c,d⟩:=su g
  by_cases f:now<t.cq
  ·exact absurd ⟨t,by unfold iZ;rw[b,aeH,aeE (by simpa using f)],c,d⟩ h
  ·omega
theorem Lt(q:Nat)(s:cd)(T:ax)(h:fe q s T)(k:Nat)(N:OB s k)(hk:k<=1000)(id B f:ByteArray)(vs:Value)(d:List ByteArray)(va vr:Value)(a r:List UInt8)(rev:Int)(b3:d.length<=1000000)(b7:a.length<=1000)(b8:r.length<=1000)(R:av)(hs:RS R 1 bB vs d)(ha:RS R 1 cO va a)(a6:RS R 1 cO vr r):
  Spec prog 28 [pT q,.string id,.string B,.string f,vs,va,vr,.int .u64 rev] R [T] λv H'=>∃T',H'=[T']/\v=.tuple [.string (dC s id B f d a r rev).1,.string (dC s id B f d a r rev).2.1,.int .i64 (dC s id B f d a r rev).2.2.1].toArray/\fe q (dC s id B f d a r rev).2.2.2 T':=by
 have h0:=h
 obtain⟨A,w,i,F,D,I,rfl,hR,hG,L⟩:=h
 obtain⟨b0,a8,c6⟩:=hs.val
 have i0:=hs.aw
 have i1:=ha.aw
 have i2:=a6.aw
 have b9:=N.n0
 have c0:=N.n1
 have b2:s.V.length<=1000000:=by have:=N.V;omega
 refine Spec.dg (H':=[bl q [pT A,pT w,pT i,.int .i64 s.now] 74,F,D,I]) (by simp) ?_
 refine Spec.body func28 rfl results28 ntmps28 rfl ?_
 refine .sr<|.ag rfl<|.ag rfl<|.ag rfl<|.zs<|.sr<|.mo rfl<|.mo rfl<|.mo rfl<|.mo rfl<|.mo rfl ?_
 refine .aM (wE q s _ h0 id B va vr a r _ (λp Y=>.inr (show p∈List.flatten _ from by simpa using Y)) ha.rx a6.rx) (λv g=>?_)
 subst g
 refine .ag rfl<|.z<|.mo rfl<|.q .dL<|.zn ?_
 refine .cond rfl (λU=>?_) λU=>?_
 refine .sr<|.mo rfl<|.ag rfl<|.ag rfl<|.az rfl ?_
 refine .ret (aL (aR _ (.three (.tmp rfl) (.tmp rfl) (.tmp rfl)) (.one [0,0,0,0] _) ?_))
 ·have e:dC s id B f d a r rev=(e0,e0,eA s id B a r,s):=by unfold dC;rw[aeE (by simpa using U)]
  rw[e]
  exact⟨_,rfl,rfl,A,w,i,F,D,I,by simp[take,aZ],hR,hG,L⟩
 refine .kn<|.seq<|.sr<|.mo rfl<|.mo rfl<|.mo rfl ?_
 refine .aM (Lz q s _ h0 b2 f id _ (λp Y=>.inr (show p∈List.flatten _ from by simpa using Y))) (λv g=>?_)
 subst g
 refine .zn ?_
 refine .cond rfl (λh2=>?_) λh2=>?_
 obtain⟨t,ht⟩:=Option.isSome_iff_exists.1 h2
 obtain⟨G,a1⟩:=Option.filter_eq_some_iff.1 ht
 obtain⟨c3,c4,c5⟩:=su G
 have a5:=Om (now:=s.now) c3 c4 c5 a1
 refine .seq ?_
 refine .df 10 mixed (by kernel_rfl) ?_
 conv=>arg 6;dsimp only[List.take]
 refine .mo rfl<|.nc rfl<|.fa rfl<|.lo rfl<|.mo rfl<|.mo rfl<|.mo rfl ?_
 refine .nc rfl<|.fa rfl<|.lo rfl<|.nil ?_
 refine .bW (tn i s.V s.last I L f id s.now R) (λv H g=>?_)
 obtain⟨O,Tn,rfl,C,rfl,_,W⟩:=g
 rw[a5]at W
 refine .z<|.ag rfl<|.ag rfl<|.az rfl ?_
 refine .ret (aL (aR _ (.three (.tmp rfl) (.tmp rfl) (.tmp rfl)) (⟨Tn,by first|(simp;done)|(simp;exact List.Perm.append_left _ (List.Perm.append_left _ List.perm_append_comm))⟩:aT _ [(q,.cells [pT A,pT w,pT i,.int .i64 s.now].toArray 74 (0,0))::(F++(D++O))]) ?_))
 ·have e:dC s id B f d a r rev=(e0,e0,18,{s with V:=s.V.filter λx=> !(x.2.family==t.family)}):=by
   unfold dC;rw[aeD (by simpa using U),G];simp only;rw[aeE a1]
  rw[e]
  exact⟨_,rfl,rfl,A,w,i,F,D,O,rfl,hR,hG,W⟩
 refine .kn<|.sr<|.mo rfl<|.mo rfl ?_
 refine .aM (wP va vr a r _ ha.rx a6.rx b7 b8) (λv g=>?_)
 subst g
 refine .cN (λa2=>?_)
 refine .ct rfl rfl<|.zs<|.sr<|.mo rfl<|.q (.bK rfl) ?_
 refine .aM (wW q s _ h0 b2 (bj 97 a) (bj 114 r) _ (λp Y=>.inr (show p∈List.flatten _ from by simp at Y⊢;exact .inr Y))) (λv g=>?_)
 subst g
 refine .ag rfl<|.z<|.mo rfl<|.q .dL<|.zn ?_
 refine .cond rfl (λK=>?_) λK=>?_
 refine .sr<|.mo rfl<|.ag rfl<|.ag rfl<|.az rfl ?_
 refine .ret (aL (aR _ (.three (.tmp rfl) (.tmp rfl) (.tmp rfl)) (.one [1,1,1,1] _) ?_))
 ·have e:dC s id B f d a r rev=(e0,e0,dG s (bj 97 a) (bj 114 r),s):=by
   unfold dC;rw[aeD (by simpa using U)]
   rcases w5 (now:=s.now) h2 with⟨t,_,_,_,e4,n,_,_⟩|⟨_,hu⟩
   ·rw[n];simp only;rw[aeD (by simp[e4]),aeE (by simpa using K)]
   ·cases n:fq s.V f id with
    |none=>simp only;rw[aeE (by simpa using K)]
    |some t=>simp only;rw[aeD (by simp[(hu t n).1]),aeE (by simpa using K)]
  rw[e]
  exact⟨_,rfl,rfl,A,w,i,F,D,I,by simp[take,aZ],hR,hG,L⟩
 refine .kn<|.seq ?_
 refine bQ.cut (X:=Nat×Value×Tok×ax) (λy=>dS (eg y.2.2.2) (y.2.1,y.2.2.1)/\(iZ s.V f s.now).getD Tok.zero=y.2.2.1) (λy=>[(0,pT q),(1,.string id),(3,.string f),(4,vs),(7,.int .u64 rev),(20,pT a2),(22,.pointer (some ⟨y.1,0,none⟩)),(23,.bool (iZ s.V f s.now).isSome)]) (λy=>[[(y.1,.cells (bE (y.2.1,y.2.2.1)).toArray 60 (0,0))],y.2.2.2,bl a2 [.string (bj 97 a),.string (bj 114 r)] 147,bl q [pT A,pT w,pT i,.int .i64 s.now] 74,F,D,I]) ?_ ?_
 refine .cW [14] mixed ?_
 refine .tO 0 rfl .move<|.tO 1 rfl (.nilCheck rfl)<|.tO 2 rfl (.fieldAddr rfl)<|.tO 3 rfl (.bN rfl)<|.tO 4 rfl .move<|.tO 5 rfl .move<|.tO 6 rfl (.nilCheck rfl)<|.tO 7 rfl (.fieldAddr rfl)<|.tO 8 rfl (.bN rfl) ?_
 refine RA.mR 9 13 rfl rfl (by kernel_rfl) rfl ?_ ?_
 refine .da (yF i s.V s.last I L f s.now _ (λp Y=>.inr (by simp[Y]))) (λv H g=>?_)
 obtain⟨C,Z,rfl,G,m⟩:=g
 have j1:bJ (bE (C,Z)):=⟨G.bG⟩
 refine .nil (Next.sub ?_)
 refine .tO 10 rfl .move<|.tO 11 rfl .extract<|.tK 12 rfl .extract ?_
 refine .sT 13 rfl ?_
 refine .cN (λQ=>?_)
 refine .nil (Next.sub ?_)
 refine .sT 14 rfl ?_
 refine .ct rfl rfl ?_
 refine .nil (Next.mod rfl ?_)
 refine .tK 15 rfl .assign ?_
 refine RA.nil (by kernel_rfl) ?_
 ·first
   |exact aB (Q,C,Z,H) ⟨G,m⟩ kE.c.c.c.c.c.c.c.c rH
   |exact aB (Q,C,Z,H) ⟨G,m⟩ kE.c.c.c.c.c.c.c.c (aI [1,0,0,0,0,0,0])
 refine .cN (λQ=>?_)
 refine .nil (Next.sub ?_)
 refine .sT 9 rfl ?_
 refine .da (yF i s.V s.last I L f s.now _ (λp Y=>.inr (by simp[Y]))) (λv H g=>?_)
 obtain⟨C,Z,rfl,G,m⟩:=g
 have j1:bJ (bE (C,Z)):=⟨G.bG⟩
 refine .nil (Next.sub ?_)
 refine .tO 10 rfl .move<|.tO 11 rfl .extract<|.tK 12 rfl .extract ?_
 refine .sT 14 rfl ?_
 refine .ct rfl rfl ?_
 refine .nil (Next.mod rfl ?_)
 refine .tK 15 rfl .assign ?_
 refine RA.nil (by kernel_rfl) ?_
 ·first
   |exact aB (Q,C,Z,H) ⟨G,m⟩ kE.c.c.c.c.c.c.c.c rH
   |exact aB (Q,C,Z,H) ⟨G,m⟩ kE.c.c.c.c.c.c.c.c (aI [1,0,0,0,0,0,0])
 intro y hy
 obtain⟨Q,C,Z,H⟩:=y
 obtain⟨G,m⟩:=hy
 simp only at G m⊢
 have a7:RS (eg H) 1 bB C Z.scopes:=G
 obtain⟨b1,a9,c7⟩:=a7.val
 have j1:bJ (bE (C,Z)):=⟨G.bG⟩
 have j2:One C:=G.aw
 have a4:=w5 (now:=s.now) h2
 refine aD<|.seq<|.block<|.sr<|.mo rfl<|.q .not<|.mo rfl ?_
 refine .split (t:=75) rfl (λu=>?_) (λu=>?_)
 refine .gF u<|.gF u<|.gF u<|.q (.aY u) ?_
 refine .mo rfl<|.gX<|.gX<|.gX<|.gX<|.q .ca<|.az rfl<|.dF<|.sr<|.ag rfl<|.ag rfl<|.az rfl ?_
 refine .ret (br (aL (aR _ (.three (.tmp rfl) (.tmp rfl) (.tmp rfl)) (.one [3,3,3,3] _) ?_)))
 ·have a0:∀t,fq s.V f id=some t->t.used=false/\t.cq<=s.now:=by
   rcases a4 with⟨t,S,e2,e3,_⟩|h9
   ·exfalso
    rw[S,aeF]at m
    subst m
    first
     |(rw[S]at u;simp at u;done)
     |(rw[e2]at j;simp at j;done)
     |(rw[e3]at h4;simp at h4;done)
   ·exact h9.2
  have e:dC s id B f d a r rev=(e0,e0,18,s):=by
   unfold dC;rw[aeD (by simpa using U)]
   cases n:fq s.V f id with
   |none=>simp only;rw[aeD (by simpa using K)]
   |some t=>simp only;rw[aeD (by simp[(a0 t n).1]),aeD (by simpa using K),aeE (a0 t n).2]
  rw[e]
  exact⟨_,rfl,rfl,A,w,i,F,D,I,by simp[take,aZ],hR,hG,L⟩
 refine .gT u<|.fa rfl<|.gT u<|.lo rfl<|.gT u<|.q .dL<|.q (.aS u) ?_
 refine .mo rfl ?_
 refine .split (t:=80) rfl (λj=>?_) (λj=>?_)
 refine .gF j<|.gF j<|.gF j<|.gF j<|.q (.aY j) ?_
 refine .az rfl<|.dF<|.sr<|.ag rfl<|.ag rfl<|.az rfl ?_
 refine .ret (br (aL (aR _ (.three (.tmp rfl) (.tmp rfl) (.tmp rfl)) (.one [3,3,3,3] _) ?_)))
 ·have a0:∀t,fq s.V f id=some t->t.used=false/\t.cq<=s.now:=by
   rcases a4 with⟨t,S,e2,e3,_⟩|h9
   ·exfalso
    rw[S,aeF]at m
    subst m
    first
     |(rw[S]at u;simp at u;done)
     |(rw[e2]at j;simp at j;done)
     |(rw[e3]at h4;simp at h4;done)
   ·exact h9.2
  have e:dC s id B f d a r rev=(e0,e0,18,s):=by
   unfold dC;rw[aeD (by simpa using U)]
   cases n:fq s.V f id with
   |none=>simp only;rw[aeD (by simpa using K)]
   |some t=>simp only;rw[aeD (by simp[(a0 t n).1]),aeD (by simpa using K),aeE (a0 t n).2]
  rw[e]
  exact⟨_,rfl,rfl,A,w,i,F,D,I,by simp[take,aZ],hR,hG,L⟩
 refine .gT j<|.fa rfl<|.gT j<|.lo rfl<|.gT j<|.mo rfl<|.gT j<|.q .fj<|.q (.aS j) ?_
 refine .az rfl ?_
 refine .cond rfl (λh4=>?_) λh4=>?_
 refine .sr<|.ag rfl<|.ag rfl<|.az rfl ?_
 refine .ret (br (aL (aR _ (.three (.tmp rfl) (.tmp rfl) (.tmp rfl)) (.one [3,3,3,3] _) ?_)))
 ·have a0:∀t,fq s.V f id=some t->t.used=false/\t.cq<=s.now:=by
   rcases a4 with⟨t,S,e2,e3,_⟩|h9
   ·exfalso
    rw[S,aeF]at m
    subst m
    first
     |(rw[S]at u;simp at u;done)
     |(rw[e2]at j;simp at j;done)
     |(rw[e3]at h4;simp at h4;done)
   ·exact h9.2
  have e:dC s id B f d a r rev=(e0,e0,18,s):=by
   unfold dC;rw[aeD (by simpa using U)]
   cases n:fq s.V f id with
   |none=>simp only;rw[aeD (by simpa using K)]
   |some t=>simp only;rw[aeD (by simp[(a0 t n).1]),aeD (by simpa using K),aeE (a0 t n).2]
  rw[e]
  exact⟨_,rfl,rfl,A,w,i,F,D,I,by simp[take,aZ],hR,hG,L⟩
 obtain⟨t,S,e2,e3,e4,n,e6,e7⟩:=a4.resolve_right (λh9=>h9.1 (by
  have b5:(iZ s.V f s.now).isSome=true:=by simpa using u
  obtain⟨t,ht⟩:=Option.isSome_iff_exists.1 b5
  rw[ht,aeF]at m
  subst m
  exact⟨t,ht,by simpa using j,by simpa using h4⟩))
 rw[S,aeF]at m
 subst m
 have a5:=Ol (now:=s.now) e7 e2 e3 e4 e6
 refine .sr<|.mo rfl<|.fa rfl<|.lo rfl ?_
 refine .aM (wZ vs C d t.scopes _ hs.rx (a7.mono λb o N=>.inr (by have b6:(b,o)∈H:=N.1;simp[b6]))) (λv g=>?_)
 subst g
 refine .q .not<|.mo rfl ?_
 refine .split (t:=92) rfl (λJ=>?_) (λJ=>?_)
 refine .gF J<|.gF J<|.gF J<|.q (.aY J) ?_
 refine .az rfl<|.dF<|.sr<|.ag rfl<|.ag rfl<|.az rfl ?_
 refine .ret (br (aL (aR _ (.three (.tmp rfl) (.tmp rfl) (.tmp rfl)) (.one [3,3,3,3] _) ?_)))
 ·have e:dC s id B f d a r rev=(e0,e0,19,s):=by
   unfold dC;rw[aeD (by simpa using U),n];simp only
   rw[aeD (by simp[e4]),aeD (by simpa using K),aeD (by omega),aeE (by first|(exact .inl (by simpa using J))|(exact .inr (by simpa using h5)))]
  rw[e]
  exact⟨_,rfl,rfl,A,w,i,F,D,I,by simp[take,aZ],hR,hG,L⟩
 refine .gT J<|.mo rfl<|.gT J ?_
 refine .aM (Ln vs d b3 _ hs.rx) (λv g=>?_)
 subst g
 refine .gT J<|.q .not<|.q (.aS J) ?_
 refine .az rfl ?_
 refine .cond rfl (λh5=>?_) λh5=>?_
 refine .sr<|.ag rfl<|.ag rfl<|.az rfl ?_
 refine .ret (br (aL (aR _ (.three (.tmp rfl) (.tmp rfl) (.tmp rfl)) (.one [3,3,3,3] _) ?_)))
 ·have e:dC s id B f d a r rev=(e0,e0,19,s):=by
   unfold dC;rw[aeD (by simpa using U),n];simp only
   rw[aeD (by simp[e4]),aeD (by simpa using K),aeD (by omega),aeE (by first|(exact .inl (by simpa using J))|(exact .inr (by simpa using h5)))]
  rw[e]
  exact⟨_,rfl,rfl,A,w,i,F,D,I,by simp[take,aZ],hR,hG,L⟩
 refine .skip<|bz<|aD<|.seq<|.seq ?_
 refine bQ.cut (X:=ax×ax) (λy=>VI i (cT f t.mark s.V) s.last y.1) (λy=>[(0,pT q),(1,.string id),(4,vs),(7,.int .u64 rev),(20,pT a2),(22,pT Q),(25,.int .i64 0)]) (λy=>[bl Q (bE (C,t)) 60,H,bl a2 [.string (bj 97 a),.string (bj 114 r)] 147,bl q [pT A,pT w,pT i,.int .i64 s.now] 74,F,D,y.1++y.2]) ?_ ?_
 refine .cW [10,15] mixed ?_
 refine .tO 0 rfl .move<|.tO 1 rfl (.nilCheck rfl)<|.tO 2 rfl (.fieldAddr rfl)<|.tO 3 rfl (.bN rfl)<|.tO 4 rfl .move<|.tO 5 rfl .move<|.tO 6 rfl .move<|.tO 7 rfl (.nilCheck rfl)<|.tO 8 rfl (.fieldAddr rfl)<|.tO 9 rfl (.bN rfl) ?_
 refine RA.mR 10 14 rfl rfl (by kernel_rfl) rfl ?_ ?_
 refine .bW (tn i s.V s.last I L f id s.now R) (λv H g=>?_)
 obtain⟨O,Tn,rfl,w2,rfl,a1,W⟩:=g
 rw[a5]at W a1⊢
 have j3:bJ (bE (w2,t.mark)):=⟨a1.bG⟩
 refine .nil (Next.mod rfl ?_)
 refine .tK 11 rfl .move<|.tK 12 rfl .extract<|.tK 13 rfl .extract ?_
 refine .sT 14 rfl ?_
 refine .cN (λb4=>?_)
 refine .nil (Next.mod rfl ?_)
 refine .sT 15 rfl ?_
 refine .ct rfl rfl ?_
 refine .nil (Next.mod rfl ?_)
 refine .tK 16 rfl .assign ?_
 refine RA.nil (by kernel_rfl) ?_
 ·exact aB (O,Tn) W kE.c.c.c.c.c.c.c (aI [1,1,1,1,1,1,1])
 refine .cN (λb4=>?_)
 refine .nil (Next.sub ?_)
 refine .sT 10 rfl ?_
 refine .bW (tn i s.V s.last I L f id s.now R) (λv H g=>?_)
 obtain⟨O,Tn,rfl,w2,rfl,a1,W⟩:=g
 rw[a5]at W a1⊢
 have j3:bJ (bE (w2,t.mark)):=⟨a1.bG⟩
 refine .nil (Next.mod rfl ?_)
 refine .tK 11 rfl .move<|.tK 12 rfl .extract<|.tK 13 rfl .extract ?_
 refine .sT 15 rfl ?_
 refine .ct rfl rfl ?_
 refine .nil (Next.mod rfl ?_)
 refine .tK 16 rfl .assign ?_
 refine RA.nil (by kernel_rfl) ?_
 ·exact aB (O,Tn) W kE.c.c.c.c.c.c.c (aI [1,1,1,1,1,1,1])
 intro y hy
 obtain⟨O,Tn⟩:=y
 simp only at hy⊢
 have W:=hy
 refine aD<|.sr<|.mo rfl<|.q .dL<|.zn ?_
 refine .cond rfl (λh6=>?_) λh6=>?_
 ·simp at h6
 refine .kn<|.seq<|.sr<|.mo rfl<|.q (.dl hs) ?_
 refine .q .gtr<|.zn ?_
 refine bQ.cut (X:=Option Addr×Nat) (λy=>(Value.slice y.1 (if d=[]then t.scopes else d).length y.2=vs/\d≠[])\/(Value.slice y.1 (if d=[]then t.scopes else d).length y.2=C/\d=[])) (λy=>[(0,pT q),(1,.string id),(7,.int .u64 rev),(20,pT a2),(22,pT Q)]) (λy=>[bl Q (bE (.slice y.1 (if d=[]then t.scopes else d).length y.2,t)) 60,H,bl a2 [.string (bj 97 a),.string (bj 114 r)] 147,(q,.cells [pT A,pT w,pT i,.int .i64 s.now].toArray 74 (0,0))::(F++(D++O)),Tn]) ?_ ?_
 refine .cond rfl (λh7=>?_) λh7=>?_
 have a3:d≠[]:=λe=>by rw[e]at h7;simp at h7
 have M:Value.slice b0 (if d=[]then t.scopes else d).length a8=vs:=by rw[aeD a3];exact c6.symm
 refine .region<|.mo rfl<|.fa rfl<|.cJ rfl rfl<|.nil ?_
 ·first
   |refine aB (b0,a8) (.inl ⟨M,a3⟩) kE.c.c.c.c.c ?_
   |refine aB (b1,a9) (.inr ⟨M,he⟩) kE.c.c.c.c.c ?_
  simp only[M]
  refine aT.bu ?_
  simp[bE,cc]
 have he:d=[]:=by
  cases d with
  |nil=>rfl
  |cons x l=>simp at h7
 have M:Value.slice b1 (if d=[]then t.scopes else d).length a9=C:=by rw[aeE he];exact c7.symm
 refine .skip ?_
 ·first
   |refine aB (b0,a8) (.inl ⟨M,a3⟩) kE.c.c.c.c.c ?_
   |refine aB (b1,a9) (.inr ⟨M,he⟩) kE.c.c.c.c.c ?_
  simp only[M]
  refine aT.bu ?_
  simp[bE,cc]
 intro x hx
 obtain⟨pu,ku⟩:=x
 simp only at hx⊢
 have c8:PS ((q,.cells [pT A,pT w,pT i,.int .i64 s.now].toArray 74 (0,0))::(F++(D++O))) (pT q) [pT A,pT w,pT i,.int .i64 s.now]:=PS.of (E:=74) (fr:=(0,0)) (by simp)
 have c1:∀(R':av),(∀b o,R b o->R' b o)->(∀b o,(b,o)∈H->R' b o)->RS R' 1 bB (.slice pu (if d=[]then t.scopes else d).length ku) (if d=[]then t.scopes else d):=λR' g1 g2=>by
  rcases hx with⟨M,a3⟩|⟨M,he⟩
  ·rw[M,aeD a3];exact hs.mono g1
  ·rw[M,aeE he];exact a7.mono λb o N=>g2 b o N.1
 have c2:(if d=[]then t.scopes else d).length<=1000000:=by
  split
  ·exact L.eo _ (fH e7)
  ·exact b3
 refine aD<|.sr<|.mo rfl<|.q (.bK rfl)<|.mo rfl<|.fa rfl<|.lo rfl<|.fa rfl<|.lo rfl<|.fa rfl<|.lo rfl<|.mo rfl ?_
 refine .q .dI ?_
 refine .jO (wQ q {s with V:=cT f t.mark s.V} _ ⟨A,w,i,F,D,O,rfl,hR,hG,W⟩ b9 c0 (bj 97 a) (bj 114 r) (.slice pu (if d=[]then t.scopes else d).length ku) ⟨e0,0,id,t.user,if d=[]then t.scopes else d,t.family,0,rev,false⟩ _ (c1 _ (λb o N=>.inl N) (λb o N=>.inr (by simp[N]))) c2) (λv T3 g=>?_)
 refine .zs ?_
 refine .iQ mixed (by kernel_rfl) ?_
 refine .fa rfl<|.lo rfl<|.fa rfl<|.lo rfl<|.ag rfl<|.ag rfl<|.az rfl ?_
 refine .ret (aR _ (.three (.tmp rfl) (.tmp rfl) (.tmp rfl)) (.one [3] _) ?_)
 ·have e:dC s id B f d a r rev=(bj 97 a,bj 114 r,0,{s with V:=gO (cT f t.mark s.V) s.last s.now (bj 97 a) (bj 114 r) ⟨e0,0,id,t.user,if d=[]then t.scopes else d,t.family,0,rev,false⟩}):=by
   unfold dC;rw[aeD (by simpa using U),n];simp only
   rw[aeD (by simp[e4]),aeD (by simpa using K),aeD (by omega),aeD (by
    rintro(h9|h9)
    ·rw[h9]at J;simp at J
    ·exact h9 (by simpa using h5))]
  rw[e]
  exact⟨_,rfl,rfl,by simpa[take,aZ]using g⟩
end Go.Proofs.YtkkmbiojicgobaaGreatDoor

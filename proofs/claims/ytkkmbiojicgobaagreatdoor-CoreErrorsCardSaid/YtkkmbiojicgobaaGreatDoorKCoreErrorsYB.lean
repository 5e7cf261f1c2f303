/- What the law 'CoreErrors' uses. No condition. -/
import Derived.Test.YtkkmbiojicgobaaGreatDoorKCoreErrorsJ
import Derived.Test.YtkkmbiojicgobaaGreatDoorKCoreErrorsN
import Derived.Test.YtkkmbiojicgobaaGreatDoorKCoreErrorsQ
import Derived.Test.YtkkmbiojicgobaaGreatDoorKCoreErrorsYA
set_option linter.unusedSimpArgs false
set_option linter.unusedVariables false
namespace Go.Proofs.YtkkmbiojicgobaaGreatDoor
set_option linter.defProp false
def afq:=@if_neg
def afr:=@if_pos
def afs:=@congrArg
def aft:=@List.Perm.of_eq
def afu:=@List.cons_append
def afv:=@List.mem_filter
def afw:=@List.nil_append
def afx:=@Nat.zero_le
def afy:=@beq_iff_eq
def afz:=@Nat.le_refl
def afA:=@List.mem_cons
def afB:=@List.Sublist.refl
def afC:=@List.take_of_length_le
def afD:=@List.take_add_one
def afE:=@List.take_length
def afF:=@List.drop_eq_nil_of_le
def afG:=@List.perm_append_comm_assoc
open Tryz
set_option linter.unusedVariables false
set_option linter.unusedSimpArgs false
set_option maxRecDepth 4000
theorem lf(k:UInt8)(d:List UInt8):(⟨#[k,46]⟩:ByteArray)++⟨(dw d).toArray⟩=bj k d:=by
 apply ByteArray.ext
 rw[ByteArray.data_append]
 simp[bj]
theorem qo{c u:ByteArray}{a:List ByteArray}{f rev:Int}{v:Value}(h:aw v=true):gA [(0,1),(1,1),(2,1),(3,1),(4,1),(5,1),(6,1),(7,1),(8,1)] [.string ⟨#[]⟩,.int .i64 0,.string ⟨#[]⟩,.string ⟨#[]⟩,sZ,.int .i64 0,.int .i64 0,.int .u64 0,.bool false] [(2,.string c),(3,.string u),(4,v),(5,.int .i64 f),(7,.int .u64 rev)]=some (bE (v,⟨e0,0,c,u,a,f,0,rev,false⟩)):=by
 cases v<;>first|rfl|cases h
section
variable{RD R:av}{xb k:Nat}{s:cd}{H:aV}
theorem Ml(h:DS RD xb s H)(l:OB s k)(hk:k<=60)(id j d g f:ByteArray)(hv:f.size<=100000)(va vq:Value)(a r:List UInt8)(rev:Int)(c4:a.length<=1000)(c8:r.length<=1000)(R:av)(ha:RS R 1 cO va a)(hq:RS R 1 cO vq r)(b9:∀b o,RD b o->R b o):
    Spec prog 36 [pT xb,.string id,.string j,.string d,.string g,.string f,va,vq,.int .u64 rev] R H λu H'=>u=.tuple [.string (bM s id j d g f a r rev).1,.string (bM s id j d g f a r rev).2.1,.int .i64 (bM s id j d g f a r rev).2.2.1].toArray/\DS RD xb (bM s id j d g f a r rev).2.2.2 H':=by
  have Z:=h
  obtain⟨B,v,Q,G,D,C,S,O,rs,ns,gs,ts,rfl,hr,hn,hg,ht,m⟩:=h
  obtain⟨l1,l2,l3,l4⟩:=m.len l hk
  have i1:=hr.aw
  have i2:=hn.aw
  have i3:=hg.aw
  have i4:=ht.aw
  have i5:=ha.aw
  have i6:=hq.aw
  have c5:=mF a
  have c6:=mF r
  refine Spec.body func36 rfl results36 ntmps36 rfl ?_
  refine .sr<|.ag rfl<|.ag rfl<|.ag rfl<|.z<|.mo rfl<|.mo rfl<|.mo rfl<|.mo rfl<|.mo rfl ?_
  refine .aM (xp Z l hk id j va vq a r _ (ha.mono λb o l=>.inl l) (hq.mono λb o l=>.inl l) (λb o l=>.inl (b9 b o l)) (λb o l=>.inr l)) (λu I=>?_)
  subst I
  refine .ag rfl<|.zs<|.sr<|.mo rfl<|.q .dL<|.zn ?_
  refine .cond rfl (λh1=>?_) λh1=>?_
  have n:eA s id j a r≠0:=by simpa using h1
  refine .sr<|.mo rfl<|.ag rfl<|.ag rfl<|.az rfl ?_
  refine .ret (aL (aR _ (.three (.tmp rfl) (.tmp rfl) (.tmp rfl)) rH ?_))
  ·first
      |(have e:bM s id j d g f a r rev=(e0,e0,eA s id j a r,s):=by unfold bM;rw[afr n]
        rw[e];exact⟨rfl,Z⟩)
      |(have e:bM s id j d g f a r rev=(e0,e0,18,{s with V:=s.V.filter λx=> !(x.2.family==c.family)}):=by unfold bM;rw[afq (by simp[n]),F]
        rw[e]
        exact⟨rfl,B,v,Q,a9,D,C,S,a7,rs,ns,gs,_,rfl,hr,hn,hg,b0,m.db (λb o l=>l) (m.bt.filter λu=> !(u.family==c.family)) λp hp=>m.tr p (afv.1 hp).1⟩)
      |(have e:bM s id j d g f a r rev=(e0,e0,dG s (bj 97 a) (bj 114 r),s):=by
           unfold bM;rw[afq (by simp[n]),F];simp only;rw[afr M]
        rw[e];exact⟨rfl,Z⟩)
      |(have e:bM s id j d g f a r rev=(e0,e0,18,{s with A:=(bi s.A d id g f s.now).2.2}):=by
           unfold bM;rw[afq (by simp[n]),F];simp only;rw[afq (by simp[M]),afr Y]
        rw[e];exact⟨rfl,a6⟩)
      |(have e:bM s id j d g f a r rev=(bj 97 a,bj 114 r,0,{s with A:=(bi s.A d id g f s.now).2.2,V:=gO s.V s.last s.now (bj 97 a) (bj 114 r) ⟨e0,0,id,(bi s.A d id g f s.now).1.user,(bi s.A d id g f s.now).1.scopes,(bi s.A d id g f s.now).1.family,0,rev,false⟩}):=by
           unfold bM;rw[afq (by simp[n]),F];simp only;rw[afq (by simp[M]),afq (by simp[Y])]
        rw[e];exact⟨rfl,a8⟩)
  have n:eA s id j a r=0:=by simpa using h1
  refine .kn<|.sr<|.mo rfl<|.nc rfl<|.fa rfl<|.mo rfl ?_
  refine .aM (sC xb v G s.last s.now Q gs d _ hg.rx m.gr) (λu I=>?_)
  obtain⟨z,rfl,hz⟩:=I
  refine .ag rfl<|.zs<|.sr<|.mo rfl<|.q .geq<|.mo rfl ?_
  refine .split (t:=43) rfl (λT=>?_) (λT=>?_)
  obtain⟨i,w,c,rfl,hi,c7,b8⟩:=hz.at m.bg (by have h9:=bx T;omega)
  have ci:=m.gr _ (bU hi)
  have ii:bJ (bO (w,c)):=⟨ci.bG⟩
  refine .gT T<|.mo rfl<|.gT T<|.nc rfl<|.gT T<|.fa rfl<|.gT T<|.fa rfl<|.gT T<|.lo rfl<|.gT T<|.mo rfl<|.gT T ?_
  refine .bb i hg hi (λd0=>?_)
  refine .gT T<|.fa rfl<|.gT T<|.lo rfl<|.gT T<|.mo rfl<|.gT T<|.q .ek<|.q (.aY T) ?_
  refine .mo rfl ?_
  refine .split (t:=56) rfl (λa4=>?_) (λa4=>?_)
  refine .gT a4<|.mo rfl<|.gT a4<|.nc rfl<|.gT a4<|.fa rfl<|.gT a4<|.fa rfl<|.gT a4<|.lo rfl<|.gT a4<|.mo rfl<|.gT a4 ?_
  refine .bb i hg hi (λd1=>?_)
  refine .gT a4<|.fa rfl<|.gT a4<|.lo rfl<|.q (.aY a4) ?_
  refine .zn ?_
  refine .cond rfl (λh2=>?_) λh2=>?_
  have F:jl s.A d id=some c:=by
    have a1:c.aE=id:=by simpa using a4
    have a2:c.used=true:=h2
    unfold jl;rw[b8];simp[Option.filter,a1,a2]
  refine .seq ?_
  refine .df 12 mixed (by kernel_rfl) ?_
  conv=>arg 6;dsimp only[List.take]
  refine .mo rfl<|.nc rfl<|.fa rfl<|.mo rfl<|.nc rfl<|.fa rfl<|.fa rfl<|.lo rfl<|.mo rfl ?_
  refine .bb i hg hi (λd2=>?_)
  refine .fa rfl<|.lo rfl<|.nil ?_
  refine .sub (H':=[(xb,.cells [B,v,Q,G,.int .i64 s.last,.int .i64 s.now].toArray 44 (0,0))::O,D,C,S]) ((aI [0,3,0,0,0]).trans (aT.bu (by simp[take,aZ]))) ?_
  refine .bW (sE xb B v Q s.now ts s.last _ ⟨G,O,rfl,ht,by omega⟩ s.V m.bt c.family R m.tr) (λu T4 I=>?_)
  obtain⟨rfl,a9,a7,rfl,b0,c9⟩:=I
  have i9:=b0.aw
  refine .sub (H':=[bl xb [B,v,Q,a9,.int .i64 s.last,.int .i64 s.now] 44,D,C,S,a7]) ((aT.bu (H':=[bl xb [B,v,Q,a9,.int .i64 s.last,.int .i64 s.now] 44,a7,D,C,S]) (by simp)).trans (aI [0,1,1,1,0])) ?_
  refine .z<|.ag rfl<|.ag rfl<|.az rfl ?_
  refine .ret (aL (aR _ (.three (.tmp rfl) (.tmp rfl) (.tmp rfl)) rH ?_))
  ·first
      |(have e:bM s id j d g f a r rev=(e0,e0,eA s id j a r,s):=by unfold bM;rw[afr n]
        rw[e];exact⟨rfl,Z⟩)
      |(have e:bM s id j d g f a r rev=(e0,e0,18,{s with V:=s.V.filter λx=> !(x.2.family==c.family)}):=by unfold bM;rw[afq (by simp[n]),F]
        rw[e]
        exact⟨rfl,B,v,Q,a9,D,C,S,a7,rs,ns,gs,_,rfl,hr,hn,hg,b0,m.db (λb o l=>l) (m.bt.filter λu=> !(u.family==c.family)) λp hp=>m.tr p (afv.1 hp).1⟩)
      |(have e:bM s id j d g f a r rev=(e0,e0,dG s (bj 97 a) (bj 114 r),s):=by
           unfold bM;rw[afq (by simp[n]),F];simp only;rw[afr M]
        rw[e];exact⟨rfl,Z⟩)
      |(have e:bM s id j d g f a r rev=(e0,e0,18,{s with A:=(bi s.A d id g f s.now).2.2}):=by
           unfold bM;rw[afq (by simp[n]),F];simp only;rw[afq (by simp[M]),afr Y]
        rw[e];exact⟨rfl,a6⟩)
      |(have e:bM s id j d g f a r rev=(bj 97 a,bj 114 r,0,{s with A:=(bi s.A d id g f s.now).2.2,V:=gO s.V s.last s.now (bj 97 a) (bj 114 r) ⟨e0,0,id,(bi s.A d id g f s.now).1.user,(bi s.A d id g f s.now).1.scopes,(bi s.A d id g f s.now).1.family,0,rev,false⟩}):=by
           unfold bM;rw[afq (by simp[n]),F];simp only;rw[afq (by simp[M]),afq (by simp[Y])]
        rw[e];exact⟨rfl,a8⟩)
  have F:jl s.A d id=none:=by
    unfold jl
    first
      |(have b6:aU d s.A=none:=by rw[<-m.bg.get];exact hz.neg (by have h9:=bo T;omega)
        rw[b6];rfl)
      |(rw[b8]
        first
          |(have a1:¬c.aE=id:=by simpa using a4
            simp[Option.filter,a1];done)
          |(have a2:c.used=false:=h2
            simp[Option.filter,a2];done))
  refine .kn<|.sr<|.mo rfl ?_
  refine .aM (kR va a _ (ha.mono λb o l=>.inl l) (by omega)) (λu I=>?_)
  subst I
  refine .q (.cast (v':=.string (bj 97 a)) (.gI (p:=⟨#[97,46]⟩) (q:=⟨(dw a).toArray⟩) (by rw[fz (dw a)];show 2+_<=_;omega) rfl rfl) (afs Value.string (lf 97 a))) ?_
  refine .mo rfl ?_
  refine .aM (kR vq r _ (hq.mono λb o l=>.inl l) (by omega)) (λu I=>?_)
  subst I
  refine .q (.cast (v':=.string (bj 114 r)) (.gI (p:=⟨#[114,46]⟩) (q:=⟨(dw r).toArray⟩) (by rw[fz (dw r)];show 2+_<=_;omega) rfl rfl) (afs Value.string (lf 114 r))) ?_
  refine .ag rfl<|.ag rfl<|.z<|.mo rfl<|.mo rfl<|.mo rfl ?_
  refine .aM (o8 Z l hk (bj 97 a) (bj 114 r) _ (λb o l=>.inl (b9 b o l)) (λb o l=>.inr l)) (λu I=>?_)
  subst I
  refine .ag rfl<|.zs<|.sr<|.mo rfl<|.q .dL<|.zn ?_
  refine .cond rfl (λh3=>?_) λh3=>?_
  have M:dG s (bj 97 a) (bj 114 r)≠0:=by simpa using h3
  refine .sr<|.mo rfl<|.ag rfl<|.ag rfl<|.az rfl ?_
  refine .ret (aL (aR _ (.three (.tmp rfl) (.tmp rfl) (.tmp rfl)) rH ?_))
  ·first
      |(have e:bM s id j d g f a r rev=(e0,e0,eA s id j a r,s):=by unfold bM;rw[afr n]
        rw[e];exact⟨rfl,Z⟩)
      |(have e:bM s id j d g f a r rev=(e0,e0,18,{s with V:=s.V.filter λx=> !(x.2.family==c.family)}):=by unfold bM;rw[afq (by simp[n]),F]
        rw[e]
        exact⟨rfl,B,v,Q,a9,D,C,S,a7,rs,ns,gs,_,rfl,hr,hn,hg,b0,m.db (λb o l=>l) (m.bt.filter λu=> !(u.family==c.family)) λp hp=>m.tr p (afv.1 hp).1⟩)
      |(have e:bM s id j d g f a r rev=(e0,e0,dG s (bj 97 a) (bj 114 r),s):=by
           unfold bM;rw[afq (by simp[n]),F];simp only;rw[afr M]
        rw[e];exact⟨rfl,Z⟩)
      |(have e:bM s id j d g f a r rev=(e0,e0,18,{s with A:=(bi s.A d id g f s.now).2.2}):=by
           unfold bM;rw[afq (by simp[n]),F];simp only;rw[afq (by simp[M]),afr Y]
        rw[e];exact⟨rfl,a6⟩)
      |(have e:bM s id j d g f a r rev=(bj 97 a,bj 114 r,0,{s with A:=(bi s.A d id g f s.now).2.2,V:=gO s.V s.last s.now (bj 97 a) (bj 114 r) ⟨e0,0,id,(bi s.A d id g f s.now).1.user,(bi s.A d id g f s.now).1.scopes,(bi s.A d id g f s.now).1.family,0,rev,false⟩}):=by
           unfold bM;rw[afq (by simp[n]),F];simp only;rw[afq (by simp[M]),afq (by simp[Y])]
        rw[e];exact⟨rfl,a8⟩)
  have M:dG s (bj 97 a) (bj 114 r)=0:=by simpa using h3
  refine .kn<|.seq ?_
  refine bQ.ld [(0,_),(1,_),(8,_),(23,_),(24,_)] kE.c.c.c.c.c (X:=Value×Value×ax×List GP×Nat) (λy=>dq RD (y.1,(bi s.A d id g f s.now).1)/\OS 121 9 bO y.2.1 y.2.2.2.1 y.2.2.1/\eZ (bi s.A d id g f s.now).2.2 y.2.2.2.1/\(∀p∈y.2.2.2.1,dq RD p)/\y.2.2.2.1.length<=gs.length) (λy E=>(25,.pointer (some ⟨y.2.2.2.2,0,none⟩))::(26,.int .i64 (bi s.A d id g f s.now).2.1)::E) (λy=>[[(y.2.2.2.2,.cells (bO (y.1,(bi s.A d id g f s.now).1)).toArray 121 (0,0))],bl xb [B,v,y.2.1,G,.int .i64 s.last,.int .i64 s.now] 44,D,C,y.2.2.1,O]) ?_ ?_
  refine .cW [11,16] mixed ?_
  refine .tO 0 rfl .move<|.tO 1 rfl (.nilCheck rfl)<|.tO 2 rfl (.fieldAddr rfl)<|.tO 3 rfl .move<|.tO 4 rfl .move<|.tO 5 rfl .move<|.tO 6 rfl .move<|.tO 7 rfl .move<|.tO 8 rfl (.nilCheck rfl)<|.tO 9 rfl (.fieldAddr rfl)<|.tO 10 rfl (.bN rfl) ?_
  refine RA.mR 11 15 rfl rfl (by kernel_rfl) rfl ?_ ?_
  first
    |refine aG.sub (H':=[(xb,.cells [B,v,Q,G,.int .i64 s.last,.int .i64 s.now].toArray 44 (0,0))::S,D,C,O]) ((aI [0,2,0,0,0]).trans (aT.bu (aft rfl))) ?_
    |refine aG.sub (H':=[(xb,.cells [B,v,Q,G,.int .i64 s.last,.int .i64 s.now].toArray 44 (0,0))::S,bl K (bO gz) 121,D,C,O]) ((aI [1,3,0,0,0,0]).trans (aT.bu (aft rfl))) ?_
  refine .bW (nU xb B v G s.last s.now gs _ ⟨Q,S,rfl,hg,by omega⟩ s.A m.bg d id g f s.now hv R m.gr) (λu b3 I=>?_)
  obtain⟨w,a5,rfl,L,⟨N,J,rfl,W,b5⟩,U,a3,a0⟩:=I
  have b2:bJ (bO (w,(bi s.A d id g f s.now).1)):=⟨L.bG⟩
  refine .nil (Next.mod rfl ?_)
  refine .tK 12 rfl .move<|.tK 13 rfl .extract<|.tK 14 rfl .extract ?_
  refine .sT 15 rfl ?_
  refine .cN (λK=>?_)
  refine .nil (Next.mod rfl ?_)
  refine .sT 16 rfl ?_
  refine .ct rfl rfl ?_
  refine .nil (Next.mod rfl ?_)
  refine .tK 17 rfl .assign ?_
  refine RA.nil (by kernel_rfl) ?_
  ·first
      |exact aB (w,N,J,a5,K) ⟨L,W,U,a3,a0⟩ kE.c.c.c.c.c.c.c ((aT.bu (H':=[bl K (bO (w,(bi s.A d id g f s.now).1)) 121,bl xb [B,v,N,G,.int .i64 s.last,.int .i64 s.now] 44,J,D,C,O]) (aft rfl)).trans (aI [0,0,1,1,0,0]))
      |exact aB (w,N,J,a5,K) ⟨L,W,U,a3,a0⟩ kE.c.c.c.c.c.c.c ((aT.bu (H':=[bl xb [B,v,N,G,.int .i64 s.last,.int .i64 s.now] 44,J,bl K (bO (w,(bi s.A d id g f s.now).1)) 121,D,C,O]) (aft rfl)).trans (aI [2,0,1,1,0,0]))
  refine .cN (λK=>?_)
  refine .nil (Next.sub ?_)
  refine .sT 11 rfl ?_
  first
    |refine aG.sub (H':=[(xb,.cells [B,v,Q,G,.int .i64 s.last,.int .i64 s.now].toArray 44 (0,0))::S,D,C,O]) ((aI [0,2,0,0,0]).trans (aT.bu (aft rfl))) ?_
    |refine aG.sub (H':=[(xb,.cells [B,v,Q,G,.int .i64 s.last,.int .i64 s.now].toArray 44 (0,0))::S,bl K (bO gz) 121,D,C,O]) ((aI [1,3,0,0,0,0]).trans (aT.bu (aft rfl))) ?_
  refine .bW (nU xb B v G s.last s.now gs _ ⟨Q,S,rfl,hg,by omega⟩ s.A m.bg d id g f s.now hv R m.gr) (λu b3 I=>?_)
  obtain⟨w,a5,rfl,L,⟨N,J,rfl,W,b5⟩,U,a3,a0⟩:=I
  have b2:bJ (bO (w,(bi s.A d id g f s.now).1)):=⟨L.bG⟩
  refine .nil (Next.mod rfl ?_)
  refine .tK 12 rfl .move<|.tK 13 rfl .extract<|.tK 14 rfl .extract ?_
  refine .sT 16 rfl ?_
  refine .ct rfl rfl ?_
  refine .nil (Next.mod rfl ?_)
  refine .tK 17 rfl .assign ?_
  refine RA.nil (by kernel_rfl) ?_
  ·first
      |exact aB (w,N,J,a5,K) ⟨L,W,U,a3,a0⟩ kE.c.c.c.c.c.c.c ((aT.bu (H':=[bl K (bO (w,(bi s.A d id g f s.now).1)) 121,bl xb [B,v,N,G,.int .i64 s.last,.int .i64 s.now] 44,J,D,C,O]) (aft rfl)).trans (aI [0,0,1,1,0,0]))
      |exact aB (w,N,J,a5,K) ⟨L,W,U,a3,a0⟩ kE.c.c.c.c.c.c.c ((aT.bu (H':=[bl xb [B,v,N,G,.int .i64 s.last,.int .i64 s.now] 44,J,bl K (bO (w,(bi s.A d id g f s.now).1)) 121,D,C,O]) (aft rfl)).trans (aI [2,0,1,1,0,0]))
  intro y hy
  obtain⟨w,N,J,a5,K⟩:=y
  obtain⟨L,W,U,a3,a0⟩:=hy
  simp only at L W U a3 a0⊢
  have b2:bJ (bO (w,(bi s.A d id g f s.now).1)):=⟨L.bG⟩
  have b7:One w:=RS.aw L
  have i7:=W.aw
  have a6:DS RD xb {s with A:=(bi s.A d id g f s.now).2.2} [bl xb [B,v,N,G,.int .i64 s.last,.int .i64 s.now] 44,D,C,J,O]:=⟨B,v,N,G,D,C,J,O,rs,ns,a5,ts,rfl,hr,hn,W,ht,m.gS (λb o l=>l) U a3⟩
  have b4:OB {s with A:=(bi s.A d id g f s.now).2.2} k:=l.less (by rw[U.len,m.bg.len];exact a0) (afz _) (afB _) l.cs
  refine aD<|.seq<|.sr<|.mo rfl<|.q .dL<|.zn ?_
  refine .cond rfl (λh4=>?_) λh4=>?_
  have Y:(bi s.A d id g f s.now).2.1≠0:=by simpa using h4
  refine .sr<|.ag rfl<|.ag rfl<|.az rfl ?_
  refine .ret (aL (aR _ (.three (.tmp rfl) (.tmp rfl) (.tmp rfl)) (aI [1,1,1,1,1]) ?_))
  ·first
      |(have e:bM s id j d g f a r rev=(e0,e0,eA s id j a r,s):=by unfold bM;rw[afr n]
        rw[e];exact⟨rfl,Z⟩)
      |(have e:bM s id j d g f a r rev=(e0,e0,18,{s with V:=s.V.filter λx=> !(x.2.family==c.family)}):=by unfold bM;rw[afq (by simp[n]),F]
        rw[e]
        exact⟨rfl,B,v,Q,a9,D,C,S,a7,rs,ns,gs,_,rfl,hr,hn,hg,b0,m.db (λb o l=>l) (m.bt.filter λu=> !(u.family==c.family)) λp hp=>m.tr p (afv.1 hp).1⟩)
      |(have e:bM s id j d g f a r rev=(e0,e0,dG s (bj 97 a) (bj 114 r),s):=by
           unfold bM;rw[afq (by simp[n]),F];simp only;rw[afr M]
        rw[e];exact⟨rfl,Z⟩)
      |(have e:bM s id j d g f a r rev=(e0,e0,18,{s with A:=(bi s.A d id g f s.now).2.2}):=by
           unfold bM;rw[afq (by simp[n]),F];simp only;rw[afq (by simp[M]),afr Y]
        rw[e];exact⟨rfl,a6⟩)
      |(have e:bM s id j d g f a r rev=(bj 97 a,bj 114 r,0,{s with A:=(bi s.A d id g f s.now).2.2,V:=gO s.V s.last s.now (bj 97 a) (bj 114 r) ⟨e0,0,id,(bi s.A d id g f s.now).1.user,(bi s.A d id g f s.now).1.scopes,(bi s.A d id g f s.now).1.family,0,rev,false⟩}):=by
           unfold bM;rw[afq (by simp[n]),F];simp only;rw[afq (by simp[M]),afq (by simp[Y])]
        rw[e];exact⟨rfl,a8⟩)
  have Y:(bi s.A d id g f s.now).2.1=0:=by simpa using h4
  refine .kn<|.sr<|.mo rfl<|.mo rfl<|.mo rfl<|.mo rfl<|.fa rfl<|.lo rfl<|.fa rfl<|.lo rfl<|.fa rfl<|.lo rfl<|.mo rfl ?_
  refine .q (.dI (out:=bE (w,⟨e0,0,id,(bi s.A d id g f s.now).1.user,(bi s.A d id g f s.now).1.scopes,(bi s.A d id g f s.now).1.family,0,rev,false⟩)) rfl (qo b7.h)) ?_
  refine .call [1,1,1,1,1] (qF a6 b4 hk (bj 97 a) (bj 114 r) w ⟨e0,0,id,(bi s.A d id g f s.now).1.user,(bi s.A d id g f s.now).1.scopes,(bi s.A d id g f s.now).1.family,0,rev,false⟩ L _) (λu H' I=>?_)
  obtain⟨rfl,b1⟩:=I
  have a8:=b1
  obtain⟨ur,un,ug,uv,Ur,Un,Ug,Uv,c0,c1,c2,c3,rfl,_,_,_,_,_⟩:=b1
  conv=>arg 8;simp only[rest,aZ,afu,afw]
  refine .z<|.mo rfl<|.mo rfl<|.ag rfl<|.ag rfl<|.az rfl ?_
  refine .ret (aR _ (.three (.tmp rfl) (.tmp rfl) (.tmp rfl)) (aI [0,0,0,0,0]) ?_)
  ·first
      |(have e:bM s id j d g f a r rev=(e0,e0,eA s id j a r,s):=by unfold bM;rw[afr n]
        rw[e];exact⟨rfl,Z⟩)
      |(have e:bM s id j d g f a r rev=(e0,e0,18,{s with V:=s.V.filter λx=> !(x.2.family==c.family)}):=by unfold bM;rw[afq (by simp[n]),F]
        rw[e]
        exact⟨rfl,B,v,Q,a9,D,C,S,a7,rs,ns,gs,_,rfl,hr,hn,hg,b0,m.db (λb o l=>l) (m.bt.filter λu=> !(u.family==c.family)) λp hp=>m.tr p (afv.1 hp).1⟩)
      |(have e:bM s id j d g f a r rev=(e0,e0,dG s (bj 97 a) (bj 114 r),s):=by
           unfold bM;rw[afq (by simp[n]),F];simp only;rw[afr M]
        rw[e];exact⟨rfl,Z⟩)
      |(have e:bM s id j d g f a r rev=(e0,e0,18,{s with A:=(bi s.A d id g f s.now).2.2}):=by
           unfold bM;rw[afq (by simp[n]),F];simp only;rw[afq (by simp[M]),afr Y]
        rw[e];exact⟨rfl,a6⟩)
      |(have e:bM s id j d g f a r rev=(bj 97 a,bj 114 r,0,{s with A:=(bi s.A d id g f s.now).2.2,V:=gO s.V s.last s.now (bj 97 a) (bj 114 r) ⟨e0,0,id,(bi s.A d id g f s.now).1.user,(bi s.A d id g f s.now).1.scopes,(bi s.A d id g f s.now).1.family,0,rev,false⟩}):=by
           unfold bM;rw[afq (by simp[n]),F];simp only;rw[afq (by simp[M]),afq (by simp[Y])]
        rw[e];exact⟨rfl,a8⟩)
  refine .gF a4<|.gF a4<|.gF a4<|.gF a4<|.gF a4<|.gF a4<|.gF a4<|.gF a4<|.gF a4<|.q (.aS a4) ?_
  refine .zn<|.bZ ?_
  have F:jl s.A d id=none:=by
    unfold jl
    first
      |(have b6:aU d s.A=none:=by rw[<-m.bg.get];exact hz.neg (by have h9:=bo T;omega)
        rw[b6];rfl)
      |(rw[b8]
        first
          |(have a1:¬c.aE=id:=by simpa using a4
            simp[Option.filter,a1];done)
          |(have a2:c.used=false:=h2
            simp[Option.filter,a2];done))
  refine .kn<|.sr<|.mo rfl ?_
  refine .aM (kR va a _ (ha.mono λb o l=>.inl l) (by omega)) (λu I=>?_)
  subst I
  refine .q (.cast (v':=.string (bj 97 a)) (.gI (p:=⟨#[97,46]⟩) (q:=⟨(dw a).toArray⟩) (by rw[fz (dw a)];show 2+_<=_;omega) rfl rfl) (afs Value.string (lf 97 a))) ?_
  refine .mo rfl ?_
  refine .aM (kR vq r _ (hq.mono λb o l=>.inl l) (by omega)) (λu I=>?_)
  subst I
  refine .q (.cast (v':=.string (bj 114 r)) (.gI (p:=⟨#[114,46]⟩) (q:=⟨(dw r).toArray⟩) (by rw[fz (dw r)];show 2+_<=_;omega) rfl rfl) (afs Value.string (lf 114 r))) ?_
  refine .ag rfl<|.ag rfl<|.z<|.mo rfl<|.mo rfl<|.mo rfl ?_
  refine .aM (o8 Z l hk (bj 97 a) (bj 114 r) _ (λb o l=>.inl (b9 b o l)) (λb o l=>.inr l)) (λu I=>?_)
  subst I
  refine .ag rfl<|.zs<|.sr<|.mo rfl<|.q .dL<|.zn ?_
  refine .cond rfl (λh3=>?_) λh3=>?_
  have M:dG s (bj 97 a) (bj 114 r)≠0:=by simpa using h3
  refine .sr<|.mo rfl<|.ag rfl<|.ag rfl<|.az rfl ?_
  refine .ret (aL (aR _ (.three (.tmp rfl) (.tmp rfl) (.tmp rfl)) rH ?_))
  ·first
      |(have e:bM s id j d g f a r rev=(e0,e0,eA s id j a r,s):=by unfold bM;rw[afr n]
        rw[e];exact⟨rfl,Z⟩)
      |(have e:bM s id j d g f a r rev=(e0,e0,18,{s with V:=s.V.filter λx=> !(x.2.family==c.family)}):=by unfold bM;rw[afq (by simp[n]),F]
        rw[e]
        exact⟨rfl,B,v,Q,a9,D,C,S,a7,rs,ns,gs,_,rfl,hr,hn,hg,b0,m.db (λb o l=>l) (m.bt.filter λu=> !(u.family==c.family)) λp hp=>m.tr p (afv.1 hp).1⟩)
      |(have e:bM s id j d g f a r rev=(e0,e0,dG s (bj 97 a) (bj 114 r),s):=by
           unfold bM;rw[afq (by simp[n]),F];simp only;rw[afr M]
        rw[e];exact⟨rfl,Z⟩)
      |(have e:bM s id j d g f a r rev=(e0,e0,18,{s with A:=(bi s.A d id g f s.now).2.2}):=by
           unfold bM;rw[afq (by simp[n]),F];simp only;rw[afq (by simp[M]),afr Y]
        rw[e];exact⟨rfl,a6⟩)
      |(have e:bM s id j d g f a r rev=(bj 97 a,bj 114 r,0,{s with A:=(bi s.A d id g f s.now).2.2,V:=gO s.V s.last s.now (bj 97 a) (bj 114 r) ⟨e0,0,id,(bi s.A d id g f s.now).1.user,(bi s.A d id g f s.now).1.scopes,(bi s.A d id g f s.now).1.family,0,rev,false⟩}):=by
           unfold bM;rw[afq (by simp[n]),F];simp only;rw[afq (by simp[M]),afq (by simp[Y])]
        rw[e];exact⟨rfl,a8⟩)
  have M:dG s (bj 97 a) (bj 114 r)=0:=by simpa using h3
  refine .kn<|.seq ?_
  refine bQ.ld [(0,_),(1,_),(8,_),(23,_),(24,_)] kE.c.c.c.c.c (X:=Value×Value×ax×List GP×Nat) (λy=>dq RD (y.1,(bi s.A d id g f s.now).1)/\OS 121 9 bO y.2.1 y.2.2.2.1 y.2.2.1/\eZ (bi s.A d id g f s.now).2.2 y.2.2.2.1/\(∀p∈y.2.2.2.1,dq RD p)/\y.2.2.2.1.length<=gs.length) (λy E=>(25,.pointer (some ⟨y.2.2.2.2,0,none⟩))::(26,.int .i64 (bi s.A d id g f s.now).2.1)::E) (λy=>[[(y.2.2.2.2,.cells (bO (y.1,(bi s.A d id g f s.now).1)).toArray 121 (0,0))],bl xb [B,v,y.2.1,G,.int .i64 s.last,.int .i64 s.now] 44,D,C,y.2.2.1,O]) ?_ ?_
  refine .cW [11,16] mixed ?_
  refine .tO 0 rfl .move<|.tO 1 rfl (.nilCheck rfl)<|.tO 2 rfl (.fieldAddr rfl)<|.tO 3 rfl .move<|.tO 4 rfl .move<|.tO 5 rfl .move<|.tO 6 rfl .move<|.tO 7 rfl .move<|.tO 8 rfl (.nilCheck rfl)<|.tO 9 rfl (.fieldAddr rfl)<|.tO 10 rfl (.bN rfl) ?_
  refine RA.mR 11 15 rfl rfl (by kernel_rfl) rfl ?_ ?_
  first
    |refine aG.sub (H':=[(xb,.cells [B,v,Q,G,.int .i64 s.last,.int .i64 s.now].toArray 44 (0,0))::S,D,C,O]) ((aI [0,2,0,0,0]).trans (aT.bu (aft rfl))) ?_
    |refine aG.sub (H':=[(xb,.cells [B,v,Q,G,.int .i64 s.last,.int .i64 s.now].toArray 44 (0,0))::S,bl K (bO gz) 121,D,C,O]) ((aI [1,3,0,0,0,0]).trans (aT.bu (aft rfl))) ?_
  refine .bW (nU xb B v G s.last s.now gs _ ⟨Q,S,rfl,hg,by omega⟩ s.A m.bg d id g f s.now hv R m.gr) (λu b3 I=>?_)
  obtain⟨w,a5,rfl,L,⟨N,J,rfl,W,b5⟩,U,a3,a0⟩:=I
  have b2:bJ (bO (w,(bi s.A d id g f s.now).1)):=⟨L.bG⟩
  refine .nil (Next.mod rfl ?_)
  refine .tK 12 rfl .move<|.tK 13 rfl .extract<|.tK 14 rfl .extract ?_
  refine .sT 15 rfl ?_
  refine .cN (λK=>?_)
  refine .nil (Next.mod rfl ?_)
  refine .sT 16 rfl ?_
  refine .ct rfl rfl ?_
  refine .nil (Next.mod rfl ?_)
  refine .tK 17 rfl .assign ?_
  refine RA.nil (by kernel_rfl) ?_
  ·first
      |exact aB (w,N,J,a5,K) ⟨L,W,U,a3,a0⟩ kE.c.c.c.c.c.c.c ((aT.bu (H':=[bl K (bO (w,(bi s.A d id g f s.now).1)) 121,bl xb [B,v,N,G,.int .i64 s.last,.int .i64 s.now] 44,J,D,C,O]) (aft rfl)).trans (aI [0,0,1,1,0,0]))
      |exact aB (w,N,J,a5,K) ⟨L,W,U,a3,a0⟩ kE.c.c.c.c.c.c.c ((aT.bu (H':=[bl xb [B,v,N,G,.int .i64 s.last,.int .i64 s.now] 44,J,bl K (bO (w,(bi s.A d id g f s.now).1)) 121,D,C,O]) (aft rfl)).trans (aI [2,0,1,1,0,0]))
  refine .cN (λK=>?_)
  refine .nil (Next.sub ?_)
  refine .sT 11 rfl ?_
  first
    |refine aG.sub (H':=[(xb,.cells [B,v,Q,G,.int .i64 s.last,.int .i64 s.now].toArray 44 (0,0))::S,D,C,O]) ((aI [0,2,0,0,0]).trans (aT.bu (aft rfl))) ?_
    |refine aG.sub (H':=[(xb,.cells [B,v,Q,G,.int .i64 s.last,.int .i64 s.now].toArray 44 (0,0))::S,bl K (bO gz) 121,D,C,O]) ((aI [1,3,0,0,0,0]).trans (aT.bu (aft rfl))) ?_
  refine .bW (nU xb B v G s.last s.now gs _ ⟨Q,S,rfl,hg,by omega⟩ s.A m.bg d id g f s.now hv R m.gr) (λu b3 I=>?_)
  obtain⟨w,a5,rfl,L,⟨N,J,rfl,W,b5⟩,U,a3,a0⟩:=I
  have b2:bJ (bO (w,(bi s.A d id g f s.now).1)):=⟨L.bG⟩
  refine .nil (Next.mod rfl ?_)
  refine .tK 12 rfl .move<|.tK 13 rfl .extract<|.tK 14 rfl .extract ?_
  refine .sT 16 rfl ?_
  refine .ct rfl rfl ?_
  refine .nil (Next.mod rfl ?_)
  refine .tK 17 rfl .assign ?_
  refine RA.nil (by kernel_rfl) ?_
  ·first
      |exact aB (w,N,J,a5,K) ⟨L,W,U,a3,a0⟩ kE.c.c.c.c.c.c.c ((aT.bu (H':=[bl K (bO (w,(bi s.A d id g f s.now).1)) 121,bl xb [B,v,N,G,.int .i64 s.last,.int .i64 s.now] 44,J,D,C,O]) (aft rfl)).trans (aI [0,0,1,1,0,0]))
      |exact aB (w,N,J,a5,K) ⟨L,W,U,a3,a0⟩ kE.c.c.c.c.c.c.c ((aT.bu (H':=[bl xb [B,v,N,G,.int .i64 s.last,.int .i64 s.now] 44,J,bl K (bO (w,(bi s.A d id g f s.now).1)) 121,D,C,O]) (aft rfl)).trans (aI [2,0,1,1,0,0]))
  intro y hy
  obtain⟨w,N,J,a5,K⟩:=y
  obtain⟨L,W,U,a3,a0⟩:=hy
  simp only at L W U a3 a0⊢
  have b2:bJ (bO (w,(bi s.A d id g f s.now).1)):=⟨L.bG⟩
  have b7:One w:=RS.aw L
  have i7:=W.aw
  have a6:DS RD xb {s with A:=(bi s.A d id g f s.now).2.2} [bl xb [B,v,N,G,.int .i64 s.last,.int .i64 s.now] 44,D,C,J,O]:=⟨B,v,N,G,D,C,J,O,rs,ns,a5,ts,rfl,hr,hn,W,ht,m.gS (λb o l=>l) U a3⟩
  have b4:OB {s with A:=(bi s.A d id g f s.now).2.2} k:=l.less (by rw[U.len,m.bg.len];exact a0) (afz _) (afB _) l.cs
  refine aD<|.seq<|.sr<|.mo rfl<|.q .dL<|.zn ?_
  refine .cond rfl (λh4=>?_) λh4=>?_
  have Y:(bi s.A d id g f s.now).2.1≠0:=by simpa using h4
  refine .sr<|.ag rfl<|.ag rfl<|.az rfl ?_
  refine .ret (aL (aR _ (.three (.tmp rfl) (.tmp rfl) (.tmp rfl)) (aI [1,1,1,1,1]) ?_))
  ·first
      |(have e:bM s id j d g f a r rev=(e0,e0,eA s id j a r,s):=by unfold bM;rw[afr n]
        rw[e];exact⟨rfl,Z⟩)
      |(have e:bM s id j d g f a r rev=(e0,e0,18,{s with V:=s.V.filter λx=> !(x.2.family==c.family)}):=by unfold bM;rw[afq (by simp[n]),F]
        rw[e]
        exact⟨rfl,B,v,Q,a9,D,C,S,a7,rs,ns,gs,_,rfl,hr,hn,hg,b0,m.db (λb o l=>l) (m.bt.filter λu=> !(u.family==c.family)) λp hp=>m.tr p (afv.1 hp).1⟩)
      |(have e:bM s id j d g f a r rev=(e0,e0,dG s (bj 97 a) (bj 114 r),s):=by
           unfold bM;rw[afq (by simp[n]),F];simp only;rw[afr M]
        rw[e];exact⟨rfl,Z⟩)
      |(have e:bM s id j d g f a r rev=(e0,e0,18,{s with A:=(bi s.A d id g f s.now).2.2}):=by
           unfold bM;rw[afq (by simp[n]),F];simp only;rw[afq (by simp[M]),afr Y]
        rw[e];exact⟨rfl,a6⟩)
      |(have e:bM s id j d g f a r rev=(bj 97 a,bj 114 r,0,{s with A:=(bi s.A d id g f s.now).2.2,V:=gO s.V s.last s.now (bj 97 a) (bj 114 r) ⟨e0,0,id,(bi s.A d id g f s.now).1.user,(bi s.A d id g f s.now).1.scopes,(bi s.A d id g f s.now).1.family,0,rev,false⟩}):=by
           unfold bM;rw[afq (by simp[n]),F];simp only;rw[afq (by simp[M]),afq (by simp[Y])]
        rw[e];exact⟨rfl,a8⟩)
  have Y:(bi s.A d id g f s.now).2.1=0:=by simpa using h4
  refine .kn<|.sr<|.mo rfl<|.mo rfl<|.mo rfl<|.mo rfl<|.fa rfl<|.lo rfl<|.fa rfl<|.lo rfl<|.fa rfl<|.lo rfl<|.mo rfl ?_
  refine .q (.dI (out:=bE (w,⟨e0,0,id,(bi s.A d id g f s.now).1.user,(bi s.A d id g f s.now).1.scopes,(bi s.A d id g f s.now).1.family,0,rev,false⟩)) rfl (qo b7.h)) ?_
  refine .call [1,1,1,1,1] (qF a6 b4 hk (bj 97 a) (bj 114 r) w ⟨e0,0,id,(bi s.A d id g f s.now).1.user,(bi s.A d id g f s.now).1.scopes,(bi s.A d id g f s.now).1.family,0,rev,false⟩ L _) (λu H' I=>?_)
  obtain⟨rfl,b1⟩:=I
  have a8:=b1
  obtain⟨ur,un,ug,uv,Ur,Un,Ug,Uv,c0,c1,c2,c3,rfl,_,_,_,_,_⟩:=b1
  conv=>arg 8;simp only[rest,aZ,afu,afw]
  refine .z<|.mo rfl<|.mo rfl<|.ag rfl<|.ag rfl<|.az rfl ?_
  refine .ret (aR _ (.three (.tmp rfl) (.tmp rfl) (.tmp rfl)) (aI [0,0,0,0,0]) ?_)
  ·first
      |(have e:bM s id j d g f a r rev=(e0,e0,eA s id j a r,s):=by unfold bM;rw[afr n]
        rw[e];exact⟨rfl,Z⟩)
      |(have e:bM s id j d g f a r rev=(e0,e0,18,{s with V:=s.V.filter λx=> !(x.2.family==c.family)}):=by unfold bM;rw[afq (by simp[n]),F]
        rw[e]
        exact⟨rfl,B,v,Q,a9,D,C,S,a7,rs,ns,gs,_,rfl,hr,hn,hg,b0,m.db (λb o l=>l) (m.bt.filter λu=> !(u.family==c.family)) λp hp=>m.tr p (afv.1 hp).1⟩)
      |(have e:bM s id j d g f a r rev=(e0,e0,dG s (bj 97 a) (bj 114 r),s):=by
           unfold bM;rw[afq (by simp[n]),F];simp only;rw[afr M]
        rw[e];exact⟨rfl,Z⟩)
      |(have e:bM s id j d g f a r rev=(e0,e0,18,{s with A:=(bi s.A d id g f s.now).2.2}):=by
           unfold bM;rw[afq (by simp[n]),F];simp only;rw[afq (by simp[M]),afr Y]
        rw[e];exact⟨rfl,a6⟩)
      |(have e:bM s id j d g f a r rev=(bj 97 a,bj 114 r,0,{s with A:=(bi s.A d id g f s.now).2.2,V:=gO s.V s.last s.now (bj 97 a) (bj 114 r) ⟨e0,0,id,(bi s.A d id g f s.now).1.user,(bi s.A d id g f s.now).1.scopes,(bi s.A d id g f s.now).1.family,0,rev,false⟩}):=by
           unfold bM;rw[afq (by simp[n]),F];simp only;rw[afq (by simp[M]),afq (by simp[Y])]
        rw[e];exact⟨rfl,a8⟩)
  refine .gF T<|.gF T<|.gF T<|.gF T<|.gF T<|.gF T<|.gF T<|.gF T<|.gF T<|.gF T<|.gF T<|.q (.aS T) ?_
  refine .mo rfl<|.gX<|.gX<|.gX<|.gX<|.gX<|.gX<|.gX<|.gX<|.gX<|.q .bY<|.zn<|.bZ ?_
  have F:jl s.A d id=none:=by
    unfold jl
    first
      |(have b6:aU d s.A=none:=by rw[<-m.bg.get];exact hz.neg (by have h9:=bo T;omega)
        rw[b6];rfl)
      |(rw[b8]
        first
          |(have a1:¬c.aE=id:=by simpa using a4
            simp[Option.filter,a1];done)
          |(have a2:c.used=false:=h2
            simp[Option.filter,a2];done))
  refine .kn<|.sr<|.mo rfl ?_
  refine .aM (kR va a _ (ha.mono λb o l=>.inl l) (by omega)) (λu I=>?_)
  subst I
  refine .q (.cast (v':=.string (bj 97 a)) (.gI (p:=⟨#[97,46]⟩) (q:=⟨(dw a).toArray⟩) (by rw[fz (dw a)];show 2+_<=_;omega) rfl rfl) (afs Value.string (lf 97 a))) ?_
  refine .mo rfl ?_
  refine .aM (kR vq r _ (hq.mono λb o l=>.inl l) (by omega)) (λu I=>?_)
  subst I
  refine .q (.cast (v':=.string (bj 114 r)) (.gI (p:=⟨#[114,46]⟩) (q:=⟨(dw r).toArray⟩) (by rw[fz (dw r)];show 2+_<=_;omega) rfl rfl) (afs Value.string (lf 114 r))) ?_
  refine .ag rfl<|.ag rfl<|.z<|.mo rfl<|.mo rfl<|.mo rfl ?_
  refine .aM (o8 Z l hk (bj 97 a) (bj 114 r) _ (λb o l=>.inl (b9 b o l)) (λb o l=>.inr l)) (λu I=>?_)
  subst I
  refine .ag rfl<|.zs<|.sr<|.mo rfl<|.q .dL<|.zn ?_
  refine .cond rfl (λh3=>?_) λh3=>?_
  have M:dG s (bj 97 a) (bj 114 r)≠0:=by simpa using h3
  refine .sr<|.mo rfl<|.ag rfl<|.ag rfl<|.az rfl ?_
  refine .ret (aL (aR _ (.three (.tmp rfl) (.tmp rfl) (.tmp rfl)) rH ?_))
  ·first
      |(have e:bM s id j d g f a r rev=(e0,e0,eA s id j a r,s):=by unfold bM;rw[afr n]
        rw[e];exact⟨rfl,Z⟩)
      |(have e:bM s id j d g f a r rev=(e0,e0,18,{s with V:=s.V.filter λx=> !(x.2.family==c.family)}):=by unfold bM;rw[afq (by simp[n]),F]
        rw[e]
        exact⟨rfl,B,v,Q,a9,D,C,S,a7,rs,ns,gs,_,rfl,hr,hn,hg,b0,m.db (λb o l=>l) (m.bt.filter λu=> !(u.family==c.family)) λp hp=>m.tr p (afv.1 hp).1⟩)
      |(have e:bM s id j d g f a r rev=(e0,e0,dG s (bj 97 a) (bj 114 r),s):=by
           unfold bM;rw[afq (by simp[n]),F];simp only;rw[afr M]
        rw[e];exact⟨rfl,Z⟩)
      |(have e:bM s id j d g f a r rev=(e0,e0,18,{s with A:=(bi s.A d id g f s.now).2.2}):=by
           unfold bM;rw[afq (by simp[n]),F];simp only;rw[afq (by simp[M]),afr Y]
        rw[e];exact⟨rfl,a6⟩)
      |(have e:bM s id j d g f a r rev=(bj 97 a,bj 114 r,0,{s with A:=(bi s.A d id g f s.now).2.2,V:=gO s.V s.last s.now (bj 97 a) (bj 114 r) ⟨e0,0,id,(bi s.A d id g f s.now).1.user,(bi s.A d id g f s.now).1.scopes,(bi s.A d id g f s.now).1.family,0,rev,false⟩}):=by
           unfold bM;rw[afq (by simp[n]),F];simp only;rw[afq (by simp[M]),afq (by simp[Y])]
        rw[e];exact⟨rfl,a8⟩)
  have M:dG s (bj 97 a) (bj 114 r)=0:=by simpa using h3
  refine .kn<|.seq ?_
  refine bQ.ld [(0,_),(1,_),(8,_),(23,_),(24,_)] kE.c.c.c.c.c (X:=Value×Value×ax×List GP×Nat) (λy=>dq RD (y.1,(bi s.A d id g f s.now).1)/\OS 121 9 bO y.2.1 y.2.2.2.1 y.2.2.1/\eZ (bi s.A d id g f s.now).2.2 y.2.2.2.1/\(∀p∈y.2.2.2.1,dq RD p)/\y.2.2.2.1.length<=gs.length) (λy E=>(25,.pointer (some ⟨y.2.2.2.2,0,none⟩))::(26,.int .i64 (bi s.A d id g f s.now).2.1)::E) (λy=>[[(y.2.2.2.2,.cells (bO (y.1,(bi s.A d id g f s.now).1)).toArray 121 (0,0))],bl xb [B,v,y.2.1,G,.int .i64 s.last,.int .i64 s.now] 44,D,C,y.2.2.1,O]) ?_ ?_
  refine .cW [11,16] mixed ?_
  refine .tO 0 rfl .move<|.tO 1 rfl (.nilCheck rfl)<|.tO 2 rfl (.fieldAddr rfl)<|.tO 3 rfl .move<|.tO 4 rfl .move<|.tO 5 rfl .move<|.tO 6 rfl .move<|.tO 7 rfl .move<|.tO 8 rfl (.nilCheck rfl)<|.tO 9 rfl (.fieldAddr rfl)<|.tO 10 rfl (.bN rfl) ?_
  refine RA.mR 11 15 rfl rfl (by kernel_rfl) rfl ?_ ?_
  first
    |refine aG.sub (H':=[(xb,.cells [B,v,Q,G,.int .i64 s.last,.int .i64 s.now].toArray 44 (0,0))::S,D,C,O]) ((aI [0,2,0,0,0]).trans (aT.bu (aft rfl))) ?_
    |refine aG.sub (H':=[(xb,.cells [B,v,Q,G,.int .i64 s.last,.int .i64 s.now].toArray 44 (0,0))::S,bl K (bO gz) 121,D,C,O]) ((aI [1,3,0,0,0,0]).trans (aT.bu (aft rfl))) ?_
  refine .bW (nU xb B v G s.last s.now gs _ ⟨Q,S,rfl,hg,by omega⟩ s.A m.bg d id g f s.now hv R m.gr) (λu b3 I=>?_)
  obtain⟨w,a5,rfl,L,⟨N,J,rfl,W,b5⟩,U,a3,a0⟩:=I
  have b2:bJ (bO (w,(bi s.A d id g f s.now).1)):=⟨L.bG⟩
  refine .nil (Next.mod rfl ?_)
  refine .tK 12 rfl .move<|.tK 13 rfl .extract<|.tK 14 rfl .extract ?_
  refine .sT 15 rfl ?_
  refine .cN (λK=>?_)
  refine .nil (Next.mod rfl ?_)
  refine .sT 16 rfl ?_
  refine .ct rfl rfl ?_
  refine .nil (Next.mod rfl ?_)
  refine .tK 17 rfl .assign ?_
  refine RA.nil (by kernel_rfl) ?_
  ·first
      |exact aB (w,N,J,a5,K) ⟨L,W,U,a3,a0⟩ kE.c.c.c.c.c.c.c ((aT.bu (H':=[bl K (bO (w,(bi s.A d id g f s.now).1)) 121,bl xb [B,v,N,G,.int .i64 s.last,.int .i64 s.now] 44,J,D,C,O]) (aft rfl)).trans (aI [0,0,1,1,0,0]))
      |exact aB (w,N,J,a5,K) ⟨L,W,U,a3,a0⟩ kE.c.c.c.c.c.c.c ((aT.bu (H':=[bl xb [B,v,N,G,.int .i64 s.last,.int .i64 s.now] 44,J,bl K (bO (w,(bi s.A d id g f s.now).1)) 121,D,C,O]) (aft rfl)).trans (aI [2,0,1,1,0,0]))
  refine .cN (λK=>?_)
  refine .nil (Next.sub ?_)
  refine .sT 11 rfl ?_
  first
    |refine aG.sub (H':=[(xb,.cells [B,v,Q,G,.int .i64 s.last,.int .i64 s.now].toArray 44 (0,0))::S,D,C,O]) ((aI [0,2,0,0,0]).trans (aT.bu (aft rfl))) ?_
    |refine aG.sub (H':=[(xb,.cells [B,v,Q,G,.int .i64 s.last,.int .i64 s.now].toArray 44 (0,0))::S,bl K (bO gz) 121,D,C,O]) ((aI [1,3,0,0,0,0]).trans (aT.bu (aft rfl))) ?_
  refine .bW (nU xb B v G s.last s.now gs _ ⟨Q,S,rfl,hg,by omega⟩ s.A m.bg d id g f s.now hv R m.gr) (λu b3 I=>?_)
  obtain⟨w,a5,rfl,L,⟨N,J,rfl,W,b5⟩,U,a3,a0⟩:=I
  have b2:bJ (bO (w,(bi s.A d id g f s.now).1)):=⟨L.bG⟩
  refine .nil (Next.mod rfl ?_)
  refine .tK 12 rfl .move<|.tK 13 rfl .extract<|.tK 14 rfl .extract ?_
  refine .sT 16 rfl ?_
  refine .ct rfl rfl ?_
  refine .nil (Next.mod rfl ?_)
  refine .tK 17 rfl .assign ?_
  refine RA.nil (by kernel_rfl) ?_
  ·first
      |exact aB (w,N,J,a5,K) ⟨L,W,U,a3,a0⟩ kE.c.c.c.c.c.c.c ((aT.bu (H':=[bl K (bO (w,(bi s.A d id g f s.now).1)) 121,bl xb [B,v,N,G,.int .i64 s.last,.int .i64 s.now] 44,J,D,C,O]) (aft rfl)).trans (aI [0,0,1,1,0,0]))
      |exact aB (w,N,J,a5,K) ⟨L,W,U,a3,a0⟩ kE.c.c.c.c.c.c.c ((aT.bu (H':=[bl xb [B,v,N,G,.int .i64 s.last,.int .i64 s.now] 44,J,bl K (bO (w,(bi s.A d id g f s.now).1)) 121,D,C,O]) (aft rfl)).trans (aI [2,0,1,1,0,0]))
  intro y hy
  obtain⟨w,N,J,a5,K⟩:=y
  obtain⟨L,W,U,a3,a0⟩:=hy
  simp only at L W U a3 a0⊢
  have b2:bJ (bO (w,(bi s.A d id g f s.now).1)):=⟨L.bG⟩
  have b7:One w:=RS.aw L
  have i7:=W.aw
  have a6:DS RD xb {s with A:=(bi s.A d id g f s.now).2.2} [bl xb [B,v,N,G,.int .i64 s.last,.int .i64 s.now] 44,D,C,J,O]:=⟨B,v,N,G,D,C,J,O,rs,ns,a5,ts,rfl,hr,hn,W,ht,m.gS (λb o l=>l) U a3⟩
  have b4:OB {s with A:=(bi s.A d id g f s.now).2.2} k:=l.less (by rw[U.len,m.bg.len];exact a0) (afz _) (afB _) l.cs
  refine aD<|.seq<|.sr<|.mo rfl<|.q .dL<|.zn ?_
  refine .cond rfl (λh4=>?_) λh4=>?_
  have Y:(bi s.A d id g f s.now).2.1≠0:=by simpa using h4
  refine .sr<|.ag rfl<|.ag rfl<|.az rfl ?_
  refine .ret (aL (aR _ (.three (.tmp rfl) (.tmp rfl) (.tmp rfl)) (aI [1,1,1,1,1]) ?_))
  ·first
      |(have e:bM s id j d g f a r rev=(e0,e0,eA s id j a r,s):=by unfold bM;rw[afr n]
        rw[e];exact⟨rfl,Z⟩)
      |(have e:bM s id j d g f a r rev=(e0,e0,18,{s with V:=s.V.filter λx=> !(x.2.family==c.family)}):=by unfold bM;rw[afq (by simp[n]),F]
        rw[e]
        exact⟨rfl,B,v,Q,a9,D,C,S,a7,rs,ns,gs,_,rfl,hr,hn,hg,b0,m.db (λb o l=>l) (m.bt.filter λu=> !(u.family==c.family)) λp hp=>m.tr p (afv.1 hp).1⟩)
      |(have e:bM s id j d g f a r rev=(e0,e0,dG s (bj 97 a) (bj 114 r),s):=by
           unfold bM;rw[afq (by simp[n]),F];simp only;rw[afr M]
        rw[e];exact⟨rfl,Z⟩)
      |(have e:bM s id j d g f a r rev=(e0,e0,18,{s with A:=(bi s.A d id g f s.now).2.2}):=by
           unfold bM;rw[afq (by simp[n]),F];simp only;rw[afq (by simp[M]),afr Y]
        rw[e];exact⟨rfl,a6⟩)
      |(have e:bM s id j d g f a r rev=(bj 97 a,bj 114 r,0,{s with A:=(bi s.A d id g f s.now).2.2,V:=gO s.V s.last s.now (bj 97 a) (bj 114 r) ⟨e0,0,id,(bi s.A d id g f s.now).1.user,(bi s.A d id g f s.now).1.scopes,(bi s.A d id g f s.now).1.family,0,rev,false⟩}):=by
           unfold bM;rw[afq (by simp[n]),F];simp only;rw[afq (by simp[M]),afq (by simp[Y])]
        rw[e];exact⟨rfl,a8⟩)
  have Y:(bi s.A d id g f s.now).2.1=0:=by simpa using h4
  refine .kn<|.sr<|.mo rfl<|.mo rfl<|.mo rfl<|.mo rfl<|.fa rfl<|.lo rfl<|.fa rfl<|.lo rfl<|.fa rfl<|.lo rfl<|.mo rfl ?_
  refine .q (.dI (out:=bE (w,⟨e0,0,id,(bi s.A d id g f s.now).1.user,(bi s.A d id g f s.now).1.scopes,(bi s.A d id g f s.now).1.family,0,rev,false⟩)) rfl (qo b7.h)) ?_
  refine .call [1,1,1,1,1] (qF a6 b4 hk (bj 97 a) (bj 114 r) w ⟨e0,0,id,(bi s.A d id g f s.now).1.user,(bi s.A d id g f s.now).1.scopes,(bi s.A d id g f s.now).1.family,0,rev,false⟩ L _) (λu H' I=>?_)
  obtain⟨rfl,b1⟩:=I
  have a8:=b1
  obtain⟨ur,un,ug,uv,Ur,Un,Ug,Uv,c0,c1,c2,c3,rfl,_,_,_,_,_⟩:=b1
  conv=>arg 8;simp only[rest,aZ,afu,afw]
  refine .z<|.mo rfl<|.mo rfl<|.ag rfl<|.ag rfl<|.az rfl ?_
  refine .ret (aR _ (.three (.tmp rfl) (.tmp rfl) (.tmp rfl)) (aI [0,0,0,0,0]) ?_)
  ·first
      |(have e:bM s id j d g f a r rev=(e0,e0,eA s id j a r,s):=by unfold bM;rw[afr n]
        rw[e];exact⟨rfl,Z⟩)
      |(have e:bM s id j d g f a r rev=(e0,e0,18,{s with V:=s.V.filter λx=> !(x.2.family==c.family)}):=by unfold bM;rw[afq (by simp[n]),F]
        rw[e]
        exact⟨rfl,B,v,Q,a9,D,C,S,a7,rs,ns,gs,_,rfl,hr,hn,hg,b0,m.db (λb o l=>l) (m.bt.filter λu=> !(u.family==c.family)) λp hp=>m.tr p (afv.1 hp).1⟩)
      |(have e:bM s id j d g f a r rev=(e0,e0,dG s (bj 97 a) (bj 114 r),s):=by
           unfold bM;rw[afq (by simp[n]),F];simp only;rw[afr M]
        rw[e];exact⟨rfl,Z⟩)
      |(have e:bM s id j d g f a r rev=(e0,e0,18,{s with A:=(bi s.A d id g f s.now).2.2}):=by
           unfold bM;rw[afq (by simp[n]),F];simp only;rw[afq (by simp[M]),afr Y]
        rw[e];exact⟨rfl,a6⟩)
      |(have e:bM s id j d g f a r rev=(bj 97 a,bj 114 r,0,{s with A:=(bi s.A d id g f s.now).2.2,V:=gO s.V s.last s.now (bj 97 a) (bj 114 r) ⟨e0,0,id,(bi s.A d id g f s.now).1.user,(bi s.A d id g f s.now).1.scopes,(bi s.A d id g f s.now).1.family,0,rev,false⟩}):=by
           unfold bM;rw[afq (by simp[n]),F];simp only;rw[afq (by simp[M]),afq (by simp[Y])]
        rw[e];exact⟨rfl,a8⟩)
end
theorem yp{l:List ByteArray}(h:l.length<=99)(a:∀t∈l,t.size<=99):texts l 99 99=l:=by
 unfold texts
 rw[afC h]
 refine(List.map_congr_left λt b=>?_).trans (List.map_id l)
 unfold short
 have:=a t b
 rw[afq (by omega)]
 rfl
theorem ma{A:List (ByteArray×bL)}{t:bL}(h:(dr A t).1≠0):(dr A t).2=A:=by
 unfold dr at h⊢
 split
 ·rfl
 ·rename_i a
  rw[afq a]at h
  split
  ·rfl
  ·rename_i b
   rw[afq b]at h
   exact absurd rfl h
theorem Ke{a b c d f:ByteArray}{g:List ByteArray}{e z:Int}{v:Value}(h:aw v=true):gA [(0,1),(1,1),(2,1),(3,1),(4,1),(5,1),(6,1),(7,1),(8,1)] [.string ⟨#[]⟩,.string ⟨#[]⟩,.string ⟨#[]⟩,.string ⟨#[]⟩,sZ,.string ⟨#[]⟩,.int .i64 0,.int .i64 0,.bool false] [(0,.string a),(1,.string b),(2,.string c),(3,.string d),(4,v),(5,.string f),(6,.int .i64 e),(7,.int .i64 z)]=some (bO (v,⟨a,b,c,d,g,f,e,z,false⟩)):=by
 cases v<;>first|rfl|cases h
section
variable{RD R:av}{xb k:Nat}{s:cd}{H:aV}
theorem Md(h:DS RD xb s H)(a:OB s k)(hk:k<=60)(user id j:ByteArray)(hu:user.size<=9223372036854775807)(vs:Value)(g:List ByteArray)(a6:RS RD 1 bB vs g)(c6:g.length<=6)(b3:∀t∈g,t.size<=99)(i:ByteArray)(b2:∀R,Spec prog 103 [.string i] R [] λu H'=>u=.bool (lN i)/\H'=[])(va:Value)(d:List UInt8)(b9:d.length<=1000)(R:av)(ha:RS R 1 cO va d)(a4:∀b o,RD b o->R b o):
    Spec prog 35 [pT xb,.string user,.string id,.string j,vs,.string i,va] R H λu H'=>u=.tuple [.string (bp s user id j g i d).1,.int .i64 (bp s user id j g i d).2.1].toArray/\∃Hs Td,H'=Hs++[Td]/\DS (λb o=>RD b o\/sg Td b o) xb (bp s user id j g i d).2.2 Hs:=by
  have n:=h
  obtain⟨B,x,vg,D,J,L,Tg,N,T,ns,gs,ts,rfl,Q,Z,hg,ht,G⟩:=h
  obtain⟨l1,l2,l3,l4⟩:=G.len a hk
  have c4:=a.n0
  have c5:=a.n1
  have c2:=a.l0
  have c3:=a.l1
  have i1:=Q.aw
  have i2:=Z.aw
  have i3:=hg.aw
  have i4:=ht.aw
  have i5:=ha.aw
  have c8:=a6.aw
  have c0:=mF d
  have b4:=yp (l:=g) (by omega) b3
  obtain⟨C,W⟩:∃C,C=jk s user id j g i d:=⟨_,rfl⟩
  refine Spec.dg (H':=[bl xb [B,x,vg,D,.int .i64 s.last,.int .i64 s.now] 44,J,L,Tg,N,[]]) (by simp) ?_
  refine Spec.body func35 rfl results35 ntmps35 rfl ?_
  refine .sr<|.ag rfl<|.ag rfl<|.zs<|.sr<|.mo rfl<|.q (.dl ha) ?_
  refine .q .dL<|.zn ?_
  refine .cond rfl (λh1=>?_) λh1=>?_
  have m:d.length≠24:=by
    have a1:¬((d.length:Nat):Int)=24:=by simpa using h1
    omega
  refine .sr<|.ag rfl<|.az rfl ?_
  refine .ret (aL (aR _ (.two (.tmp rfl) (.tmp rfl)) rH ?_))
  ·first
      |(have e:bp s user id j g i d=(e0,2,s):=by unfold bp;rw[afr m]
        rw[e];exact⟨rfl,[_,_,_,_,_],[],rfl,n.mono λb o a=>.inl a⟩)
      |(have f:bX s user id j g i=17:=by unfold bX;rw[afr r]
        have e:bp s user id j g i d=(e0,17,s):=by unfold bp;rw[afq (by simp[m]),afr (by rw[f];decide),f]
        rw[e];exact⟨rfl,[_,_,_,_,_],[],rfl,n.mono λb o a=>.inl a⟩)
      |(have f:bX s user id j g i=21:=by unfold bX;rw[afq (by simp[r]),afr v]
        have e:bp s user id j g i d=(e0,21,s):=by unfold bp;rw[afq (by simp[m]),afr (by rw[f];decide),f]
        rw[e];exact⟨rfl,[_,_,_,_,_],[],rfl,n.mono λb o a=>.inl a⟩)
      |(have f:bX s user id j g i=19:=by unfold bX;rw[afq (by simp[r]),afq (by simp[v]),afr w]
        have e:bp s user id j g i d=(e0,19,s):=by unfold bp;rw[afq (by simp[m]),afr (by rw[f];decide),f]
        rw[e];exact⟨rfl,[_,_,_,_,_],[],rfl,n.mono λb o a=>.inl a⟩)
      |(have f:bX s user id j g i=21:=by unfold bX;rw[afq (by simp[r]),afq (by simp[v]),afq (by simp[w]),afr I]
        have e:bp s user id j g i d=(e0,21,s):=by unfold bp;rw[afq (by simp[m]),afr (by rw[f];decide),f]
        rw[e];exact⟨rfl,[_,_,_,_,_],[],rfl,n.mono λb o a=>.inl a⟩)
      |(have f:bX s user id j g i=9:=by unfold bX;rw[afq (by simp[r]),afq (by simp[v]),afq (by simp[w]),afq (by simp[I]),afr Y]
        have e:bp s user id j g i d=(e0,9,s):=by unfold bp;rw[afq (by simp[m]),afr (by rw[f];decide),f]
        rw[e];exact⟨rfl,[_,_,_,_,_],[],rfl,n.mono λb o a=>.inl a⟩)
      |(have f:bX s user id j g i=20:=by unfold bX;rw[afq (by simp[r]),afq (by simp[v]),afq (by simp[w]),afq (by simp[I]),afq (by simp[Y]),afr a3]
        have e:bp s user id j g i d=(e0,20,s):=by unfold bp;rw[afq (by simp[m]),afr (by rw[f];decide),f]
        rw[e];exact⟨rfl,[_,_,_,_,_],[],rfl,n.mono λb o a=>.inl a⟩)
      |(have e:bp s user id j g i d=(e0,(dr s.A C).1,s):=by unfold bp;rw[afq (by simp[m]),afq (by simp[a2]), <-W,afr K]
        rw[e]
        rw[ma K]at F
        exact⟨rfl,[_,_,_,_,_],M,rfl,B,x,U,D,J,L,S,N,T,ns,V,ts,rfl,Q,Z,O,ht,G.gS (last:=s.last) (λb o a=>.inl a) F a0⟩)
      |(have e:bp s user id j g i d=(bj 99 d,0,{s with A:=(dr s.A C).2,last:=s.last+1}):=by unfold bp;rw[afq (by simp[m]),afq (by simp[a2]), <-W,afq (by simp[K])]
        rw[e]
        exact⟨rfl,[_,_,_,_,_],M,rfl,B,x,U,D,J,L,S,N,T,ns,V,ts,rfl,Q,Z,O,ht,G.gS (λb o a=>.inl a) F a0⟩)
  have m:d.length=24:=by
    have a1:((d.length:Nat):Int)=24:=by simpa using h1
    omega
  refine .kn<|.seq<|.sr<|.mo rfl<|.nc rfl<|.fa rfl<|.mo rfl ?_
  refine .aM (ni xb x vg D s.last s.now T ((xb,.cells [B,x,vg,D,.int .i64 s.last,.int .i64 s.now].toArray 44 (0,0))::J) ⟨B,J,rfl,Q,l1⟩ id _ (G.cr.mono λb o a=>.inl (a4 b o a)) (λp hp=>.inr (by
    rcases afA.1 hp with rfl|hp
    ·simp
    ·simp[hp]))) (λu hu=>?_)
  obtain⟨z,rfl,hz⟩:=hu
  have a9:=G.find hz
  refine .q .lss<|.zn ?_
  refine .cond rfl (λh2=>?_) λh2=>?_
  have r:(cw id s.cs).isSome=false:=by rw[a9];have h9:=bx h2;simp;omega
  refine .sr<|.ag rfl<|.az rfl ?_
  refine .ret (aL (aR _ (.two (.tmp rfl) (.tmp rfl)) rH ?_))
  ·first
      |(have e:bp s user id j g i d=(e0,2,s):=by unfold bp;rw[afr m]
        rw[e];exact⟨rfl,[_,_,_,_,_],[],rfl,n.mono λb o a=>.inl a⟩)
      |(have f:bX s user id j g i=17:=by unfold bX;rw[afr r]
        have e:bp s user id j g i d=(e0,17,s):=by unfold bp;rw[afq (by simp[m]),afr (by rw[f];decide),f]
        rw[e];exact⟨rfl,[_,_,_,_,_],[],rfl,n.mono λb o a=>.inl a⟩)
      |(have f:bX s user id j g i=21:=by unfold bX;rw[afq (by simp[r]),afr v]
        have e:bp s user id j g i d=(e0,21,s):=by unfold bp;rw[afq (by simp[m]),afr (by rw[f];decide),f]
        rw[e];exact⟨rfl,[_,_,_,_,_],[],rfl,n.mono λb o a=>.inl a⟩)
      |(have f:bX s user id j g i=19:=by unfold bX;rw[afq (by simp[r]),afq (by simp[v]),afr w]
        have e:bp s user id j g i d=(e0,19,s):=by unfold bp;rw[afq (by simp[m]),afr (by rw[f];decide),f]
        rw[e];exact⟨rfl,[_,_,_,_,_],[],rfl,n.mono λb o a=>.inl a⟩)
      |(have f:bX s user id j g i=21:=by unfold bX;rw[afq (by simp[r]),afq (by simp[v]),afq (by simp[w]),afr I]
        have e:bp s user id j g i d=(e0,21,s):=by unfold bp;rw[afq (by simp[m]),afr (by rw[f];decide),f]
        rw[e];exact⟨rfl,[_,_,_,_,_],[],rfl,n.mono λb o a=>.inl a⟩)
      |(have f:bX s user id j g i=9:=by unfold bX;rw[afq (by simp[r]),afq (by simp[v]),afq (by simp[w]),afq (by simp[I]),afr Y]
        have e:bp s user id j g i d=(e0,9,s):=by unfold bp;rw[afq (by simp[m]),afr (by rw[f];decide),f]
        rw[e];exact⟨rfl,[_,_,_,_,_],[],rfl,n.mono λb o a=>.inl a⟩)
      |(have f:bX s user id j g i=20:=by unfold bX;rw[afq (by simp[r]),afq (by simp[v]),afq (by simp[w]),afq (by simp[I]),afq (by simp[Y]),afr a3]
        have e:bp s user id j g i d=(e0,20,s):=by unfold bp;rw[afq (by simp[m]),afr (by rw[f];decide),f]
        rw[e];exact⟨rfl,[_,_,_,_,_],[],rfl,n.mono λb o a=>.inl a⟩)
      |(have e:bp s user id j g i d=(e0,(dr s.A C).1,s):=by unfold bp;rw[afq (by simp[m]),afq (by simp[a2]), <-W,afr K]
        rw[e]
        rw[ma K]at F
        exact⟨rfl,[_,_,_,_,_],M,rfl,B,x,U,D,J,L,S,N,T,ns,V,ts,rfl,Q,Z,O,ht,G.gS (last:=s.last) (λb o a=>.inl a) F a0⟩)
      |(have e:bp s user id j g i d=(bj 99 d,0,{s with A:=(dr s.A C).2,last:=s.last+1}):=by unfold bp;rw[afq (by simp[m]),afq (by simp[a2]), <-W,afq (by simp[K])]
        rw[e]
        exact⟨rfl,[_,_,_,_,_],M,rfl,B,x,U,D,J,L,S,N,T,ns,V,ts,rfl,Q,Z,O,ht,G.gS (λb o a=>.inl a) F a0⟩)
  have r:(cw id s.cs).isSome=true:=by rw[a9];have h9:=bo h2;simp;omega
  refine .kn<|.seq<|.sr<|.mo rfl<|.nc rfl<|.fa rfl<|.mo rfl<|.mo rfl ?_
  refine .aM (Mg xb x vg D s.last s.now T ((xb,.cells [B,x,vg,D,.int .i64 s.last,.int .i64 s.now].toArray 44 (0,0))::J) ⟨B,J,rfl,Q,l1⟩ id j _ (G.cr.mono λb o a=>.inl (a4 b o a)) (λp hp=>.inr (by
    rcases afA.1 hp with rfl|hp
    ·simp
    ·simp[hp]))) (λu hu=>?_)
  subst hu
  rw[<-Ak G]
  refine .q .not<|.zn ?_
  refine .cond rfl (λh3=>?_) λh3=>?_
  have v:kp id j s.cs=false:=by simpa using h3
  refine .sr<|.ag rfl<|.az rfl ?_
  refine .ret (aL (aR _ (.two (.tmp rfl) (.tmp rfl)) rH ?_))
  ·first
      |(have e:bp s user id j g i d=(e0,2,s):=by unfold bp;rw[afr m]
        rw[e];exact⟨rfl,[_,_,_,_,_],[],rfl,n.mono λb o a=>.inl a⟩)
      |(have f:bX s user id j g i=17:=by unfold bX;rw[afr r]
        have e:bp s user id j g i d=(e0,17,s):=by unfold bp;rw[afq (by simp[m]),afr (by rw[f];decide),f]
        rw[e];exact⟨rfl,[_,_,_,_,_],[],rfl,n.mono λb o a=>.inl a⟩)
      |(have f:bX s user id j g i=21:=by unfold bX;rw[afq (by simp[r]),afr v]
        have e:bp s user id j g i d=(e0,21,s):=by unfold bp;rw[afq (by simp[m]),afr (by rw[f];decide),f]
        rw[e];exact⟨rfl,[_,_,_,_,_],[],rfl,n.mono λb o a=>.inl a⟩)
      |(have f:bX s user id j g i=19:=by unfold bX;rw[afq (by simp[r]),afq (by simp[v]),afr w]
        have e:bp s user id j g i d=(e0,19,s):=by unfold bp;rw[afq (by simp[m]),afr (by rw[f];decide),f]
        rw[e];exact⟨rfl,[_,_,_,_,_],[],rfl,n.mono λb o a=>.inl a⟩)
      |(have f:bX s user id j g i=21:=by unfold bX;rw[afq (by simp[r]),afq (by simp[v]),afq (by simp[w]),afr I]
        have e:bp s user id j g i d=(e0,21,s):=by unfold bp;rw[afq (by simp[m]),afr (by rw[f];decide),f]
        rw[e];exact⟨rfl,[_,_,_,_,_],[],rfl,n.mono λb o a=>.inl a⟩)
      |(have f:bX s user id j g i=9:=by unfold bX;rw[afq (by simp[r]),afq (by simp[v]),afq (by simp[w]),afq (by simp[I]),afr Y]
        have e:bp s user id j g i d=(e0,9,s):=by unfold bp;rw[afq (by simp[m]),afr (by rw[f];decide),f]
        rw[e];exact⟨rfl,[_,_,_,_,_],[],rfl,n.mono λb o a=>.inl a⟩)
      |(have f:bX s user id j g i=20:=by unfold bX;rw[afq (by simp[r]),afq (by simp[v]),afq (by simp[w]),afq (by simp[I]),afq (by simp[Y]),afr a3]
        have e:bp s user id j g i d=(e0,20,s):=by unfold bp;rw[afq (by simp[m]),afr (by rw[f];decide),f]
        rw[e];exact⟨rfl,[_,_,_,_,_],[],rfl,n.mono λb o a=>.inl a⟩)
      |(have e:bp s user id j g i d=(e0,(dr s.A C).1,s):=by unfold bp;rw[afq (by simp[m]),afq (by simp[a2]), <-W,afr K]
        rw[e]
        rw[ma K]at F
        exact⟨rfl,[_,_,_,_,_],M,rfl,B,x,U,D,J,L,S,N,T,ns,V,ts,rfl,Q,Z,O,ht,G.gS (last:=s.last) (λb o a=>.inl a) F a0⟩)
      |(have e:bp s user id j g i d=(bj 99 d,0,{s with A:=(dr s.A C).2,last:=s.last+1}):=by unfold bp;rw[afq (by simp[m]),afq (by simp[a2]), <-W,afq (by simp[K])]
        rw[e]
        exact⟨rfl,[_,_,_,_,_],M,rfl,B,x,U,D,J,L,S,N,T,ns,V,ts,rfl,Q,Z,O,ht,G.gS (λb o a=>.inl a) F a0⟩)
  have v:kp id j s.cs=true:=by simpa using h3
  refine .kn<|.seq<|.sr<|.mo rfl<|.nc rfl<|.fa rfl<|.mo rfl<|.mo rfl ?_
  refine .aM (xq xb x vg D s.last s.now T ((xb,.cells [B,x,vg,D,.int .i64 s.last,.int .i64 s.now].toArray 44 (0,0))::J) ⟨B,J,rfl,Q,l1⟩ id vs g _ (G.cr.mono λb o a=>.inl (a4 b o a)) (λp hp=>.inr (by
    rcases afA.1 hp with rfl|hp
    ·simp
    ·simp[hp])) (a6.mono λb o a=>.inl (a4 b o a))) (λu hu=>?_)
  subst hu
  rw[<-uh G]
  refine .q .not<|.zn ?_
  refine .cond rfl (λh4=>?_) λh4=>?_
  have w:eL id g s.cs=false:=by simpa using h4
  refine .sr<|.ag rfl<|.az rfl ?_
  refine .ret (aL (aR _ (.two (.tmp rfl) (.tmp rfl)) rH ?_))
  ·first
      |(have e:bp s user id j g i d=(e0,2,s):=by unfold bp;rw[afr m]
        rw[e];exact⟨rfl,[_,_,_,_,_],[],rfl,n.mono λb o a=>.inl a⟩)
      |(have f:bX s user id j g i=17:=by unfold bX;rw[afr r]
        have e:bp s user id j g i d=(e0,17,s):=by unfold bp;rw[afq (by simp[m]),afr (by rw[f];decide),f]
        rw[e];exact⟨rfl,[_,_,_,_,_],[],rfl,n.mono λb o a=>.inl a⟩)
      |(have f:bX s user id j g i=21:=by unfold bX;rw[afq (by simp[r]),afr v]
        have e:bp s user id j g i d=(e0,21,s):=by unfold bp;rw[afq (by simp[m]),afr (by rw[f];decide),f]
        rw[e];exact⟨rfl,[_,_,_,_,_],[],rfl,n.mono λb o a=>.inl a⟩)
      |(have f:bX s user id j g i=19:=by unfold bX;rw[afq (by simp[r]),afq (by simp[v]),afr w]
        have e:bp s user id j g i d=(e0,19,s):=by unfold bp;rw[afq (by simp[m]),afr (by rw[f];decide),f]
        rw[e];exact⟨rfl,[_,_,_,_,_],[],rfl,n.mono λb o a=>.inl a⟩)
      |(have f:bX s user id j g i=21:=by unfold bX;rw[afq (by simp[r]),afq (by simp[v]),afq (by simp[w]),afr I]
        have e:bp s user id j g i d=(e0,21,s):=by unfold bp;rw[afq (by simp[m]),afr (by rw[f];decide),f]
        rw[e];exact⟨rfl,[_,_,_,_,_],[],rfl,n.mono λb o a=>.inl a⟩)
      |(have f:bX s user id j g i=9:=by unfold bX;rw[afq (by simp[r]),afq (by simp[v]),afq (by simp[w]),afq (by simp[I]),afr Y]
        have e:bp s user id j g i d=(e0,9,s):=by unfold bp;rw[afq (by simp[m]),afr (by rw[f];decide),f]
        rw[e];exact⟨rfl,[_,_,_,_,_],[],rfl,n.mono λb o a=>.inl a⟩)
      |(have f:bX s user id j g i=20:=by unfold bX;rw[afq (by simp[r]),afq (by simp[v]),afq (by simp[w]),afq (by simp[I]),afq (by simp[Y]),afr a3]
        have e:bp s user id j g i d=(e0,20,s):=by unfold bp;rw[afq (by simp[m]),afr (by rw[f];decide),f]
        rw[e];exact⟨rfl,[_,_,_,_,_],[],rfl,n.mono λb o a=>.inl a⟩)
      |(have e:bp s user id j g i d=(e0,(dr s.A C).1,s):=by unfold bp;rw[afq (by simp[m]),afq (by simp[a2]), <-W,afr K]
        rw[e]
        rw[ma K]at F
        exact⟨rfl,[_,_,_,_,_],M,rfl,B,x,U,D,J,L,S,N,T,ns,V,ts,rfl,Q,Z,O,ht,G.gS (last:=s.last) (λb o a=>.inl a) F a0⟩)
      |(have e:bp s user id j g i d=(bj 99 d,0,{s with A:=(dr s.A C).2,last:=s.last+1}):=by unfold bp;rw[afq (by simp[m]),afq (by simp[a2]), <-W,afq (by simp[K])]
        rw[e]
        exact⟨rfl,[_,_,_,_,_],M,rfl,B,x,U,D,J,L,S,N,T,ns,V,ts,rfl,Q,Z,O,ht,G.gS (λb o a=>.inl a) F a0⟩)
  have w:eL id g s.cs=true:=by simpa using h4
  refine .kn<|.seq<|.sr<|.mo rfl ?_
  refine .aM (b2 _) (λu hu=>?_)
  subst hu
  refine .q .not<|.zn ?_
  refine .cond rfl (λh5=>?_) λh5=>?_
  have I:lN i=false:=by simpa using h5
  refine .sr<|.ag rfl<|.az rfl ?_
  refine .ret (aL (aR _ (.two (.tmp rfl) (.tmp rfl)) rH ?_))
  ·first
      |(have e:bp s user id j g i d=(e0,2,s):=by unfold bp;rw[afr m]
        rw[e];exact⟨rfl,[_,_,_,_,_],[],rfl,n.mono λb o a=>.inl a⟩)
      |(have f:bX s user id j g i=17:=by unfold bX;rw[afr r]
        have e:bp s user id j g i d=(e0,17,s):=by unfold bp;rw[afq (by simp[m]),afr (by rw[f];decide),f]
        rw[e];exact⟨rfl,[_,_,_,_,_],[],rfl,n.mono λb o a=>.inl a⟩)
      |(have f:bX s user id j g i=21:=by unfold bX;rw[afq (by simp[r]),afr v]
        have e:bp s user id j g i d=(e0,21,s):=by unfold bp;rw[afq (by simp[m]),afr (by rw[f];decide),f]
        rw[e];exact⟨rfl,[_,_,_,_,_],[],rfl,n.mono λb o a=>.inl a⟩)
      |(have f:bX s user id j g i=19:=by unfold bX;rw[afq (by simp[r]),afq (by simp[v]),afr w]
        have e:bp s user id j g i d=(e0,19,s):=by unfold bp;rw[afq (by simp[m]),afr (by rw[f];decide),f]
        rw[e];exact⟨rfl,[_,_,_,_,_],[],rfl,n.mono λb o a=>.inl a⟩)
      |(have f:bX s user id j g i=21:=by unfold bX;rw[afq (by simp[r]),afq (by simp[v]),afq (by simp[w]),afr I]
        have e:bp s user id j g i d=(e0,21,s):=by unfold bp;rw[afq (by simp[m]),afr (by rw[f];decide),f]
        rw[e];exact⟨rfl,[_,_,_,_,_],[],rfl,n.mono λb o a=>.inl a⟩)
      |(have f:bX s user id j g i=9:=by unfold bX;rw[afq (by simp[r]),afq (by simp[v]),afq (by simp[w]),afq (by simp[I]),afr Y]
        have e:bp s user id j g i d=(e0,9,s):=by unfold bp;rw[afq (by simp[m]),afr (by rw[f];decide),f]
        rw[e];exact⟨rfl,[_,_,_,_,_],[],rfl,n.mono λb o a=>.inl a⟩)
      |(have f:bX s user id j g i=20:=by unfold bX;rw[afq (by simp[r]),afq (by simp[v]),afq (by simp[w]),afq (by simp[I]),afq (by simp[Y]),afr a3]
        have e:bp s user id j g i d=(e0,20,s):=by unfold bp;rw[afq (by simp[m]),afr (by rw[f];decide),f]
        rw[e];exact⟨rfl,[_,_,_,_,_],[],rfl,n.mono λb o a=>.inl a⟩)
      |(have e:bp s user id j g i d=(e0,(dr s.A C).1,s):=by unfold bp;rw[afq (by simp[m]),afq (by simp[a2]), <-W,afr K]
        rw[e]
        rw[ma K]at F
        exact⟨rfl,[_,_,_,_,_],M,rfl,B,x,U,D,J,L,S,N,T,ns,V,ts,rfl,Q,Z,O,ht,G.gS (last:=s.last) (λb o a=>.inl a) F a0⟩)
      |(have e:bp s user id j g i d=(bj 99 d,0,{s with A:=(dr s.A C).2,last:=s.last+1}):=by unfold bp;rw[afq (by simp[m]),afq (by simp[a2]), <-W,afq (by simp[K])]
        rw[e]
        exact⟨rfl,[_,_,_,_,_],M,rfl,B,x,U,D,J,L,S,N,T,ns,V,ts,rfl,Q,Z,O,ht,G.gS (λb o a=>.inl a) F a0⟩)
  have I:lN i=true:=by simpa using h5
  refine .kn<|.seq<|.sr<|.mo rfl ?_
  refine .aM (sH user hu _) (λu hu=>?_)
  subst hu
  refine .q .not<|.zn ?_
  refine .cond rfl (λh6=>?_) λh6=>?_
  have Y:dt user=false:=by simpa using h6
  refine .sr<|.ag rfl<|.az rfl ?_
  refine .ret (aL (aR _ (.two (.tmp rfl) (.tmp rfl)) rH ?_))
  ·first
      |(have e:bp s user id j g i d=(e0,2,s):=by unfold bp;rw[afr m]
        rw[e];exact⟨rfl,[_,_,_,_,_],[],rfl,n.mono λb o a=>.inl a⟩)
      |(have f:bX s user id j g i=17:=by unfold bX;rw[afr r]
        have e:bp s user id j g i d=(e0,17,s):=by unfold bp;rw[afq (by simp[m]),afr (by rw[f];decide),f]
        rw[e];exact⟨rfl,[_,_,_,_,_],[],rfl,n.mono λb o a=>.inl a⟩)
      |(have f:bX s user id j g i=21:=by unfold bX;rw[afq (by simp[r]),afr v]
        have e:bp s user id j g i d=(e0,21,s):=by unfold bp;rw[afq (by simp[m]),afr (by rw[f];decide),f]
        rw[e];exact⟨rfl,[_,_,_,_,_],[],rfl,n.mono λb o a=>.inl a⟩)
      |(have f:bX s user id j g i=19:=by unfold bX;rw[afq (by simp[r]),afq (by simp[v]),afr w]
        have e:bp s user id j g i d=(e0,19,s):=by unfold bp;rw[afq (by simp[m]),afr (by rw[f];decide),f]
        rw[e];exact⟨rfl,[_,_,_,_,_],[],rfl,n.mono λb o a=>.inl a⟩)
      |(have f:bX s user id j g i=21:=by unfold bX;rw[afq (by simp[r]),afq (by simp[v]),afq (by simp[w]),afr I]
        have e:bp s user id j g i d=(e0,21,s):=by unfold bp;rw[afq (by simp[m]),afr (by rw[f];decide),f]
        rw[e];exact⟨rfl,[_,_,_,_,_],[],rfl,n.mono λb o a=>.inl a⟩)
      |(have f:bX s user id j g i=9:=by unfold bX;rw[afq (by simp[r]),afq (by simp[v]),afq (by simp[w]),afq (by simp[I]),afr Y]
        have e:bp s user id j g i d=(e0,9,s):=by unfold bp;rw[afq (by simp[m]),afr (by rw[f];decide),f]
        rw[e];exact⟨rfl,[_,_,_,_,_],[],rfl,n.mono λb o a=>.inl a⟩)
      |(have f:bX s user id j g i=20:=by unfold bX;rw[afq (by simp[r]),afq (by simp[v]),afq (by simp[w]),afq (by simp[I]),afq (by simp[Y]),afr a3]
        have e:bp s user id j g i d=(e0,20,s):=by unfold bp;rw[afq (by simp[m]),afr (by rw[f];decide),f]
        rw[e];exact⟨rfl,[_,_,_,_,_],[],rfl,n.mono λb o a=>.inl a⟩)
      |(have e:bp s user id j g i d=(e0,(dr s.A C).1,s):=by unfold bp;rw[afq (by simp[m]),afq (by simp[a2]), <-W,afr K]
        rw[e]
        rw[ma K]at F
        exact⟨rfl,[_,_,_,_,_],M,rfl,B,x,U,D,J,L,S,N,T,ns,V,ts,rfl,Q,Z,O,ht,G.gS (last:=s.last) (λb o a=>.inl a) F a0⟩)
      |(have e:bp s user id j g i d=(bj 99 d,0,{s with A:=(dr s.A C).2,last:=s.last+1}):=by unfold bp;rw[afq (by simp[m]),afq (by simp[a2]), <-W,afq (by simp[K])]
        rw[e]
        exact⟨rfl,[_,_,_,_,_],M,rfl,B,x,U,D,J,L,S,N,T,ns,V,ts,rfl,Q,Z,O,ht,G.gS (λb o a=>.inl a) F a0⟩)
  have Y:dt user=true:=by simpa using h6
  refine .kn<|.seq<|.sr<|.mo rfl<|.mo rfl<|.nc rfl<|.fa rfl<|.mo rfl<|.mo rfl ?_
  refine .aM (xx xb B vg D s.last s.now ns ((xb,.cells [B,x,vg,D,.int .i64 s.last,.int .i64 s.now].toArray 44 (0,0))::L) ⟨x,L,rfl,Z,by omega⟩ s.C G.bn user id _ G.nr (λp hp=>.inr (by
    rcases afA.1 hp with rfl|hp
    ·simp
    ·simp[hp]))) (λb6 b0=>?_)
  have c7:=b0.aw
  refine .aM (Lw vs b6 g (dD s.C user id) _ (a6.mono λb o a=>.inl (a4 b o a)) (b0.mono λb o a=>.inl (a4 b o a))) (λu hu=>?_)
  subst hu
  refine .q .not<|.zn ?_
  refine .cond rfl (λh7=>?_) λh7=>?_
  have a3:jH g (dD s.C user id)=false:=by simpa using h7
  refine .sr<|.ag rfl<|.az rfl ?_
  refine .ret (aL (aR _ (.two (.tmp rfl) (.tmp rfl)) rH ?_))
  ·first
      |(have e:bp s user id j g i d=(e0,2,s):=by unfold bp;rw[afr m]
        rw[e];exact⟨rfl,[_,_,_,_,_],[],rfl,n.mono λb o a=>.inl a⟩)
      |(have f:bX s user id j g i=17:=by unfold bX;rw[afr r]
        have e:bp s user id j g i d=(e0,17,s):=by unfold bp;rw[afq (by simp[m]),afr (by rw[f];decide),f]
        rw[e];exact⟨rfl,[_,_,_,_,_],[],rfl,n.mono λb o a=>.inl a⟩)
      |(have f:bX s user id j g i=21:=by unfold bX;rw[afq (by simp[r]),afr v]
        have e:bp s user id j g i d=(e0,21,s):=by unfold bp;rw[afq (by simp[m]),afr (by rw[f];decide),f]
        rw[e];exact⟨rfl,[_,_,_,_,_],[],rfl,n.mono λb o a=>.inl a⟩)
      |(have f:bX s user id j g i=19:=by unfold bX;rw[afq (by simp[r]),afq (by simp[v]),afr w]
        have e:bp s user id j g i d=(e0,19,s):=by unfold bp;rw[afq (by simp[m]),afr (by rw[f];decide),f]
        rw[e];exact⟨rfl,[_,_,_,_,_],[],rfl,n.mono λb o a=>.inl a⟩)
      |(have f:bX s user id j g i=21:=by unfold bX;rw[afq (by simp[r]),afq (by simp[v]),afq (by simp[w]),afr I]
        have e:bp s user id j g i d=(e0,21,s):=by unfold bp;rw[afq (by simp[m]),afr (by rw[f];decide),f]
        rw[e];exact⟨rfl,[_,_,_,_,_],[],rfl,n.mono λb o a=>.inl a⟩)
      |(have f:bX s user id j g i=9:=by unfold bX;rw[afq (by simp[r]),afq (by simp[v]),afq (by simp[w]),afq (by simp[I]),afr Y]
        have e:bp s user id j g i d=(e0,9,s):=by unfold bp;rw[afq (by simp[m]),afr (by rw[f];decide),f]
        rw[e];exact⟨rfl,[_,_,_,_,_],[],rfl,n.mono λb o a=>.inl a⟩)
      |(have f:bX s user id j g i=20:=by unfold bX;rw[afq (by simp[r]),afq (by simp[v]),afq (by simp[w]),afq (by simp[I]),afq (by simp[Y]),afr a3]
        have e:bp s user id j g i d=(e0,20,s):=by unfold bp;rw[afq (by simp[m]),afr (by rw[f];decide),f]
        rw[e];exact⟨rfl,[_,_,_,_,_],[],rfl,n.mono λb o a=>.inl a⟩)
      |(have e:bp s user id j g i d=(e0,(dr s.A C).1,s):=by unfold bp;rw[afq (by simp[m]),afq (by simp[a2]), <-W,afr K]
        rw[e]
        rw[ma K]at F
        exact⟨rfl,[_,_,_,_,_],M,rfl,B,x,U,D,J,L,S,N,T,ns,V,ts,rfl,Q,Z,O,ht,G.gS (last:=s.last) (λb o a=>.inl a) F a0⟩)
      |(have e:bp s user id j g i d=(bj 99 d,0,{s with A:=(dr s.A C).2,last:=s.last+1}):=by unfold bp;rw[afq (by simp[m]),afq (by simp[a2]), <-W,afq (by simp[K])]
        rw[e]
        exact⟨rfl,[_,_,_,_,_],M,rfl,B,x,U,D,J,L,S,N,T,ns,V,ts,rfl,Q,Z,O,ht,G.gS (λb o a=>.inl a) F a0⟩)
  have a3:jH g (dD s.C user id)=true:=by simpa using h7
  have a2:bX s user id j g i=0:=by unfold bX;simp[r,v,w,I,Y,a3]
  refine .kn<|.sr<|.mo rfl ?_
  refine .aM (kR va d _ (ha.mono λb o a=>.inl a) (by omega)) (λu hu=>?_)
  subst hu
  refine .q (.cast (v':=.string (bj 99 d)) (.gI (p:=⟨#[99,46]⟩) (q:=⟨(dw d).toArray⟩) (by rw[fz (dw d)];show 2+_<=_;omega) rfl rfl) (afs Value.string (lf 99 d))) ?_
  refine .ag rfl<|.zs ?_
  refine bQ.ld [(0,_),(16,_)] kE.c.c (X:=Value×ax×Value×ax×List GP) (λy=>OS 121 9 bO y.2.2.1 y.2.2.2.2 y.2.2.2.1/\eZ (dr s.A C).2 y.2.2.2.2/\(∀p∈y.2.2.2.2,dq (λb o=>RD b o\/sg y.2.1 b o) p)) (λy E=>(17,.int .i64 (dr s.A C).1)::E) (λy=>[bl xb [B,x,y.2.2.1,D,.int .i64 s.last,.int .i64 s.now] 44,J,L,y.2.2.2.1,N,y.2.1]) ?_ ?_
  refine .cW [22] mixed ?_
  refine .tO 0 rfl .move<|.tO 1 rfl (.nilCheck rfl)<|.tO 2 rfl (.fieldAddr rfl)<|.tO 3 rfl .move<|.tO 4 rfl .move<|.tO 5 rfl .move<|.tO 6 rfl .move<|.tO 7 rfl .move<|.tO 9 rfl .move<|.tO 10 rfl .move<|.tO 11 rfl (.nilCheck rfl)<|.tO 12 rfl (.fieldAddr rfl)<|.tO 13 rfl (.bN rfl) ?_
  refine .tO 14 rfl (.i64 (s.now+60) .add ⟨by omega,by omega,by omega⟩) ?_
  refine .tO 15 rfl .move<|.tO 16 rfl (.nilCheck rfl)<|.tO 17 rfl (.fieldAddr rfl)<|.tO 18 rfl (.fieldAddr rfl)<|.tO 19 rfl (.bN rfl) ?_
  refine .tO 20 rfl (.i64 (s.last+1) .add ⟨by omega,by omega,by omega⟩) ?_
  refine .sT 8 rfl ?_
  refine .da (pC vs g 99 99 (by decide) _ (a6.mono λb o a=>.inl (a4 b o a))) (λa5 M a7=>?_)
  rw[b4]at a7
  have b5:=a7.aw
  have a8:dq (λb o=>RD b o\/sg M b o) (a5,C):=by rw[W];exact a7.sg.mono λb o a=>.inr a
  refine .nil (Next.sub ?_)
  refine .eE 21 rfl (.dI (out:=bO (a5,C)) rfl (by rw[W];exact Ke b5.h)) (by kernel_rfl) ?_
  refine .sT 22 rfl ?_
  refine .sub (H':=[(xb,.cells [B,x,vg,D,.int .i64 s.last,.int .i64 s.now].toArray 44 (0,0))::Tg,M,J,L,N,[]]) ((aI [1,3,0,0,0,0,0]).trans (aT.bu (aft rfl))) ?_
  refine .bW (Mm xb B x D s.last s.now gs _ ⟨vg,Tg,rfl,hg,by omega⟩ (by omega) s.A G.bg a5 C R a8 (λp hp=>(G.gr p hp).mono λb o a=>.inl a)) (λu b7 hu=>?_)
  obtain⟨rfl,V,⟨U,S,rfl,O,c1⟩,F,b1,b8⟩:=hu
  refine .nil (Next.mod rfl ?_)
  refine .tK 23 rfl .assign ?_
  refine RA.nil (by kernel_rfl) ?_
  ·exact aB (a5,M,U,S,V) ⟨O,F,λp hp=>(b1 p hp).elim (λhp=>(G.gr p hp).mono λb o a=>.inl a) λe=>e▸a8⟩ kE.c.c.c ((aT.bu (H':=[bl xb [B,x,U,D,.int .i64 s.last,.int .i64 s.now] 44,S,M,J,L,N,[]]) (aft rfl)).trans (aI [0,2,2,0,1,0]))
  intro y hy
  obtain⟨a5,M,U,S,V⟩:=y
  obtain⟨O,F,a0⟩:=hy
  simp only at O F a0⊢
  have i7:=O.aw
  refine aD<|.seq<|.sr<|.mo rfl<|.q .dL<|.zn ?_
  refine .cond rfl (λh8=>?_) λh8=>?_
  have K:(dr s.A C).1≠0:=by simpa using h8
  refine .sr<|.mo rfl<|.ag rfl<|.az rfl ?_
  refine .ret (aL (aR _ (.two (.tmp rfl) (.tmp rfl)) rH ?_))
  ·first
      |(have e:bp s user id j g i d=(e0,2,s):=by unfold bp;rw[afr m]
        rw[e];exact⟨rfl,[_,_,_,_,_],[],rfl,n.mono λb o a=>.inl a⟩)
      |(have f:bX s user id j g i=17:=by unfold bX;rw[afr r]
        have e:bp s user id j g i d=(e0,17,s):=by unfold bp;rw[afq (by simp[m]),afr (by rw[f];decide),f]
        rw[e];exact⟨rfl,[_,_,_,_,_],[],rfl,n.mono λb o a=>.inl a⟩)
      |(have f:bX s user id j g i=21:=by unfold bX;rw[afq (by simp[r]),afr v]
        have e:bp s user id j g i d=(e0,21,s):=by unfold bp;rw[afq (by simp[m]),afr (by rw[f];decide),f]
        rw[e];exact⟨rfl,[_,_,_,_,_],[],rfl,n.mono λb o a=>.inl a⟩)
      |(have f:bX s user id j g i=19:=by unfold bX;rw[afq (by simp[r]),afq (by simp[v]),afr w]
        have e:bp s user id j g i d=(e0,19,s):=by unfold bp;rw[afq (by simp[m]),afr (by rw[f];decide),f]
        rw[e];exact⟨rfl,[_,_,_,_,_],[],rfl,n.mono λb o a=>.inl a⟩)
      |(have f:bX s user id j g i=21:=by unfold bX;rw[afq (by simp[r]),afq (by simp[v]),afq (by simp[w]),afr I]
        have e:bp s user id j g i d=(e0,21,s):=by unfold bp;rw[afq (by simp[m]),afr (by rw[f];decide),f]
        rw[e];exact⟨rfl,[_,_,_,_,_],[],rfl,n.mono λb o a=>.inl a⟩)
      |(have f:bX s user id j g i=9:=by unfold bX;rw[afq (by simp[r]),afq (by simp[v]),afq (by simp[w]),afq (by simp[I]),afr Y]
        have e:bp s user id j g i d=(e0,9,s):=by unfold bp;rw[afq (by simp[m]),afr (by rw[f];decide),f]
        rw[e];exact⟨rfl,[_,_,_,_,_],[],rfl,n.mono λb o a=>.inl a⟩)
      |(have f:bX s user id j g i=20:=by unfold bX;rw[afq (by simp[r]),afq (by simp[v]),afq (by simp[w]),afq (by simp[I]),afq (by simp[Y]),afr a3]
        have e:bp s user id j g i d=(e0,20,s):=by unfold bp;rw[afq (by simp[m]),afr (by rw[f];decide),f]
        rw[e];exact⟨rfl,[_,_,_,_,_],[],rfl,n.mono λb o a=>.inl a⟩)
      |(have e:bp s user id j g i d=(e0,(dr s.A C).1,s):=by unfold bp;rw[afq (by simp[m]),afq (by simp[a2]), <-W,afr K]
        rw[e]
        rw[ma K]at F
        exact⟨rfl,[_,_,_,_,_],M,rfl,B,x,U,D,J,L,S,N,T,ns,V,ts,rfl,Q,Z,O,ht,G.gS (last:=s.last) (λb o a=>.inl a) F a0⟩)
      |(have e:bp s user id j g i d=(bj 99 d,0,{s with A:=(dr s.A C).2,last:=s.last+1}):=by unfold bp;rw[afq (by simp[m]),afq (by simp[a2]), <-W,afq (by simp[K])]
        rw[e]
        exact⟨rfl,[_,_,_,_,_],M,rfl,B,x,U,D,J,L,S,N,T,ns,V,ts,rfl,Q,Z,O,ht,G.gS (λb o a=>.inl a) F a0⟩)
  have K:(dr s.A C).1=0:=by simpa using h8
  refine .kn<|.sr<|.mo rfl<|.mo rfl<|.nc rfl<|.fa rfl<|.fa rfl<|.lo rfl ?_
  refine .q (.i64 (s.last+1) .add ⟨by omega,by omega,by omega⟩) ?_
  refine .nc rfl<|.fa rfl<|.fa rfl<|.cJ rfl rfl<|.z<|.mo rfl<|.ag rfl<|.az rfl ?_
  refine .ret (aR _ (.two (.tmp rfl) (.tmp rfl)) rH ?_)
  ·first
      |(have e:bp s user id j g i d=(e0,2,s):=by unfold bp;rw[afr m]
        rw[e];exact⟨rfl,[_,_,_,_,_],[],rfl,n.mono λb o a=>.inl a⟩)
      |(have f:bX s user id j g i=17:=by unfold bX;rw[afr r]
        have e:bp s user id j g i d=(e0,17,s):=by unfold bp;rw[afq (by simp[m]),afr (by rw[f];decide),f]
        rw[e];exact⟨rfl,[_,_,_,_,_],[],rfl,n.mono λb o a=>.inl a⟩)
      |(have f:bX s user id j g i=21:=by unfold bX;rw[afq (by simp[r]),afr v]
        have e:bp s user id j g i d=(e0,21,s):=by unfold bp;rw[afq (by simp[m]),afr (by rw[f];decide),f]
        rw[e];exact⟨rfl,[_,_,_,_,_],[],rfl,n.mono λb o a=>.inl a⟩)
      |(have f:bX s user id j g i=19:=by unfold bX;rw[afq (by simp[r]),afq (by simp[v]),afr w]
        have e:bp s user id j g i d=(e0,19,s):=by unfold bp;rw[afq (by simp[m]),afr (by rw[f];decide),f]
        rw[e];exact⟨rfl,[_,_,_,_,_],[],rfl,n.mono λb o a=>.inl a⟩)
      |(have f:bX s user id j g i=21:=by unfold bX;rw[afq (by simp[r]),afq (by simp[v]),afq (by simp[w]),afr I]
        have e:bp s user id j g i d=(e0,21,s):=by unfold bp;rw[afq (by simp[m]),afr (by rw[f];decide),f]
        rw[e];exact⟨rfl,[_,_,_,_,_],[],rfl,n.mono λb o a=>.inl a⟩)
      |(have f:bX s user id j g i=9:=by unfold bX;rw[afq (by simp[r]),afq (by simp[v]),afq (by simp[w]),afq (by simp[I]),afr Y]
        have e:bp s user id j g i d=(e0,9,s):=by unfold bp;rw[afq (by simp[m]),afr (by rw[f];decide),f]
        rw[e];exact⟨rfl,[_,_,_,_,_],[],rfl,n.mono λb o a=>.inl a⟩)
      |(have f:bX s user id j g i=20:=by unfold bX;rw[afq (by simp[r]),afq (by simp[v]),afq (by simp[w]),afq (by simp[I]),afq (by simp[Y]),afr a3]
        have e:bp s user id j g i d=(e0,20,s):=by unfold bp;rw[afq (by simp[m]),afr (by rw[f];decide),f]
        rw[e];exact⟨rfl,[_,_,_,_,_],[],rfl,n.mono λb o a=>.inl a⟩)
      |(have e:bp s user id j g i d=(e0,(dr s.A C).1,s):=by unfold bp;rw[afq (by simp[m]),afq (by simp[a2]), <-W,afr K]
        rw[e]
        rw[ma K]at F
        exact⟨rfl,[_,_,_,_,_],M,rfl,B,x,U,D,J,L,S,N,T,ns,V,ts,rfl,Q,Z,O,ht,G.gS (last:=s.last) (λb o a=>.inl a) F a0⟩)
      |(have e:bp s user id j g i d=(bj 99 d,0,{s with A:=(dr s.A C).2,last:=s.last+1}):=by unfold bp;rw[afq (by simp[m]),afq (by simp[a2]), <-W,afq (by simp[K])]
        rw[e]
        exact⟨rfl,[_,_,_,_,_],M,rfl,B,x,U,D,J,L,S,N,T,ns,V,ts,rfl,Q,Z,O,ht,G.gS (λb o a=>.inl a) F a0⟩)
end
theorem LI{RD:av}{s:cd}{rs:List CP}{p:List NP}{l:List GP}{e:List TP}(g:DM RD s rs p l e){b id:ByteArray}{z:Int}(k:mB b e z){O:Option Tok}(a:O=fq s.V b id)(h:O.isSome=true):∃(t:Tok) (i:Nat) (w:Value),O=some t/\z=(i:Int)/\e[i]? =some (w,t)/\t.text=b/\aU b s.V=some t/\t.kind=2/\t.aE=id:=by
 by_cases f:z<0
 ·have o:aU b s.V=none:=by rw[<-g.bt.get];exact k.neg f
  unfold fq at a
  rw[o]at a
  subst a
  cases h
 ·obtain⟨i,w,t,rfl,m,n,j⟩:=k.at g.bt f
  unfold fq at a
  rw[j]at a
  by_cases c:t.kind=2<;>by_cases d:t.aE=id
  ·exact⟨t,i,w,by rw[a];simp[Option.filter,c,d],rfl,m,n,j,c,d⟩
  all_goals
   rw[a]at h
   simp[Option.filter,c,d]at h
def ob(p:Option Addr)(cap m:Nat):Value:=.slice (if cap=0 then p else p.map (·.add (0*1))) (m-0) (cap-0)
theorem RS.ob{α:Type}{R':av}{enc:α->List Value}{p:Option Addr}{cap:Nat}{xs:List α}(m:Nat)(h:RS R' 1 enc (.slice p xs.length cap) xs)(r:m<=xs.length):RS R' 1 enc (ob p cap m) (xs.take m):=by
 obtain⟨s,n,d,o,q,g⟩:=h.h
 simp only[Value.slice.injEq,true_and]at d
 obtain⟨rfl,rfl⟩:=d
 have e:(xs.take m).length=m:=by simp;omega
 refine⟨λx a=>h.len x (List.mem_of_mem_take a),λx a=>h.one x (List.mem_of_mem_take a),_,_,by rw[e];rfl,by rw[e];omega,by omega,?_⟩
 rcases g with rfl|⟨b,j,c,E,f,rfl,k,l⟩
 ·exact .inl (by simp)
 ·by_cases i:cap=0
  ·left
   exact List.eq_nil_of_length_eq_zero (by omega)
  ·right
   refine⟨b,j+0*1,c,E,f,?_,k,?_⟩
   ·rw[afq i]
    simp[Addr.add]
   ·have:=l.piece h.len 0 m
    simpa using this
theorem aP.ob{α:Type}{P:Program}{R R':av}{env:Env}{H:aV}{ty:TypeId}{x:Operand}{f:Option Operand}{t e:TypeId}{enc:α->List Value}{p:Option Addr}{cap:Nat}{xs:List α}(m:Nat)(h:RS R' 1 enc (.slice p xs.length cap) xs)(s:m<=xs.length) [ut:bP P t (.slice e)] [sz:Sz P e 1](i:fy env f xs.length m)(j:ev env x=some (.slice p xs.length cap):=by rfl):aP P R env H (.slice t x none f none) ty (ob p cap m):=by
 obtain⟨u,l,b,o,q,r⟩:=h.h
 simp only[Value.slice.injEq,true_and]at b
 obtain⟨rfl,rfl⟩:=b
 intro a w d v k g c _ _
 have:=pd (P:=P) (w:=w) (p:=p) (n:=xs.length) (cap:=cap) (xl:=none) (lo:=0) c rfl i (afx _) (by omega) (t:=t) (e:=e) (sz:=1)
 simp only[execOp,c.eval j,Option.map_none]at this⊢
 rw[Sem.run_bind,this]
 rfl
section
variable{RD R:av}{xb k:Nat}{s:cd}{H:aV}
theorem Mt(h:DS RD xb s H)(d:OB s k)(hk:k<=60)(id D v:ByteArray)(vs:Value)(g:List ByteArray)(U:RS RD 1 bB vs g)(e1:g.length<=6)(d0:∀t∈g,t.size<=99)(va vq:Value)(a r:List UInt8)(rev:Int)(d3:a.length<=1000)(d9:r.length<=1000)(R:av)(ha:RS R 1 cO va a)(hq:RS R 1 cO vq r)(a6:∀b o,RD b o->R b o):
    Spec prog 37 [pT xb,.string id,.string D,.string v,vs,va,vq,.int .u64 rev] R H λu H'=>u=.tuple [.string (dC s id D v g a r rev).1,.string (dC s id D v g a r rev).2.1,.int .i64 (dC s id D v g a r rev).2.2.1].toArray/\∃Hs Td,H'=Hs++[Td]/\DS (λb o=>RD b o\/sg Td b o) xb (dC s id D v g a r rev).2.2.2 Hs:=by
  have N:=h
  obtain⟨M,L,K,vv,Z,Y,W,Tv,rs,ns,gs,ts,rfl,hr,hn,hg,J,C⟩:=h
  obtain⟨l1,l2,l3,l4⟩:=C.len d hk
  have i1:=hr.aw
  have i2:=hn.aw
  have i3:=hg.aw
  have i4:=J.aw
  have i5:=ha.aw
  have i6:=hq.aw
  obtain⟨d2,d1,rfl⟩:=U.val
  have e4:=U.aw
  have d5:=mF a
  have d6:=mF r
  refine Spec.dg (H':=[bl xb [M,L,K,vv,.int .i64 s.last,.int .i64 s.now] 44,Z,Y,W,Tv,[]]) (by simp) ?_
  refine Spec.body func37 rfl results37 ntmps37 rfl ?_
  refine .sr<|.ag rfl<|.ag rfl<|.ag rfl<|.z<|.mo rfl<|.mo rfl<|.mo rfl<|.mo rfl<|.mo rfl ?_
  refine .aM (xp N d hk id D va vq a r _ (ha.mono λb o d=>.inl d) (hq.mono λb o d=>.inl d) (λb o d=>.inl (a6 b o d)) (λb o d=>.inr (by simpa using d))) (λu A=>?_)
  subst A
  refine .ag rfl<|.zs<|.sr<|.mo rfl<|.q .dL<|.zn ?_
  refine .cond rfl (λh1=>?_) λh1=>?_
  have S:eA s id D a r≠0:=by simpa using h1
  refine .sr<|.mo rfl<|.ag rfl<|.ag rfl<|.az rfl ?_
  refine .ret (aL (aR _ (.three (.tmp rfl) (.tmp rfl) (.tmp rfl)) rH ?_))
  ·have e:dC s id D v g a r rev=(e0,e0,eA s id D a r,s):=by unfold dC;rw[afr S]
   rw[e];exact⟨rfl,[_,_,_,_,_],[],rfl,N.mono λb o d=>.inl d⟩
  have S:eA s id D a r=0:=by simpa using h1
  refine .kn<|.sr<|.mo rfl<|.nc rfl<|.fa rfl<|.mo rfl ?_
  refine .aM (o9 xb M L K s.now vv s.last ts v _ J.rx C.tr) (λu A=>?_)
  obtain⟨z,rfl,hz⟩:=A
  refine .ag rfl<|.zs ?_
  refine bQ.ld [(0,_),(1,_),(4,_),(5,_),(6,_),(7,_),(20,_)] kE.c.c.c.c.c.c.c (X:=Unit) (λ_=>True) (λ_ E=>(21,.bool (fq s.V v id).isSome)::E) (λ_=>[bl xb [M,L,K,vv,.int .i64 s.last,.int .i64 s.now] 44,Z,Y,W,Tv,[]]) ?_ ?_
  refine .region<|.mo rfl<|.q .geq<|.mo rfl ?_
  refine .split (t:=43) rfl (λn=>?_) (λn=>?_)
  obtain⟨i,w,t,rfl,I,c0,a5⟩:=hz.at C.bt (by have h9:=bx n;omega)
  have ci:=C.tr _ (bU I)
  have ii:bJ (bE (w,t)):=⟨ci.bG⟩
  refine .gT n<|.mo rfl<|.gT n<|.nc rfl<|.gT n<|.fa rfl<|.gT n<|.fa rfl<|.gT n<|.lo rfl<|.gT n<|.mo rfl<|.gT n ?_
  refine .bb i J I (λe8=>?_)
  refine .gT n<|.fa rfl<|.gT n<|.lo rfl<|.gT n<|.q .bS<|.q (.aY n) ?_
  refine .mo rfl ?_
  refine .split (t:=55) rfl (λj=>?_) (λj=>?_)
  refine .gT j<|.mo rfl<|.gT j<|.nc rfl<|.gT j<|.fa rfl<|.gT j<|.fa rfl<|.gT j<|.lo rfl<|.gT j<|.mo rfl<|.gT j ?_
  refine .bb i J I (λe9=>?_)
  refine .gT j<|.fa rfl<|.gT j<|.lo rfl<|.gT j<|.mo rfl<|.gT j<|.q .ek<|.q (.aY j) ?_
  refine .q (.cast (v':=.bool (fq s.V v id).isSome) .assign (afs Value.bool (by
    unfold fq
    first
      |(have a8:aU v s.V=none:=by rw[<-C.bt.get];exact hz.neg (by have h9:=bo n;omega)
        rw[a8]
        simp[Option.filter]<;>first|exact n|omega)
      |(rw[a5]
        have F:(t.kind==2)=true:=j
        by_cases a2:t.aE=id<;>simp[Option.filter,F,a2];done)
      |(rw[a5]
        have F:(t.kind==2)=false:=j
        simp[Option.filter,F];done)))) ?_
  refine .nil ?_
  ·exact aB () trivial kE.c.c.c.c.c.c.c.c rH
  refine .gF j<|.gF j<|.gF j<|.gF j<|.gF j<|.gF j<|.gF j<|.gF j<|.gF j<|.gF j<|.gF j<|.q (.aS j) ?_
  refine .q (.cast (v':=.bool (fq s.V v id).isSome) .assign (afs Value.bool (by
    unfold fq
    first
      |(have a8:aU v s.V=none:=by rw[<-C.bt.get];exact hz.neg (by have h9:=bo n;omega)
        rw[a8]
        simp[Option.filter]<;>first|exact n|omega)
      |(rw[a5]
        have F:(t.kind==2)=true:=j
        by_cases a2:t.aE=id<;>simp[Option.filter,F,a2];done)
      |(rw[a5]
        have F:(t.kind==2)=false:=j
        simp[Option.filter,F];done)))) ?_
  refine .nil ?_
  ·exact aB () trivial kE.c.c.c.c.c.c.c.c rH
  refine .gF n<|.gF n<|.gF n<|.gF n<|.gF n<|.gF n<|.gF n<|.gF n<|.gF n<|.gF n<|.q (.aS n) ?_
  refine .mo rfl<|.gX<|.gX<|.gX<|.gX<|.gX<|.gX<|.gX<|.gX<|.gX<|.gX<|.gX<|.q .bY ?_
  refine .q (.cast (v':=.bool (fq s.V v id).isSome) .assign (afs Value.bool (by
    unfold fq
    first
      |(have a8:aU v s.V=none:=by rw[<-C.bt.get];exact hz.neg (by have h9:=bo n;omega)
        rw[a8]
        simp[Option.filter]<;>first|exact n|omega)
      |(rw[a5]
        have F:(t.kind==2)=true:=j
        by_cases a2:t.aE=id<;>simp[Option.filter,F,a2];done)
      |(rw[a5]
        have F:(t.kind==2)=false:=j
        simp[Option.filter,F];done)))) ?_
  refine .nil ?_
  ·exact aB () trivial kE.c.c.c.c.c.c.c.c rH
  intro y hy
  obtain⟨O,Q⟩:∃O,O=fq s.V v id:=⟨_,rfl⟩
  rw[<-Q]
  refine aD<|.seq<|.sr<|.mo rfl<|.mo rfl ?_
  refine .split (t:=69) rfl (λf=>?_) (λf=>?_)
  obtain⟨t,i,w,a7,rfl,I,c0,a5,d7,d4⟩:=LI C hz Q f
  have ci:=C.tr _ (bU I)
  have ii:bJ (bE (w,t)):=⟨ci.bG⟩
  have iw:One w:=RS.aw ci
  refine .gT f<|.mo rfl<|.gT f<|.nc rfl<|.gT f<|.fa rfl<|.gT f<|.fa rfl<|.gT f<|.lo rfl<|.gT f<|.mo rfl<|.gT f ?_
  refine .bb i J I (λf0=>?_)
  refine .gT f<|.fa rfl<|.gT f<|.lo rfl<|.q (.aY f) ?_
  refine .zn ?_
  refine .cond rfl (λh2=>?_) λh2=>?_
  have a0:t.used=true:=h2
  refine .seq ?_
  refine .df 12 mixed (by kernel_rfl) ?_
  conv=>arg 6;dsimp only[List.take]
  refine .mo rfl<|.nc rfl<|.fa rfl<|.mo rfl<|.nc rfl<|.fa rfl<|.fa rfl<|.lo rfl<|.mo rfl ?_
  refine .bb i J I (λf1=>?_)
  refine .fa rfl<|.lo rfl<|.nil<|.sub (H':=[(xb,.cells [M,L,K,vv,.int .i64 s.last,.int .i64 s.now].toArray 44 (0,0))::Tv,Z,Y,W,[]]) ((aI [0,3,0,0,0,0]).trans (aT.bu (aft rfl))) ?_
  refine .bW (sE xb M L K s.now ts s.last _ ⟨vv,Tv,rfl,J,by omega⟩ s.V C.bt t.family R C.tr) (λu T4 A=>?_)
  obtain⟨rfl,b6,a4,rfl,a9,e2⟩:=A
  have i9:=a9.aw
  refine .sub (H':=[bl xb [M,L,K,b6,.int .i64 s.last,.int .i64 s.now] 44,Z,Y,W,a4,[]]) ((aT.bu (H':=[bl xb [M,L,K,b6,.int .i64 s.last,.int .i64 s.now] 44,a4,Z,Y,W,[]]) (aft rfl)).trans (aI [0,1,1,1,0,0])) ?_
  refine .z<|.ag rfl<|.ag rfl<|.az rfl ?_
  refine .ret (aL (aR _ (.three (.tmp rfl) (.tmp rfl) (.tmp rfl)) rH ?_))
  ·have e:dC s id D v g a r rev=(e0,e0,18,{s with V:=s.V.filter λx=> !(x.2.family==t.family)}):=by
      unfold dC;rw[afq (by simp[S]), <-Q,a7];simp only;rw[afr a0]
   rw[e]
   exact⟨rfl,[_,_,_,_,_],[],rfl,M,L,K,b6,Z,Y,W,a4,rs,ns,gs,_,rfl,hr,hn,hg,a9,C.db (λb o d=>.inl d) (C.bt.filter λu=> !(u.family==t.family)) λp hp=>(C.tr p (afv.1 hp).1).mono λb o d=>.inl d⟩
  first
    |have a0:t.used=false:=h2
    |skip
  refine .kn<|.sr<|.mo rfl ?_
  refine .aM (kR va a _ (ha.mono λb o d=>.inl d) (by omega)) (λu A=>?_)
  subst A
  refine .q (.cast (v':=.string (bj 97 a)) (.gI (p:=⟨#[97,46]⟩) (q:=⟨(dw a).toArray⟩) (by rw[fz (dw a)];show 2+_<=_;omega) rfl rfl) (afs Value.string (lf 97 a))) ?_
  refine .mo rfl ?_
  refine .aM (kR vq r _ (hq.mono λb o d=>.inl d) (by omega)) (λu A=>?_)
  subst A
  refine .q (.cast (v':=.string (bj 114 r)) (.gI (p:=⟨#[114,46]⟩) (q:=⟨(dw r).toArray⟩) (by rw[fz (dw r)];show 2+_<=_;omega) rfl rfl) (afs Value.string (lf 114 r))) ?_
  refine .ag rfl<|.ag rfl<|.z<|.mo rfl<|.mo rfl<|.mo rfl ?_
  refine .aM (o8 N d hk (bj 97 a) (bj 114 r) _ (λb o d=>.inl (a6 b o d)) (λb o d=>.inr (by simpa using d))) (λu A=>?_)
  subst A
  refine .ag rfl<|.zs<|.sr<|.mo rfl<|.q .dL<|.zn ?_
  refine .cond rfl (λh3=>?_) λh3=>?_
  have T:dG s (bj 97 a) (bj 114 r)≠0:=by simpa using h3
  refine .sr<|.mo rfl<|.ag rfl<|.ag rfl<|.az rfl ?_
  refine .ret (aL (aR _ (.three (.tmp rfl) (.tmp rfl) (.tmp rfl)) rH ?_))
  ·have e:dC s id D v g a r rev=(e0,e0,dG s (bj 97 a) (bj 114 r),s):=by
      unfold dC;rw[afq (by simp[S]), <-Q,a7];simp only;rw[afq (by simp[a0]),afr T]
   rw[e];exact⟨rfl,[_,_,_,_,_],[],rfl,N.mono λb o d=>.inl d⟩
  have T:dG s (bj 97 a) (bj 114 r)=0:=by simpa using h3
  refine .kn<|.seq<|.seq ?_
  refine .iQ mixed (by kernel_rfl) ?_
  refine .mo rfl<|.q .not<|.mo rfl<|.gT (afs not f) ?_
  refine .mo rfl<|.gT (afs not f) ?_
  refine .nc rfl<|.gT (afs not f) ?_
  refine .fa rfl<|.gT (afs not f) ?_
  refine .fa rfl<|.gT (afs not f) ?_
  refine .lo rfl<|.gT (afs not f) ?_
  refine .mo rfl<|.gT (afs not f) ?_
  refine .bb i J I (λe5=>?_)
  refine .gT (afs not f) ?_
  refine .fa rfl<|.gT (afs not f) ?_
  refine .lo rfl<|.gT (afs not f) ?_
  refine .mo rfl<|.gT (afs not f) ?_
  refine .nc rfl<|.gT (afs not f) ?_
  refine .fa rfl<|.gT (afs not f) ?_
  refine .lo rfl<|.gT (afs not f) ?_
  refine .q .leq<|.q (.aS (afs not f)) ?_
  refine .zn ?_
  refine .cond rfl (λh4=>?_) λh4=>?_
  refine .sr<|.ag rfl<|.ag rfl<|.az rfl ?_
  refine .ret (aL (aR _ (.three (.tmp rfl) (.tmp rfl) (.tmp rfl)) rH ?_))
  ·have e:dC s id D v g a r rev=(e0,e0,18,s):=by
      unfold dC;rw[afq (by simp[S]), <-Q,a7];simp only;rw[afq (by simp[a0]),afq (by simp[T]),afr (bx h4)]
   rw[e];exact⟨rfl,[_,_,_,_,_],[],rfl,N.mono λb o d=>.inl d⟩
  have b5:¬t.cq<=s.now:=bo h4
  refine .kn<|.sr<|.mo rfl<|.nc rfl<|.fa rfl<|.fa rfl<|.lo rfl<|.mo rfl ?_
  refine .bb i J I (λe6=>?_)
  refine .q (.bK rfl) ?_
  refine .cN (λc4=>?_)
  refine .ct rfl rfl<|.zs<|.sr<|.az rfl<|.block ?_
  refine .ml [(0,_),(1,_),(4,_),(7,_),(20,_),(22,_),(23,_),(24,_)] (X:=Nat) (λm=>m<=g.length/\jH (g.take m) t.scopes=true/\(g.take m).Nodup) (λm E=>(25,iN m)::E) (λ_ G=>G) (λm=>g.length-m) 0 ⟨afx _,rfl,List.nodup_nil⟩ kE.c.c.c.c.c.c.c.c.c rH ?_
  rintro m ⟨d8,b1,b3⟩
  refine .seq<|.sr<|.mo rfl<|.mo rfl<|.q (.dl U) ?_
  refine .q .lss<|.zn ?_
  refine .cond rfl (λh5=>?_) λh5=>?_
  have c1:m<g.length:=by have h9:=bx h5;omega
  obtain⟨y,hy⟩:=dN c1
  have py:PC R (eK (.slice d2 g.length d1) (m*1)) (bB y):=(U.mono a6).pc hy
  refine .kn<|.seq<|.block<|.seq<|.cW [] mixed ?_
  refine .tO 0 rfl (.fieldAddr rfl)<|.tO 1 rfl (.bN rfl)<|.tO 2 rfl .move<|.tO 3 rfl .move ?_
  refine .tO 4 rfl (.cu m U hy rfl rfl rfl) ?_
  refine .tO 5 rfl (.bN rfl) ?_
  refine .sT 6 rfl ?_
  refine .aM (nG w t.scopes y _ (RS.mono (h:=ci) λb o d=>.inl (a6 b o d))) (λu A=>?_)
  subst A
  refine .nil (Next.sub ?_)
  refine .tO 7 rfl .not<|.tO 8 rfl .move ?_
  refine RA.split (t:=146) rfl (λB=>?_) (λB=>?_)
  refine .gg 9 rfl rfl B rfl (by kernel_rfl) ?_
  refine .gg 10 rfl rfl B rfl (by kernel_rfl) ?_
  refine .gg 11 rfl rfl B rfl (by kernel_rfl) ?_
  refine .gg 12 rfl rfl B rfl (by kernel_rfl) ?_
  refine .gg 13 rfl rfl B rfl (by kernel_rfl) ?_
  refine .gg 14 rfl rfl B rfl (by kernel_rfl) ?_
  refine .gg 15 rfl rfl B rfl (by kernel_rfl) ?_
  refine .sT 16 rfl ?_
  refine .gF B ?_
  refine .nil (Next.sub ?_)
  refine .tO 17 rfl (.aY B) ?_
  refine RA.nil (by kernel_rfl) ?_
  refine aD<|.dF<|.sr<|.ag rfl<|.ag rfl<|.az rfl ?_
  refine .ret (br (aL (dn (br (aL (aR _ (.three (.tmp rfl) (.tmp rfl) (.tmp rfl)) (aI [1,1,1,1,1,1]) ?_))))))
  ·have F:y∉t.scopes:=by simpa using B
   have a3:jH g t.scopes=false:=Bool.eq_false_iff.2 λe=>F (nT.1 e y (bU hy))
   have e:dC s id D v g a r rev=(e0,e0,19,s):=by
     unfold dC;rw[afq (by simp[S]), <-Q,a7];simp only;rw[afq (by simp[a0]),afq (by simp[T]),afq b5,afr (.inl a3)]
   rw[e];exact⟨rfl,[_,_,_,_,_],[],rfl,N.mono λb o d=>.inl d⟩
  refine .cZ 9 rfl rfl B .move (by kernel_rfl) ?_
  refine .cZ 10 rfl rfl B .move (by kernel_rfl) ?_
  refine .cZ 11 rfl rfl B (aP.ob m U (by omega) ⟨_,rfl⟩) (by kernel_rfl) ?_
  refine .cZ 12 rfl rfl B .move (by kernel_rfl) ?_
  refine .cZ 13 rfl rfl B .move (by kernel_rfl) ?_
  refine .cZ 14 rfl rfl B (.cu m U hy rfl rfl rfl) (by kernel_rfl) ?_
  refine .cZ 15 rfl rfl B (.bN rfl) (by kernel_rfl) ?_
  refine .sT 16 rfl ?_
  refine .gT B ?_
  refine .aM (nG _ (g.take m) y _ ((U.ob m (by omega)).mono λb o d=>.inl (a6 b o d))) (λu A=>?_)
  subst A
  refine .nil (Next.sub ?_)
  refine .tO 17 rfl (.aS B) ?_
  refine RA.nil (by kernel_rfl) ?_
  refine aD ?_
  refine .cond rfl (λh6=>?_) λh6=>?_
  refine .sr<|.ag rfl<|.ag rfl<|.az rfl ?_
  refine .ret (br (aL (dn (br (aL (aR _ (.three (.tmp rfl) (.tmp rfl) (.tmp rfl)) (aI [1,1,1,1,1,1]) ?_))))))
  ·have F:y∈g.take m:=by simpa using h6
   have a3:¬g.Nodup:=λe=>((nR hy).1 (e.sublist (List.take_sublist _ _))).2 F
   have e:dC s id D v g a r rev=(e0,e0,19,s):=by
     unfold dC;rw[afq (by simp[S]), <-Q,a7];simp only;rw[afq (by simp[a0]),afq (by simp[T]),afq b5,afr (.inr a3)]
   rw[e];exact⟨rfl,[_,_,_,_,_],[],rfl,N.mono λb o d=>.inl d⟩
  refine .skip<|bz<|aD<|.region<|.mo rfl ?_
  refine .ia (m+1) .add ?_
  refine .ag rfl<|.nil ?_
  ·refine bf (m+1) ⟨c1,?_,?_⟩ (by omega) kE.c.c.c.c.c.c.c.c.c rH
   ·have F:y∈t.scopes:=by simpa using B
    rw[nT]at b1⊢
    intro x hx
    rcases(o1 hy x).1 hx with h8|rfl
    ·exact b1 x h8
    ·exact F
   ·have a2:y∉g.take m:=by simpa using h6
    exact(nR hy).2 ⟨b3,a2⟩
  have c8:m=g.length:=by have h9:=bo h5;omega
  rw[c8,afE]at b1 b3
  refine .exit<|bD<|bH<|bF<|aD<|.sr<|.mo rfl<|.nc rfl<|.fa rfl<|.fa rfl<|.lo rfl<|.mo rfl ?_
  refine .bb i J I (λe7=>?_)
  refine .fa rfl ?_
  refine .sW (k:=8) (cs:=[.bool true]) (z':=(w,t.mark)) i J I rfl rfl rfl rfl rfl (by simp[aw]) rfl (by simp) (λa4 a9=>?_)
  have i7:=a9.aw
  obtain⟨SC,b0⟩:∃l,l=(if g=[]then t.scopes else g):=⟨_,rfl⟩
  refine .z<|.fa rfl<|.lo rfl<|.ag rfl<|.zs<|.sr<|.mo rfl<|.q (.dl U) ?_
  refine .q .gtr<|.zn ?_
  refine bQ.ld [(0,_),(1,_),(7,_),(22,_),(23,_),(24,_)] kE.c.c.c.c.c.c (X:=Value×ax) (λy=>RS (λb o=>RD b o\/sg y.2 b o) 1 bB y.1 SC) (λy E=>(26,y.1)::E) (λy=>[bl c4 (bE (w,t)) 58,bl xb [M,L,K,vv,.int .i64 s.last,.int .i64 s.now] 44,Z,Y,W,a4,y.2]) ?_ ?_
  refine .cond rfl (λh7=>?_) λh7=>?_
  have c2:SC=g:=by
    have h9:=bx h7
    rw[b0,afq (λe=>by subst e;simp at h9)]
  refine .region<|.mo rfl ?_
  refine .da (pC _ g 99 99 (by decide) _ (U.mono λb o d=>.inl (a6 b o d))) (λc3 b7 b2=>?_)
  rw[yp (l:=g) (by omega) d0]at b2
  have e3:=b2.aw
  refine .ag rfl<|.nil ?_
  ·first
      |exact aB (c3,b7) (by simp only;rw[c2];exact b2.sg.mono λb o d=>.inr d) kE.c.c.c.c.c.c.c (aI [1,1,1,1,1,1,0])
      |exact aB (w,([]:ax)) (by simp only;rw[b0,afr (by have h9:=bo h7;exact List.length_eq_zero_iff.1 (by omega))];exact RS.mono (h:=ci) λb o d=>.inl d) kE.c.c.c.c.c.c.c rH
  refine .skip ?_
  ·first
      |exact aB (c3,b7) (by simp only;rw[c2];exact b2.sg.mono λb o d=>.inr d) kE.c.c.c.c.c.c.c (aI [1,1,1,1,1,1,0])
      |exact aB (w,([]:ax)) (by simp only;rw[b0,afr (by have h9:=bo h7;exact List.length_eq_zero_iff.1 (by omega))];exact RS.mono (h:=ci) λb o d=>.inl d) kE.c.c.c.c.c.c.c rH
  intro x hx
  obtain⟨u,Tx⟩:=x
  simp only at hx⊢
  have iu:=hx.aw
  have c9:∀p∈ts.set i (w,t.mark),dS RD p:=λp hp=>by
    rcases List.mem_or_eq_of_mem_set hp with hp|rfl
    ·exact C.tr p hp
    ·exact ci
  have b8:eQ (cT v t.mark s.V) (ts.set i (w,t.mark)):=by
    have:=C.bt.set (w':=w) (u:=t.mark) I rfl
    rw[c0]at this
    exact this
  have c6:DS (λb o=>RD b o\/sg Tx b o) xb {s with V:=cT v t.mark s.V} [bl xb [M,L,K,vv,.int .i64 s.last,.int .i64 s.now] 44,Z,Y,W,a4]:=⟨M,L,K,vv,Z,Y,W,a4,rs,ns,gs,_,rfl,hr,hn,hg,a9,C.db (λb o d=>.inl d) b8 λp hp=>(c9 p hp).mono λb o d=>.inl d⟩
  have c7:OB {s with V:=cT v t.mark s.V} k:=d.less (afz _) (by rw[b8.len,C.bt.len,List.length_set];exact afz _) (afB _) d.cs
  refine aD<|.sr<|.mo rfl<|.mo rfl<|.mo rfl<|.mo rfl<|.fa rfl<|.lo rfl<|.mo rfl<|.fa rfl<|.lo rfl<|.mo rfl ?_
  refine .q (.dI (out:=bE (u,⟨e0,0,id,t.user,SC,t.family,0,rev,false⟩)) rfl (qo iu.h)) ?_
  refine .call [1,1,1,1,1] (qF c6 c7 hk (bj 97 a) (bj 114 r) u ⟨e0,0,id,t.user,SC,t.family,0,rev,false⟩ hx _) (λu H' A=>?_)
  obtain⟨rfl,b9⟩:=A
  have c5:=b9
  obtain⟨ur,un,ug,uv,Ur,Un,Ug,Uv,f2,f3,f4,f5,rfl,_,_,_,_,_⟩:=b9
  conv=>arg 8;simp only[rest,aZ,afu,afw]
  refine .z<|.mo rfl<|.mo rfl<|.ag rfl<|.ag rfl<|.az rfl ?_
  refine .ret (aR _ (.three (.tmp rfl) (.tmp rfl) (.tmp rfl)) (aI [0,0,0,0,0,1]) ?_)
  ·have e:dC s id D v g a r rev=(bj 97 a,bj 114 r,0,{s with V:=gO (cT v t.mark s.V) s.last s.now (bj 97 a) (bj 114 r) ⟨e0,0,id,t.user,SC,t.family,0,rev,false⟩}):=by
      unfold dC;rw[afq (by simp[S]), <-Q,a7];simp only;rw[afq (by simp[a0]),afq (by simp[T]),afq b5,afq (by simp[b1,b3]), <-b0]
   rw[e];exact⟨rfl,[_,_,_,_,_],Tx,rfl,c5⟩
  refine .gF f<|.gF f<|.gF f<|.gF f<|.gF f<|.gF f<|.gF f<|.gF f<|.gF f<|.q (.aS f) ?_
  refine .zn<|.bZ ?_
  first
    |have a0:t.used=false:=h2
    |skip
  refine .kn<|.sr<|.mo rfl ?_
  refine .aM (kR va a _ (ha.mono λb o d=>.inl d) (by omega)) (λu A=>?_)
  subst A
  refine .q (.cast (v':=.string (bj 97 a)) (.gI (p:=⟨#[97,46]⟩) (q:=⟨(dw a).toArray⟩) (by rw[fz (dw a)];show 2+_<=_;omega) rfl rfl) (afs Value.string (lf 97 a))) ?_
  refine .mo rfl ?_
  refine .aM (kR vq r _ (hq.mono λb o d=>.inl d) (by omega)) (λu A=>?_)
  subst A
  refine .q (.cast (v':=.string (bj 114 r)) (.gI (p:=⟨#[114,46]⟩) (q:=⟨(dw r).toArray⟩) (by rw[fz (dw r)];show 2+_<=_;omega) rfl rfl) (afs Value.string (lf 114 r))) ?_
  refine .ag rfl<|.ag rfl<|.z<|.mo rfl<|.mo rfl<|.mo rfl ?_
  refine .aM (o8 N d hk (bj 97 a) (bj 114 r) _ (λb o d=>.inl (a6 b o d)) (λb o d=>.inr (by simpa using d))) (λu A=>?_)
  subst A
  refine .ag rfl<|.zs<|.sr<|.mo rfl<|.q .dL<|.zn ?_
  refine .cond rfl (λh3=>?_) λh3=>?_
  have T:dG s (bj 97 a) (bj 114 r)≠0:=by simpa using h3
  refine .sr<|.mo rfl<|.ag rfl<|.ag rfl<|.az rfl ?_
  refine .ret (aL (aR _ (.three (.tmp rfl) (.tmp rfl) (.tmp rfl)) rH ?_))
  ·have b4:fq s.V v id=none:=by rw[<-Q];simpa using f
   have e:dC s id D v g a r rev=(e0,e0,dG s (bj 97 a) (bj 114 r),s):=by
     unfold dC;rw[afq (by simp[S]),b4];simp only;rw[afr T]
   rw[e];exact⟨rfl,[_,_,_,_,_],[],rfl,N.mono λb o d=>.inl d⟩
  have T:dG s (bj 97 a) (bj 114 r)=0:=by simpa using h3
  refine .kn<|.seq<|.seq ?_
  refine .iQ mixed (by kernel_rfl) ?_
  refine .mo rfl<|.q .not<|.mo rfl<|.gF (afs not f) ?_
  refine .gF (afs not f) ?_
  refine .gF (afs not f) ?_
  refine .gF (afs not f) ?_
  refine .gF (afs not f) ?_
  refine .gF (afs not f) ?_
  refine .gF (afs not f) ?_
  refine .gF (afs not f) ?_
  refine .gF (afs not f) ?_
  refine .gF (afs not f) ?_
  refine .gF (afs not f) ?_
  refine .gF (afs not f) ?_
  refine .gF (afs not f) ?_
  refine .gF (afs not f) ?_
  refine .q (.aY (afs not f)) ?_
  refine .zn<|.dF<|.sr<|.ag rfl<|.ag rfl<|.az rfl ?_
  refine .ret (aL (aR _ (.three (.tmp rfl) (.tmp rfl) (.tmp rfl)) rH ?_))
  ·have b4:fq s.V v id=none:=by rw[<-Q];simpa using f
   have e:dC s id D v g a r rev=(e0,e0,18,s):=by
     unfold dC;rw[afq (by simp[S]),b4];simp only;rw[afq (by simp[T])]
   rw[e];exact⟨rfl,[_,_,_,_,_],[],rfl,N.mono λb o d=>.inl d⟩
end
def b6(x:Nat):List Nat:=[x/32 % 2,x/16 % 2,x/8 % 2,x/4 % 2,x/2 % 2,x % 2]
def bits(xs:List Nat):List Nat:=xs.flatMap b6
theorem rn:∀{xs:List Nat},(bits xs).length=6*xs.length
 |[]=>rfl
 |x::xs=>by
  have:=rn (xs:=xs)
  unfold bits at this⊢
  rw[List.flatMap_cons,List.length_append,this]
  simp only[b6,List.length_cons,List.length_nil]
  omega
theorem tX{xs:List Nat}{x:Nat}:bits (xs++[x])=bits xs++b6 x:=by simp[bits]
theorem zo{xs:List Nat}:∀b∈bits xs,b<=1:=λb a=>by
 obtain⟨x,_,c⟩:=List.mem_flatMap.1 a
 simp only[b6,afA,List.not_mem_nil,or_false]at c
 omega
def nL(xs:List Nat):Nat:=(xs.getLast?).getD 0
theorem zp{xs:List Nat}(e:6*xs.length % 8<6):(∀b∈(bits xs).drop (8*(6*xs.length/8)),b=0)↔nL xs % 2^(6*xs.length % 8)=0:=by
 rcases List.eq_nil_or_concat xs with rfl|⟨a,x,rfl⟩
 ·simp[bits,nL]
 ·rw[List.concat_eq_append]at e⊢
  have d:nL (a++[x])=x:=by simp[nL]
  have c:(a++[x]).length=a.length+1:=by simp
  rw[c]at e
  rw[d,c,tX]
  have f:=rn (xs:=a)
  clear d c
  generalize a.length=n at *
  have h6:6*(n+1) % 8=0\/6*(n+1) % 8=2\/6*(n+1) % 8=4:=by omega
  rw[List.drop_append,f]
  rcases h6 with h6|h6|h6<;>rw[h6]
  ·rw[afF (by omega),show 8*(6*(n+1)/8)-6*n=6 by omega]
   simp[b6]
   omega
  ·rw[afF (by omega),show 8*(6*(n+1)/8)-6*n=4 by omega]
   simp[b6]
   omega
  ·rw[afF (by omega),show 8*(6*(n+1)/8)-6*n=2 by omega]
   simp[b6]
   omega
theorem La(i:Nat)(h:i<64):fx (cS i)=i:=by
 have e:∀k:Fin 64,fx (cS k.val)=(k.val:Int):=by decide+kernel
 exact e ⟨i,h⟩
theorem wx(c:UInt8):fx c= -1\/∃i:Nat,i<64/\cS i=c/\fx c=i:=by
 have e:∀k:Fin 256,fx (UInt8.ofNat k.val)= -1\/(0<=fx (UInt8.ofNat k.val)/\cS (fx (UInt8.ofNat k.val)).toNat=UInt8.ofNat k.val):=by decide+kernel
 have h:=e ⟨c.toNat,c.toNat_lt⟩
 have d:=wz c
 simp only[UInt8.ofNat_toNat]at h
 rcases h with h|⟨b,a⟩
 ·exact .inl h
 ·exact .inr ⟨(fx c).toNat,by omega,a,by omega⟩
theorem Mr(c:UInt8)(R:av):Spec prog 213 [.int .u8 (c.toNat:Nat)] R [] λu H'=>u=.int .i64 (fx c)/\H'=[]:=by
 refine Spec.body func213 rfl results213 ntmps213 rfl ?_
 refine .sr<|.ag rfl<|.zs<|.sr<|.az rfl<|.block ?_
 refine .loop (X:=Nat) (λi=>i<=64/\∀j,j<i->cS j≠c) (λi=>[(0,.int .u8 (c.toNat:Nat)),(3,iN i)]) (λ_=>[]) (λi=>64-i) 0 ⟨by omega,λj d=>by omega⟩ kE.c.c rH ?_
 rintro i ⟨n,g⟩
 refine .seq<|.sr<|.mo rfl<|.q .lss<|.zn ?_
 refine .cond rfl (λb=>?_) λb=>?_
 have f:i<64:=dQ b
 refine .kn<|.seq<|.block<|.sr<|.mo rfl ?_
 refine .aM (lL i f _) (λu m=>?_)
 subst m
 refine .q (.cast (v':=.int .u8 ((cS i).toNat:Nat)) (.iJ (p:=⟨#[cS i]⟩) 0 (show 0<1 by decide)) rfl) ?_
 refine .mo rfl<|.q .bS<|.zn ?_
 refine .cond rfl (λa=>?_) λa=>?_
 refine .sr<|.mo rfl<|.az rfl ?_
 refine .ret (br (aL (dn (br (aL (aO rfl ?_))))))
 ·have k:cS i=c:=UInt8.toNat.inj (by have h9:=a;simp at h9;omega)
  rw[<-k,La i f]
  exact⟨rfl,rfl⟩
 refine .skip<|bz<|aD<|.region<|.mo rfl ?_
 refine .ia (i+1) .add ?_
 refine .ag rfl<|.nil ?_
 ·exact bf (i+1) ⟨f,λj d=>by
   by_cases e:j=i
   ·subst e
    intro h
    rw[h]at a
    simp at a
   ·exact g j (by omega)⟩ (by omega) kE.c.c rH
 refine .exit<|bD<|bH<|bF<|aD<|.sr<|.az rfl ?_
 refine .ret (aO rfl ?_)
 ·have l:i=64:=by have:=bo b;omega
  subst l
  rcases wx c with h9|⟨j,d,h9,_⟩
  ·rw[h9]
   exact⟨rfl,rfl⟩
  ·exact absurd h9 (g j d)
def ke(l:List UInt8):List Nat:=l.map λc=>(fx c).toNat
theorem K1{l:List UInt8}:ll l l.length=nL (ke l):=by
 unfold nL ke
 rw[List.getLast?_map]
 rcases List.eq_nil_or_concat l with rfl|⟨a,y,rfl⟩
 ·rfl
 ·rw[List.concat_eq_append,List.length_append]
  show ll (a++[y]) (a.length+1)=_
  show(fx ((a++[y]).getD a.length 0)).toNat=_
  simp
abbrev mG(n:Nat):List Value:=[iN n]
theorem zh{x j:Nat}(a:j<6):(b6 x).take (j+1)=(b6 x).take j++[x/(32/2^j) % 2]:=by
 have:j=0\/j=1\/j=2\/j=3\/j=4\/j=5:=by omega
 rcases this with rfl|rfl|rfl|rfl|rfl|rfl<;>simp[b6]
theorem LZ{j:Nat}(a:j<6):32/2^j/2=32/2^(j+1):=by rw[Nat.div_div_eq_div_mul,Nat.pow_succ]
theorem L0{j:Nat}(a:j<6):32/2^j≠0/\32/2^j<=32:=by
 have:j=0\/j=1\/j=2\/j=3\/j=4\/j=5:=by omega
 rcases this with rfl|rfl|rfl|rfl|rfl|rfl<;>decide
theorem Mi(s:ByteArray)(hs:s.size<=1000)(R:av):Spec prog 169 [.string s] R [] λu H'=>∃T,H'=[T]/\∃(v:Value) (xs:List UInt8) (e:Int),u=.tuple [v,.int .i64 e].toArray/\OS 5 1 cO v xs T/\(e=0↔fX s.data.toList=true)/\(e=0->xs.length=6*s.size/8):=by
 obtain⟨l,f⟩:∃l,l=s.data.toList:=⟨_,rfl⟩
 have a1:l.length=s.size:=by rw[f];simp
 refine Spec.dg (H':=[[],[]]) (by simp) ?_
 refine Spec.body func169 rfl results169 ntmps169 rfl ?_
 refine .sr<|.ag rfl<|.ag rfl<|.z<|.ag rfl<|.zs<|.sr<|.az rfl<|.block ?_
 refine .loop (X:=Nat×Value×ax) (λy=>y.1<=s.size/\OS 3 1 mG y.2.1 (bits (ke (l.take y.1))) y.2.2/\∀c∈l.take y.1,0<=fx c) (λy=>[(0,.string s),(4,y.2.1),(5,iN y.1)]) (λy=>[y.2.2,[]]) (λy=>s.size-y.1) (0,sZ,[]) ⟨afx _,OS.nil,λc hc=>by cases hc⟩ kE.c.c.c rH ?_
 rintro⟨i,v4,h⟩ ⟨hi,o,H⟩
 simp only at hi o H⊢
 have d3:=o.aw
 have I:=rn (xs:=ke (l.take i))
 have L:(ke (l.take i)).length=i:=by unfold ke;rw[List.length_map,List.length_take];omega
 refine .seq<|.sr<|.mo rfl<|.mo rfl<|.q .fG<|.q .lss<|.zn ?_
 refine .cond rfl (λQ=>?_) λQ=>?_
 have a2:i<s.size:=by have d:=bx Q;omega
 obtain⟨c,a6⟩:∃c,c=s[i]:=⟨_,rfl⟩
 have a7:l[i]? =some c:=by rw[f,a6,bC (by simpa using a2)];rfl
 have b1:l.take (i+1)=l.take i++[c]:=by rw[afD,a7];rfl
 refine .kn<|.seq<|.block<|.sr<|.mo rfl<|.mo rfl ?_
 refine .q (.cast (.iJ i a2) (by rw[<-a6])) ?_
 refine .aM (Mr c _) (λu hu=>?_)
 subst hu
 refine .ag rfl<|.zs<|.sr<|.mo rfl<|.q .lss<|.zn ?_
 refine .cond rfl (λS=>?_) λS=>?_
 have d1:fx c<0:=by simpa using S
 have A:fX l=false:=by
  unfold fX
  rw[Bool.and_eq_false_iff]
  refine .inl (List.all_eq_false.2 ⟨c,bU a7,by simp;omega⟩)
 refine .sr<|.ag rfl<|.az rfl ?_
 refine .ret (aL (br (aL (dn (br (aL (aR _ (.two (.tmp rfl) (.tmp rfl)) ((aI []).trans (aT.bu (H':=[[]]) (by simp[take]))) ?_)))))))
 ·first
   |exact⟨[],rfl,sZ,[],4,rfl,OS.nil,⟨λe=>absurd e (by decide),λe=>(by rw[<-f,A]at e;cases e)⟩,λe=>absurd e (by decide)⟩
   |exact⟨t,rfl,C,xs,0,rfl,r,⟨λ_=>(by rw[<-f];exact M),λ_=>rfl⟩,λ_=>(by rw[B,E])⟩
 have a8:¬fx c<0:=by simpa using S
 obtain⟨x,hx,_,b2⟩:=(wx c).resolve_left (λe=>by rw[e]at a8;exact a8 (by decide))
 rw[b2]
 have c4:ke (l.take (i+1))=ke (l.take i)++[x]:=by rw[b1];unfold ke;rw[List.map_append,List.map_cons,List.map_nil,b2];rfl
 refine .kn<|.sr<|.ag rfl<|.z<|.az rfl<|.block ?_
 refine .loop (X:=Nat×Nat×Value×ax) (λy=>(y.1<=6/\y.2.1=32/2^y.1)/\OS 3 1 mG y.2.2.1 (bits (ke (l.take i))++(b6 x).take y.1) y.2.2.2) (λy=>[(0,.string s),(4,y.2.2.1),(5,iN i),(6,iN x),(7,iN y.2.1),(8,iN y.1)]) (λy=>[y.2.2.2,[]]) (λy=>6-y.1) (0,32,v4,h) ⟨⟨by simp only;omega,by simp⟩,by simpa using o⟩ kE.c.c.c.c.c.c rH ?_
 rintro⟨j,p,v7,T7⟩ ⟨⟨J,K⟩,G⟩
 simp only at J K G⊢
 have d4:=G.aw
 refine .seq<|.sr<|.mo rfl<|.q .lss<|.zn ?_
 refine .cond rfl (λU=>?_) λU=>?_
 have w:j<6:=by have d:=bx U;omega
 obtain⟨c1,d2⟩:=L0 w
 refine .kn<|.seq<|.block<|.sr<|.mo rfl<|.mo rfl<|.mo rfl ?_
 refine .q (.mr p rfl rfl (by rw[K];exact c1) (by omega)) ?_
 refine .q (.lP 2 rfl rfl (by decide)) ?_
 refine .ig (λc6=>?_)
 refine .append G (RS.lits (xs:=[x/p % 2]) rfl (by simp[mG]) (by simp[mG,aw])) (by simp;omega) (λv8 O Z=>?_)
 rw[K,List.append_assoc, <-zh w]at Z
 have c5:=Z.aw
 refine .az rfl<|.region<|.mo rfl ?_
 refine .q (.mr 2 rfl rfl (by decide) (by omega)) ?_
 refine .ag rfl<|.nil<|bz<|aD<|.region<|.mo rfl ?_
 refine .ia (j+1) .add ?_
 refine .ag rfl<|.nil ?_
 ·exact bf (j+1,p/2,v8,O) ⟨⟨w,by simp only;rw[K,LZ w]⟩,Z⟩ (by simp only;omega) kE.c.c.c.c.c.c (aI [1,1])
 have w:j=6:=by have d:=bo U;omega
 subst w
 have b5:OS 3 1 mG v7 (bits (ke (l.take (i+1)))) T7:=by rw[c4,tX];exact G
 refine .exit<|bD<|bH<|bF<|bz<|aD<|.region<|.mo rfl ?_
 refine .ia (i+1) .add ?_
 refine .ag rfl<|.nil ?_
 ·exact bf (i+1,v7,T7) ⟨a2,b5,λy hy=>by
   rw[b1]at hy
   rcases List.mem_append.1 hy with hy|hy
   ·exact H y hy
   ·rw[List.mem_singleton]at hy;subst hy;omega⟩ (by simp only;omega) kE.c.c.c rH
 have a0:i=s.size:=by have d:=bo Q;omega
 have c3:l.take i=l:=afC (by omega)
 rw[c3]at o H I L
 have b7:(l.all λc=>decide (0<=fx c))=true:=List.all_eq_true.2 λc hc=>by simp only[decide_eq_true_eq];exact H c hc
 refine .exit<|bD<|bH<|bF<|aD<|.seq<|.sr<|.mo rfl<|.q (.ec o) ?_
 refine .q (.lP 8 rfl rfl (by decide)) ?_
 refine .q .geq<|.zn ?_
 refine .cond rfl (λV=>?_) λV=>?_
 have A:fX l=false:=by
  unfold fX
  have d:=bx V
  rw[a1,decide_eq_false (p:=6*s.size % 8<6) (by omega),Bool.false_and,Bool.and_false]
 refine .sr<|.ag rfl<|.az rfl ?_
 refine .ret (aL (aR _ (.two (.tmp rfl) (.tmp rfl)) ((aI []).trans (aT.bu (H':=[[]]) (by simp[take]))) ?_))
 ·first
   |exact⟨[],rfl,sZ,[],4,rfl,OS.nil,⟨λe=>absurd e (by decide),λe=>(by rw[<-f,A]at e;cases e)⟩,λe=>absurd e (by decide)⟩
   |exact⟨t,rfl,C,xs,0,rfl,r,⟨λ_=>(by rw[<-f];exact M),λ_=>rfl⟩,λ_=>(by rw[B,E])⟩
 have b0:6*s.size % 8<6:=by have d:=bo V;omega
 obtain⟨D,hD⟩:∃D,D=bits (ke l):=⟨_,rfl⟩
 rw[<-hD]at o I
 rw[L,a0]at I
 refine .kn<|.sr<|.ag rfl<|.zs<|.block ?_
 refine .loop (X:=Nat×Value×Value×List UInt8×ax) (λy=>8*y.1<=6*s.size/\RS (sg h) 1 mG y.2.1 (D.drop (8*y.1))/\OS 5 1 cO y.2.2.1 y.2.2.2.1 y.2.2.2.2/\y.2.2.2.1.length=y.1) (λy=>[(0,.string s),(4,y.2.1),(9,y.2.2.1)]) (λy=>[h,y.2.2.2.2]) (λy=>6*s.size-8*y.1) (0,v4,sZ,[],[]) ⟨by simp,by simpa using o.sg,OS.nil,rfl⟩ kE.c.c.c rH ?_
 rintro⟨m,N,C,xs,t⟩ ⟨c0,g,r,B⟩
 simp only at c0 g r B⊢
 have d7:=g.aw
 have d6:=r.aw
 have d0:(D.drop (8*m)).length=6*s.size-8*m:=by rw[List.length_drop,I]
 refine .seq<|.sr<|.mo rfl<|.q (.dl g) ?_
 refine .q .geq<|.zn ?_
 refine .cond rfl (λW=>?_) λW=>?_
 have b4:8*m+8<=6*s.size:=by have d:=bx W;omega
 refine .kn<|.block<|.sr<|.ag rfl<|.zs<|.sr<|.az rfl<|.block ?_
 refine .loop (X:=Nat×Nat) (λy=>y.1<=8/\y.2<2^y.1) (λy=>[(0,.string s),(4,N),(9,C),(10,iN y.2),(11,iN y.1)]) (λy=>[h,t]) (λy=>8-y.1) (0,0) ⟨by simp,by simp⟩ kE.c.c.c.c.c rH ?_
 rintro⟨j,a⟩ ⟨J,ha⟩
 simp only at J ha⊢
 have c8:a<256:=Nat.lt_of_lt_of_le ha (Nat.pow_le_pow_right (n:=2) (by decide) J)
 refine .seq<|.sr<|.mo rfl<|.q .lss<|.zn ?_
 refine .cond rfl (λh6=>?_) λh6=>?_
 have b9:j<8:=by have d:=bx h6;omega
 obtain⟨b,k⟩:∃b,(D.drop (8*m))[j]? =some b:=⟨_,bC (by omega)⟩
 have c9:b<=1:=zo (xs:=ke l) b (hD▸List.mem_of_mem_drop (bU k))
 have pj:PS h (eK N (j*1)) (mG b):=⟨g.pc k⟩
 refine .kn<|.seq<|.block<|.region<|.mo rfl ?_
 refine .ia (2*a) .mul ?_
 refine .mo rfl<|.mo rfl<|.q (.cu j g k rfl rfl rfl) ?_
 refine .lo rfl ?_
 refine .ia (2*a+b) .add ?_
 refine .ag rfl<|.nil<|bz<|aD<|.region<|.mo rfl ?_
 refine .ia (j+1) .add ?_
 refine .ag rfl<|.nil ?_
 ·exact bf (j+1,2*a+b) ⟨b9,by simp only;rw[Nat.pow_succ];generalize 2^j=q at *;omega⟩ (by simp only;omega) kE.c.c.c.c.c rH
 refine .exit<|bD<|bH<|bF<|aD<|.sr<|.mo rfl<|.mo rfl<|.q (.s7 rfl) ?_
 refine .ig (λc7=>?_)
 refine .append r (RS.lits (xs:=[UInt8.ofNat a]) rfl (by simp[cO]) (by simp[cO,aw])) (by simp;omega) (λv8 O a5=>?_)
 have c5:=a5.aw
 refine .az rfl<|.region<|.mo rfl ?_
 refine .jW (R':=sg h) 8 (D.drop (8*m)).length g ⟨_,rfl⟩ rfl (by omega) (by omega) (λv9 a3=>?_)
 have d5:=a3.aw
 have e9:((D.drop (8*m)).drop 8).take ((D.drop (8*m)).length-8)=D.drop (8*(m+1)):=by rw[afC (by rw[List.length_drop];omega),List.drop_drop,show 8*(m+1)=8*m+8 by omega]
 rw[e9]at a3
 refine .ag rfl<|.nil<|bz ?_
 ·exact bf (m+1,v9,v8,xs++[UInt8.ofNat a],O) ⟨by simp only;omega,a3,a5,by simp[B]⟩ (by simp only;omega) kE.c.c.c (aI [1,1])
 have b4:¬8*m+8<=6*s.size:=by have d:=bo W;omega
 have E:m=6*s.size/8:=by omega
 have b3:(∀b∈D.drop (8*m),b=0)↔ll l l.length % 2^(6*l.length % 8)=0:=by
  have d:=zp (xs:=ke l) (by rw[L,a0];exact b0)
  rw[L,a0, <-hD, <-E, <-K1]at d
  rw[a1]at d⊢
  exact d
 refine .exit<|bD<|bH<|bF<|aD<|.seq<|.sr<|.az rfl<|.block ?_
 refine .loop (X:=Nat) (λi=>i<=(D.drop (8*m)).length/\∀b∈(D.drop (8*m)).take i,b=0) (λi=>[(0,.string s),(4,N),(9,C),(12,iN i)]) (λ_=>[h,t]) (λi=>(D.drop (8*m)).length-i) 0 ⟨afx _,λb hb=>by cases hb⟩ kE.c.c.c.c rH ?_
 rintro q ⟨hq,a4⟩
 refine .seq<|.sr<|.mo rfl<|.mo rfl<|.q (.dl g) ?_
 refine .q .lss<|.zn ?_
 refine .cond rfl (λY=>?_) λY=>?_
 have a9:q<(D.drop (8*m)).length:=by have d:=bx Y;omega
 obtain⟨b,k⟩:=dN a9
 have pj:PS h (eK N (q*1)) (mG b):=⟨g.pc k⟩
 refine .kn<|.seq<|.block<|.sr<|.mo rfl<|.mo rfl<|.q (.cu q g k rfl rfl rfl) ?_
 refine .lo rfl<|.q .dL<|.zn ?_
 refine .cond rfl (λF=>?_) λF=>?_
 have A:fX l=false:=by
  have b8:¬((b:Nat):Int)=0:=by simpa using F
  have d:¬ll l l.length % 2^(6*l.length % 8)=0:=λe=>b8 (by rw[b3.2 e b (bU k)];rfl)
  unfold fX
  rw[beq_eq_false_iff_ne.2 d,Bool.and_false,Bool.and_false]
 refine .sr<|.ag rfl<|.az rfl ?_
 refine .ret (br (aL (dn (br (aL (aR _ (.two (.tmp rfl) (.tmp rfl)) ((aI []).trans (aT.bu (H':=[[]]) (by simp[take]))) ?_))))))
 ·first
   |exact⟨[],rfl,sZ,[],4,rfl,OS.nil,⟨λe=>absurd e (by decide),λe=>(by rw[<-f,A]at e;cases e)⟩,λe=>absurd e (by decide)⟩
   |exact⟨t,rfl,C,xs,0,rfl,r,⟨λ_=>(by rw[<-f];exact M),λ_=>rfl⟩,λ_=>(by rw[B,E])⟩
 refine .skip<|bz<|aD<|.region<|.mo rfl ?_
 refine .ia (q+1) .add ?_
 refine .ag rfl<|.nil ?_
 ·exact bf (q+1) ⟨a9,λy hy=>by
   rw[afD,k]at hy
   rcases List.mem_append.1 hy with hy|hy
   ·exact a4 y hy
   ·have hy:y=b:=by simpa using hy
    have d:((b:Nat):Int)=0:=by
     by_cases d:((b:Nat):Int)=0
     ·exact d
     ·rw[bne_iff_ne.2 d]at F
      cases F
    omega⟩ (by omega) kE.c.c.c.c rH
 have c2:q=(D.drop (8*m)).length:=by have d:=bo Y;omega
 rw[c2,afE]at a4
 have M:fX l=true:=by
  unfold fX
  rw[b7,decide_eq_true (p:=6*l.length % 8<6) (by rw[a1];exact b0),b3.1 a4]
  rfl
 refine .exit<|bD<|bH<|bF<|aD<|.sr<|.mo rfl<|.ag rfl<|.az rfl ?_
 refine .ret (aR _ (.two (.tmp rfl) (.tmp rfl)) (aI [1]) ?_)
 ·first
   |exact⟨[],rfl,sZ,[],4,rfl,OS.nil,⟨λe=>absurd e (by decide),λe=>(by rw[<-f,A]at e;cases e)⟩,λe=>absurd e (by decide)⟩
   |exact⟨t,rfl,C,xs,0,rfl,r,⟨λ_=>(by rw[<-f];exact M),λ_=>rfl⟩,λ_=>(by rw[B,E])⟩
theorem Mo(s:ByteArray)(h:s.size<=1000)(R:av):Spec prog 103 [.string s] R [] λu H'=>u=.bool (lN s)/\H'=[]:=by
  refine Spec.body func103 rfl results103 ntmps103 rfl ?_
  refine .sr<|.ag rfl<|.z<|.mo rfl ?_
  refine .da (Mi s h _) (λu j i=>?_)
  obtain⟨v,l,e,rfl,f,d,g⟩:=i
  have k:=f.aw
  refine .mo rfl<|.q .extract<|.q .extract<|.ag rfl<|.ag rfl<|.z<|.mo rfl<|.q .bS<|.mo rfl ?_
  refine .split (t:=12) rfl (λa=>?_) (λa=>?_)
  refine .gT a<|.mo rfl<|.gT a<|.q (.ec f) ?_
  refine .gT a<|.q .bS<|.q (.aY a) ?_
  refine .az rfl ?_
  refine .ret (aO rfl ?_)
  ·unfold lN
   first
     |(have b:e=0:=by simpa using a
       have c:=g b
       rw[d.1 b,Bool.true_and]
       refine⟨afs Value.bool ?_,rfl⟩
       rw[Bool.eq_iff_iff]
       simp
       omega)
     |(have b:¬e=0:=by simpa using a
       have c:fX s.data.toList=false:=by
         cases e9:fX s.data.toList with
         |false=>rfl
         |true=>exact absurd (d.2 e9) b
       rw[c,Bool.false_and]
       exact⟨rfl,rfl⟩)
  refine .gF a<|.gF a<|.gF a<|.q (.aS a) ?_
  refine .az rfl ?_
  refine .ret (aO rfl ?_)
  ·unfold lN
   first
     |(have b:e=0:=by simpa using a
       have c:=g b
       rw[d.1 b,Bool.true_and]
       refine⟨afs Value.bool ?_,rfl⟩
       rw[Bool.eq_iff_iff]
       simp
       omega)
     |(have b:¬e=0:=by simpa using a
       have c:fX s.data.toList=false:=by
         cases e9:fX s.data.toList with
         |false=>rfl
         |true=>exact absurd (d.2 e9) b
       rw[c,Bool.false_and]
       exact⟨rfl,rfl⟩)
section
variable{RD R:av}{xb k:Nat}{s:cd}{H:aV}
theorem DS.lJ(h:DS RD xb s H):∃A B C D E,H=[A,B,C,D,E]:=by
 obtain⟨l,k,j,m,c,b,a,d,g,f,e,i,rfl,_⟩:=h
 exact⟨_,_,_,_,_,rfl⟩
theorem N1(l:List ByteArray)(n k:Nat):∀t∈texts l n k,t.size<=k:=by
 intro t a
 unfold texts at a
 obtain⟨u,_,rfl⟩:=List.mem_map.1 a
 exact pt _ _
theorem Mk(h:DS RD xb s H)(c:OB s k)(l:k<=60)(w:OV)(x:OC)(R:av)(i:OR RD w x.bT)(g:∀b o,RD b o->R b o):
  Spec prog 7 [pT xb,.agg (fW w x.bT).toArray] R H λu H'=>u=.tuple [.string (eB s x.bT).1,.string (eB s x.bT).2.1,.int .i64 (eB s x.bT).2.2.1].toArray/\∃Hs Td,H'=Hs++[Td]/\DS (λb o=>RD b o\/sg Td b o) xb (eB s x.bT).2.2.2 Hs:=by
 have j:=h
 obtain⟨Y,C,B,D,M,F,E,G,rs,ns,gs,ts,rfl,hr,hn,hg,K,J⟩:=h
 obtain⟨l1,l2,l3,l4⟩:=J.len c l
 have j1:=hr.aw
 have j2:=hn.aw
 have j3:=hg.aw
 have j4:=K.aw
 have i1:bJ (fW w x.bT):=⟨i.bG⟩
 have i2:bJ w.cr.cells:=⟨i.1.bG⟩
 have z1:x.bT.user.size<=40:=pt _ _
 have z2:x.bT.word.size<=140:=pt _ _
 have Z:x.bT.scopes.length<=6:=by show(texts x.scopes 6 40).length<=6;simp[texts];omega
 have z4:x.bT.a.length<=30:=by show(x.a.take 30).length<=30;simp;omega
 have z5:x.bT.r.length<=30:=by show(x.r.take 30).length<=30;simp;omega
 have z6:∀t∈x.bT.scopes,t.size<=99:=λt K=>Nat.le_trans (N1 x.scopes 6 40 t K) (by omega)
 refine Spec.dg (H':=[bl xb [Y,C,B,D,.int .i64 s.last,.int .i64 s.now] 44,M,F,E,G,[]]) (by simp) ?_
 refine Spec.body func7 rfl results7 ntmps7 rfl ?_
 refine .sr ?_
 refine .dv rfl (λN=>?_)
 refine .ag rfl<|.ag rfl<|.ag rfl<|.z<|.fa rfl<|.lo rfl<|.zn<|.block<|.sr<|.q .bS<|.az rfl ?_
 refine .cond rfl (λO=>?_) λO=>?_
 refine .sr<|.mo rfl<|.fa rfl<|.lo rfl ?_
 refine .call [1,1,1,1,1] (Mw j c l x.bT.n _) (λu H' f=>?_)
 obtain⟨rfl,e⟩:=f
 obtain⟨m,p,v,y,A,rfl⟩:=e.lJ
 conv=>arg 8;simp only[rest,aZ,afu,afw]
 refine .ag rfl<|.ag rfl<|.az rfl ?_
 refine .ret (br (aR _ (.three (.tmp rfl) (.tmp rfl) (.tmp rfl)) (aI [0,0,0,0,0,1]) ?_))
 ·rw[w6 (x:=x.bT) (by have d:=O;simp only[afy]at d;exact d)]
  exact⟨rfl,[_,_,_,_,_],[],rfl,e.mono λb o c=>.inl c⟩
 refine .sr<|.q .bS<|.az rfl ?_
 refine .cond rfl (λQ=>?_) λQ=>?_
 refine .seq ?_
 refine .df 5 mixed (by kernel_rfl) ?_
 conv=>arg 6;dsimp only[List.take]
 refine .mo rfl<|.nc rfl<|.fa rfl<|.fa rfl<|.q (.loadT rfl) ?_
 refine .nil<|.sub (H':=[(xb,.cells [Y,C,B,D,.int .i64 s.last,.int .i64 s.now].toArray 44 (0,0))::M,bl N (fW w x.bT) 29,F,E,G,[]]) ((aI [1,1,0,0,0,0]).trans (aT.bu (aft rfl))) ?_
 refine .bW (Me xb C B D s.last s.now rs _ ⟨Y,M,rfl,hr,l1⟩ w.cr x.bT.cl R (i.1.mono g) (bA.ya x.cl) (J.cr.mono g)) (λu T1 f=>?_)
 obtain⟨rfl,L,I,rfl,a1,a2⟩:=f
 rw[<-J.bc.code]
 have e:DS RD xb (mq s x.bT.cl).2 [bl xb [L,C,B,D,.int .i64 s.last,.int .i64 s.now] 44,I,F,E,G]:=⟨L,C,B,D,I,F,E,G,_,ns,gs,ts,rfl,a1,hn,hg,K,J.za i.1⟩
 refine .sub (H':=[bl xb [L,C,B,D,.int .i64 s.last,.int .i64 s.now] 44,I,F,E,G,bl N (fW w x.bT) 29,[]]) ((aT.bu (H':=[bl xb [L,C,B,D,.int .i64 s.last,.int .i64 s.now] 44,I,bl N (fW w x.bT) 29,F,E,G,[]]) (aft rfl)).trans (aI [0,0,1,1,1,0,0])) ?_
 refine .ag rfl<|.ag rfl<|.az rfl ?_
 refine .ret (br (aR _ (.three (.tmp rfl) (.tmp rfl) (.tmp rfl)) (aI [0,0,0,0,0,1]) ?_))
 ·rw[w7 (x:=x.bT) (by have d:=Q;simp only[afy]at d;exact d)]
  exact⟨rfl,[_,_,_,_,_],[],rfl,e.mono λb o c=>.inl c⟩
 refine .sr<|.q .bS<|.az rfl ?_
 refine .cond rfl (λS=>?_) λS=>?_
 refine .sr<|.mo rfl<|.fa rfl<|.lo rfl ?_
 refine .call [1,1,1,1,1] (Mu j c l x.bT.id _ (λb o c=>.inl (g b o c))) (λu H' f=>?_)
 obtain⟨rfl,e⟩:=f
 obtain⟨m,p,v,y,A,rfl⟩:=e.lJ
 conv=>arg 8;simp only[rest,aZ,afu,afw]
 refine .ag rfl<|.ag rfl<|.az rfl ?_
 refine .ret (br (aR _ (.three (.tmp rfl) (.tmp rfl) (.tmp rfl)) (aI [0,0,0,0,0,1]) ?_))
 ·rw[xa (x:=x.bT) (by have d:=S;simp only[afy]at d;exact d)]
  exact⟨rfl,[_,_,_,_,_],[],rfl,e.mono λb o c=>.inl c⟩
 refine .sr<|.q .bS<|.az rfl ?_
 refine .cond rfl (λT=>?_) λT=>?_
 refine .sr<|.mo rfl<|.fa rfl<|.lo rfl<|.fa rfl<|.lo rfl<|.fa rfl<|.lo rfl ?_
 refine .call [1,1,1,1,1] (Mf j c l x.bT.user x.bT.id (by omega) w.vs x.bT.scopes i.2.1 Z _ (λb o c=>.inl (g b o c))) (λu H' f=>?_)
 obtain⟨rfl,Hs,Td,rfl,e⟩:=f
 obtain⟨m,p,v,y,A,rfl⟩:=e.lJ
 conv=>arg 8;simp only[rest,aZ,afu,afw]
 refine .ag rfl<|.ag rfl<|.az rfl ?_
 refine .ret (br (aR _ (.three (.tmp rfl) (.tmp rfl) (.tmp rfl)) (aI [0,0,0,0,0,0]) ?_))
 ·rw[xc (x:=x.bT) (by have d:=T;simp only[afy]at d;exact d)]
  exact⟨rfl,[_,_,_,_,_],Td,rfl,e⟩
 refine .sr<|.q .bS<|.az rfl ?_
 refine .cond rfl (λU=>?_) λU=>?_
 refine .sr<|.mo rfl<|.fa rfl<|.lo rfl<|.fa rfl<|.lo rfl ?_
 refine .call [1,1,1,1,1] (Mz j c l x.bT.user x.bT.id _) (λu H' f=>?_)
 obtain⟨rfl,e⟩:=f
 obtain⟨m,p,v,y,A,rfl⟩:=e.lJ
 conv=>arg 8;simp only[rest,aZ,afu,afw]
 refine .ag rfl<|.ag rfl<|.az rfl ?_
 refine .ret (br (aR _ (.three (.tmp rfl) (.tmp rfl) (.tmp rfl)) (aI [0,0,0,0,0,1]) ?_))
 ·rw[xd (x:=x.bT) (by have d:=U;simp only[afy]at d;exact d)]
  exact⟨rfl,[_,_,_,_,_],[],rfl,e.mono λb o c=>.inl c⟩
 refine .sr<|.q .bS<|.az rfl ?_
 refine .cond rfl (λV=>?_) λV=>?_
 refine .sr<|.mo rfl<|.fa rfl<|.lo rfl<|.fa rfl<|.lo rfl<|.fa rfl<|.lo rfl<|.fa rfl<|.lo rfl<|.fa rfl<|.lo rfl<|.fa rfl<|.lo rfl ?_
 refine .call [1,1,1,1,1] (Md j c l x.bT.user x.bT.id x.bT.uri (by omega) w.vs x.bT.scopes i.2.1 Z z6 x.bT.word (Mo x.bT.word (by omega)) w.va x.bT.a (by omega) _ (i.2.2.1.mono λb o c=>.inl (g b o c)) (λb o c=>.inl (g b o c))) (λu H' f=>?_)
 obtain⟨rfl,Hs,Td,rfl,e⟩:=f
 obtain⟨m,p,v,y,A,rfl⟩:=e.lJ
 conv=>arg 8;simp only[rest,aZ,afu,afw]
 refine .mo rfl<|.q .extract<|.q .extract<|.ag rfl<|.ag rfl<|.z<|.mo rfl<|.mo rfl<|.ag rfl<|.ag rfl<|.az rfl ?_
 refine .ret (br (aR _ (.three (.tmp rfl) (.tmp rfl) (.tmp rfl)) (aI [0,0,0,0,0,0]) ?_))
 ·rw[xe (x:=x.bT) (by have d:=V;simp only[afy]at d;exact d)]
  exact⟨rfl,[_,_,_,_,_],Td,rfl,e⟩
 refine .sr<|.q .bS<|.az rfl ?_
 refine .cond rfl (λW=>?_) λW=>?_
 refine .sr<|.mo rfl<|.fa rfl<|.lo rfl<|.fa rfl<|.lo rfl<|.fa rfl<|.lo rfl<|.fa rfl<|.lo rfl<|.fa rfl<|.lo rfl<|.fa rfl<|.lo rfl<|.fa rfl<|.lo rfl<|.fa rfl<|.lo rfl ?_
 refine .call [1,1,1,1,1] (Ml j c l x.bT.id x.bT.cD x.bT.text x.bT.uri x.bT.word (by omega) w.va w.vr x.bT.a x.bT.r x.bT.rev (by omega) (by omega) _ (i.2.2.1.mono λb o c=>.inl (g b o c)) (i.2.2.2.mono λb o c=>.inl (g b o c)) (λb o c=>.inl (g b o c))) (λu H' f=>?_)
 obtain⟨rfl,e⟩:=f
 obtain⟨m,p,v,y,A,rfl⟩:=e.lJ
 conv=>arg 8;simp only[rest,aZ,afu,afw]
 refine .q .extract<|.q .extract<|.q .extract<|.ag rfl<|.ag rfl<|.az rfl ?_
 refine .ret (br (aR _ (.three (.tmp rfl) (.tmp rfl) (.tmp rfl)) (aI [0,0,0,0,0,1]) ?_))
 ·rw[xf (x:=x.bT) (by have d:=W;simp only[afy]at d;exact d)]
  exact⟨rfl,[_,_,_,_,_],[],rfl,e.mono λb o c=>.inl c⟩
 refine .sr<|.q .bS<|.az rfl ?_
 refine .cond rfl (λX=>?_) λX=>?_
 refine .sr<|.mo rfl<|.fa rfl<|.lo rfl<|.fa rfl<|.lo rfl<|.fa rfl<|.lo rfl<|.fa rfl<|.lo rfl<|.fa rfl<|.lo rfl<|.fa rfl<|.lo rfl<|.fa rfl<|.lo rfl ?_
 refine .call [1,1,1,1,1] (Mt j c l x.bT.id x.bT.cD x.bT.text w.vs x.bT.scopes i.2.1 Z z6 w.va w.vr x.bT.a x.bT.r x.bT.rev (by omega) (by omega) _ (i.2.2.1.mono λb o c=>.inl (g b o c)) (i.2.2.2.mono λb o c=>.inl (g b o c)) (λb o c=>.inl (g b o c))) (λu H' f=>?_)
 obtain⟨rfl,Hs,Td,rfl,e⟩:=f
 obtain⟨m,p,v,y,A,rfl⟩:=e.lJ
 conv=>arg 8;simp only[rest,aZ,afu,afw]
 refine .q .extract<|.q .extract<|.q .extract<|.ag rfl<|.ag rfl<|.az rfl ?_
 refine .ret (br (aR _ (.three (.tmp rfl) (.tmp rfl) (.tmp rfl)) (aI [0,0,0,0,0,0]) ?_))
 ·rw[xg (x:=x.bT) (by have d:=X;simp only[afy]at d;exact d)]
  exact⟨rfl,[_,_,_,_,_],Td,rfl,e⟩
 refine .sr<|.q .bS<|.az rfl ?_
 refine .cond rfl (λd=>?_) λd=>?_
 refine .sr<|.mo rfl<|.fa rfl<|.lo rfl<|.fa rfl<|.lo rfl<|.fa rfl<|.lo rfl ?_
 refine .call [1,1,1,1,1] (Mv j c l x.bT.id x.bT.cD x.bT.text _ (λb o c=>.inl (g b o c))) (λu H' f=>?_)
 obtain⟨rfl,e⟩:=f
 obtain⟨m,p,v,y,A,rfl⟩:=e.lJ
 conv=>arg 8;simp only[rest,aZ,afu,afw]
 refine .ag rfl<|.ag rfl<|.az rfl ?_
 refine .ret (br (aR _ (.three (.tmp rfl) (.tmp rfl) (.tmp rfl)) (aI [0,0,0,0,0,1]) ?_))
 ·rw[xh (x:=x.bT) (by have d:=d;simp only[afy]at d;exact d)]
  exact⟨rfl,[_,_,_,_,_],[],rfl,e.mono λb o c=>.inl c⟩
 refine .sr<|.ag rfl<|.ag rfl<|.az rfl ?_
 refine .ret (br (aR _ (.three (.tmp rfl) (.tmp rfl) (.tmp rfl)) (aI [1,1,1,1,1,1]) ?_))
 ·have a0:x.bT.kind<0\/8<x.bT.kind:=by
   simp only[beq_eq_false_iff_ne,ne_eq]at O Q S T U V W X d
   omega
  rw[xi (x:=x.bT) a0]
  exact⟨rfl,[_,_,_,_,_],[],rfl,j.mono λb o c=>.inl c⟩
end
def om(s s':cd)(e:Int):Prop:=s'=s\/(e=18/\∃f:Int,s'={s with V:=s.V.filter λy=> !(y.2.family==f)})
theorem zB{A:List bA}{c:bA}(h:(dT A c).1≠0):(dT A c).2=A:=by
 unfold dT at h⊢
 split
 ·rfl
 ·rename_i a
  rw[afq a]at h
  split
  ·rfl
  ·rename_i b
   rw[afq b]at h
   split
   ·rfl
   ·rename_i d
    rw[afq d]at h
    exact absurd rfl h
theorem Ok{A:List (ByteArray×Tok)}{k c:ByteArray}(h:(eU A k c).1≠0):(eU A k c).2=A:=by
 unfold eU at h⊢
 split
 ·rfl
 ·rename_i t b
  rw[b]at h
  simp only at h
  split
  ·rfl
  ·rename_i a
   rw[afq a]at h
   split at h<;>exact absurd rfl h
theorem N3{s:cd}{n:Int}(h:(eH s n).1≠0):(eH s n).2=s:=by
 unfold eH at h⊢
 split
 ·rfl
 ·rename_i a
  rw[afq a]at h
  exact absurd rfl h
theorem yZ{s:cd}{c:bA}(h:(mq s c).1≠0):(mq s c).2=s:=by
 unfold mq at h⊢
 simp only at h⊢
 rw[zB h]
theorem MG{s:cd}{id:ByteArray}(h:(fY s id).1≠0):(fY s id).2=s:=by
 unfold fY at h⊢
 split
 ·rename_i a
  rw[afr a]at h
  exact absurd rfl h
 ·rfl
theorem Ah{s:cd}{u id:ByteArray}{l:List ByteArray}(h:(dV s u id l).1≠0):(dV s u id l).2=s:=by
 unfold dV at h⊢
 split
 ·rfl
 ·rename_i a
  rw[afq a]at h
  exact absurd rfl h
theorem OZ{s:cd}{u id:ByteArray}(h:(ga s u id).1≠0):(ga s u id).2=s:=by
 unfold ga at h⊢
 split
 ·rename_i a
  rw[afr a]at h
  exact absurd rfl h
 ·rfl
theorem zg{s:cd}{user id c:ByteArray}{b:List ByteArray}{a:ByteArray}{d:List UInt8}(h:(bp s user id c b a d).2.1≠0):(bp s user id c b a d).2.2=s:=by
 rcases tU s user id c b a d with⟨_,_,e⟩|⟨_,e,_⟩
 ·exact e
 ·exact absurd e h
theorem AB{s:cd}{id g b c d:ByteArray}{a r:List UInt8}{rev:Int}(h:(bM s id g b c d a r rev).2.2.1≠0):om s (bM s id g b c d a r rev).2.2.2 (bM s id g b c d a r rev).2.2.1:=by
 unfold bM at h⊢
 split
 ·exact .inl rfl
 ·rename_i i
  rw[afq i]at h
  split
  ·exact .inr ⟨rfl,_,rfl⟩
  ·rename_i j
   rw[j]at h
   simp only at h
   split
   ·exact .inl rfl
   ·rename_i k
    rw[afq k]at h
    split
    ·rename_i f
     rcases rZ s.A b id c d s.now with⟨_,e⟩|⟨e,_⟩
     ·left
      simp only[e]
     ·exact absurd e f
    ·rename_i f
     rw[afq f]at h
     exact absurd rfl h
theorem MF{s:cd}{id c d:ByteArray}{b:List ByteArray}{a r:List UInt8}{rev:Int}(h:(dC s id c d b a r rev).2.2.1≠0):om s (dC s id c d b a r rev).2.2.2 (dC s id c d b a r rev).2.2.1:=by
 unfold dC at h⊢
 split
 ·exact .inl rfl
 ·rename_i e
  rw[afq e]at h
  split
  ·split<;>exact .inl rfl
  ·rename_i t k
   rw[k]at h
   simp only at h
   split
   ·exact .inr ⟨rfl,_,rfl⟩
   ·rename_i f
    rw[afq f]at h
    split
    ·exact .inl rfl
    ·rename_i g
     rw[afq g]at h
     split
     ·exact .inl rfl
     ·rename_i i
      rw[afq i]at h
      split
      ·exact .inl rfl
      ·rename_i j
       rw[afq j]at h
       exact absurd rfl h
theorem MI{s:cd}{id a b:ByteArray}(h:(fZ s id a b).1≠0):(fZ s id a b).2=s:=by
 unfold fZ at h⊢
 split
 ·rfl
 ·rename_i c
  rw[afq c]at h
  simp only at h⊢
  rw[Ok h]
theorem LK{s:cd}{x:OC}(h:(eB s x).2.2.1≠0):om s (eB s x).2.2.2 (eB s x).2.2.1:=by
 unfold eB at h⊢
 split
 ·rename_i a
  rw[afr a]at h
  exact .inl (N3 h)
 rename_i b
 rw[afq b]at h
 split
 ·rename_i a
  rw[afr a]at h
  exact .inl (yZ h)
 rename_i c
 rw[afq c]at h
 split
 ·rename_i a
  rw[afr a]at h
  exact .inl (MG h)
 rename_i d
 rw[afq d]at h
 split
 ·rename_i a
  rw[afr a]at h
  exact .inl (Ah h)
 rename_i e
 rw[afq e]at h
 split
 ·rename_i a
  rw[afr a]at h
  exact .inl (OZ h)
 rename_i f
 rw[afq f]at h
 split
 ·rename_i a
  rw[afr a]at h
  exact .inl (zg h)
 rename_i g
 rw[afq g]at h
 split
 ·rename_i a
  rw[afr a]at h
  exact AB h
 rename_i i
 rw[afq i]at h
 split
 ·rename_i a
  rw[afr a]at h
  exact MF h
 rename_i j
 rw[afq j]at h
 split
 ·rename_i a
  rw[afr a]at h
  exact .inl (MI h)
 rename_i k
 rw[afq k]at h
 exact .inl rfl
theorem Lm(w:Value)(t:bL)(R:av){R':av}(h:dq R' (w,t)):Spec prog 60 [.agg (bO (w,t)).toArray] R [] λv H'=>v=.agg (bO (w,t)).toArray/\H'=[]:=by
 have d:bJ (bO (w,t)):=⟨h.bG⟩
 have a:RS R' 1 bB w t.scopes:=h
 obtain⟨f,e,rfl⟩:=a.val
 refine Spec.body func60 rfl results60 ntmps60 rfl ?_
 refine .sr ?_
 refine .dv rfl (λb=>?_)
 refine .cN (λc=>?_)
 refine .z<|.fa rfl<|.lo rfl<|.fa rfl<|.lo rfl<|.fa rfl<|.lo rfl<|.fa rfl<|.lo rfl<|.fa rfl<|.lo rfl<|.fa rfl<|.lo rfl<|.fa rfl<|.lo rfl<|.fa rfl<|.lo rfl<|.fa rfl<|.lo rfl ?_
 refine .q .dI ?_
 refine .ct rfl rfl<|.zn ?_
 refine .ret (aR _ (.one (.ey rfl rfl)) (.none _) ?_)
 ·exact⟨rfl,rfl⟩
section
variable{RD:av}{xb k:Nat}{s:cd}{H:aV}
theorem Lx(q:Nat)(T:ax)(hC:fe q s T)(hD:DS RD xb s H)(f:OB s k)(hk:k<=60)(R:av)(a2:∀p∈T,R p.1 p.2)(hH:∀b o,(b,o)∈H.flatten->R b o)(a3:∀b o,RD b o->R b o):
  Spec prog 14 [pT q,pT xb] R [] λu H'=>u=.bool true/\H'=[]:=by
 obtain⟨M,Y,gv,Tc,Tb,Tv,hT,hR,hG,hV⟩:=id hC
 obtain⟨vr,vn,vg,vv,Ur,Un,Ug,Uv,rs,ns,Z,ts,rfl,hr,hn,hg,ht,L⟩:=hD
 obtain⟨l1,l2,l3,l4⟩:=L.len f hk
 have i1:=hr.aw
 have i2:=hn.aw
 have i3:=hg.aw
 have i4:=ht.aw
 have pq:PC R (pT q) [pT M,pT Y,pT gv,.int .i64 s.now]:=PC.of (E:=74) (fr:=(0,0)) (a2 (q,.cells [pT M,pT Y,pT gv,.int .i64 s.now].toArray 74 (0,0)) (by rw[hT];simp))
 have d0:∀p∈Tc,R p.1 p.2:=λp e=>a2 p (by rw[hT];simp[e])
 have b4:∀p∈Tb,R p.1 p.2:=λp e=>a2 p (by rw[hT];simp[e])
 have b5:∀p∈Tv,R p.1 p.2:=λp e=>a2 p (by rw[hT];simp[e])
 have c7:∀p∈s.C,p.2.length<=1000000:=λp e=>by have:=f.cl p e;omega
 have px:PC R (pT xb) [vr,vn,vg,vv,.int .i64 s.last,.int .i64 s.now]:=PC.of (E:=44) (fr:=(0,0)) (hH _ _ (by simp))
 have sr:RS R 4 eb vr rs:=hr.rs λp e=>hH _ _ (by simp[e])
 have sn:RS R 3 ee vn ns:=hn.rs λp e=>hH _ _ (by simp[e])
 have a6:RS R 9 bO vg Z:=hg.rs λp e=>hH _ _ (by simp[e])
 have st:RS R 9 bE vv ts:=ht.rs λp e=>hH _ _ (by simp[e])
 have e1:=f.cs
 have cA:=f.A
 have cV:=f.V
 have cC:=f.C
 refine Spec.body func14 rfl results14 ntmps14 rfl ?_
 refine .sr<|.ag rfl<|.z<|.mo rfl ?_
 refine .aM (sm q M Y _ _ _) (λu d=>?_)
 subst d
 refine .da (Kv Y s.C s.A Tb hG (by omega) c7 _ λp e=>.inl (b4 p e)) (λw T1 U=>?_)
 obtain⟨ys,To,Ti,rfl,S,d2,d4,d5⟩:=U
 have j1:=S.aw
 have b6:=Ng L.bn d4 d5
 have d3:ys.length=ns.length:=by have:=afs List.length b6;simpa using this
 refine .mo rfl ?_
 refine .aM (sm q M Y _ _ _) (λu d=>?_)
 subst d
 refine .da (vD Y s.C s.A Tb hG (by omega) _ λp e=>.inl (b4 p e)) (λw2 T2 U=>?_)
 obtain⟨zs,a9,b8,rfl,a0,d6,d8,d9⟩:=U
 have J:=a0.aw
 have b7:=Nf L.bg d8 d9
 have d7:zs.length=Z.length:=by have:=afs List.length b7;simpa using this
 refine .mo rfl ?_
 refine .aM (qD q M gv _ _ _) (λu d=>?_)
 subst d
 refine .da (og gv s.V s.last Tv hV (by omega) _ λp e=>.inl (b5 p e)) (λw3 T3 U=>?_)
 obtain⟨a7,b0,c0,rfl,a1,c1,c3,c4⟩:=U
 have j3:=a1.aw
 have b2:=xV L.bt c3 c4
 refine .sub (H':=[b0,c0,a9,b8,To,Ti]) (aT.bu (by simp)) ?_
 have c2:a7.length=ts.length:=by have:=afs List.length b2;simpa using this
 refine .ag rfl<|.ag rfl<|.ag rfl<|.zs<|.seq<|.cW [] mixed ?_
 refine .tO 0 rfl .move<|.tO 2 rfl .move<|.tO 3 rfl (.nilCheck rfl)<|.tO 4 rfl (.fieldAddr rfl)<|.tO 5 rfl (.bN rfl) ?_
 refine .sT 1 rfl ?_
 refine .aM (wO q M _ _ _ _) (λu d=>?_)
 subst d
 refine .nil (Next.sub ?_)
 refine .tO 6 rfl .dL<|.tO 7 rfl .move ?_
 refine RA.split (t:=28) rfl (λy=>?_) (λy=>?_)
 ·simp at y
 refine .cZ 8 rfl rfl y .move (by kernel_rfl) ?_
 refine .cZ 11 rfl rfl y .move (by kernel_rfl) ?_
 refine .cZ 12 rfl rfl y (.nilCheck rfl) (by kernel_rfl) ?_
 refine .cZ 13 rfl rfl y (.fieldAddr rfl) (by kernel_rfl) ?_
 refine .cZ 14 rfl rfl y (.fieldAddr rfl) (by kernel_rfl) ?_
 refine .cZ 15 rfl rfl y (.bN rfl) (by kernel_rfl) ?_
 refine .sT 9 rfl ?_
 refine .gT y ?_
 refine .aM (qD q M gv _ _ _) (λu d=>?_)
 subst d
 refine .nil (Next.sub ?_)
 refine .sT 10 rfl ?_
 refine .gT y ?_
 refine .aM (q4 gv s.V s.last Tv hV _ λp e=>.inl (b5 p e)) (λu d=>?_)
 subst d
 refine .nil (Next.sub ?_)
 refine .cZ 16 rfl rfl y .dL (by kernel_rfl) ?_
 refine .tO 17 rfl (.aS y) ?_
 refine .tO 18 rfl .move ?_
 refine RA.split (t:=39) rfl (λm=>?_) (λm=>?_)
 ·simp at m
 refine .cZ 19 rfl rfl m .move (by kernel_rfl) ?_
 refine .cZ 22 rfl rfl m .move (by kernel_rfl) ?_
 refine .cZ 23 rfl rfl m (.nilCheck rfl) (by kernel_rfl) ?_
 refine .cZ 24 rfl rfl m (.fieldAddr rfl) (by kernel_rfl) ?_
 refine .cZ 25 rfl rfl m (.fieldAddr rfl) (by kernel_rfl) ?_
 refine .cZ 26 rfl rfl m (.bN rfl) (by kernel_rfl) ?_
 refine .sT 20 rfl ?_
 refine .gT m ?_
 refine .aM (Ll q M _ _ _ _) (λu d=>?_)
 subst d
 refine .nil (Next.sub ?_)
 refine .sT 21 rfl ?_
 refine .gT m ?_
 refine .da (Ac M s.cs Tc hR (by omega) _ λp e=>.inl (d0 p e)) (λw4 T4 U=>?_)
 obtain⟨bs,e0,a8,rfl,b1,a4,c8,c9⟩:=U
 have j4:=b1.aw
 have c6:cQ bs=cQ rs:=zd L.bc.fU (c8.trans L.bc.pm) (by
  rw[List.pairwise_map]
  exact c9.imp_of_mem λ{a b} ha f b3=>by rw[mM,(a4 a ha).id,(a4 b f).id]at b3;exact b3)
 refine .nil (Next.sub ?_)
 refine .sT 27 rfl ?_
 refine .gT m ?_
 refine .aM (M6 _ _ bs rs _ (b1.rs λp e=>.inr (by simp[e])) sr.rx (CL.mono (R:=sg a8) a4 λb o f=>.inr (by have c5:(b,o)∈a8:=f;simp[c5])) (L.cr.mono λb o f=>.inl (a3 b o f))) (λu d=>?_)
 rw[c6,decide_eq_true rfl]at d
 subst d
 refine .nil (Next.sub ?_)
 refine .cZ 28 rfl rfl m .not (by kernel_rfl) ?_
 refine .tO 29 rfl (.aS m) ?_
 refine .tO 30 rfl .move ?_
 refine RA.split (t:=51) rfl (λx=>?_) (λx=>?_)
 ·simp at x
 refine .cZ 31 rfl rfl x .move (by kernel_rfl) ?_
 refine .cZ 32 rfl rfl x (.ec S) (by kernel_rfl) ?_
 refine .cZ 33 rfl rfl x .move (by kernel_rfl) ?_
 refine .cZ 34 rfl rfl x (.nilCheck rfl) (by kernel_rfl) ?_
 refine .cZ 35 rfl rfl x (.fieldAddr rfl) (by kernel_rfl) ?_
 refine .cZ 36 rfl rfl x (.fieldAddr rfl) (by kernel_rfl) ?_
 refine .cZ 37 rfl rfl x (.bN rfl) (by kernel_rfl) ?_
 refine .cZ 38 rfl rfl x (.dl sn) (by kernel_rfl) ?_
 refine .cZ 39 rfl rfl x .dL (by kernel_rfl) ?_
 refine .tO 40 rfl (.aS x) ?_
 refine .tO 41 rfl .move ?_
 refine RA.split (t:=62) rfl (λn=>?_) (λn=>?_)
 ·rw[d3]at n
  simp at n
 refine .cZ 42 rfl rfl n .move (by kernel_rfl) ?_
 refine .cZ 43 rfl rfl n (.ec a0) (by kernel_rfl) ?_
 refine .cZ 44 rfl rfl n .move (by kernel_rfl) ?_
 refine .cZ 45 rfl rfl n (.nilCheck rfl) (by kernel_rfl) ?_
 refine .cZ 46 rfl rfl n (.fieldAddr rfl) (by kernel_rfl) ?_
 refine .cZ 47 rfl rfl n (.fieldAddr rfl) (by kernel_rfl) ?_
 refine .cZ 48 rfl rfl n (.bN rfl) (by kernel_rfl) ?_
 refine .cZ 49 rfl rfl n (.dl a6) (by kernel_rfl) ?_
 refine .cZ 50 rfl rfl n .dL (by kernel_rfl) ?_
 refine .tO 51 rfl (.aS n) ?_
 refine .tO 52 rfl .move ?_
 refine RA.split (t:=73) rfl (λr=>?_) (λr=>?_)
 ·rw[d7]at r
  simp at r
 refine .cZ 53 rfl rfl r .move (by kernel_rfl) ?_
 refine .cZ 54 rfl rfl r (.ec a1) (by kernel_rfl) ?_
 refine .cZ 55 rfl rfl r .move (by kernel_rfl) ?_
 refine .cZ 56 rfl rfl r (.nilCheck rfl) (by kernel_rfl) ?_
 refine .cZ 57 rfl rfl r (.fieldAddr rfl) (by kernel_rfl) ?_
 refine .cZ 58 rfl rfl r (.fieldAddr rfl) (by kernel_rfl) ?_
 refine .cZ 59 rfl rfl r (.bN rfl) (by kernel_rfl) ?_
 refine .cZ 60 rfl rfl r (.dl st) (by kernel_rfl) ?_
 refine .cZ 61 rfl rfl r .dL (by kernel_rfl) ?_
 refine .tO 62 rfl (.aS r) ?_
 refine RA.nil (by kernel_rfl) ?_
 refine aD ?_
 refine .cond rfl (λh1=>?_) λh1=>?_
 ·rw[c2]at h1
  simp at h1
 refine .kn<|.seq<|.sr<|.az rfl<|.block ?_
 refine .ml [(1,_),(5,_),(6,_),(7,_)] (X:=Nat) (λi=>i<=ns.length) (λi E=>(8,iN i)::E) (λ_ G=>G) (λi=>ns.length-i) 0 (afx _) kE.c.c.c.c.c rH ?_
 rintro i hi
 refine .seq<|.sr<|.mo rfl<|.mo rfl<|.q (.ec S) ?_
 refine .q .lss<|.zn ?_
 refine .cond rfl (λh2=>?_) λh2=>?_
 have Q:i<ns.length:=by have I:=bx h2;omega
 obtain⟨⟨D,kz,N⟩,h⟩:=dN Q
 have O:=L.nr _ (bU h)
 have rz:RS RD 1 bB D N:=O
 have iz:bJ (ee (D,kz,N)):=⟨O.bG⟩
 have pz:PC R (eK vn (i*3)) (ee (D,kz,N)):=sn.pc h
 obtain⟨⟨l,ky⟩,g⟩:∃z,ys[i]? =some z:=⟨_,bC (by omega)⟩
 have d1:ky=(kz,N):=by
  have I:(ys.map (·.2))[i]? =(ns.map (·.2))[i]? :=by rw[b6]
  simp[g,h]at I
  exact I
 subst d1
 have K:=d2 _ (bU g)
 have ry:RS (eg Ti) 1 bB l N:=K
 have iy:bJ (ee (l,kz,N)):=⟨K.bG⟩
 have py:PS To (eK w (i*3)) (ee (l,kz,N)):=⟨S.pc g⟩
 refine .kn<|.seq<|.block<|.sr<|.mo rfl<|.nc rfl<|.fa rfl<|.fa rfl<|.lo rfl<|.mo rfl ?_
 refine .cu i sn h (λe3=>?_)
 refine .q (.bK rfl) ?_
 refine .cN (λb9=>?_)
 refine .ct rfl rfl<|.zs ?_
 refine .df 26 mixed (by kernel_rfl) ?_
 conv=>arg 6;dsimp only[List.take]
 refine .mo rfl<|.mo rfl<|.q (.cu i S.sg g rfl rfl rfl) ?_
 refine .fa rfl<|.lo rfl<|.fa rfl<|.lo rfl<|.q .fj<|.mo rfl ?_
 refine .split (t:=106) rfl (λF=>?_) (λF=>?_)
 ·simp at F
 refine .gT F<|.mo rfl<|.gT F<|.mo rfl<|.gT F<|.q (.cu i S.sg g rfl rfl rfl) ?_
 refine .gT F<|.fa rfl<|.gT F<|.lo rfl<|.gT F<|.fa rfl<|.gT F<|.lo rfl<|.gT F<|.q .fj<|.q (.aS F) ?_
 refine .mo rfl ?_
 refine .split (t:=116) rfl (λB=>?_) (λB=>?_)
 ·simp at B
 refine .gT B<|.mo rfl<|.gT B<|.mo rfl<|.gT B<|.q (.cu i S.sg g rfl rfl rfl) ?_
 refine .gT B<|.fa rfl<|.gT B<|.lo rfl<|.gT B<|.fa rfl<|.gT B<|.lo rfl<|.nil<|.gT B ?_
 refine .aM (pn l D N N _ (ry.mono (nZ (by simp))) (rz.mono λb o f=>.inl (a3 b o f))) (λu d=>?_)
 subst d
 rw[decide_eq_true rfl]
 refine .gT B<|.q .not<|.q (.aS B) ?_
 refine .zn ?_
 refine .cond rfl (λh3=>?_) λh3=>?_
 ·simp at h3
 refine .skip<|bz<|aD<|.region<|.mo rfl ?_
 refine .ia (i+1) .add ?_
 refine .ag rfl<|.nil ?_
 ·exact bf (i+1) Q (by omega) kE.c.c.c.c.c (aI [1,1,1,1,1,1,1])
 refine .exit<|bD<|bH<|bF<|aD<|.seq<|.sr<|.az rfl<|.block ?_
 refine .ml [(1,_),(6,_),(7,_)] (X:=Nat) (λi=>i<=Z.length) (λi E=>(10,iN i)::E) (λ_ G=>G) (λi=>Z.length-i) 0 (afx _) kE.c.c.c.c rH ?_
 rintro j hj
 refine .seq<|.sr<|.mo rfl<|.mo rfl<|.q (.ec a0) ?_
 refine .q .lss<|.zn ?_
 refine .cond rfl (λh4=>?_) λh4=>?_
 have Q:j<Z.length:=by have I:=bx h4;omega
 obtain⟨⟨D,W⟩,h⟩:=dN Q
 have O:=L.gr _ (bU h)
 have iz:bJ (bO (D,W)):=⟨O.bG⟩
 have pz:PC R (eK vg (j*9)) (bO (D,W)):=a6.pc h
 obtain⟨⟨l,v⟩,g⟩:∃z,zs[j]? =some z:=⟨_,bC (by omega)⟩
 have a5:v=W:=by
  have I:(eP zs)[j]? =(eP Z)[j]? :=by rw[b7]
  simp[g,h]at I
  exact I
 subst a5
 have K:=d6 _ (bU g)
 have iy:bJ (bO (l,v)):=⟨K.bG⟩
 have py:PS a9 (eK w2 (j*9)) (bO (l,v)):=⟨a0.pc g⟩
 refine .kn<|.seq<|.block<|.seq<|.cW [] mixed ?_
 refine .tO 0 rfl .move<|.tO 1 rfl .move ?_
 refine .tO 2 rfl (.cu j a0.sg g rfl rfl rfl) ?_
 refine .tO 3 rfl (.bK rfl)<|.tO 5 rfl .move<|.tO 6 rfl (.nilCheck rfl)<|.tO 7 rfl (.fieldAddr rfl)<|.tO 8 rfl (.fieldAddr rfl)<|.tO 9 rfl (.bN rfl)<|.tO 10 rfl .move ?_
 refine .tO 11 rfl (.cu j a6 h rfl rfl rfl) ?_
 refine .tO 12 rfl (.bK rfl) ?_
 refine .sT 4 rfl ?_
 refine .aM (Lm l v _ K) (λu d=>?_)
 subst d
 refine .nil (Next.sub ?_)
 refine .sT 13 rfl ?_
 refine .aM (Nc l D v v _ (K.mono (nZ (by simp))) (O.mono λb o f=>.inl (a3 b o f))) (λu d=>?_)
 rw[Nb]at d
 subst d
 refine .nil (Next.sub ?_)
 refine .tO 14 rfl .not ?_
 refine RA.nil (by kernel_rfl) ?_
 refine aD ?_
 refine .cond rfl (λh5=>?_) λh5=>?_
 ·simp at h5
 refine .skip<|bz<|aD<|.region<|.mo rfl ?_
 refine .ia (j+1) .add ?_
 refine .ag rfl<|.nil ?_
 ·exact bf (j+1) Q (by omega) kE.c.c.c.c rH
 refine .exit<|bD<|bH<|bF<|aD<|.seq<|.sr<|.az rfl<|.block ?_
 refine .ml [(1,_),(7,_)] (X:=Nat) (λi=>i<=ts.length) (λi E=>(11,iN i)::E) (λ_ G=>G) (λi=>ts.length-i) 0 (afx _) kE.c.c.c rH ?_
 rintro J e2
 refine .seq<|.sr<|.mo rfl<|.mo rfl<|.q (.ec a1) ?_
 refine .q .lss<|.zn ?_
 refine .cond rfl (λh6=>?_) λh6=>?_
 have Q:J<ts.length:=by have I:=bx h6;omega
 obtain⟨⟨D,W⟩,h⟩:=dN Q
 have O:=L.tr _ (bU h)
 have iz:bJ (bE (D,W)):=⟨O.bG⟩
 have pz:PC R (eK vv (J*9)) (bE (D,W)):=st.pc h
 obtain⟨⟨l,v⟩,g⟩:∃z,a7[J]? =some z:=⟨_,bC (by omega)⟩
 have a5:v=W:=by
  have I:(db a7)[J]? =(db ts)[J]? :=by rw[b2]
  simp[g,h]at I
  exact I
 subst a5
 have K:=c1 _ (bU g)
 have iy:bJ (bE (l,v)):=⟨K.bG⟩
 have py:PS b0 (eK w3 (J*9)) (bE (l,v)):=⟨a1.pc g⟩
 refine .kn<|.seq<|.block<|.seq<|.cW [] mixed ?_
 refine .tO 0 rfl .move<|.tO 1 rfl .move ?_
 refine .tO 2 rfl (.cu J a1.sg g rfl rfl rfl) ?_
 refine .tO 3 rfl (.bK rfl)<|.tO 5 rfl .move<|.tO 6 rfl (.nilCheck rfl)<|.tO 7 rfl (.fieldAddr rfl)<|.tO 8 rfl (.fieldAddr rfl)<|.tO 9 rfl (.bN rfl)<|.tO 10 rfl .move ?_
 refine .tO 11 rfl (.cu J st h rfl rfl rfl) ?_
 refine .tO 12 rfl (.bK rfl) ?_
 refine .sT 4 rfl ?_
 refine .aM (qB l v _ K) (λu d=>?_)
 subst d
 refine .nil (Next.sub ?_)
 refine .sT 13 rfl ?_
 refine .aM (xU l D v v _ (K.mono (nZ (by simp))) (O.mono λb o f=>.inl (a3 b o f))) (λu d=>?_)
 rw[xT]at d
 subst d
 refine .nil (Next.sub ?_)
 refine .tO 14 rfl .not ?_
 refine RA.nil (by kernel_rfl) ?_
 refine aD ?_
 refine .cond rfl (λh7=>?_) λh7=>?_
 ·simp at h7
 refine .skip<|bz<|aD<|.region<|.mo rfl ?_
 refine .ia (J+1) .add ?_
 refine .ag rfl<|.nil ?_
 ·exact bf (J+1) Q (by omega) kE.c.c.c rH
 refine .exit<|bD<|bH<|bF<|aD<|.sr<|.az rfl ?_
 refine .ret (aR _ (.one (.tmp rfl)) (aI []) ?_)
 ·exact⟨rfl,rfl⟩
end
theorem DS.zero(RD:av)(xb:Nat):DS RD xb cd.zero [bl xb [sZ,sZ,sZ,sZ,.int .i64 0,.int .i64 0] 44,[],[],[],[]]:=
 ⟨_,_,_,_,[],[],[],[],[],[],[],[],rfl,OS.nil,OS.nil,OS.nil,OS.nil,DM.zero RD⟩
theorem om.v{s a:cd}{e:Int}(h:om s a e):∃q:Tok->Bool,a={s with V:=s.V.filter λy=>q y.2}:=by
 rcases h with rfl|⟨_,f,rfl⟩
 ·exact⟨λ_=>true,by rw[List.filter_eq_self.2 (λ_ _=>rfl)]⟩
 ·exact⟨λt=> !(t.family==f),rfl⟩
theorem wi{L:List Tok}{t:Tok}:(t.text,t)∈kv L↔t∈L:=by
 unfold kv
 rw[List.mem_map]
 constructor
 ·rintro⟨u,a,e⟩
  rw[Prod.mk.injEq]at e
  rw[<-e.2];exact a
 ·intro h;exact⟨t,h,rfl⟩
theorem Lo(v:Value)(ds:List OD)(O:OV)(xl:OC)(R:av)(hS:RS R 16 uP v ds)(hD:∀d∈ds,OR R d.1 d.2)(hL:OR R O xl)(hg:PC R (pT 1) (wv ks)):
  Spec prog 3 [v,.agg (fW O xl).toArray] R [] λu H'=>u=.bool true/\H'=[]:=by
 have iv:=hS.aw
 have f9:=hS.le
 have il:bJ (fW O xl):=⟨hL.bG⟩
 refine Spec.body func3 rfl results3 ntmps3 rfl ?_
 refine .sr ?_
 refine .dv rfl (λb3=>?_)
 refine .ag rfl<|.z ?_
 refine .da (wN _) (λu T g=>?_)
 obtain⟨q,rfl,d0⟩:=g
 refine .q .dI ?_
 refine .dv rfl (λJ=>?_)
 refine .ag rfl<|.ag rfl<|.zs<|.sr<|.mo rfl<|.q (.ql rfl rfl) ?_
 refine .zn<|.bZ<|.kn<|.seq<|.sr<|.az rfl ?_
 refine bQ.ld [(3,_),(5,_),(6,_)] kE.c.c.c (X:=Nat×cd×ax×ax×ax×ax×ax×ax×ax) (λy=>y.1<=25/\fe q y.2.1 y.2.2.1/\OB y.2.1 y.1/\DS (sg y.2.2.2.2.2.2.2.2) J y.2.1 [y.2.2.2.1,y.2.2.2.2.1,y.2.2.2.2.2.1,y.2.2.2.2.2.2.1,y.2.2.2.2.2.2.2.1]) (λy E=>E) (λy=>[y.2.2.1,y.2.2.2.1,y.2.2.2.2.1,y.2.2.2.2.2.1,y.2.2.2.2.2.2.1,y.2.2.2.2.2.2.2.1,y.2.2.2.2.2.2.2.2,bl b3 (fW O xl) 29]) ?_ ?_
 refine .block ?_
 refine .ml [(0,_),(3,_),(5,_),(6,_)] (X:=Nat×cd×ax×ax×ax×ax×ax×ax×ax) (λy=>(y.1<=ds.length/\y.1<=25)/\fe q y.2.1 y.2.2.1/\OB y.2.1 y.1/\DS (sg y.2.2.2.2.2.2.2.2) J y.2.1 [y.2.2.2.1,y.2.2.2.2.1,y.2.2.2.2.2.1,y.2.2.2.2.2.2.1,y.2.2.2.2.2.2.2.1]) (λy E=>(7,iN y.1)::E) (G:=[bl b3 (fW O xl) 29]) (λy G=>y.2.2.1::y.2.2.2.1::y.2.2.2.2.1::y.2.2.2.2.2.1::y.2.2.2.2.2.2.1::y.2.2.2.2.2.2.2.1::y.2.2.2.2.2.2.2.2::G) (λy=>25-y.1) (0,cd.zero,T,_,[],[],[],[],[]) ⟨⟨afx _,afx _⟩,d0,OB.zero,DS.zero _ _⟩ kE.c.c.c.c.c ((aI [1,0,0]).trans (aT.bu (by simp[take,aZ]))) ?_
 rintro⟨i,s,T,A,B,C,D,E,j⟩ ⟨⟨hi,a5⟩,M,H,K⟩
 simp only at hi a5 M H K⊢
 refine .seq<|.sr<|.mo rfl<|.mo rfl<|.q (.dl hS) ?_
 refine .q .lss<|.mo rfl ?_
 refine .split (t:=27) rfl (λS=>?_) (λS=>?_)
 refine .gT S<|.mo rfl<|.gT S<|.q .lss<|.q (.aY S) ?_
 refine .zn ?_
 refine .cond rfl (λh2=>?_) λh2=>?_
 have Y:i<ds.length:=by
  have:=bx S
  omega
 have d8:i<25:=dQ h2
 obtain⟨d,hd⟩:=dN Y
 obtain⟨w,x⟩:=d
 have b4:=hD _ (bU hd)
 have g6:bJ (fW w x):=⟨b4.bG⟩
 refine .kn<|.seq<|.block<|.sr<|.mo rfl<|.mo rfl<|.mo rfl ?_
 refine .cu i hS hd (λi0=>?_)
 refine .q (.bK rfl) ?_
 refine .bW (wI q s T M i H (by omega) w x R b4 hg) (λu F g=>?_)
 obtain⟨rfl,a1⟩:=g
 have a0:=H.step x.bT (by show(texts x.scopes 6 40).length<=6;simp[texts];omega)
 refine .zn<|.region<|.mo rfl<|.mo rfl<|.mo rfl ?_
 refine .cu i hS hd (λi1=>?_)
 refine .q (.bK rfl) ?_
 refine .da (wX w x _ (b4.mono λb o hb=>.inl hb)) (λu T3 g=>?_)
 obtain⟨w',rfl,c6⟩:=g
 have i3:bJ (fW w' x.bT):=⟨c6.bG⟩
 refine .call [2,2,2,2,2] (Mk (RD:=λb o=>sg j b o\/sg T3 b o) (K.mono λb o hb=>.inl hb) H (by omega) w' x _ (c6.mono λb o hb=>.inr hb) (λb o hb=>.inr (by
  rcases hb with hb|hb
  ·have a4:(b,o)∈j:=hb
   simp[rest,aZ,a4]
  ·have a4:(b,o)∈T3:=hb
   simp[rest,aZ,a4]))) (λu H' g=>?_)
 obtain⟨rfl,Hs,Tn,rfl,b1⟩:=g
 obtain⟨UA,UB,UC,UD,UE,rfl⟩:=b1.lJ
 conv=>arg 8;simp only[rest,aZ,afu,afw]
 obtain⟨h,a7⟩:∃h,h=(eB s x.bT).2.2.2:=⟨_,rfl⟩
 rw[<-a7]at a1 a0 b1
 clear K M
 have d2:DS (sg (Tn++(T3++j))) J h [UA,UB,UC,UD,UE]:=b1.mono λb o hb=>by
  rcases hb with(hb|hb)|hb
  ·exact kU (kU hb)
  ·exact kU (mP hb)
  ·exact mP hb
 refine .sub (H':=[F,UA,UB,UC,UD,UE,Tn++(T3++j),bl b3 (fW O xl) 29]) (aT.bu (by
  have U:∀(X:aV) (a b c d e:ax),(X++[a,b,c,d,e]).flatten.Perm (c::X++[a++(b++d),e]).flatten:=λX a b c d e=>by
   simp only[List.flatten_append,List.flatten_cons,List.flatten_nil,List.append_nil,afu,List.append_assoc]
   exact(List.Perm.append_left _ ((List.Perm.append_left a (afG b c (d++e))).trans (afG a c (b++(d++e))))).trans (afG _ c _)
  exact U [UA,UB,UC,UD,UE] Tn T3 F j _)) ?_
 refine .nil<|bz<|aD<|.region<|.mo rfl ?_
 refine .ia (i+1) .add ?_
 refine .ag rfl<|.nil ?_
 ·exact bf (i+1,h,F,UA,UB,UC,UD,UE,Tn++(T3++j)) ⟨⟨Y,d8⟩,a1,a0,d2⟩ (by simp only;omega) kE.c.c.c.c.c rH
 refine .exit<|bD<|bH<|bF ?_
 exact aB (i,s,T,A,B,C,D,E,j) ⟨a5,M,H,K⟩ kE.c.c.c rH
 refine .gF S<|.gF S<|.q (.aS S) ?_
 refine .zn<|.bZ<|.exit<|bD<|bH<|bF ?_
 exact aB (i,s,T,A,B,C,D,E,j) ⟨a5,M,H,K⟩ kE.c.c.c rH
 intro x hx
 obtain⟨i,s,T,A,B,C,D,E,j⟩:=x
 obtain⟨a5,M,H,K⟩:=hx
 simp only at a5 M H K⊢
 obtain⟨gc,gb,gv,Tc,Tb,Tv,hT,hR,hG,hV⟩:=id M
 have i2:PS T (pT q) [pT gc,pT gb,pT gv,.int .i64 s.now]:=PS.of (E:=74) (fr:=(0,0)) (by rw[hT];simp)
 have d5:∀(R':av) (H':aV),T∈H'->∀p∈Tv,Rx R' H' p.1 p.2:=λR' H' hm p hp=>.inr (List.mem_flatten.2 ⟨_,hm,by rw[hT];simp[hp]⟩)
 obtain⟨vr,vn,vg,vv,Ur,Un,Ug,Uv,rs,ns,gs,ts,hH,hr,hn,c8,ht,hm⟩:=id K
 simp only[List.cons.injEq,and_true]at hH
 obtain⟨rfl,rfl,rfl,rfl,rfl⟩:=hH
 have j1:=hr.aw
 have j2:=hn.aw
 have j3:=c8.aw
 have j4:=ht.aw
 have cV:=H.V
 refine aD<|.sr<|.mo rfl ?_
 refine .aM (qD q gc gv _ _ _) (λu g=>?_)
 subst g
 refine .da (og gv s.V s.last Tv hV (by omega) _ (d5 _ _ (by simp))) (λw8 T8 e7=>?_)
 obtain⟨I,To,Ti,rfl,hO,e9,f0,_⟩:=e7
 have g9:=hO.aw
 have g3:=hO.le
 refine .sub (H':=[To,Ti,T,bl J [vr,vn,vg,vv,.int .i64 s.last,.int .i64 s.now] 44,B,C,D,E,j,bl b3 (fW O xl) 29]) (aT.bu (by simp)) ?_
 refine .ag rfl<|.z<|.mo rfl<|.q (.bK rfl) ?_
 refine .bW (wI q s T M i H (by omega) O xl R hL hg) (λu F g=>?_)
 obtain⟨rfl,a1⟩:=g
 have a0:=H.step xl.bT (by show(texts xl.scopes 6 40).length<=6;simp[texts];omega)
 have a2:=LK (s:=s) (x:=xl.bT)
 obtain⟨a,ha⟩:∃a,a=(eB s xl.bT).1:=⟨_,rfl⟩
 obtain⟨b,hb⟩:∃b,b=(eB s xl.bT).2.1:=⟨_,rfl⟩
 obtain⟨e,he⟩:∃e,e=(eB s xl.bT).2.2.1:=⟨_,rfl⟩
 obtain⟨h,a7⟩:∃h,h=(eB s xl.bT).2.2.2:=⟨_,rfl⟩
 rw[<-a7]at a1 a0
 rw[<-a7, <-he]at a2
 rw[<-ha, <-hb, <-he]
 refine .mo rfl<|.q .extract<|.q .extract<|.q .extract<|.ag rfl<|.ag rfl<|.ag rfl<|.zs<|.sr<|.mo rfl<|.q .bS<|.zn ?_
 refine .cond rfl (λh3=>?_) λh3=>?_
 refine .sr ?_
 refine .aM (wM _) (λu g=>?_)
 subst g
 refine .az rfl ?_
 refine .ret (aL (aR _ (.one (.tmp rfl)) (aI []) ?_))
 ·first
   |exact⟨rfl,rfl⟩
   |(exfalso;revert Q;decide)
 have e2:e≠0:=by simpa using h3
 have a2:=a2 e2
 obtain⟨c7,d4,b8,f4,f3,c1,c4,f8,f7,d1⟩:=id a1
 have i4:PS F (pT q) [pT c7,pT d4,pT b8,.int .i64 h.now]:=PS.of (E:=74) (fr:=(0,0)) (by rw[c4];simp)
 have d6:∀(R':av) (H':aV),F∈H'->∀p∈c1,Rx R' H' p.1 p.2:=λR' H' hm p hp=>.inr (List.mem_flatten.2 ⟨_,hm,by rw[c4];simp[hp]⟩)
 have f6:=a0.V
 obtain⟨qf,a6⟩:=a2.v
 refine .kn<|.sr<|.mo rfl ?_
 refine .aM (qD q c7 b8 _ _ _) (λu g=>?_)
 subst g
 refine .da (og b8 h.V h.last c1 d1 (by omega) _ (d6 _ _ (by simp))) (λw9 T9 e8=>?_)
 obtain⟨r,Zo,Zi,rfl,W,b9,c0,f2⟩:=e8
 have h0:=W.aw
 have g5:=W.le
 have c5:eQ h.V (ts.filter λp=>qf p.2):=by rw[a6];exact hm.bt.filter qf
 have f1:=xV c5 c0 f2
 have c2:eQ h.V r:=⟨c0,by rw[f1];exact c5.fU⟩
 have g4:=c2.len
 have e4:∀t∈db r,t∈db I:=λt e5=>by
  have U:(t.text,t)∈h.V:=c0.mem_iff.1 (wi.2 e5)
  rw[a6]at U
  exact wi.1 (f0.mem_iff.2 (afv.1 U).1)
 refine .sub (H':=[Zo,Zi,To,Ti,F,bl J [vr,vn,vg,vv,.int .i64 s.last,.int .i64 s.now] 44,B,C,D,E,j]) ((aT.bu (H':=[Zo,Zi,To,Ti,F,bl J [vr,vn,vg,vv,.int .i64 s.last,.int .i64 s.now] 44,B,C,D,E,j,bl b3 (fW O xl) 29]) (by simp)).trans (aI [0,0,0,0,0,0,0,0,0,0,0])) ?_
 refine .ag rfl<|.zs<|.sr<|.mo rfl<|.q .bS<|.zn ?_
 refine bQ.ld [(5,_),(6,_)] kE.c.c (X:=ax×ax×ax×ax×ax×ax) (λy=>DS (sg y.2.2.2.2.2) J h [y.1,y.2.1,y.2.2.1,y.2.2.2.1,y.2.2.2.2.1]) (λy E=>E) (λy=>[F,y.1,y.2.1,y.2.2.1,y.2.2.2.1,y.2.2.2.2.1,y.2.2.2.2.2]) ?_ ?_
 refine .cond rfl (λh4=>?_) λh4=>?_
 refine .seq<|.sr<|.az rfl<|.block ?_
 refine .ml [(5,_),(6,_),(8,_),(12,_)] (X:=Nat) (λi=>i<=r.length) (λi E=>(13,iN i)::E) (λ_ G=>G) (λi=>r.length-i) 0 (afx _) kE.c.c.c.c.c rH ?_
 intro m g0
 refine .seq<|.sr<|.mo rfl<|.mo rfl<|.q (.ec W) ?_
 refine .q .lss<|.zn ?_
 refine .cond rfl (λh5=>?_) λh5=>?_
 have Y:m<r.length:=dQ h5
 obtain⟨⟨L,l⟩,N⟩:=dN Y
 have Z:=b9 _ (bU N)
 have iz:bJ (bE (L,l)):=⟨Z.bG⟩
 have pz:PS Zo (eK w9 (m*9)) (bE (L,l)):=⟨W.pc N⟩
 have e6:l∈db I:=e4 l (List.mem_map.2 ⟨_,bU N,rfl⟩)
 refine .kn<|.seq<|.block<|.sr<|.ag rfl<|.zs<|.sr<|.az rfl<|.block ?_
 refine .ml [(5,_),(6,_),(8,_),(12,_),(13,_)] (X:=Nat) (λk=>k<=I.length) (λk E=>(15,iN k)::(14,.bool (((db I).take k).any λu=>jm l u))::E) (λ_ G=>G) (λk=>I.length-k) 0 (afx _) kE.c.c.c.c.c.c.c rH ?_
 intro n g1
 refine .seq<|.sr<|.mo rfl<|.mo rfl<|.q (.ec hO) ?_
 refine .q .lss<|.zn ?_
 refine .cond rfl (λh6=>?_) λh6=>?_
 have b7:n<I.length:=dQ h6
 obtain⟨⟨wy,ty⟩,hy⟩:=dN b7
 have cy:=e9 _ (bU hy)
 have iy:bJ (bE (wy,ty)):=⟨cy.bG⟩
 have py:PS To (eK w8 (n*9)) (bE (wy,ty)):=⟨hO.pc hy⟩
 have a8:(db I).take (n+1)=(db I).take n++[ty]:=by
  rw[afD]
  simp[hy]
 obtain⟨bq,b2⟩:∃b,b=(((db I).take n).any λu=>jm l u):=⟨_,rfl⟩
 rw[<-b2]
 refine .kn<|.seq<|.block<|.cW [] mixed ?_
 refine .tO 0 rfl .move<|.tO 1 rfl .move ?_
 refine RA.split (t:=77) rfl (λf=>?_) (λf=>?_)
 refine .gg 2 rfl rfl f rfl (by kernel_rfl) ?_
 refine .gg 3 rfl rfl f rfl (by kernel_rfl) ?_
 refine .gg 4 rfl rfl f rfl (by kernel_rfl) ?_
 refine .gg 5 rfl rfl f rfl (by kernel_rfl) ?_
 refine .gg 7 rfl rfl f rfl (by kernel_rfl) ?_
 refine .gg 8 rfl rfl f rfl (by kernel_rfl) ?_
 refine .gg 9 rfl rfl f rfl (by kernel_rfl) ?_
 refine .gg 10 rfl rfl f rfl (by kernel_rfl) ?_
 refine .sT 6 rfl ?_
 refine .gF f ?_
 refine .nil (Next.sub ?_)
 refine .sT 11 rfl ?_
 refine .gF f ?_
 refine .nil (Next.sub ?_)
 refine .sT 12 rfl ?_
 refine .gF f ?_
 refine .nil (Next.sub ?_)
 refine .tO 13 rfl (.aY f) ?_
 refine .tO 14 rfl .assign ?_
 refine RA.nil (by kernel_rfl) ?_
 refine bz<|aD<|.region<|.mo rfl ?_
 refine .ia (n+1) .add ?_
 refine .ag rfl<|.nil ?_
 ·exact bf (n+1) b7 (by omega) ((kE.c.c.c.c.c.m1 rfl (by rw[a8,List.any_append, <-b2,f];simp)).cons rfl) rH
 refine .cZ 2 rfl rfl f .move (by kernel_rfl) ?_
 refine .cZ 3 rfl rfl f .move (by kernel_rfl) ?_
 refine .cZ 4 rfl rfl f (.cu m W.sg N rfl rfl rfl) (by kernel_rfl) ?_
 refine .cZ 5 rfl rfl f (.bK rfl) (by kernel_rfl) ?_
 refine .cZ 7 rfl rfl f .move (by kernel_rfl) ?_
 refine .cZ 8 rfl rfl f .move (by kernel_rfl) ?_
 refine .cZ 9 rfl rfl f (.cu n hO.sg hy rfl rfl rfl) (by kernel_rfl) ?_
 refine .cZ 10 rfl rfl f (.bK rfl) (by kernel_rfl) ?_
 refine .sT 6 rfl ?_
 refine .gT f ?_
 refine .aM (qB L l _ Z) (λu g=>?_)
 subst g
 refine .nil (Next.sub ?_)
 refine .sT 11 rfl ?_
 refine .gT f ?_
 refine .aM (qB wy ty _ cy) (λu g=>?_)
 subst g
 refine .nil (Next.sub ?_)
 refine .sT 12 rfl ?_
 refine .gT f ?_
 refine .aM (xU L wy l ty _ (Z.mono (nZ (by simp))) (cy.mono (nZ (by simp)))) (λu g=>?_)
 subst g
 refine .nil (Next.sub ?_)
 refine .tO 13 rfl (.aS f) ?_
 refine .tO 14 rfl .assign ?_
 refine RA.nil (by kernel_rfl) ?_
 refine bz<|aD<|.region<|.mo rfl ?_
 refine .ia (n+1) .add ?_
 refine .ag rfl<|.nil ?_
 ·exact bf (n+1) b7 (by omega) ((kE.c.c.c.c.c.m1 rfl (by rw[a8,List.any_append, <-b2,f];simp)).cons rfl) rH
 have e3:n=I.length:=by have:=bo h6;omega
 have d3:(((db I).take n).any λu=>jm l u)=true:=by
  rw[e3,afC (by simp)]
  exact List.any_eq_true.2 ⟨l,e6,xT l⟩
 rw[d3]
 refine .exit<|bD<|bH<|bF<|aD<|.sr<|.mo rfl<|.q .not<|.zn ?_
 refine .cond rfl (λh7=>?_) λh7=>?_
 ·simp at h7
 refine .skip<|bz<|aD<|.region<|.mo rfl ?_
 refine .ia (m+1) .add ?_
 refine .ag rfl<|.nil ?_
 ·exact bf (m+1) Y (by omega) kE.c.c.c.c.c rH
 refine .exit<|bD<|bH<|bF<|aD<|.sr<|.mo rfl<|.nc rfl<|.fa rfl<|.fa rfl<|.cJ rfl rfl<|.z<|.az rfl<|.block ?_
 refine .ml [(5,_),(6,_),(12,_)] (X:=Nat×Value×ax) (λy=>y.1<=r.length/\OS 58 9 bE y.2.1 (r.take y.1) y.2.2) (λy E=>(16,iN y.1)::E) (G:=[Zo,Zi,F,B,C,D,j]) (λy G=>bl J [vr,vn,vg,y.2.1,.int .i64 s.last,.int .i64 s.now] 44::y.2.2::G) (λy=>r.length-y.1) (0,sZ,[]) ⟨afx _,OS.nil⟩ kE.c.c.c.c ((aI [5,0,0,2,2,2,2,3]).trans (aT.bu (by simp[take,aZ,cc]))) ?_
 rintro⟨m,v7,T7⟩ ⟨d9,a3⟩
 simp only at d9 a3⊢
 have g7:=a3.aw
 have g2:(r.take m).length=m:=by simp;omega
 refine .seq<|.sr<|.mo rfl<|.mo rfl<|.q (.ec W) ?_
 refine .q .lss<|.zn ?_
 refine .cond rfl (λh8=>?_) λh8=>?_
 have Y:m<r.length:=dQ h8
 obtain⟨⟨L,l⟩,N⟩:=dN Y
 have Z:=b9 _ (bU N)
 have iz:bJ (bE (L,l)):=⟨Z.bG⟩
 have pz:PS Zo (eK w9 (m*9)) (bE (L,l)):=⟨W.pc N⟩
 have a8:r.take (m+1)=r.take m++[(L,l)]:=by rw[afD,N];rfl
 refine .kn<|.seq<|.block<|.sr<|.mo rfl<|.nc rfl<|.fa rfl<|.fa rfl<|.lo rfl<|.az rfl<|.region<|.mo rfl<|.mo rfl<|.mo rfl<|.mo rfl ?_
 refine .bb m W N (λh1=>?_)
 refine .q (.bK rfl) ?_
 refine .aM (qB L l _ Z) (λu g=>?_)
 subst g
 refine .fP (λf5=>?_)
 refine .append a3 (RS.lits (xs:=[((L,l):TP)]) rfl (by simp[bE]) (by have:=Z.bG;simpa using this)) (by simp;omega) (λv8 T8 b0=>?_)
 rw[<-a8]at b0
 have g8:=b0.aw
 refine .nc rfl<|.fa rfl<|.fa rfl<|.cJ rfl rfl<|.nil<|bz<|aD<|.region<|.mo rfl ?_
 refine .ia (m+1) .add ?_
 refine .ag rfl<|.nil ?_
 ·exact bf (m+1,v8,T8) ⟨Y,b0⟩ (by simp only;omega) kE.c.c.c.c (aI [1,1,1,1,1,1,1,1,1])
 have e0:m=r.length:=by have:=bo h8;omega
 rw[e0,afE]at a3
 have a9:DS (sg (Zi++j)) J h [bl J [vr,vn,vg,v7,.int .i64 h.last,.int .i64 h.now] 44,B,C,D,T7]:=by
  have c3:=c2
  rw[a6]at c3⊢
  exact⟨vr,vn,vg,v7,B,C,D,T7,rs,ns,gs,r,rfl,hr,hn,c8,a3,hm.db (λb o hb=>kU hb) c3 λp hp=>(b9 p hp).mono λb o hb=>mP hb.1⟩
 have d7:h.last=s.last:=by rw[a6]
 have e1:h.now=s.now:=by rw[a6]
 rw[d7,e1]at a9
 refine .exit<|bD<|bH<|bF ?_
 ·first
   |exact aB (_,B,C,D,T7,Zi++j) a9 ((kE.d rfl).d rfl) ((aI [4,0,3,3,3,0,1,1]).trans (aT.bu (by simp[take,aZ])))
   |exact aB (_,B,C,D,E,j) (by
     have b5:¬e=18:=by simpa using h4
     have b6:h=s:=a2.resolve_right λU=>b5 U.1
     rw[b6];exact K) ((kE.d rfl).d rfl) (aI [4,4,4,4,4,4,4])
 refine .skip ?_
 ·first
   |exact aB (_,B,C,D,T7,Zi++j) a9 ((kE.d rfl).d rfl) ((aI [4,0,3,3,3,0,1,1]).trans (aT.bu (by simp[take,aZ])))
   |exact aB (_,B,C,D,E,j) (by
     have b5:¬e=18:=by simpa using h4
     have b6:h=s:=a2.resolve_right λU=>b5 U.1
     rw[b6];exact K) ((kE.d rfl).d rfl) (aI [4,4,4,4,4,4,4])
 intro x hx
 obtain⟨A2,B2,C2,D2,E2,c9⟩:=x
 simp only at hx⊢
 refine aD<|.sr<|.mo rfl<|.mo rfl ?_
 refine .aM (Lx q F a1 hx a0 (by omega) _ (λp hp=>.inr (by simp[hp])) (λb o hb=>.inr (by
  simp only[List.flatten_cons,List.flatten_nil,List.append_nil,List.mem_append]at hb⊢
  exact .inr (hb.elim .inl λhb=>.inr (hb.elim .inl λhb=>.inr (hb.elim .inl λhb=>.inr (hb.elim .inl λhb=>.inr (.inl hb)))))))
  (λb o hb=>.inr (by
   have a4:(b,o)∈c9:=hb
   simp[a4]))) (λu g=>?_)
 subst g
 refine .mo rfl ?_
 refine .split (t:=122) rfl (λQ=>?_) (λQ=>?_)
 refine .gT Q ?_
 refine .aM (wM _) (λu g=>?_)
 subst g
 refine .q (.aY Q) ?_
 refine .az rfl ?_
 refine .ret (aR _ (.one (.tmp rfl)) (aI []) ?_)
 ·first
   |exact⟨rfl,rfl⟩
   |(exfalso;revert Q;decide)
 refine .gF Q<|.q (.aS Q) ?_
 refine .az rfl ?_
 refine .ret (aR _ (.one (.tmp rfl)) (aI []) ?_)
 ·first
   |exact⟨rfl,rfl⟩
   |(exfalso;revert Q;decide)
end Go.Proofs.YtkkmbiojicgobaaGreatDoor

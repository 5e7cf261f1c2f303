/- What the law 'CorePlays' uses. No condition. -/
import Derived.Test.YtkkmbiojicgobaaGreatDoorKCorePlaysJ
import Derived.Test.YtkkmbiojicgobaaGreatDoorKCorePlaysN
import Derived.Test.YtkkmbiojicgobaaGreatDoorKCorePlaysQ
import Derived.Test.YtkkmbiojicgobaaGreatDoorKCorePlaysYA
set_option linter.unusedSimpArgs false
set_option linter.unusedVariables false
namespace Go.Proofs.YtkkmbiojicgobaaGreatDoor
set_option linter.defProp false
def afr:=@if_neg
def afs:=@if_pos
def aft:=@congrArg
def afu:=@List.Perm.of_eq
def afv:=@List.cons_append
def afw:=@List.nil_append
def afx:=@List.mem_filter
def afy:=@List.mem_append
def afz:=@Nat.zero_le
def afA:=@beq_iff_eq
def afB:=@List.flatten_cons
def afC:=@List.flatten_nil
def afD:=@List.append_nil
def afE:=@Nat.le_refl
def afF:=@List.mem_cons
def afG:=@List.Sublist.refl
def afH:=@List.take_of_length_le
def afI:=@List.drop_eq_nil_of_le
def afJ:=@List.perm_append_comm_assoc
open Tryz
set_option linter.unusedVariables false
set_option linter.unusedSimpArgs false
set_option maxRecDepth 4000
theorem kZ(k:UInt8)(d:List UInt8):(⟨#[k,46]⟩:ByteArray)++⟨(dv d).toArray⟩=bj k d:=by
 apply ByteArray.ext
 rw[ByteArray.data_append]
 simp[bj]
theorem qi{c u:ByteArray}{a:List ByteArray}{f rev:Int}{v:Value}(h:av v=true):gp [(0,1),(1,1),(2,1),(3,1),(4,1),(5,1),(6,1),(7,1),(8,1)] [.string ⟨#[]⟩,.int .i64 0,.string ⟨#[]⟩,.string ⟨#[]⟩,sZ,.int .i64 0,.int .i64 0,.int .u64 0,.bool false] [(2,.string c),(3,.string u),(4,v),(5,.int .i64 f),(7,.int .u64 rev)]=some (bA (v,⟨e0,0,c,u,a,f,0,rev,false⟩)):=by
 cases v<;>first|rfl|cases h
section
variable{RD R:au}{xb k:Nat}{s:cm}{H:aV}
theorem L7(h:DS RD xb s H)(l:OB s k)(hk:k<=60)(id j d g f:ByteArray)(hv:f.size<=100000)(va vq:Value)(a r:List UInt8)(rev:Int)(c4:a.length<=1000)(c8:r.length<=1000)(R:au)(ha:RS R 1 cK va a)(hq:RS R 1 cK vq r)(b9:∀b o,RD b o->R b o):
    Spec prog 36 [pT xb,.string id,.string j,.string d,.string g,.string f,va,vq,.int .u64 rev] R H λu H'=>u=.tuple [.string (bN s id j d g f a r rev).1,.string (bN s id j d g f a r rev).2.1,.int .i64 (bN s id j d g f a r rev).2.2.1].toArray/\DS RD xb (bN s id j d g f a r rev).2.2.2 H':=by
  have Z:=h
  obtain⟨B,v,Q,G,D,C,S,O,rs,ns,gs,ts,rfl,hr,hn,hg,ht,m⟩:=h
  obtain⟨l1,l2,l3,l4⟩:=m.len l hk
  have i1:=hr.av
  have i2:=hn.av
  have i3:=hg.av
  have i4:=ht.av
  have i5:=ha.av
  have i6:=hq.av
  have c5:=mC a
  have c6:=mC r
  refine Spec.body func36 rfl results36 ntmps36 rfl ?_
  refine .sr<|.ag rfl<|.ag rfl<|.ag rfl<|.z<|.mo rfl<|.mo rfl<|.mo rfl<|.mo rfl<|.mo rfl ?_
  refine .aL (xh Z l hk id j va vq a r _ (ha.mono λb o l=>.inl l) (hq.mono λb o l=>.inl l) (λb o l=>.inl (b9 b o l)) (λb o l=>.inr l)) (λu I=>?_)
  subst I
  refine .ag rfl<|.zs<|.sr<|.mo rfl<|.q .dF<|.zn ?_
  refine .cond rfl (λh1=>?_) λh1=>?_
  have n:ew s id j a r≠0:=by simpa using h1
  refine .sr<|.mo rfl<|.ag rfl<|.ag rfl<|.az rfl ?_
  refine .ret (aI (aN _ (.three (.tmp rfl) (.tmp rfl) (.tmp rfl)) rH ?_))
  ·first
      |(have e:bN s id j d g f a r rev=(e0,e0,ew s id j a r,s):=by unfold bN;rw[afs n]
        rw[e];exact⟨rfl,Z⟩)
      |(have e:bN s id j d g f a r rev=(e0,e0,18,{s with V:=s.V.filter λx=> !(x.2.family==c.family)}):=by unfold bN;rw[afr (by simp[n]),F]
        rw[e]
        exact⟨rfl,B,v,Q,a9,D,C,S,a7,rs,ns,gs,_,rfl,hr,hn,hg,b0,m.dr (λb o l=>l) (m.bt.filter λu=> !(u.family==c.family)) λp hp=>m.tr p (afx.1 hp).1⟩)
      |(have e:bN s id j d g f a r rev=(e0,e0,dD s (bj 97 a) (bj 114 r),s):=by
           unfold bN;rw[afr (by simp[n]),F];simp only;rw[afs M]
        rw[e];exact⟨rfl,Z⟩)
      |(have e:bN s id j d g f a r rev=(e0,e0,18,{s with A:=(bh s.A d id g f s.now).2.2}):=by
           unfold bN;rw[afr (by simp[n]),F];simp only;rw[afr (by simp[M]),afs Y]
        rw[e];exact⟨rfl,a6⟩)
      |(have e:bN s id j d g f a r rev=(bj 97 a,bj 114 r,0,{s with A:=(bh s.A d id g f s.now).2.2,V:=gI s.V s.last s.now (bj 97 a) (bj 114 r) ⟨e0,0,id,(bh s.A d id g f s.now).1.user,(bh s.A d id g f s.now).1.scopes,(bh s.A d id g f s.now).1.family,0,rev,false⟩}):=by
           unfold bN;rw[afr (by simp[n]),F];simp only;rw[afr (by simp[M]),afr (by simp[Y])]
        rw[e];exact⟨rfl,a8⟩)
  have n:ew s id j a r=0:=by simpa using h1
  refine .kn<|.sr<|.mo rfl<|.nc rfl<|.fa rfl<|.mo rfl ?_
  refine .aL (sq xb v G s.last s.now Q gs d _ hg.rx m.gr) (λu I=>?_)
  obtain⟨z,rfl,hz⟩:=I
  refine .ag rfl<|.zs<|.sr<|.mo rfl<|.q .geq<|.mo rfl ?_
  refine .split (t:=43) rfl (λT=>?_) (λT=>?_)
  obtain⟨i,w,c,rfl,hi,c7,b8⟩:=hz.at m.bg (by have h9:=bq T;omega)
  have ci:=m.gr _ (bU hi)
  have ii:bG (bM (w,c)):=⟨ci.bD⟩
  refine .gT T<|.mo rfl<|.gT T<|.nc rfl<|.gT T<|.fa rfl<|.gT T<|.fa rfl<|.gT T<|.lo rfl<|.gT T<|.mo rfl<|.gT T ?_
  refine .ba i hg hi (λd0=>?_)
  refine .gT T<|.fa rfl<|.gT T<|.lo rfl<|.gT T<|.mo rfl<|.gT T<|.q .eg<|.q (.aW T) ?_
  refine .mo rfl ?_
  refine .split (t:=56) rfl (λa4=>?_) (λa4=>?_)
  refine .gT a4<|.mo rfl<|.gT a4<|.nc rfl<|.gT a4<|.fa rfl<|.gT a4<|.fa rfl<|.gT a4<|.lo rfl<|.gT a4<|.mo rfl<|.gT a4 ?_
  refine .ba i hg hi (λd1=>?_)
  refine .gT a4<|.fa rfl<|.gT a4<|.lo rfl<|.q (.aW a4) ?_
  refine .zn ?_
  refine .cond rfl (λh2=>?_) λh2=>?_
  have F:ji s.A d id=some c:=by
    have a1:c.aC=id:=by simpa using a4
    have a2:c.used=true:=h2
    unfold ji;rw[b8];simp[Option.filter,a1,a2]
  refine .seq ?_
  refine .dc 12 mixed (by kernel_rfl) ?_
  conv=>arg 6;dsimp only[List.take]
  refine .mo rfl<|.nc rfl<|.fa rfl<|.mo rfl<|.nc rfl<|.fa rfl<|.fa rfl<|.lo rfl<|.mo rfl ?_
  refine .ba i hg hi (λd2=>?_)
  refine .fa rfl<|.lo rfl<|.nil ?_
  refine .sub (H':=[(xb,.cells [B,v,Q,G,.int .i64 s.last,.int .i64 s.now].toArray 44 (0,0))::O,D,C,S]) ((aH [0,3,0,0,0]).trans (aU.bu (by simp[take,aY]))) ?_
  refine .bT (sv xb B v Q s.now ts s.last _ ⟨G,O,rfl,ht,by omega⟩ s.V m.bt c.family R m.tr) (λu T4 I=>?_)
  obtain⟨rfl,a9,a7,rfl,b0,c9⟩:=I
  have i9:=b0.av
  refine .sub (H':=[bl xb [B,v,Q,a9,.int .i64 s.last,.int .i64 s.now] 44,D,C,S,a7]) ((aU.bu (H':=[bl xb [B,v,Q,a9,.int .i64 s.last,.int .i64 s.now] 44,a7,D,C,S]) (by simp)).trans (aH [0,1,1,1,0])) ?_
  refine .z<|.ag rfl<|.ag rfl<|.az rfl ?_
  refine .ret (aI (aN _ (.three (.tmp rfl) (.tmp rfl) (.tmp rfl)) rH ?_))
  ·first
      |(have e:bN s id j d g f a r rev=(e0,e0,ew s id j a r,s):=by unfold bN;rw[afs n]
        rw[e];exact⟨rfl,Z⟩)
      |(have e:bN s id j d g f a r rev=(e0,e0,18,{s with V:=s.V.filter λx=> !(x.2.family==c.family)}):=by unfold bN;rw[afr (by simp[n]),F]
        rw[e]
        exact⟨rfl,B,v,Q,a9,D,C,S,a7,rs,ns,gs,_,rfl,hr,hn,hg,b0,m.dr (λb o l=>l) (m.bt.filter λu=> !(u.family==c.family)) λp hp=>m.tr p (afx.1 hp).1⟩)
      |(have e:bN s id j d g f a r rev=(e0,e0,dD s (bj 97 a) (bj 114 r),s):=by
           unfold bN;rw[afr (by simp[n]),F];simp only;rw[afs M]
        rw[e];exact⟨rfl,Z⟩)
      |(have e:bN s id j d g f a r rev=(e0,e0,18,{s with A:=(bh s.A d id g f s.now).2.2}):=by
           unfold bN;rw[afr (by simp[n]),F];simp only;rw[afr (by simp[M]),afs Y]
        rw[e];exact⟨rfl,a6⟩)
      |(have e:bN s id j d g f a r rev=(bj 97 a,bj 114 r,0,{s with A:=(bh s.A d id g f s.now).2.2,V:=gI s.V s.last s.now (bj 97 a) (bj 114 r) ⟨e0,0,id,(bh s.A d id g f s.now).1.user,(bh s.A d id g f s.now).1.scopes,(bh s.A d id g f s.now).1.family,0,rev,false⟩}):=by
           unfold bN;rw[afr (by simp[n]),F];simp only;rw[afr (by simp[M]),afr (by simp[Y])]
        rw[e];exact⟨rfl,a8⟩)
  have F:ji s.A d id=none:=by
    unfold ji
    first
      |(have b6:aS d s.A=none:=by rw[<-m.bg.get];exact hz.neg (by have h9:=bi T;omega)
        rw[b6];rfl)
      |(rw[b8]
        first
          |(have a1:¬c.aC=id:=by simpa using a4
            simp[Option.filter,a1];done)
          |(have a2:c.used=false:=h2
            simp[Option.filter,a2];done))
  refine .kn<|.sr<|.mo rfl ?_
  refine .aL (kO va a _ (ha.mono λb o l=>.inl l) (by omega)) (λu I=>?_)
  subst I
  refine .q (.cast (v':=.string (bj 97 a)) (.gB (p:=⟨#[97,46]⟩) (q:=⟨(dv a).toArray⟩) (by rw[fy (dv a)];show 2+_<=_;omega) rfl rfl) (aft Value.string (kZ 97 a))) ?_
  refine .mo rfl ?_
  refine .aL (kO vq r _ (hq.mono λb o l=>.inl l) (by omega)) (λu I=>?_)
  subst I
  refine .q (.cast (v':=.string (bj 114 r)) (.gB (p:=⟨#[114,46]⟩) (q:=⟨(dv r).toArray⟩) (by rw[fy (dv r)];show 2+_<=_;omega) rfl rfl) (aft Value.string (kZ 114 r))) ?_
  refine .ag rfl<|.ag rfl<|.z<|.mo rfl<|.mo rfl<|.mo rfl ?_
  refine .aL (o3 Z l hk (bj 97 a) (bj 114 r) _ (λb o l=>.inl (b9 b o l)) (λb o l=>.inr l)) (λu I=>?_)
  subst I
  refine .ag rfl<|.zs<|.sr<|.mo rfl<|.q .dF<|.zn ?_
  refine .cond rfl (λh3=>?_) λh3=>?_
  have M:dD s (bj 97 a) (bj 114 r)≠0:=by simpa using h3
  refine .sr<|.mo rfl<|.ag rfl<|.ag rfl<|.az rfl ?_
  refine .ret (aI (aN _ (.three (.tmp rfl) (.tmp rfl) (.tmp rfl)) rH ?_))
  ·first
      |(have e:bN s id j d g f a r rev=(e0,e0,ew s id j a r,s):=by unfold bN;rw[afs n]
        rw[e];exact⟨rfl,Z⟩)
      |(have e:bN s id j d g f a r rev=(e0,e0,18,{s with V:=s.V.filter λx=> !(x.2.family==c.family)}):=by unfold bN;rw[afr (by simp[n]),F]
        rw[e]
        exact⟨rfl,B,v,Q,a9,D,C,S,a7,rs,ns,gs,_,rfl,hr,hn,hg,b0,m.dr (λb o l=>l) (m.bt.filter λu=> !(u.family==c.family)) λp hp=>m.tr p (afx.1 hp).1⟩)
      |(have e:bN s id j d g f a r rev=(e0,e0,dD s (bj 97 a) (bj 114 r),s):=by
           unfold bN;rw[afr (by simp[n]),F];simp only;rw[afs M]
        rw[e];exact⟨rfl,Z⟩)
      |(have e:bN s id j d g f a r rev=(e0,e0,18,{s with A:=(bh s.A d id g f s.now).2.2}):=by
           unfold bN;rw[afr (by simp[n]),F];simp only;rw[afr (by simp[M]),afs Y]
        rw[e];exact⟨rfl,a6⟩)
      |(have e:bN s id j d g f a r rev=(bj 97 a,bj 114 r,0,{s with A:=(bh s.A d id g f s.now).2.2,V:=gI s.V s.last s.now (bj 97 a) (bj 114 r) ⟨e0,0,id,(bh s.A d id g f s.now).1.user,(bh s.A d id g f s.now).1.scopes,(bh s.A d id g f s.now).1.family,0,rev,false⟩}):=by
           unfold bN;rw[afr (by simp[n]),F];simp only;rw[afr (by simp[M]),afr (by simp[Y])]
        rw[e];exact⟨rfl,a8⟩)
  have M:dD s (bj 97 a) (bj 114 r)=0:=by simpa using h3
  refine .kn<|.seq ?_
  refine bO.lX [(0,_),(1,_),(8,_),(23,_),(24,_)] kE.c.c.c.c.c (X:=Value×Value×ax×List GP×Nat) (λy=>dl RD (y.1,(bh s.A d id g f s.now).1)/\OS 121 9 bM y.2.1 y.2.2.2.1 y.2.2.1/\eX (bh s.A d id g f s.now).2.2 y.2.2.2.1/\(∀p∈y.2.2.2.1,dl RD p)/\y.2.2.2.1.length<=gs.length) (λy E=>(25,.pointer (some ⟨y.2.2.2.2,0,none⟩))::(26,.int .i64 (bh s.A d id g f s.now).2.1)::E) (λy=>[[(y.2.2.2.2,.cells (bM (y.1,(bh s.A d id g f s.now).1)).toArray 121 (0,0))],bl xb [B,v,y.2.1,G,.int .i64 s.last,.int .i64 s.now] 44,D,C,y.2.2.1,O]) ?_ ?_
  refine .cP [11,16] mixed ?_
  refine .tO 0 rfl .move<|.tO 1 rfl (.nilCheck rfl)<|.tO 2 rfl (.fieldAddr rfl)<|.tO 3 rfl .move<|.tO 4 rfl .move<|.tO 5 rfl .move<|.tO 6 rfl .move<|.tO 7 rfl .move<|.tO 8 rfl (.nilCheck rfl)<|.tO 9 rfl (.fieldAddr rfl)<|.tO 10 rfl (.bK rfl) ?_
  refine RA.mu 11 15 rfl rfl (by kernel_rfl) rfl ?_ ?_
  first
    |refine aF.sub (H':=[(xb,.cells [B,v,Q,G,.int .i64 s.last,.int .i64 s.now].toArray 44 (0,0))::S,D,C,O]) ((aH [0,2,0,0,0]).trans (aU.bu (afu rfl))) ?_
    |refine aF.sub (H':=[(xb,.cells [B,v,Q,G,.int .i64 s.last,.int .i64 s.now].toArray 44 (0,0))::S,bl K (bM gz) 121,D,C,O]) ((aH [1,3,0,0,0,0]).trans (aU.bu (afu rfl))) ?_
  refine .bT (nP xb B v G s.last s.now gs _ ⟨Q,S,rfl,hg,by omega⟩ s.A m.bg d id g f s.now hv R m.gr) (λu b3 I=>?_)
  obtain⟨w,a5,rfl,L,⟨N,J,rfl,W,b5⟩,U,a3,a0⟩:=I
  have b2:bG (bM (w,(bh s.A d id g f s.now).1)):=⟨L.bD⟩
  refine .nil (Next.mod rfl ?_)
  refine .tK 12 rfl .move<|.tK 13 rfl .extract<|.tK 14 rfl .extract ?_
  refine .sT 15 rfl ?_
  refine .cG (λK=>?_)
  refine .nil (Next.mod rfl ?_)
  refine .sT 16 rfl ?_
  refine .cc rfl rfl ?_
  refine .nil (Next.mod rfl ?_)
  refine .tK 17 rfl .assign ?_
  refine RA.nil (by kernel_rfl) ?_
  ·first
      |exact aA (w,N,J,a5,K) ⟨L,W,U,a3,a0⟩ kE.c.c.c.c.c.c.c ((aU.bu (H':=[bl K (bM (w,(bh s.A d id g f s.now).1)) 121,bl xb [B,v,N,G,.int .i64 s.last,.int .i64 s.now] 44,J,D,C,O]) (afu rfl)).trans (aH [0,0,1,1,0,0]))
      |exact aA (w,N,J,a5,K) ⟨L,W,U,a3,a0⟩ kE.c.c.c.c.c.c.c ((aU.bu (H':=[bl xb [B,v,N,G,.int .i64 s.last,.int .i64 s.now] 44,J,bl K (bM (w,(bh s.A d id g f s.now).1)) 121,D,C,O]) (afu rfl)).trans (aH [2,0,1,1,0,0]))
  refine .cG (λK=>?_)
  refine .nil (Next.sub ?_)
  refine .sT 11 rfl ?_
  first
    |refine aF.sub (H':=[(xb,.cells [B,v,Q,G,.int .i64 s.last,.int .i64 s.now].toArray 44 (0,0))::S,D,C,O]) ((aH [0,2,0,0,0]).trans (aU.bu (afu rfl))) ?_
    |refine aF.sub (H':=[(xb,.cells [B,v,Q,G,.int .i64 s.last,.int .i64 s.now].toArray 44 (0,0))::S,bl K (bM gz) 121,D,C,O]) ((aH [1,3,0,0,0,0]).trans (aU.bu (afu rfl))) ?_
  refine .bT (nP xb B v G s.last s.now gs _ ⟨Q,S,rfl,hg,by omega⟩ s.A m.bg d id g f s.now hv R m.gr) (λu b3 I=>?_)
  obtain⟨w,a5,rfl,L,⟨N,J,rfl,W,b5⟩,U,a3,a0⟩:=I
  have b2:bG (bM (w,(bh s.A d id g f s.now).1)):=⟨L.bD⟩
  refine .nil (Next.mod rfl ?_)
  refine .tK 12 rfl .move<|.tK 13 rfl .extract<|.tK 14 rfl .extract ?_
  refine .sT 16 rfl ?_
  refine .cc rfl rfl ?_
  refine .nil (Next.mod rfl ?_)
  refine .tK 17 rfl .assign ?_
  refine RA.nil (by kernel_rfl) ?_
  ·first
      |exact aA (w,N,J,a5,K) ⟨L,W,U,a3,a0⟩ kE.c.c.c.c.c.c.c ((aU.bu (H':=[bl K (bM (w,(bh s.A d id g f s.now).1)) 121,bl xb [B,v,N,G,.int .i64 s.last,.int .i64 s.now] 44,J,D,C,O]) (afu rfl)).trans (aH [0,0,1,1,0,0]))
      |exact aA (w,N,J,a5,K) ⟨L,W,U,a3,a0⟩ kE.c.c.c.c.c.c.c ((aU.bu (H':=[bl xb [B,v,N,G,.int .i64 s.last,.int .i64 s.now] 44,J,bl K (bM (w,(bh s.A d id g f s.now).1)) 121,D,C,O]) (afu rfl)).trans (aH [2,0,1,1,0,0]))
  intro y hy
  obtain⟨w,N,J,a5,K⟩:=y
  obtain⟨L,W,U,a3,a0⟩:=hy
  simp only at L W U a3 a0⊢
  have b2:bG (bM (w,(bh s.A d id g f s.now).1)):=⟨L.bD⟩
  have b7:One w:=RS.av L
  have i7:=W.av
  have a6:DS RD xb {s with A:=(bh s.A d id g f s.now).2.2} [bl xb [B,v,N,G,.int .i64 s.last,.int .i64 s.now] 44,D,C,J,O]:=⟨B,v,N,G,D,C,J,O,rs,ns,a5,ts,rfl,hr,hn,W,ht,m.gP (λb o l=>l) U a3⟩
  have b4:OB {s with A:=(bh s.A d id g f s.now).2.2} k:=l.less (by rw[U.len,m.bg.len];exact a0) (afE _) (afG _) l.cs
  refine aD<|.seq<|.sr<|.mo rfl<|.q .dF<|.zn ?_
  refine .cond rfl (λh4=>?_) λh4=>?_
  have Y:(bh s.A d id g f s.now).2.1≠0:=by simpa using h4
  refine .sr<|.ag rfl<|.ag rfl<|.az rfl ?_
  refine .ret (aI (aN _ (.three (.tmp rfl) (.tmp rfl) (.tmp rfl)) (aH [1,1,1,1,1]) ?_))
  ·first
      |(have e:bN s id j d g f a r rev=(e0,e0,ew s id j a r,s):=by unfold bN;rw[afs n]
        rw[e];exact⟨rfl,Z⟩)
      |(have e:bN s id j d g f a r rev=(e0,e0,18,{s with V:=s.V.filter λx=> !(x.2.family==c.family)}):=by unfold bN;rw[afr (by simp[n]),F]
        rw[e]
        exact⟨rfl,B,v,Q,a9,D,C,S,a7,rs,ns,gs,_,rfl,hr,hn,hg,b0,m.dr (λb o l=>l) (m.bt.filter λu=> !(u.family==c.family)) λp hp=>m.tr p (afx.1 hp).1⟩)
      |(have e:bN s id j d g f a r rev=(e0,e0,dD s (bj 97 a) (bj 114 r),s):=by
           unfold bN;rw[afr (by simp[n]),F];simp only;rw[afs M]
        rw[e];exact⟨rfl,Z⟩)
      |(have e:bN s id j d g f a r rev=(e0,e0,18,{s with A:=(bh s.A d id g f s.now).2.2}):=by
           unfold bN;rw[afr (by simp[n]),F];simp only;rw[afr (by simp[M]),afs Y]
        rw[e];exact⟨rfl,a6⟩)
      |(have e:bN s id j d g f a r rev=(bj 97 a,bj 114 r,0,{s with A:=(bh s.A d id g f s.now).2.2,V:=gI s.V s.last s.now (bj 97 a) (bj 114 r) ⟨e0,0,id,(bh s.A d id g f s.now).1.user,(bh s.A d id g f s.now).1.scopes,(bh s.A d id g f s.now).1.family,0,rev,false⟩}):=by
           unfold bN;rw[afr (by simp[n]),F];simp only;rw[afr (by simp[M]),afr (by simp[Y])]
        rw[e];exact⟨rfl,a8⟩)
  have Y:(bh s.A d id g f s.now).2.1=0:=by simpa using h4
  refine .kn<|.sr<|.mo rfl<|.mo rfl<|.mo rfl<|.mo rfl<|.fa rfl<|.lo rfl<|.fa rfl<|.lo rfl<|.fa rfl<|.lo rfl<|.mo rfl ?_
  refine .q (.du (out:=bA (w,⟨e0,0,id,(bh s.A d id g f s.now).1.user,(bh s.A d id g f s.now).1.scopes,(bh s.A d id g f s.now).1.family,0,rev,false⟩)) rfl (qi b7.h)) ?_
  refine .call [1,1,1,1,1] (qx a6 b4 hk (bj 97 a) (bj 114 r) w ⟨e0,0,id,(bh s.A d id g f s.now).1.user,(bh s.A d id g f s.now).1.scopes,(bh s.A d id g f s.now).1.family,0,rev,false⟩ L _) (λu H' I=>?_)
  obtain⟨rfl,b1⟩:=I
  have a8:=b1
  obtain⟨ur,un,ug,uv,Ur,Un,Ug,Uv,c0,c1,c2,c3,rfl,_,_,_,_,_⟩:=b1
  conv=>arg 8;simp only[rest,aY,afv,afw]
  refine .z<|.mo rfl<|.mo rfl<|.ag rfl<|.ag rfl<|.az rfl ?_
  refine .ret (aN _ (.three (.tmp rfl) (.tmp rfl) (.tmp rfl)) (aH [0,0,0,0,0]) ?_)
  ·first
      |(have e:bN s id j d g f a r rev=(e0,e0,ew s id j a r,s):=by unfold bN;rw[afs n]
        rw[e];exact⟨rfl,Z⟩)
      |(have e:bN s id j d g f a r rev=(e0,e0,18,{s with V:=s.V.filter λx=> !(x.2.family==c.family)}):=by unfold bN;rw[afr (by simp[n]),F]
        rw[e]
        exact⟨rfl,B,v,Q,a9,D,C,S,a7,rs,ns,gs,_,rfl,hr,hn,hg,b0,m.dr (λb o l=>l) (m.bt.filter λu=> !(u.family==c.family)) λp hp=>m.tr p (afx.1 hp).1⟩)
      |(have e:bN s id j d g f a r rev=(e0,e0,dD s (bj 97 a) (bj 114 r),s):=by
           unfold bN;rw[afr (by simp[n]),F];simp only;rw[afs M]
        rw[e];exact⟨rfl,Z⟩)
      |(have e:bN s id j d g f a r rev=(e0,e0,18,{s with A:=(bh s.A d id g f s.now).2.2}):=by
           unfold bN;rw[afr (by simp[n]),F];simp only;rw[afr (by simp[M]),afs Y]
        rw[e];exact⟨rfl,a6⟩)
      |(have e:bN s id j d g f a r rev=(bj 97 a,bj 114 r,0,{s with A:=(bh s.A d id g f s.now).2.2,V:=gI s.V s.last s.now (bj 97 a) (bj 114 r) ⟨e0,0,id,(bh s.A d id g f s.now).1.user,(bh s.A d id g f s.now).1.scopes,(bh s.A d id g f s.now).1.family,0,rev,false⟩}):=by
           unfold bN;rw[afr (by simp[n]),F];simp only;rw[afr (by simp[M]),afr (by simp[Y])]
        rw[e];exact⟨rfl,a8⟩)
  refine .gF a4<|.gF a4<|.gF a4<|.gF a4<|.gF a4<|.gF a4<|.gF a4<|.gF a4<|.gF a4<|.q (.aQ a4) ?_
  refine .zn<|.bX ?_
  have F:ji s.A d id=none:=by
    unfold ji
    first
      |(have b6:aS d s.A=none:=by rw[<-m.bg.get];exact hz.neg (by have h9:=bi T;omega)
        rw[b6];rfl)
      |(rw[b8]
        first
          |(have a1:¬c.aC=id:=by simpa using a4
            simp[Option.filter,a1];done)
          |(have a2:c.used=false:=h2
            simp[Option.filter,a2];done))
  refine .kn<|.sr<|.mo rfl ?_
  refine .aL (kO va a _ (ha.mono λb o l=>.inl l) (by omega)) (λu I=>?_)
  subst I
  refine .q (.cast (v':=.string (bj 97 a)) (.gB (p:=⟨#[97,46]⟩) (q:=⟨(dv a).toArray⟩) (by rw[fy (dv a)];show 2+_<=_;omega) rfl rfl) (aft Value.string (kZ 97 a))) ?_
  refine .mo rfl ?_
  refine .aL (kO vq r _ (hq.mono λb o l=>.inl l) (by omega)) (λu I=>?_)
  subst I
  refine .q (.cast (v':=.string (bj 114 r)) (.gB (p:=⟨#[114,46]⟩) (q:=⟨(dv r).toArray⟩) (by rw[fy (dv r)];show 2+_<=_;omega) rfl rfl) (aft Value.string (kZ 114 r))) ?_
  refine .ag rfl<|.ag rfl<|.z<|.mo rfl<|.mo rfl<|.mo rfl ?_
  refine .aL (o3 Z l hk (bj 97 a) (bj 114 r) _ (λb o l=>.inl (b9 b o l)) (λb o l=>.inr l)) (λu I=>?_)
  subst I
  refine .ag rfl<|.zs<|.sr<|.mo rfl<|.q .dF<|.zn ?_
  refine .cond rfl (λh3=>?_) λh3=>?_
  have M:dD s (bj 97 a) (bj 114 r)≠0:=by simpa using h3
  refine .sr<|.mo rfl<|.ag rfl<|.ag rfl<|.az rfl ?_
  refine .ret (aI (aN _ (.three (.tmp rfl) (.tmp rfl) (.tmp rfl)) rH ?_))
  ·first
      |(have e:bN s id j d g f a r rev=(e0,e0,ew s id j a r,s):=by unfold bN;rw[afs n]
        rw[e];exact⟨rfl,Z⟩)
      |(have e:bN s id j d g f a r rev=(e0,e0,18,{s with V:=s.V.filter λx=> !(x.2.family==c.family)}):=by unfold bN;rw[afr (by simp[n]),F]
        rw[e]
        exact⟨rfl,B,v,Q,a9,D,C,S,a7,rs,ns,gs,_,rfl,hr,hn,hg,b0,m.dr (λb o l=>l) (m.bt.filter λu=> !(u.family==c.family)) λp hp=>m.tr p (afx.1 hp).1⟩)
      |(have e:bN s id j d g f a r rev=(e0,e0,dD s (bj 97 a) (bj 114 r),s):=by
           unfold bN;rw[afr (by simp[n]),F];simp only;rw[afs M]
        rw[e];exact⟨rfl,Z⟩)
      |(have e:bN s id j d g f a r rev=(e0,e0,18,{s with A:=(bh s.A d id g f s.now).2.2}):=by
           unfold bN;rw[afr (by simp[n]),F];simp only;rw[afr (by simp[M]),afs Y]
        rw[e];exact⟨rfl,a6⟩)
      |(have e:bN s id j d g f a r rev=(bj 97 a,bj 114 r,0,{s with A:=(bh s.A d id g f s.now).2.2,V:=gI s.V s.last s.now (bj 97 a) (bj 114 r) ⟨e0,0,id,(bh s.A d id g f s.now).1.user,(bh s.A d id g f s.now).1.scopes,(bh s.A d id g f s.now).1.family,0,rev,false⟩}):=by
           unfold bN;rw[afr (by simp[n]),F];simp only;rw[afr (by simp[M]),afr (by simp[Y])]
        rw[e];exact⟨rfl,a8⟩)
  have M:dD s (bj 97 a) (bj 114 r)=0:=by simpa using h3
  refine .kn<|.seq ?_
  refine bO.lX [(0,_),(1,_),(8,_),(23,_),(24,_)] kE.c.c.c.c.c (X:=Value×Value×ax×List GP×Nat) (λy=>dl RD (y.1,(bh s.A d id g f s.now).1)/\OS 121 9 bM y.2.1 y.2.2.2.1 y.2.2.1/\eX (bh s.A d id g f s.now).2.2 y.2.2.2.1/\(∀p∈y.2.2.2.1,dl RD p)/\y.2.2.2.1.length<=gs.length) (λy E=>(25,.pointer (some ⟨y.2.2.2.2,0,none⟩))::(26,.int .i64 (bh s.A d id g f s.now).2.1)::E) (λy=>[[(y.2.2.2.2,.cells (bM (y.1,(bh s.A d id g f s.now).1)).toArray 121 (0,0))],bl xb [B,v,y.2.1,G,.int .i64 s.last,.int .i64 s.now] 44,D,C,y.2.2.1,O]) ?_ ?_
  refine .cP [11,16] mixed ?_
  refine .tO 0 rfl .move<|.tO 1 rfl (.nilCheck rfl)<|.tO 2 rfl (.fieldAddr rfl)<|.tO 3 rfl .move<|.tO 4 rfl .move<|.tO 5 rfl .move<|.tO 6 rfl .move<|.tO 7 rfl .move<|.tO 8 rfl (.nilCheck rfl)<|.tO 9 rfl (.fieldAddr rfl)<|.tO 10 rfl (.bK rfl) ?_
  refine RA.mu 11 15 rfl rfl (by kernel_rfl) rfl ?_ ?_
  first
    |refine aF.sub (H':=[(xb,.cells [B,v,Q,G,.int .i64 s.last,.int .i64 s.now].toArray 44 (0,0))::S,D,C,O]) ((aH [0,2,0,0,0]).trans (aU.bu (afu rfl))) ?_
    |refine aF.sub (H':=[(xb,.cells [B,v,Q,G,.int .i64 s.last,.int .i64 s.now].toArray 44 (0,0))::S,bl K (bM gz) 121,D,C,O]) ((aH [1,3,0,0,0,0]).trans (aU.bu (afu rfl))) ?_
  refine .bT (nP xb B v G s.last s.now gs _ ⟨Q,S,rfl,hg,by omega⟩ s.A m.bg d id g f s.now hv R m.gr) (λu b3 I=>?_)
  obtain⟨w,a5,rfl,L,⟨N,J,rfl,W,b5⟩,U,a3,a0⟩:=I
  have b2:bG (bM (w,(bh s.A d id g f s.now).1)):=⟨L.bD⟩
  refine .nil (Next.mod rfl ?_)
  refine .tK 12 rfl .move<|.tK 13 rfl .extract<|.tK 14 rfl .extract ?_
  refine .sT 15 rfl ?_
  refine .cG (λK=>?_)
  refine .nil (Next.mod rfl ?_)
  refine .sT 16 rfl ?_
  refine .cc rfl rfl ?_
  refine .nil (Next.mod rfl ?_)
  refine .tK 17 rfl .assign ?_
  refine RA.nil (by kernel_rfl) ?_
  ·first
      |exact aA (w,N,J,a5,K) ⟨L,W,U,a3,a0⟩ kE.c.c.c.c.c.c.c ((aU.bu (H':=[bl K (bM (w,(bh s.A d id g f s.now).1)) 121,bl xb [B,v,N,G,.int .i64 s.last,.int .i64 s.now] 44,J,D,C,O]) (afu rfl)).trans (aH [0,0,1,1,0,0]))
      |exact aA (w,N,J,a5,K) ⟨L,W,U,a3,a0⟩ kE.c.c.c.c.c.c.c ((aU.bu (H':=[bl xb [B,v,N,G,.int .i64 s.last,.int .i64 s.now] 44,J,bl K (bM (w,(bh s.A d id g f s.now).1)) 121,D,C,O]) (afu rfl)).trans (aH [2,0,1,1,0,0]))
  refine .cG (λK=>?_)
  refine .nil (Next.sub ?_)
  refine .sT 11 rfl ?_
  first
    |refine aF.sub (H':=[(xb,.cells [B,v,Q,G,.int .i64 s.last,.int .i64 s.now].toArray 44 (0,0))::S,D,C,O]) ((aH [0,2,0,0,0]).trans (aU.bu (afu rfl))) ?_
    |refine aF.sub (H':=[(xb,.cells [B,v,Q,G,.int .i64 s.last,.int .i64 s.now].toArray 44 (0,0))::S,bl K (bM gz) 121,D,C,O]) ((aH [1,3,0,0,0,0]).trans (aU.bu (afu rfl))) ?_
  refine .bT (nP xb B v G s.last s.now gs _ ⟨Q,S,rfl,hg,by omega⟩ s.A m.bg d id g f s.now hv R m.gr) (λu b3 I=>?_)
  obtain⟨w,a5,rfl,L,⟨N,J,rfl,W,b5⟩,U,a3,a0⟩:=I
  have b2:bG (bM (w,(bh s.A d id g f s.now).1)):=⟨L.bD⟩
  refine .nil (Next.mod rfl ?_)
  refine .tK 12 rfl .move<|.tK 13 rfl .extract<|.tK 14 rfl .extract ?_
  refine .sT 16 rfl ?_
  refine .cc rfl rfl ?_
  refine .nil (Next.mod rfl ?_)
  refine .tK 17 rfl .assign ?_
  refine RA.nil (by kernel_rfl) ?_
  ·first
      |exact aA (w,N,J,a5,K) ⟨L,W,U,a3,a0⟩ kE.c.c.c.c.c.c.c ((aU.bu (H':=[bl K (bM (w,(bh s.A d id g f s.now).1)) 121,bl xb [B,v,N,G,.int .i64 s.last,.int .i64 s.now] 44,J,D,C,O]) (afu rfl)).trans (aH [0,0,1,1,0,0]))
      |exact aA (w,N,J,a5,K) ⟨L,W,U,a3,a0⟩ kE.c.c.c.c.c.c.c ((aU.bu (H':=[bl xb [B,v,N,G,.int .i64 s.last,.int .i64 s.now] 44,J,bl K (bM (w,(bh s.A d id g f s.now).1)) 121,D,C,O]) (afu rfl)).trans (aH [2,0,1,1,0,0]))
  intro y hy
  obtain⟨w,N,J,a5,K⟩:=y
  obtain⟨L,W,U,a3,a0⟩:=hy
  simp only at L W U a3 a0⊢
  have b2:bG (bM (w,(bh s.A d id g f s.now).1)):=⟨L.bD⟩
  have b7:One w:=RS.av L
  have i7:=W.av
  have a6:DS RD xb {s with A:=(bh s.A d id g f s.now).2.2} [bl xb [B,v,N,G,.int .i64 s.last,.int .i64 s.now] 44,D,C,J,O]:=⟨B,v,N,G,D,C,J,O,rs,ns,a5,ts,rfl,hr,hn,W,ht,m.gP (λb o l=>l) U a3⟩
  have b4:OB {s with A:=(bh s.A d id g f s.now).2.2} k:=l.less (by rw[U.len,m.bg.len];exact a0) (afE _) (afG _) l.cs
  refine aD<|.seq<|.sr<|.mo rfl<|.q .dF<|.zn ?_
  refine .cond rfl (λh4=>?_) λh4=>?_
  have Y:(bh s.A d id g f s.now).2.1≠0:=by simpa using h4
  refine .sr<|.ag rfl<|.ag rfl<|.az rfl ?_
  refine .ret (aI (aN _ (.three (.tmp rfl) (.tmp rfl) (.tmp rfl)) (aH [1,1,1,1,1]) ?_))
  ·first
      |(have e:bN s id j d g f a r rev=(e0,e0,ew s id j a r,s):=by unfold bN;rw[afs n]
        rw[e];exact⟨rfl,Z⟩)
      |(have e:bN s id j d g f a r rev=(e0,e0,18,{s with V:=s.V.filter λx=> !(x.2.family==c.family)}):=by unfold bN;rw[afr (by simp[n]),F]
        rw[e]
        exact⟨rfl,B,v,Q,a9,D,C,S,a7,rs,ns,gs,_,rfl,hr,hn,hg,b0,m.dr (λb o l=>l) (m.bt.filter λu=> !(u.family==c.family)) λp hp=>m.tr p (afx.1 hp).1⟩)
      |(have e:bN s id j d g f a r rev=(e0,e0,dD s (bj 97 a) (bj 114 r),s):=by
           unfold bN;rw[afr (by simp[n]),F];simp only;rw[afs M]
        rw[e];exact⟨rfl,Z⟩)
      |(have e:bN s id j d g f a r rev=(e0,e0,18,{s with A:=(bh s.A d id g f s.now).2.2}):=by
           unfold bN;rw[afr (by simp[n]),F];simp only;rw[afr (by simp[M]),afs Y]
        rw[e];exact⟨rfl,a6⟩)
      |(have e:bN s id j d g f a r rev=(bj 97 a,bj 114 r,0,{s with A:=(bh s.A d id g f s.now).2.2,V:=gI s.V s.last s.now (bj 97 a) (bj 114 r) ⟨e0,0,id,(bh s.A d id g f s.now).1.user,(bh s.A d id g f s.now).1.scopes,(bh s.A d id g f s.now).1.family,0,rev,false⟩}):=by
           unfold bN;rw[afr (by simp[n]),F];simp only;rw[afr (by simp[M]),afr (by simp[Y])]
        rw[e];exact⟨rfl,a8⟩)
  have Y:(bh s.A d id g f s.now).2.1=0:=by simpa using h4
  refine .kn<|.sr<|.mo rfl<|.mo rfl<|.mo rfl<|.mo rfl<|.fa rfl<|.lo rfl<|.fa rfl<|.lo rfl<|.fa rfl<|.lo rfl<|.mo rfl ?_
  refine .q (.du (out:=bA (w,⟨e0,0,id,(bh s.A d id g f s.now).1.user,(bh s.A d id g f s.now).1.scopes,(bh s.A d id g f s.now).1.family,0,rev,false⟩)) rfl (qi b7.h)) ?_
  refine .call [1,1,1,1,1] (qx a6 b4 hk (bj 97 a) (bj 114 r) w ⟨e0,0,id,(bh s.A d id g f s.now).1.user,(bh s.A d id g f s.now).1.scopes,(bh s.A d id g f s.now).1.family,0,rev,false⟩ L _) (λu H' I=>?_)
  obtain⟨rfl,b1⟩:=I
  have a8:=b1
  obtain⟨ur,un,ug,uv,Ur,Un,Ug,Uv,c0,c1,c2,c3,rfl,_,_,_,_,_⟩:=b1
  conv=>arg 8;simp only[rest,aY,afv,afw]
  refine .z<|.mo rfl<|.mo rfl<|.ag rfl<|.ag rfl<|.az rfl ?_
  refine .ret (aN _ (.three (.tmp rfl) (.tmp rfl) (.tmp rfl)) (aH [0,0,0,0,0]) ?_)
  ·first
      |(have e:bN s id j d g f a r rev=(e0,e0,ew s id j a r,s):=by unfold bN;rw[afs n]
        rw[e];exact⟨rfl,Z⟩)
      |(have e:bN s id j d g f a r rev=(e0,e0,18,{s with V:=s.V.filter λx=> !(x.2.family==c.family)}):=by unfold bN;rw[afr (by simp[n]),F]
        rw[e]
        exact⟨rfl,B,v,Q,a9,D,C,S,a7,rs,ns,gs,_,rfl,hr,hn,hg,b0,m.dr (λb o l=>l) (m.bt.filter λu=> !(u.family==c.family)) λp hp=>m.tr p (afx.1 hp).1⟩)
      |(have e:bN s id j d g f a r rev=(e0,e0,dD s (bj 97 a) (bj 114 r),s):=by
           unfold bN;rw[afr (by simp[n]),F];simp only;rw[afs M]
        rw[e];exact⟨rfl,Z⟩)
      |(have e:bN s id j d g f a r rev=(e0,e0,18,{s with A:=(bh s.A d id g f s.now).2.2}):=by
           unfold bN;rw[afr (by simp[n]),F];simp only;rw[afr (by simp[M]),afs Y]
        rw[e];exact⟨rfl,a6⟩)
      |(have e:bN s id j d g f a r rev=(bj 97 a,bj 114 r,0,{s with A:=(bh s.A d id g f s.now).2.2,V:=gI s.V s.last s.now (bj 97 a) (bj 114 r) ⟨e0,0,id,(bh s.A d id g f s.now).1.user,(bh s.A d id g f s.now).1.scopes,(bh s.A d id g f s.now).1.family,0,rev,false⟩}):=by
           unfold bN;rw[afr (by simp[n]),F];simp only;rw[afr (by simp[M]),afr (by simp[Y])]
        rw[e];exact⟨rfl,a8⟩)
  refine .gF T<|.gF T<|.gF T<|.gF T<|.gF T<|.gF T<|.gF T<|.gF T<|.gF T<|.gF T<|.gF T<|.q (.aQ T) ?_
  refine .mo rfl<|.gX<|.gX<|.gX<|.gX<|.gX<|.gX<|.gX<|.gX<|.gX<|.q .bW<|.zn<|.bX ?_
  have F:ji s.A d id=none:=by
    unfold ji
    first
      |(have b6:aS d s.A=none:=by rw[<-m.bg.get];exact hz.neg (by have h9:=bi T;omega)
        rw[b6];rfl)
      |(rw[b8]
        first
          |(have a1:¬c.aC=id:=by simpa using a4
            simp[Option.filter,a1];done)
          |(have a2:c.used=false:=h2
            simp[Option.filter,a2];done))
  refine .kn<|.sr<|.mo rfl ?_
  refine .aL (kO va a _ (ha.mono λb o l=>.inl l) (by omega)) (λu I=>?_)
  subst I
  refine .q (.cast (v':=.string (bj 97 a)) (.gB (p:=⟨#[97,46]⟩) (q:=⟨(dv a).toArray⟩) (by rw[fy (dv a)];show 2+_<=_;omega) rfl rfl) (aft Value.string (kZ 97 a))) ?_
  refine .mo rfl ?_
  refine .aL (kO vq r _ (hq.mono λb o l=>.inl l) (by omega)) (λu I=>?_)
  subst I
  refine .q (.cast (v':=.string (bj 114 r)) (.gB (p:=⟨#[114,46]⟩) (q:=⟨(dv r).toArray⟩) (by rw[fy (dv r)];show 2+_<=_;omega) rfl rfl) (aft Value.string (kZ 114 r))) ?_
  refine .ag rfl<|.ag rfl<|.z<|.mo rfl<|.mo rfl<|.mo rfl ?_
  refine .aL (o3 Z l hk (bj 97 a) (bj 114 r) _ (λb o l=>.inl (b9 b o l)) (λb o l=>.inr l)) (λu I=>?_)
  subst I
  refine .ag rfl<|.zs<|.sr<|.mo rfl<|.q .dF<|.zn ?_
  refine .cond rfl (λh3=>?_) λh3=>?_
  have M:dD s (bj 97 a) (bj 114 r)≠0:=by simpa using h3
  refine .sr<|.mo rfl<|.ag rfl<|.ag rfl<|.az rfl ?_
  refine .ret (aI (aN _ (.three (.tmp rfl) (.tmp rfl) (.tmp rfl)) rH ?_))
  ·first
      |(have e:bN s id j d g f a r rev=(e0,e0,ew s id j a r,s):=by unfold bN;rw[afs n]
        rw[e];exact⟨rfl,Z⟩)
      |(have e:bN s id j d g f a r rev=(e0,e0,18,{s with V:=s.V.filter λx=> !(x.2.family==c.family)}):=by unfold bN;rw[afr (by simp[n]),F]
        rw[e]
        exact⟨rfl,B,v,Q,a9,D,C,S,a7,rs,ns,gs,_,rfl,hr,hn,hg,b0,m.dr (λb o l=>l) (m.bt.filter λu=> !(u.family==c.family)) λp hp=>m.tr p (afx.1 hp).1⟩)
      |(have e:bN s id j d g f a r rev=(e0,e0,dD s (bj 97 a) (bj 114 r),s):=by
           unfold bN;rw[afr (by simp[n]),F];simp only;rw[afs M]
        rw[e];exact⟨rfl,Z⟩)
      |(have e:bN s id j d g f a r rev=(e0,e0,18,{s with A:=(bh s.A d id g f s.now).2.2}):=by
           unfold bN;rw[afr (by simp[n]),F];simp only;rw[afr (by simp[M]),afs Y]
        rw[e];exact⟨rfl,a6⟩)
      |(have e:bN s id j d g f a r rev=(bj 97 a,bj 114 r,0,{s with A:=(bh s.A d id g f s.now).2.2,V:=gI s.V s.last s.now (bj 97 a) (bj 114 r) ⟨e0,0,id,(bh s.A d id g f s.now).1.user,(bh s.A d id g f s.now).1.scopes,(bh s.A d id g f s.now).1.family,0,rev,false⟩}):=by
           unfold bN;rw[afr (by simp[n]),F];simp only;rw[afr (by simp[M]),afr (by simp[Y])]
        rw[e];exact⟨rfl,a8⟩)
  have M:dD s (bj 97 a) (bj 114 r)=0:=by simpa using h3
  refine .kn<|.seq ?_
  refine bO.lX [(0,_),(1,_),(8,_),(23,_),(24,_)] kE.c.c.c.c.c (X:=Value×Value×ax×List GP×Nat) (λy=>dl RD (y.1,(bh s.A d id g f s.now).1)/\OS 121 9 bM y.2.1 y.2.2.2.1 y.2.2.1/\eX (bh s.A d id g f s.now).2.2 y.2.2.2.1/\(∀p∈y.2.2.2.1,dl RD p)/\y.2.2.2.1.length<=gs.length) (λy E=>(25,.pointer (some ⟨y.2.2.2.2,0,none⟩))::(26,.int .i64 (bh s.A d id g f s.now).2.1)::E) (λy=>[[(y.2.2.2.2,.cells (bM (y.1,(bh s.A d id g f s.now).1)).toArray 121 (0,0))],bl xb [B,v,y.2.1,G,.int .i64 s.last,.int .i64 s.now] 44,D,C,y.2.2.1,O]) ?_ ?_
  refine .cP [11,16] mixed ?_
  refine .tO 0 rfl .move<|.tO 1 rfl (.nilCheck rfl)<|.tO 2 rfl (.fieldAddr rfl)<|.tO 3 rfl .move<|.tO 4 rfl .move<|.tO 5 rfl .move<|.tO 6 rfl .move<|.tO 7 rfl .move<|.tO 8 rfl (.nilCheck rfl)<|.tO 9 rfl (.fieldAddr rfl)<|.tO 10 rfl (.bK rfl) ?_
  refine RA.mu 11 15 rfl rfl (by kernel_rfl) rfl ?_ ?_
  first
    |refine aF.sub (H':=[(xb,.cells [B,v,Q,G,.int .i64 s.last,.int .i64 s.now].toArray 44 (0,0))::S,D,C,O]) ((aH [0,2,0,0,0]).trans (aU.bu (afu rfl))) ?_
    |refine aF.sub (H':=[(xb,.cells [B,v,Q,G,.int .i64 s.last,.int .i64 s.now].toArray 44 (0,0))::S,bl K (bM gz) 121,D,C,O]) ((aH [1,3,0,0,0,0]).trans (aU.bu (afu rfl))) ?_
  refine .bT (nP xb B v G s.last s.now gs _ ⟨Q,S,rfl,hg,by omega⟩ s.A m.bg d id g f s.now hv R m.gr) (λu b3 I=>?_)
  obtain⟨w,a5,rfl,L,⟨N,J,rfl,W,b5⟩,U,a3,a0⟩:=I
  have b2:bG (bM (w,(bh s.A d id g f s.now).1)):=⟨L.bD⟩
  refine .nil (Next.mod rfl ?_)
  refine .tK 12 rfl .move<|.tK 13 rfl .extract<|.tK 14 rfl .extract ?_
  refine .sT 15 rfl ?_
  refine .cG (λK=>?_)
  refine .nil (Next.mod rfl ?_)
  refine .sT 16 rfl ?_
  refine .cc rfl rfl ?_
  refine .nil (Next.mod rfl ?_)
  refine .tK 17 rfl .assign ?_
  refine RA.nil (by kernel_rfl) ?_
  ·first
      |exact aA (w,N,J,a5,K) ⟨L,W,U,a3,a0⟩ kE.c.c.c.c.c.c.c ((aU.bu (H':=[bl K (bM (w,(bh s.A d id g f s.now).1)) 121,bl xb [B,v,N,G,.int .i64 s.last,.int .i64 s.now] 44,J,D,C,O]) (afu rfl)).trans (aH [0,0,1,1,0,0]))
      |exact aA (w,N,J,a5,K) ⟨L,W,U,a3,a0⟩ kE.c.c.c.c.c.c.c ((aU.bu (H':=[bl xb [B,v,N,G,.int .i64 s.last,.int .i64 s.now] 44,J,bl K (bM (w,(bh s.A d id g f s.now).1)) 121,D,C,O]) (afu rfl)).trans (aH [2,0,1,1,0,0]))
  refine .cG (λK=>?_)
  refine .nil (Next.sub ?_)
  refine .sT 11 rfl ?_
  first
    |refine aF.sub (H':=[(xb,.cells [B,v,Q,G,.int .i64 s.last,.int .i64 s.now].toArray 44 (0,0))::S,D,C,O]) ((aH [0,2,0,0,0]).trans (aU.bu (afu rfl))) ?_
    |refine aF.sub (H':=[(xb,.cells [B,v,Q,G,.int .i64 s.last,.int .i64 s.now].toArray 44 (0,0))::S,bl K (bM gz) 121,D,C,O]) ((aH [1,3,0,0,0,0]).trans (aU.bu (afu rfl))) ?_
  refine .bT (nP xb B v G s.last s.now gs _ ⟨Q,S,rfl,hg,by omega⟩ s.A m.bg d id g f s.now hv R m.gr) (λu b3 I=>?_)
  obtain⟨w,a5,rfl,L,⟨N,J,rfl,W,b5⟩,U,a3,a0⟩:=I
  have b2:bG (bM (w,(bh s.A d id g f s.now).1)):=⟨L.bD⟩
  refine .nil (Next.mod rfl ?_)
  refine .tK 12 rfl .move<|.tK 13 rfl .extract<|.tK 14 rfl .extract ?_
  refine .sT 16 rfl ?_
  refine .cc rfl rfl ?_
  refine .nil (Next.mod rfl ?_)
  refine .tK 17 rfl .assign ?_
  refine RA.nil (by kernel_rfl) ?_
  ·first
      |exact aA (w,N,J,a5,K) ⟨L,W,U,a3,a0⟩ kE.c.c.c.c.c.c.c ((aU.bu (H':=[bl K (bM (w,(bh s.A d id g f s.now).1)) 121,bl xb [B,v,N,G,.int .i64 s.last,.int .i64 s.now] 44,J,D,C,O]) (afu rfl)).trans (aH [0,0,1,1,0,0]))
      |exact aA (w,N,J,a5,K) ⟨L,W,U,a3,a0⟩ kE.c.c.c.c.c.c.c ((aU.bu (H':=[bl xb [B,v,N,G,.int .i64 s.last,.int .i64 s.now] 44,J,bl K (bM (w,(bh s.A d id g f s.now).1)) 121,D,C,O]) (afu rfl)).trans (aH [2,0,1,1,0,0]))
  intro y hy
  obtain⟨w,N,J,a5,K⟩:=y
  obtain⟨L,W,U,a3,a0⟩:=hy
  simp only at L W U a3 a0⊢
  have b2:bG (bM (w,(bh s.A d id g f s.now).1)):=⟨L.bD⟩
  have b7:One w:=RS.av L
  have i7:=W.av
  have a6:DS RD xb {s with A:=(bh s.A d id g f s.now).2.2} [bl xb [B,v,N,G,.int .i64 s.last,.int .i64 s.now] 44,D,C,J,O]:=⟨B,v,N,G,D,C,J,O,rs,ns,a5,ts,rfl,hr,hn,W,ht,m.gP (λb o l=>l) U a3⟩
  have b4:OB {s with A:=(bh s.A d id g f s.now).2.2} k:=l.less (by rw[U.len,m.bg.len];exact a0) (afE _) (afG _) l.cs
  refine aD<|.seq<|.sr<|.mo rfl<|.q .dF<|.zn ?_
  refine .cond rfl (λh4=>?_) λh4=>?_
  have Y:(bh s.A d id g f s.now).2.1≠0:=by simpa using h4
  refine .sr<|.ag rfl<|.ag rfl<|.az rfl ?_
  refine .ret (aI (aN _ (.three (.tmp rfl) (.tmp rfl) (.tmp rfl)) (aH [1,1,1,1,1]) ?_))
  ·first
      |(have e:bN s id j d g f a r rev=(e0,e0,ew s id j a r,s):=by unfold bN;rw[afs n]
        rw[e];exact⟨rfl,Z⟩)
      |(have e:bN s id j d g f a r rev=(e0,e0,18,{s with V:=s.V.filter λx=> !(x.2.family==c.family)}):=by unfold bN;rw[afr (by simp[n]),F]
        rw[e]
        exact⟨rfl,B,v,Q,a9,D,C,S,a7,rs,ns,gs,_,rfl,hr,hn,hg,b0,m.dr (λb o l=>l) (m.bt.filter λu=> !(u.family==c.family)) λp hp=>m.tr p (afx.1 hp).1⟩)
      |(have e:bN s id j d g f a r rev=(e0,e0,dD s (bj 97 a) (bj 114 r),s):=by
           unfold bN;rw[afr (by simp[n]),F];simp only;rw[afs M]
        rw[e];exact⟨rfl,Z⟩)
      |(have e:bN s id j d g f a r rev=(e0,e0,18,{s with A:=(bh s.A d id g f s.now).2.2}):=by
           unfold bN;rw[afr (by simp[n]),F];simp only;rw[afr (by simp[M]),afs Y]
        rw[e];exact⟨rfl,a6⟩)
      |(have e:bN s id j d g f a r rev=(bj 97 a,bj 114 r,0,{s with A:=(bh s.A d id g f s.now).2.2,V:=gI s.V s.last s.now (bj 97 a) (bj 114 r) ⟨e0,0,id,(bh s.A d id g f s.now).1.user,(bh s.A d id g f s.now).1.scopes,(bh s.A d id g f s.now).1.family,0,rev,false⟩}):=by
           unfold bN;rw[afr (by simp[n]),F];simp only;rw[afr (by simp[M]),afr (by simp[Y])]
        rw[e];exact⟨rfl,a8⟩)
  have Y:(bh s.A d id g f s.now).2.1=0:=by simpa using h4
  refine .kn<|.sr<|.mo rfl<|.mo rfl<|.mo rfl<|.mo rfl<|.fa rfl<|.lo rfl<|.fa rfl<|.lo rfl<|.fa rfl<|.lo rfl<|.mo rfl ?_
  refine .q (.du (out:=bA (w,⟨e0,0,id,(bh s.A d id g f s.now).1.user,(bh s.A d id g f s.now).1.scopes,(bh s.A d id g f s.now).1.family,0,rev,false⟩)) rfl (qi b7.h)) ?_
  refine .call [1,1,1,1,1] (qx a6 b4 hk (bj 97 a) (bj 114 r) w ⟨e0,0,id,(bh s.A d id g f s.now).1.user,(bh s.A d id g f s.now).1.scopes,(bh s.A d id g f s.now).1.family,0,rev,false⟩ L _) (λu H' I=>?_)
  obtain⟨rfl,b1⟩:=I
  have a8:=b1
  obtain⟨ur,un,ug,uv,Ur,Un,Ug,Uv,c0,c1,c2,c3,rfl,_,_,_,_,_⟩:=b1
  conv=>arg 8;simp only[rest,aY,afv,afw]
  refine .z<|.mo rfl<|.mo rfl<|.ag rfl<|.ag rfl<|.az rfl ?_
  refine .ret (aN _ (.three (.tmp rfl) (.tmp rfl) (.tmp rfl)) (aH [0,0,0,0,0]) ?_)
  ·first
      |(have e:bN s id j d g f a r rev=(e0,e0,ew s id j a r,s):=by unfold bN;rw[afs n]
        rw[e];exact⟨rfl,Z⟩)
      |(have e:bN s id j d g f a r rev=(e0,e0,18,{s with V:=s.V.filter λx=> !(x.2.family==c.family)}):=by unfold bN;rw[afr (by simp[n]),F]
        rw[e]
        exact⟨rfl,B,v,Q,a9,D,C,S,a7,rs,ns,gs,_,rfl,hr,hn,hg,b0,m.dr (λb o l=>l) (m.bt.filter λu=> !(u.family==c.family)) λp hp=>m.tr p (afx.1 hp).1⟩)
      |(have e:bN s id j d g f a r rev=(e0,e0,dD s (bj 97 a) (bj 114 r),s):=by
           unfold bN;rw[afr (by simp[n]),F];simp only;rw[afs M]
        rw[e];exact⟨rfl,Z⟩)
      |(have e:bN s id j d g f a r rev=(e0,e0,18,{s with A:=(bh s.A d id g f s.now).2.2}):=by
           unfold bN;rw[afr (by simp[n]),F];simp only;rw[afr (by simp[M]),afs Y]
        rw[e];exact⟨rfl,a6⟩)
      |(have e:bN s id j d g f a r rev=(bj 97 a,bj 114 r,0,{s with A:=(bh s.A d id g f s.now).2.2,V:=gI s.V s.last s.now (bj 97 a) (bj 114 r) ⟨e0,0,id,(bh s.A d id g f s.now).1.user,(bh s.A d id g f s.now).1.scopes,(bh s.A d id g f s.now).1.family,0,rev,false⟩}):=by
           unfold bN;rw[afr (by simp[n]),F];simp only;rw[afr (by simp[M]),afr (by simp[Y])]
        rw[e];exact⟨rfl,a8⟩)
end
theorem yg{l:List ByteArray}(h:l.length<=99)(a:∀t∈l,t.size<=99):texts l 99 99=l:=by
 unfold texts
 rw[afH h]
 refine(List.map_congr_left λt b=>?_).trans (List.map_id l)
 unfold short
 have:=a t b
 rw[afr (by omega)]
 rfl
theorem l8{A:List (ByteArray×bJ)}{t:bJ}(h:(dp A t).1≠0):(dp A t).2=A:=by
 unfold dp at h⊢
 split
 ·rfl
 ·rename_i a
  rw[afr a]at h
  split
  ·rfl
  ·rename_i b
   rw[afr b]at h
   exact absurd rfl h
theorem JX{a b c d f:ByteArray}{g:List ByteArray}{e z:Int}{v:Value}(h:av v=true):gp [(0,1),(1,1),(2,1),(3,1),(4,1),(5,1),(6,1),(7,1),(8,1)] [.string ⟨#[]⟩,.string ⟨#[]⟩,.string ⟨#[]⟩,.string ⟨#[]⟩,sZ,.string ⟨#[]⟩,.int .i64 0,.int .i64 0,.bool false] [(0,.string a),(1,.string b),(2,.string c),(3,.string d),(4,v),(5,.string f),(6,.int .i64 e),(7,.int .i64 z)]=some (bM (v,⟨a,b,c,d,g,f,e,z,false⟩)):=by
 cases v<;>first|rfl|cases h
section
variable{RD R:au}{xb k:Nat}{s:cm}{H:aV}
theorem LU(h:DS RD xb s H)(a:OB s k)(hk:k<=60)(user id j:ByteArray)(hu:user.size<=9223372036854775807)(vs:Value)(g:List ByteArray)(a6:RS RD 1 bz vs g)(c6:g.length<=6)(b3:∀t∈g,t.size<=99)(i:ByteArray)(b2:∀R,Spec prog 103 [.string i] R [] λu H'=>u=.bool (lI i)/\H'=[])(va:Value)(d:List UInt8)(b9:d.length<=1000)(R:au)(ha:RS R 1 cK va d)(a4:∀b o,RD b o->R b o):
    Spec prog 35 [pT xb,.string user,.string id,.string j,vs,.string i,va] R H λu H'=>u=.tuple [.string (bo s user id j g i d).1,.int .i64 (bo s user id j g i d).2.1].toArray/\∃Hs Td,H'=Hs++[Td]/\DS (λb o=>RD b o\/sg Td b o) xb (bo s user id j g i d).2.2 Hs:=by
  have n:=h
  obtain⟨B,x,vg,D,J,L,Tg,N,T,ns,gs,ts,rfl,Q,Z,hg,ht,G⟩:=h
  obtain⟨l1,l2,l3,l4⟩:=G.len a hk
  have c4:=a.n0
  have c5:=a.n1
  have c2:=a.l0
  have c3:=a.l1
  have i1:=Q.av
  have i2:=Z.av
  have i3:=hg.av
  have i4:=ht.av
  have i5:=ha.av
  have c8:=a6.av
  have c0:=mC d
  have b4:=yg (l:=g) (by omega) b3
  obtain⟨C,W⟩:∃C,C=jh s user id j g i d:=⟨_,rfl⟩
  refine Spec.cX (H':=[bl xb [B,x,vg,D,.int .i64 s.last,.int .i64 s.now] 44,J,L,Tg,N,[]]) (by simp) ?_
  refine Spec.body func35 rfl results35 ntmps35 rfl ?_
  refine .sr<|.ag rfl<|.ag rfl<|.zs<|.sr<|.mo rfl<|.q (.di ha) ?_
  refine .q .dF<|.zn ?_
  refine .cond rfl (λh1=>?_) λh1=>?_
  have m:d.length≠24:=by
    have a1:¬((d.length:Nat):Int)=24:=by simpa using h1
    omega
  refine .sr<|.ag rfl<|.az rfl ?_
  refine .ret (aI (aN _ (.two (.tmp rfl) (.tmp rfl)) rH ?_))
  ·first
      |(have e:bo s user id j g i d=(e0,2,s):=by unfold bo;rw[afs m]
        rw[e];exact⟨rfl,[_,_,_,_,_],[],rfl,n.mono λb o a=>.inl a⟩)
      |(have f:bV s user id j g i=17:=by unfold bV;rw[afs r]
        have e:bo s user id j g i d=(e0,17,s):=by unfold bo;rw[afr (by simp[m]),afs (by rw[f];decide),f]
        rw[e];exact⟨rfl,[_,_,_,_,_],[],rfl,n.mono λb o a=>.inl a⟩)
      |(have f:bV s user id j g i=21:=by unfold bV;rw[afr (by simp[r]),afs v]
        have e:bo s user id j g i d=(e0,21,s):=by unfold bo;rw[afr (by simp[m]),afs (by rw[f];decide),f]
        rw[e];exact⟨rfl,[_,_,_,_,_],[],rfl,n.mono λb o a=>.inl a⟩)
      |(have f:bV s user id j g i=19:=by unfold bV;rw[afr (by simp[r]),afr (by simp[v]),afs w]
        have e:bo s user id j g i d=(e0,19,s):=by unfold bo;rw[afr (by simp[m]),afs (by rw[f];decide),f]
        rw[e];exact⟨rfl,[_,_,_,_,_],[],rfl,n.mono λb o a=>.inl a⟩)
      |(have f:bV s user id j g i=21:=by unfold bV;rw[afr (by simp[r]),afr (by simp[v]),afr (by simp[w]),afs I]
        have e:bo s user id j g i d=(e0,21,s):=by unfold bo;rw[afr (by simp[m]),afs (by rw[f];decide),f]
        rw[e];exact⟨rfl,[_,_,_,_,_],[],rfl,n.mono λb o a=>.inl a⟩)
      |(have f:bV s user id j g i=9:=by unfold bV;rw[afr (by simp[r]),afr (by simp[v]),afr (by simp[w]),afr (by simp[I]),afs Y]
        have e:bo s user id j g i d=(e0,9,s):=by unfold bo;rw[afr (by simp[m]),afs (by rw[f];decide),f]
        rw[e];exact⟨rfl,[_,_,_,_,_],[],rfl,n.mono λb o a=>.inl a⟩)
      |(have f:bV s user id j g i=20:=by unfold bV;rw[afr (by simp[r]),afr (by simp[v]),afr (by simp[w]),afr (by simp[I]),afr (by simp[Y]),afs a3]
        have e:bo s user id j g i d=(e0,20,s):=by unfold bo;rw[afr (by simp[m]),afs (by rw[f];decide),f]
        rw[e];exact⟨rfl,[_,_,_,_,_],[],rfl,n.mono λb o a=>.inl a⟩)
      |(have e:bo s user id j g i d=(e0,(dp s.A C).1,s):=by unfold bo;rw[afr (by simp[m]),afr (by simp[a2]), <-W,afs K]
        rw[e]
        rw[l8 K]at F
        exact⟨rfl,[_,_,_,_,_],M,rfl,B,x,U,D,J,L,S,N,T,ns,V,ts,rfl,Q,Z,O,ht,G.gP (last:=s.last) (λb o a=>.inl a) F a0⟩)
      |(have e:bo s user id j g i d=(bj 99 d,0,{s with A:=(dp s.A C).2,last:=s.last+1}):=by unfold bo;rw[afr (by simp[m]),afr (by simp[a2]), <-W,afr (by simp[K])]
        rw[e]
        exact⟨rfl,[_,_,_,_,_],M,rfl,B,x,U,D,J,L,S,N,T,ns,V,ts,rfl,Q,Z,O,ht,G.gP (λb o a=>.inl a) F a0⟩)
  have m:d.length=24:=by
    have a1:((d.length:Nat):Int)=24:=by simpa using h1
    omega
  refine .kn<|.seq<|.sr<|.mo rfl<|.nc rfl<|.fa rfl<|.mo rfl ?_
  refine .aL (m8 xb x vg D s.last s.now T ((xb,.cells [B,x,vg,D,.int .i64 s.last,.int .i64 s.now].toArray 44 (0,0))::J) ⟨B,J,rfl,Q,l1⟩ id _ (G.cr.mono λb o a=>.inl (a4 b o a)) (λp hp=>.inr (by
    rcases afF.1 hp with rfl|hp
    ·simp
    ·simp[hp]))) (λu hu=>?_)
  obtain⟨z,rfl,hz⟩:=hu
  have a9:=G.find hz
  refine .q .lss<|.zn ?_
  refine .cond rfl (λh2=>?_) λh2=>?_
  have r:(cu id s.cs).isSome=false:=by rw[a9];have h9:=bq h2;simp;omega
  refine .sr<|.ag rfl<|.az rfl ?_
  refine .ret (aI (aN _ (.two (.tmp rfl) (.tmp rfl)) rH ?_))
  ·first
      |(have e:bo s user id j g i d=(e0,2,s):=by unfold bo;rw[afs m]
        rw[e];exact⟨rfl,[_,_,_,_,_],[],rfl,n.mono λb o a=>.inl a⟩)
      |(have f:bV s user id j g i=17:=by unfold bV;rw[afs r]
        have e:bo s user id j g i d=(e0,17,s):=by unfold bo;rw[afr (by simp[m]),afs (by rw[f];decide),f]
        rw[e];exact⟨rfl,[_,_,_,_,_],[],rfl,n.mono λb o a=>.inl a⟩)
      |(have f:bV s user id j g i=21:=by unfold bV;rw[afr (by simp[r]),afs v]
        have e:bo s user id j g i d=(e0,21,s):=by unfold bo;rw[afr (by simp[m]),afs (by rw[f];decide),f]
        rw[e];exact⟨rfl,[_,_,_,_,_],[],rfl,n.mono λb o a=>.inl a⟩)
      |(have f:bV s user id j g i=19:=by unfold bV;rw[afr (by simp[r]),afr (by simp[v]),afs w]
        have e:bo s user id j g i d=(e0,19,s):=by unfold bo;rw[afr (by simp[m]),afs (by rw[f];decide),f]
        rw[e];exact⟨rfl,[_,_,_,_,_],[],rfl,n.mono λb o a=>.inl a⟩)
      |(have f:bV s user id j g i=21:=by unfold bV;rw[afr (by simp[r]),afr (by simp[v]),afr (by simp[w]),afs I]
        have e:bo s user id j g i d=(e0,21,s):=by unfold bo;rw[afr (by simp[m]),afs (by rw[f];decide),f]
        rw[e];exact⟨rfl,[_,_,_,_,_],[],rfl,n.mono λb o a=>.inl a⟩)
      |(have f:bV s user id j g i=9:=by unfold bV;rw[afr (by simp[r]),afr (by simp[v]),afr (by simp[w]),afr (by simp[I]),afs Y]
        have e:bo s user id j g i d=(e0,9,s):=by unfold bo;rw[afr (by simp[m]),afs (by rw[f];decide),f]
        rw[e];exact⟨rfl,[_,_,_,_,_],[],rfl,n.mono λb o a=>.inl a⟩)
      |(have f:bV s user id j g i=20:=by unfold bV;rw[afr (by simp[r]),afr (by simp[v]),afr (by simp[w]),afr (by simp[I]),afr (by simp[Y]),afs a3]
        have e:bo s user id j g i d=(e0,20,s):=by unfold bo;rw[afr (by simp[m]),afs (by rw[f];decide),f]
        rw[e];exact⟨rfl,[_,_,_,_,_],[],rfl,n.mono λb o a=>.inl a⟩)
      |(have e:bo s user id j g i d=(e0,(dp s.A C).1,s):=by unfold bo;rw[afr (by simp[m]),afr (by simp[a2]), <-W,afs K]
        rw[e]
        rw[l8 K]at F
        exact⟨rfl,[_,_,_,_,_],M,rfl,B,x,U,D,J,L,S,N,T,ns,V,ts,rfl,Q,Z,O,ht,G.gP (last:=s.last) (λb o a=>.inl a) F a0⟩)
      |(have e:bo s user id j g i d=(bj 99 d,0,{s with A:=(dp s.A C).2,last:=s.last+1}):=by unfold bo;rw[afr (by simp[m]),afr (by simp[a2]), <-W,afr (by simp[K])]
        rw[e]
        exact⟨rfl,[_,_,_,_,_],M,rfl,B,x,U,D,J,L,S,N,T,ns,V,ts,rfl,Q,Z,O,ht,G.gP (λb o a=>.inl a) F a0⟩)
  have r:(cu id s.cs).isSome=true:=by rw[a9];have h9:=bi h2;simp;omega
  refine .kn<|.seq<|.sr<|.mo rfl<|.nc rfl<|.fa rfl<|.mo rfl<|.mo rfl ?_
  refine .aL (LX xb x vg D s.last s.now T ((xb,.cells [B,x,vg,D,.int .i64 s.last,.int .i64 s.now].toArray 44 (0,0))::J) ⟨B,J,rfl,Q,l1⟩ id j _ (G.cr.mono λb o a=>.inl (a4 b o a)) (λp hp=>.inr (by
    rcases afF.1 hp with rfl|hp
    ·simp
    ·simp[hp]))) (λu hu=>?_)
  subst hu
  rw[<-z3 G]
  refine .q .not<|.zn ?_
  refine .cond rfl (λh3=>?_) λh3=>?_
  have v:kj id j s.cs=false:=by simpa using h3
  refine .sr<|.ag rfl<|.az rfl ?_
  refine .ret (aI (aN _ (.two (.tmp rfl) (.tmp rfl)) rH ?_))
  ·first
      |(have e:bo s user id j g i d=(e0,2,s):=by unfold bo;rw[afs m]
        rw[e];exact⟨rfl,[_,_,_,_,_],[],rfl,n.mono λb o a=>.inl a⟩)
      |(have f:bV s user id j g i=17:=by unfold bV;rw[afs r]
        have e:bo s user id j g i d=(e0,17,s):=by unfold bo;rw[afr (by simp[m]),afs (by rw[f];decide),f]
        rw[e];exact⟨rfl,[_,_,_,_,_],[],rfl,n.mono λb o a=>.inl a⟩)
      |(have f:bV s user id j g i=21:=by unfold bV;rw[afr (by simp[r]),afs v]
        have e:bo s user id j g i d=(e0,21,s):=by unfold bo;rw[afr (by simp[m]),afs (by rw[f];decide),f]
        rw[e];exact⟨rfl,[_,_,_,_,_],[],rfl,n.mono λb o a=>.inl a⟩)
      |(have f:bV s user id j g i=19:=by unfold bV;rw[afr (by simp[r]),afr (by simp[v]),afs w]
        have e:bo s user id j g i d=(e0,19,s):=by unfold bo;rw[afr (by simp[m]),afs (by rw[f];decide),f]
        rw[e];exact⟨rfl,[_,_,_,_,_],[],rfl,n.mono λb o a=>.inl a⟩)
      |(have f:bV s user id j g i=21:=by unfold bV;rw[afr (by simp[r]),afr (by simp[v]),afr (by simp[w]),afs I]
        have e:bo s user id j g i d=(e0,21,s):=by unfold bo;rw[afr (by simp[m]),afs (by rw[f];decide),f]
        rw[e];exact⟨rfl,[_,_,_,_,_],[],rfl,n.mono λb o a=>.inl a⟩)
      |(have f:bV s user id j g i=9:=by unfold bV;rw[afr (by simp[r]),afr (by simp[v]),afr (by simp[w]),afr (by simp[I]),afs Y]
        have e:bo s user id j g i d=(e0,9,s):=by unfold bo;rw[afr (by simp[m]),afs (by rw[f];decide),f]
        rw[e];exact⟨rfl,[_,_,_,_,_],[],rfl,n.mono λb o a=>.inl a⟩)
      |(have f:bV s user id j g i=20:=by unfold bV;rw[afr (by simp[r]),afr (by simp[v]),afr (by simp[w]),afr (by simp[I]),afr (by simp[Y]),afs a3]
        have e:bo s user id j g i d=(e0,20,s):=by unfold bo;rw[afr (by simp[m]),afs (by rw[f];decide),f]
        rw[e];exact⟨rfl,[_,_,_,_,_],[],rfl,n.mono λb o a=>.inl a⟩)
      |(have e:bo s user id j g i d=(e0,(dp s.A C).1,s):=by unfold bo;rw[afr (by simp[m]),afr (by simp[a2]), <-W,afs K]
        rw[e]
        rw[l8 K]at F
        exact⟨rfl,[_,_,_,_,_],M,rfl,B,x,U,D,J,L,S,N,T,ns,V,ts,rfl,Q,Z,O,ht,G.gP (last:=s.last) (λb o a=>.inl a) F a0⟩)
      |(have e:bo s user id j g i d=(bj 99 d,0,{s with A:=(dp s.A C).2,last:=s.last+1}):=by unfold bo;rw[afr (by simp[m]),afr (by simp[a2]), <-W,afr (by simp[K])]
        rw[e]
        exact⟨rfl,[_,_,_,_,_],M,rfl,B,x,U,D,J,L,S,N,T,ns,V,ts,rfl,Q,Z,O,ht,G.gP (λb o a=>.inl a) F a0⟩)
  have v:kj id j s.cs=true:=by simpa using h3
  refine .kn<|.seq<|.sr<|.mo rfl<|.nc rfl<|.fa rfl<|.mo rfl<|.mo rfl ?_
  refine .aL (xi xb x vg D s.last s.now T ((xb,.cells [B,x,vg,D,.int .i64 s.last,.int .i64 s.now].toArray 44 (0,0))::J) ⟨B,J,rfl,Q,l1⟩ id vs g _ (G.cr.mono λb o a=>.inl (a4 b o a)) (λp hp=>.inr (by
    rcases afF.1 hp with rfl|hp
    ·simp
    ·simp[hp])) (a6.mono λb o a=>.inl (a4 b o a))) (λu hu=>?_)
  subst hu
  rw[<-tW G]
  refine .q .not<|.zn ?_
  refine .cond rfl (λh4=>?_) λh4=>?_
  have w:eG id g s.cs=false:=by simpa using h4
  refine .sr<|.ag rfl<|.az rfl ?_
  refine .ret (aI (aN _ (.two (.tmp rfl) (.tmp rfl)) rH ?_))
  ·first
      |(have e:bo s user id j g i d=(e0,2,s):=by unfold bo;rw[afs m]
        rw[e];exact⟨rfl,[_,_,_,_,_],[],rfl,n.mono λb o a=>.inl a⟩)
      |(have f:bV s user id j g i=17:=by unfold bV;rw[afs r]
        have e:bo s user id j g i d=(e0,17,s):=by unfold bo;rw[afr (by simp[m]),afs (by rw[f];decide),f]
        rw[e];exact⟨rfl,[_,_,_,_,_],[],rfl,n.mono λb o a=>.inl a⟩)
      |(have f:bV s user id j g i=21:=by unfold bV;rw[afr (by simp[r]),afs v]
        have e:bo s user id j g i d=(e0,21,s):=by unfold bo;rw[afr (by simp[m]),afs (by rw[f];decide),f]
        rw[e];exact⟨rfl,[_,_,_,_,_],[],rfl,n.mono λb o a=>.inl a⟩)
      |(have f:bV s user id j g i=19:=by unfold bV;rw[afr (by simp[r]),afr (by simp[v]),afs w]
        have e:bo s user id j g i d=(e0,19,s):=by unfold bo;rw[afr (by simp[m]),afs (by rw[f];decide),f]
        rw[e];exact⟨rfl,[_,_,_,_,_],[],rfl,n.mono λb o a=>.inl a⟩)
      |(have f:bV s user id j g i=21:=by unfold bV;rw[afr (by simp[r]),afr (by simp[v]),afr (by simp[w]),afs I]
        have e:bo s user id j g i d=(e0,21,s):=by unfold bo;rw[afr (by simp[m]),afs (by rw[f];decide),f]
        rw[e];exact⟨rfl,[_,_,_,_,_],[],rfl,n.mono λb o a=>.inl a⟩)
      |(have f:bV s user id j g i=9:=by unfold bV;rw[afr (by simp[r]),afr (by simp[v]),afr (by simp[w]),afr (by simp[I]),afs Y]
        have e:bo s user id j g i d=(e0,9,s):=by unfold bo;rw[afr (by simp[m]),afs (by rw[f];decide),f]
        rw[e];exact⟨rfl,[_,_,_,_,_],[],rfl,n.mono λb o a=>.inl a⟩)
      |(have f:bV s user id j g i=20:=by unfold bV;rw[afr (by simp[r]),afr (by simp[v]),afr (by simp[w]),afr (by simp[I]),afr (by simp[Y]),afs a3]
        have e:bo s user id j g i d=(e0,20,s):=by unfold bo;rw[afr (by simp[m]),afs (by rw[f];decide),f]
        rw[e];exact⟨rfl,[_,_,_,_,_],[],rfl,n.mono λb o a=>.inl a⟩)
      |(have e:bo s user id j g i d=(e0,(dp s.A C).1,s):=by unfold bo;rw[afr (by simp[m]),afr (by simp[a2]), <-W,afs K]
        rw[e]
        rw[l8 K]at F
        exact⟨rfl,[_,_,_,_,_],M,rfl,B,x,U,D,J,L,S,N,T,ns,V,ts,rfl,Q,Z,O,ht,G.gP (last:=s.last) (λb o a=>.inl a) F a0⟩)
      |(have e:bo s user id j g i d=(bj 99 d,0,{s with A:=(dp s.A C).2,last:=s.last+1}):=by unfold bo;rw[afr (by simp[m]),afr (by simp[a2]), <-W,afr (by simp[K])]
        rw[e]
        exact⟨rfl,[_,_,_,_,_],M,rfl,B,x,U,D,J,L,S,N,T,ns,V,ts,rfl,Q,Z,O,ht,G.gP (λb o a=>.inl a) F a0⟩)
  have w:eG id g s.cs=true:=by simpa using h4
  refine .kn<|.seq<|.sr<|.mo rfl ?_
  refine .aL (b2 _) (λu hu=>?_)
  subst hu
  refine .q .not<|.zn ?_
  refine .cond rfl (λh5=>?_) λh5=>?_
  have I:lI i=false:=by simpa using h5
  refine .sr<|.ag rfl<|.az rfl ?_
  refine .ret (aI (aN _ (.two (.tmp rfl) (.tmp rfl)) rH ?_))
  ·first
      |(have e:bo s user id j g i d=(e0,2,s):=by unfold bo;rw[afs m]
        rw[e];exact⟨rfl,[_,_,_,_,_],[],rfl,n.mono λb o a=>.inl a⟩)
      |(have f:bV s user id j g i=17:=by unfold bV;rw[afs r]
        have e:bo s user id j g i d=(e0,17,s):=by unfold bo;rw[afr (by simp[m]),afs (by rw[f];decide),f]
        rw[e];exact⟨rfl,[_,_,_,_,_],[],rfl,n.mono λb o a=>.inl a⟩)
      |(have f:bV s user id j g i=21:=by unfold bV;rw[afr (by simp[r]),afs v]
        have e:bo s user id j g i d=(e0,21,s):=by unfold bo;rw[afr (by simp[m]),afs (by rw[f];decide),f]
        rw[e];exact⟨rfl,[_,_,_,_,_],[],rfl,n.mono λb o a=>.inl a⟩)
      |(have f:bV s user id j g i=19:=by unfold bV;rw[afr (by simp[r]),afr (by simp[v]),afs w]
        have e:bo s user id j g i d=(e0,19,s):=by unfold bo;rw[afr (by simp[m]),afs (by rw[f];decide),f]
        rw[e];exact⟨rfl,[_,_,_,_,_],[],rfl,n.mono λb o a=>.inl a⟩)
      |(have f:bV s user id j g i=21:=by unfold bV;rw[afr (by simp[r]),afr (by simp[v]),afr (by simp[w]),afs I]
        have e:bo s user id j g i d=(e0,21,s):=by unfold bo;rw[afr (by simp[m]),afs (by rw[f];decide),f]
        rw[e];exact⟨rfl,[_,_,_,_,_],[],rfl,n.mono λb o a=>.inl a⟩)
      |(have f:bV s user id j g i=9:=by unfold bV;rw[afr (by simp[r]),afr (by simp[v]),afr (by simp[w]),afr (by simp[I]),afs Y]
        have e:bo s user id j g i d=(e0,9,s):=by unfold bo;rw[afr (by simp[m]),afs (by rw[f];decide),f]
        rw[e];exact⟨rfl,[_,_,_,_,_],[],rfl,n.mono λb o a=>.inl a⟩)
      |(have f:bV s user id j g i=20:=by unfold bV;rw[afr (by simp[r]),afr (by simp[v]),afr (by simp[w]),afr (by simp[I]),afr (by simp[Y]),afs a3]
        have e:bo s user id j g i d=(e0,20,s):=by unfold bo;rw[afr (by simp[m]),afs (by rw[f];decide),f]
        rw[e];exact⟨rfl,[_,_,_,_,_],[],rfl,n.mono λb o a=>.inl a⟩)
      |(have e:bo s user id j g i d=(e0,(dp s.A C).1,s):=by unfold bo;rw[afr (by simp[m]),afr (by simp[a2]), <-W,afs K]
        rw[e]
        rw[l8 K]at F
        exact⟨rfl,[_,_,_,_,_],M,rfl,B,x,U,D,J,L,S,N,T,ns,V,ts,rfl,Q,Z,O,ht,G.gP (last:=s.last) (λb o a=>.inl a) F a0⟩)
      |(have e:bo s user id j g i d=(bj 99 d,0,{s with A:=(dp s.A C).2,last:=s.last+1}):=by unfold bo;rw[afr (by simp[m]),afr (by simp[a2]), <-W,afr (by simp[K])]
        rw[e]
        exact⟨rfl,[_,_,_,_,_],M,rfl,B,x,U,D,J,L,S,N,T,ns,V,ts,rfl,Q,Z,O,ht,G.gP (λb o a=>.inl a) F a0⟩)
  have I:lI i=true:=by simpa using h5
  refine .kn<|.seq<|.sr<|.mo rfl ?_
  refine .aL (sA user hu _) (λu hu=>?_)
  subst hu
  refine .q .not<|.zn ?_
  refine .cond rfl (λh6=>?_) λh6=>?_
  have Y:dq user=false:=by simpa using h6
  refine .sr<|.ag rfl<|.az rfl ?_
  refine .ret (aI (aN _ (.two (.tmp rfl) (.tmp rfl)) rH ?_))
  ·first
      |(have e:bo s user id j g i d=(e0,2,s):=by unfold bo;rw[afs m]
        rw[e];exact⟨rfl,[_,_,_,_,_],[],rfl,n.mono λb o a=>.inl a⟩)
      |(have f:bV s user id j g i=17:=by unfold bV;rw[afs r]
        have e:bo s user id j g i d=(e0,17,s):=by unfold bo;rw[afr (by simp[m]),afs (by rw[f];decide),f]
        rw[e];exact⟨rfl,[_,_,_,_,_],[],rfl,n.mono λb o a=>.inl a⟩)
      |(have f:bV s user id j g i=21:=by unfold bV;rw[afr (by simp[r]),afs v]
        have e:bo s user id j g i d=(e0,21,s):=by unfold bo;rw[afr (by simp[m]),afs (by rw[f];decide),f]
        rw[e];exact⟨rfl,[_,_,_,_,_],[],rfl,n.mono λb o a=>.inl a⟩)
      |(have f:bV s user id j g i=19:=by unfold bV;rw[afr (by simp[r]),afr (by simp[v]),afs w]
        have e:bo s user id j g i d=(e0,19,s):=by unfold bo;rw[afr (by simp[m]),afs (by rw[f];decide),f]
        rw[e];exact⟨rfl,[_,_,_,_,_],[],rfl,n.mono λb o a=>.inl a⟩)
      |(have f:bV s user id j g i=21:=by unfold bV;rw[afr (by simp[r]),afr (by simp[v]),afr (by simp[w]),afs I]
        have e:bo s user id j g i d=(e0,21,s):=by unfold bo;rw[afr (by simp[m]),afs (by rw[f];decide),f]
        rw[e];exact⟨rfl,[_,_,_,_,_],[],rfl,n.mono λb o a=>.inl a⟩)
      |(have f:bV s user id j g i=9:=by unfold bV;rw[afr (by simp[r]),afr (by simp[v]),afr (by simp[w]),afr (by simp[I]),afs Y]
        have e:bo s user id j g i d=(e0,9,s):=by unfold bo;rw[afr (by simp[m]),afs (by rw[f];decide),f]
        rw[e];exact⟨rfl,[_,_,_,_,_],[],rfl,n.mono λb o a=>.inl a⟩)
      |(have f:bV s user id j g i=20:=by unfold bV;rw[afr (by simp[r]),afr (by simp[v]),afr (by simp[w]),afr (by simp[I]),afr (by simp[Y]),afs a3]
        have e:bo s user id j g i d=(e0,20,s):=by unfold bo;rw[afr (by simp[m]),afs (by rw[f];decide),f]
        rw[e];exact⟨rfl,[_,_,_,_,_],[],rfl,n.mono λb o a=>.inl a⟩)
      |(have e:bo s user id j g i d=(e0,(dp s.A C).1,s):=by unfold bo;rw[afr (by simp[m]),afr (by simp[a2]), <-W,afs K]
        rw[e]
        rw[l8 K]at F
        exact⟨rfl,[_,_,_,_,_],M,rfl,B,x,U,D,J,L,S,N,T,ns,V,ts,rfl,Q,Z,O,ht,G.gP (last:=s.last) (λb o a=>.inl a) F a0⟩)
      |(have e:bo s user id j g i d=(bj 99 d,0,{s with A:=(dp s.A C).2,last:=s.last+1}):=by unfold bo;rw[afr (by simp[m]),afr (by simp[a2]), <-W,afr (by simp[K])]
        rw[e]
        exact⟨rfl,[_,_,_,_,_],M,rfl,B,x,U,D,J,L,S,N,T,ns,V,ts,rfl,Q,Z,O,ht,G.gP (λb o a=>.inl a) F a0⟩)
  have Y:dq user=true:=by simpa using h6
  refine .kn<|.seq<|.sr<|.mo rfl<|.mo rfl<|.nc rfl<|.fa rfl<|.mo rfl<|.mo rfl ?_
  refine .aL (xp xb B vg D s.last s.now ns ((xb,.cells [B,x,vg,D,.int .i64 s.last,.int .i64 s.now].toArray 44 (0,0))::L) ⟨x,L,rfl,Z,by omega⟩ s.C G.bn user id _ G.nr (λp hp=>.inr (by
    rcases afF.1 hp with rfl|hp
    ·simp
    ·simp[hp]))) (λb6 b0=>?_)
  have c7:=b0.av
  refine .aL (Lj vs b6 g (dB s.C user id) _ (a6.mono λb o a=>.inl (a4 b o a)) (b0.mono λb o a=>.inl (a4 b o a))) (λu hu=>?_)
  subst hu
  refine .q .not<|.zn ?_
  refine .cond rfl (λh7=>?_) λh7=>?_
  have a3:jD g (dB s.C user id)=false:=by simpa using h7
  refine .sr<|.ag rfl<|.az rfl ?_
  refine .ret (aI (aN _ (.two (.tmp rfl) (.tmp rfl)) rH ?_))
  ·first
      |(have e:bo s user id j g i d=(e0,2,s):=by unfold bo;rw[afs m]
        rw[e];exact⟨rfl,[_,_,_,_,_],[],rfl,n.mono λb o a=>.inl a⟩)
      |(have f:bV s user id j g i=17:=by unfold bV;rw[afs r]
        have e:bo s user id j g i d=(e0,17,s):=by unfold bo;rw[afr (by simp[m]),afs (by rw[f];decide),f]
        rw[e];exact⟨rfl,[_,_,_,_,_],[],rfl,n.mono λb o a=>.inl a⟩)
      |(have f:bV s user id j g i=21:=by unfold bV;rw[afr (by simp[r]),afs v]
        have e:bo s user id j g i d=(e0,21,s):=by unfold bo;rw[afr (by simp[m]),afs (by rw[f];decide),f]
        rw[e];exact⟨rfl,[_,_,_,_,_],[],rfl,n.mono λb o a=>.inl a⟩)
      |(have f:bV s user id j g i=19:=by unfold bV;rw[afr (by simp[r]),afr (by simp[v]),afs w]
        have e:bo s user id j g i d=(e0,19,s):=by unfold bo;rw[afr (by simp[m]),afs (by rw[f];decide),f]
        rw[e];exact⟨rfl,[_,_,_,_,_],[],rfl,n.mono λb o a=>.inl a⟩)
      |(have f:bV s user id j g i=21:=by unfold bV;rw[afr (by simp[r]),afr (by simp[v]),afr (by simp[w]),afs I]
        have e:bo s user id j g i d=(e0,21,s):=by unfold bo;rw[afr (by simp[m]),afs (by rw[f];decide),f]
        rw[e];exact⟨rfl,[_,_,_,_,_],[],rfl,n.mono λb o a=>.inl a⟩)
      |(have f:bV s user id j g i=9:=by unfold bV;rw[afr (by simp[r]),afr (by simp[v]),afr (by simp[w]),afr (by simp[I]),afs Y]
        have e:bo s user id j g i d=(e0,9,s):=by unfold bo;rw[afr (by simp[m]),afs (by rw[f];decide),f]
        rw[e];exact⟨rfl,[_,_,_,_,_],[],rfl,n.mono λb o a=>.inl a⟩)
      |(have f:bV s user id j g i=20:=by unfold bV;rw[afr (by simp[r]),afr (by simp[v]),afr (by simp[w]),afr (by simp[I]),afr (by simp[Y]),afs a3]
        have e:bo s user id j g i d=(e0,20,s):=by unfold bo;rw[afr (by simp[m]),afs (by rw[f];decide),f]
        rw[e];exact⟨rfl,[_,_,_,_,_],[],rfl,n.mono λb o a=>.inl a⟩)
      |(have e:bo s user id j g i d=(e0,(dp s.A C).1,s):=by unfold bo;rw[afr (by simp[m]),afr (by simp[a2]), <-W,afs K]
        rw[e]
        rw[l8 K]at F
        exact⟨rfl,[_,_,_,_,_],M,rfl,B,x,U,D,J,L,S,N,T,ns,V,ts,rfl,Q,Z,O,ht,G.gP (last:=s.last) (λb o a=>.inl a) F a0⟩)
      |(have e:bo s user id j g i d=(bj 99 d,0,{s with A:=(dp s.A C).2,last:=s.last+1}):=by unfold bo;rw[afr (by simp[m]),afr (by simp[a2]), <-W,afr (by simp[K])]
        rw[e]
        exact⟨rfl,[_,_,_,_,_],M,rfl,B,x,U,D,J,L,S,N,T,ns,V,ts,rfl,Q,Z,O,ht,G.gP (λb o a=>.inl a) F a0⟩)
  have a3:jD g (dB s.C user id)=true:=by simpa using h7
  have a2:bV s user id j g i=0:=by unfold bV;simp[r,v,w,I,Y,a3]
  refine .kn<|.sr<|.mo rfl ?_
  refine .aL (kO va d _ (ha.mono λb o a=>.inl a) (by omega)) (λu hu=>?_)
  subst hu
  refine .q (.cast (v':=.string (bj 99 d)) (.gB (p:=⟨#[99,46]⟩) (q:=⟨(dv d).toArray⟩) (by rw[fy (dv d)];show 2+_<=_;omega) rfl rfl) (aft Value.string (kZ 99 d))) ?_
  refine .ag rfl<|.zs ?_
  refine bO.lX [(0,_),(16,_)] kE.c.c (X:=Value×ax×Value×ax×List GP) (λy=>OS 121 9 bM y.2.2.1 y.2.2.2.2 y.2.2.2.1/\eX (dp s.A C).2 y.2.2.2.2/\(∀p∈y.2.2.2.2,dl (λb o=>RD b o\/sg y.2.1 b o) p)) (λy E=>(17,.int .i64 (dp s.A C).1)::E) (λy=>[bl xb [B,x,y.2.2.1,D,.int .i64 s.last,.int .i64 s.now] 44,J,L,y.2.2.2.1,N,y.2.1]) ?_ ?_
  refine .cP [22] mixed ?_
  refine .tO 0 rfl .move<|.tO 1 rfl (.nilCheck rfl)<|.tO 2 rfl (.fieldAddr rfl)<|.tO 3 rfl .move<|.tO 4 rfl .move<|.tO 5 rfl .move<|.tO 6 rfl .move<|.tO 7 rfl .move<|.tO 9 rfl .move<|.tO 10 rfl .move<|.tO 11 rfl (.nilCheck rfl)<|.tO 12 rfl (.fieldAddr rfl)<|.tO 13 rfl (.bK rfl) ?_
  refine .tO 14 rfl (.i64 (s.now+60) .add ⟨by omega,by omega,by omega⟩) ?_
  refine .tO 15 rfl .move<|.tO 16 rfl (.nilCheck rfl)<|.tO 17 rfl (.fieldAddr rfl)<|.tO 18 rfl (.fieldAddr rfl)<|.tO 19 rfl (.bK rfl) ?_
  refine .tO 20 rfl (.i64 (s.last+1) .add ⟨by omega,by omega,by omega⟩) ?_
  refine .sT 8 rfl ?_
  refine .cW (pt vs g 99 99 (by decide) _ (a6.mono λb o a=>.inl (a4 b o a))) (λa5 M a7=>?_)
  rw[b4]at a7
  have b5:=a7.av
  have a8:dl (λb o=>RD b o\/sg M b o) (a5,C):=by rw[W];exact a7.sg.mono λb o a=>.inr a
  refine .nil (Next.sub ?_)
  refine .eA 21 rfl (.du (out:=bM (a5,C)) rfl (by rw[W];exact JX b5.h)) (by kernel_rfl) ?_
  refine .sT 22 rfl ?_
  refine .sub (H':=[(xb,.cells [B,x,vg,D,.int .i64 s.last,.int .i64 s.now].toArray 44 (0,0))::Tg,M,J,L,N,[]]) ((aH [1,3,0,0,0,0,0]).trans (aU.bu (afu rfl))) ?_
  refine .bT (L8 xb B x D s.last s.now gs _ ⟨vg,Tg,rfl,hg,by omega⟩ (by omega) s.A G.bg a5 C R a8 (λp hp=>(G.gr p hp).mono λb o a=>.inl a)) (λu b7 hu=>?_)
  obtain⟨rfl,V,⟨U,S,rfl,O,c1⟩,F,b1,b8⟩:=hu
  refine .nil (Next.mod rfl ?_)
  refine .tK 23 rfl .assign ?_
  refine RA.nil (by kernel_rfl) ?_
  ·exact aA (a5,M,U,S,V) ⟨O,F,λp hp=>(b1 p hp).elim (λhp=>(G.gr p hp).mono λb o a=>.inl a) λe=>e▸a8⟩ kE.c.c.c ((aU.bu (H':=[bl xb [B,x,U,D,.int .i64 s.last,.int .i64 s.now] 44,S,M,J,L,N,[]]) (afu rfl)).trans (aH [0,2,2,0,1,0]))
  intro y hy
  obtain⟨a5,M,U,S,V⟩:=y
  obtain⟨O,F,a0⟩:=hy
  simp only at O F a0⊢
  have i7:=O.av
  refine aD<|.seq<|.sr<|.mo rfl<|.q .dF<|.zn ?_
  refine .cond rfl (λh8=>?_) λh8=>?_
  have K:(dp s.A C).1≠0:=by simpa using h8
  refine .sr<|.mo rfl<|.ag rfl<|.az rfl ?_
  refine .ret (aI (aN _ (.two (.tmp rfl) (.tmp rfl)) rH ?_))
  ·first
      |(have e:bo s user id j g i d=(e0,2,s):=by unfold bo;rw[afs m]
        rw[e];exact⟨rfl,[_,_,_,_,_],[],rfl,n.mono λb o a=>.inl a⟩)
      |(have f:bV s user id j g i=17:=by unfold bV;rw[afs r]
        have e:bo s user id j g i d=(e0,17,s):=by unfold bo;rw[afr (by simp[m]),afs (by rw[f];decide),f]
        rw[e];exact⟨rfl,[_,_,_,_,_],[],rfl,n.mono λb o a=>.inl a⟩)
      |(have f:bV s user id j g i=21:=by unfold bV;rw[afr (by simp[r]),afs v]
        have e:bo s user id j g i d=(e0,21,s):=by unfold bo;rw[afr (by simp[m]),afs (by rw[f];decide),f]
        rw[e];exact⟨rfl,[_,_,_,_,_],[],rfl,n.mono λb o a=>.inl a⟩)
      |(have f:bV s user id j g i=19:=by unfold bV;rw[afr (by simp[r]),afr (by simp[v]),afs w]
        have e:bo s user id j g i d=(e0,19,s):=by unfold bo;rw[afr (by simp[m]),afs (by rw[f];decide),f]
        rw[e];exact⟨rfl,[_,_,_,_,_],[],rfl,n.mono λb o a=>.inl a⟩)
      |(have f:bV s user id j g i=21:=by unfold bV;rw[afr (by simp[r]),afr (by simp[v]),afr (by simp[w]),afs I]
        have e:bo s user id j g i d=(e0,21,s):=by unfold bo;rw[afr (by simp[m]),afs (by rw[f];decide),f]
        rw[e];exact⟨rfl,[_,_,_,_,_],[],rfl,n.mono λb o a=>.inl a⟩)
      |(have f:bV s user id j g i=9:=by unfold bV;rw[afr (by simp[r]),afr (by simp[v]),afr (by simp[w]),afr (by simp[I]),afs Y]
        have e:bo s user id j g i d=(e0,9,s):=by unfold bo;rw[afr (by simp[m]),afs (by rw[f];decide),f]
        rw[e];exact⟨rfl,[_,_,_,_,_],[],rfl,n.mono λb o a=>.inl a⟩)
      |(have f:bV s user id j g i=20:=by unfold bV;rw[afr (by simp[r]),afr (by simp[v]),afr (by simp[w]),afr (by simp[I]),afr (by simp[Y]),afs a3]
        have e:bo s user id j g i d=(e0,20,s):=by unfold bo;rw[afr (by simp[m]),afs (by rw[f];decide),f]
        rw[e];exact⟨rfl,[_,_,_,_,_],[],rfl,n.mono λb o a=>.inl a⟩)
      |(have e:bo s user id j g i d=(e0,(dp s.A C).1,s):=by unfold bo;rw[afr (by simp[m]),afr (by simp[a2]), <-W,afs K]
        rw[e]
        rw[l8 K]at F
        exact⟨rfl,[_,_,_,_,_],M,rfl,B,x,U,D,J,L,S,N,T,ns,V,ts,rfl,Q,Z,O,ht,G.gP (last:=s.last) (λb o a=>.inl a) F a0⟩)
      |(have e:bo s user id j g i d=(bj 99 d,0,{s with A:=(dp s.A C).2,last:=s.last+1}):=by unfold bo;rw[afr (by simp[m]),afr (by simp[a2]), <-W,afr (by simp[K])]
        rw[e]
        exact⟨rfl,[_,_,_,_,_],M,rfl,B,x,U,D,J,L,S,N,T,ns,V,ts,rfl,Q,Z,O,ht,G.gP (λb o a=>.inl a) F a0⟩)
  have K:(dp s.A C).1=0:=by simpa using h8
  refine .kn<|.sr<|.mo rfl<|.mo rfl<|.nc rfl<|.fa rfl<|.fa rfl<|.lo rfl ?_
  refine .q (.i64 (s.last+1) .add ⟨by omega,by omega,by omega⟩) ?_
  refine .nc rfl<|.fa rfl<|.fa rfl<|.cH rfl rfl<|.z<|.mo rfl<|.ag rfl<|.az rfl ?_
  refine .ret (aN _ (.two (.tmp rfl) (.tmp rfl)) rH ?_)
  ·first
      |(have e:bo s user id j g i d=(e0,2,s):=by unfold bo;rw[afs m]
        rw[e];exact⟨rfl,[_,_,_,_,_],[],rfl,n.mono λb o a=>.inl a⟩)
      |(have f:bV s user id j g i=17:=by unfold bV;rw[afs r]
        have e:bo s user id j g i d=(e0,17,s):=by unfold bo;rw[afr (by simp[m]),afs (by rw[f];decide),f]
        rw[e];exact⟨rfl,[_,_,_,_,_],[],rfl,n.mono λb o a=>.inl a⟩)
      |(have f:bV s user id j g i=21:=by unfold bV;rw[afr (by simp[r]),afs v]
        have e:bo s user id j g i d=(e0,21,s):=by unfold bo;rw[afr (by simp[m]),afs (by rw[f];decide),f]
        rw[e];exact⟨rfl,[_,_,_,_,_],[],rfl,n.mono λb o a=>.inl a⟩)
      |(have f:bV s user id j g i=19:=by unfold bV;rw[afr (by simp[r]),afr (by simp[v]),afs w]
        have e:bo s user id j g i d=(e0,19,s):=by unfold bo;rw[afr (by simp[m]),afs (by rw[f];decide),f]
        rw[e];exact⟨rfl,[_,_,_,_,_],[],rfl,n.mono λb o a=>.inl a⟩)
      |(have f:bV s user id j g i=21:=by unfold bV;rw[afr (by simp[r]),afr (by simp[v]),afr (by simp[w]),afs I]
        have e:bo s user id j g i d=(e0,21,s):=by unfold bo;rw[afr (by simp[m]),afs (by rw[f];decide),f]
        rw[e];exact⟨rfl,[_,_,_,_,_],[],rfl,n.mono λb o a=>.inl a⟩)
      |(have f:bV s user id j g i=9:=by unfold bV;rw[afr (by simp[r]),afr (by simp[v]),afr (by simp[w]),afr (by simp[I]),afs Y]
        have e:bo s user id j g i d=(e0,9,s):=by unfold bo;rw[afr (by simp[m]),afs (by rw[f];decide),f]
        rw[e];exact⟨rfl,[_,_,_,_,_],[],rfl,n.mono λb o a=>.inl a⟩)
      |(have f:bV s user id j g i=20:=by unfold bV;rw[afr (by simp[r]),afr (by simp[v]),afr (by simp[w]),afr (by simp[I]),afr (by simp[Y]),afs a3]
        have e:bo s user id j g i d=(e0,20,s):=by unfold bo;rw[afr (by simp[m]),afs (by rw[f];decide),f]
        rw[e];exact⟨rfl,[_,_,_,_,_],[],rfl,n.mono λb o a=>.inl a⟩)
      |(have e:bo s user id j g i d=(e0,(dp s.A C).1,s):=by unfold bo;rw[afr (by simp[m]),afr (by simp[a2]), <-W,afs K]
        rw[e]
        rw[l8 K]at F
        exact⟨rfl,[_,_,_,_,_],M,rfl,B,x,U,D,J,L,S,N,T,ns,V,ts,rfl,Q,Z,O,ht,G.gP (last:=s.last) (λb o a=>.inl a) F a0⟩)
      |(have e:bo s user id j g i d=(bj 99 d,0,{s with A:=(dp s.A C).2,last:=s.last+1}):=by unfold bo;rw[afr (by simp[m]),afr (by simp[a2]), <-W,afr (by simp[K])]
        rw[e]
        exact⟨rfl,[_,_,_,_,_],M,rfl,B,x,U,D,J,L,S,N,T,ns,V,ts,rfl,Q,Z,O,ht,G.gP (λb o a=>.inl a) F a0⟩)
end
theorem Lt{RD:au}{s:cm}{rs:List CP}{p:List NP}{l:List GP}{e:List TP}(g:DM RD s rs p l e){b id:ByteArray}{z:Int}(k:my b e z){O:Option Tok}(a:O=fp s.V b id)(h:O.isSome=true):∃(t:Tok) (i:Nat) (w:Value),O=some t/\z=(i:Int)/\e[i]? =some (w,t)/\t.text=b/\aS b s.V=some t/\t.kind=2/\t.aC=id:=by
 by_cases f:z<0
 ·have o:aS b s.V=none:=by rw[<-g.bt.get];exact k.neg f
  unfold fp at a
  rw[o]at a
  subst a
  cases h
 ·obtain⟨i,w,t,rfl,m,n,j⟩:=k.at g.bt f
  unfold fp at a
  rw[j]at a
  by_cases c:t.kind=2<;>by_cases d:t.aC=id
  ·exact⟨t,i,w,by rw[a];simp[Option.filter,c,d],rfl,m,n,j,c,d⟩
  all_goals
   rw[a]at h
   simp[Option.filter,c,d]at h
def nW(p:Option Addr)(cap m:Nat):Value:=.slice (if cap=0 then p else p.map (·.add (0*1))) (m-0) (cap-0)
theorem RS.nW{α:Type}{R':au}{enc:α->List Value}{p:Option Addr}{cap:Nat}{xs:List α}(m:Nat)(h:RS R' 1 enc (.slice p xs.length cap) xs)(r:m<=xs.length):RS R' 1 enc (nW p cap m) (xs.take m):=by
 obtain⟨s,n,d,o,q,g⟩:=h.h
 simp only[Value.slice.injEq,true_and]at d
 obtain⟨rfl,rfl⟩:=d
 have e:(xs.take m).length=m:=by simp;omega
 refine⟨λx a=>h.len x (List.mem_of_mem_take a),λx a=>h.one x (List.mem_of_mem_take a),_,_,by rw[e];rfl,by rw[e];omega,by omega,?_⟩
 rcases g with rfl|⟨b,j,c,E,f,rfl,k,l⟩
 ·exact .inl (by simp)
 ·by_cases i:cap=0
  ·left
   exact List.eq_nil_of_length_eq_zero (by omega)
  ·right
   refine⟨b,j+0*1,c,E,f,?_,k,?_⟩
   ·rw[afr i]
    simp[Addr.add]
   ·have:=l.piece h.len 0 m
    simpa using this
theorem aP.nW{α:Type}{P:Program}{R R':au}{env:Env}{H:aV}{ty:TypeId}{x:Operand}{f:Option Operand}{t e:TypeId}{enc:α->List Value}{p:Option Addr}{cap:Nat}{xs:List α}(m:Nat)(h:RS R' 1 enc (.slice p xs.length cap) xs)(s:m<=xs.length) [ut:bL P t (.slice e)] [sz:Sz P e 1](i:fx env f xs.length m)(j:ev env x=some (.slice p xs.length cap):=by rfl):aP P R env H (.slice t x none f none) ty (nW p cap m):=by
 obtain⟨u,l,b,o,q,r⟩:=h.h
 simp only[Value.slice.injEq,true_and]at b
 obtain⟨rfl,rfl⟩:=b
 intro a w d v k g c _ _
 have:=o6 (P:=P) (w:=w) (p:=p) (n:=xs.length) (cap:=cap) (xl:=none) (lo:=0) c rfl i (afz _) (by omega) (t:=t) (e:=e) (sz:=1)
 simp only[execOp,c.eval j,Option.map_none]at this⊢
 rw[Sem.run_bind,this]
 rfl
section
variable{RD R:au}{xb k:Nat}{s:cm}{H:aV}
theorem Mf(h:DS RD xb s H)(d:OB s k)(hk:k<=60)(id D v:ByteArray)(vs:Value)(g:List ByteArray)(U:RS RD 1 bz vs g)(e1:g.length<=6)(d0:∀t∈g,t.size<=99)(va vq:Value)(a r:List UInt8)(rev:Int)(d3:a.length<=1000)(d9:r.length<=1000)(R:au)(ha:RS R 1 cK va a)(hq:RS R 1 cK vq r)(a6:∀b o,RD b o->R b o):
    Spec prog 37 [pT xb,.string id,.string D,.string v,vs,va,vq,.int .u64 rev] R H λu H'=>u=.tuple [.string (dI s id D v g a r rev).1,.string (dI s id D v g a r rev).2.1,.int .i64 (dI s id D v g a r rev).2.2.1].toArray/\∃Hs Td,H'=Hs++[Td]/\DS (λb o=>RD b o\/sg Td b o) xb (dI s id D v g a r rev).2.2.2 Hs:=by
  have N:=h
  obtain⟨M,L,K,vv,Z,Y,W,Tv,rs,ns,gs,ts,rfl,hr,hn,hg,J,C⟩:=h
  obtain⟨l1,l2,l3,l4⟩:=C.len d hk
  have i1:=hr.av
  have i2:=hn.av
  have i3:=hg.av
  have i4:=J.av
  have i5:=ha.av
  have i6:=hq.av
  obtain⟨d2,d1,rfl⟩:=U.val
  have e4:=U.av
  have d5:=mC a
  have d6:=mC r
  refine Spec.cX (H':=[bl xb [M,L,K,vv,.int .i64 s.last,.int .i64 s.now] 44,Z,Y,W,Tv,[]]) (by simp) ?_
  refine Spec.body func37 rfl results37 ntmps37 rfl ?_
  refine .sr<|.ag rfl<|.ag rfl<|.ag rfl<|.z<|.mo rfl<|.mo rfl<|.mo rfl<|.mo rfl<|.mo rfl ?_
  refine .aL (xh N d hk id D va vq a r _ (ha.mono λb o d=>.inl d) (hq.mono λb o d=>.inl d) (λb o d=>.inl (a6 b o d)) (λb o d=>.inr (by simpa using d))) (λu A=>?_)
  subst A
  refine .ag rfl<|.zs<|.sr<|.mo rfl<|.q .dF<|.zn ?_
  refine .cond rfl (λh1=>?_) λh1=>?_
  have S:ew s id D a r≠0:=by simpa using h1
  refine .sr<|.mo rfl<|.ag rfl<|.ag rfl<|.az rfl ?_
  refine .ret (aI (aN _ (.three (.tmp rfl) (.tmp rfl) (.tmp rfl)) rH ?_))
  ·have e:dI s id D v g a r rev=(e0,e0,ew s id D a r,s):=by unfold dI;rw[afs S]
   rw[e];exact⟨rfl,[_,_,_,_,_],[],rfl,N.mono λb o d=>.inl d⟩
  have S:ew s id D a r=0:=by simpa using h1
  refine .kn<|.sr<|.mo rfl<|.nc rfl<|.fa rfl<|.mo rfl ?_
  refine .aL (nQ xb M L K s.now vv s.last ts v _ J.rx C.tr) (λu A=>?_)
  obtain⟨z,rfl,hz⟩:=A
  refine .ag rfl<|.zs ?_
  refine bO.lX [(0,_),(1,_),(4,_),(5,_),(6,_),(7,_),(20,_)] kE.c.c.c.c.c.c.c (X:=Unit) (λ_=>True) (λ_ E=>(21,.bool (fp s.V v id).isSome)::E) (λ_=>[bl xb [M,L,K,vv,.int .i64 s.last,.int .i64 s.now] 44,Z,Y,W,Tv,[]]) ?_ ?_
  refine .region<|.mo rfl<|.q .geq<|.mo rfl ?_
  refine .split (t:=43) rfl (λn=>?_) (λn=>?_)
  obtain⟨i,w,t,rfl,I,c0,a5⟩:=hz.at C.bt (by have h9:=bq n;omega)
  have ci:=C.tr _ (bU I)
  have ii:bG (bA (w,t)):=⟨ci.bD⟩
  refine .gT n<|.mo rfl<|.gT n<|.nc rfl<|.gT n<|.fa rfl<|.gT n<|.fa rfl<|.gT n<|.lo rfl<|.gT n<|.mo rfl<|.gT n ?_
  refine .ba i J I (λe8=>?_)
  refine .gT n<|.fa rfl<|.gT n<|.lo rfl<|.gT n<|.q .bR<|.q (.aW n) ?_
  refine .mo rfl ?_
  refine .split (t:=55) rfl (λj=>?_) (λj=>?_)
  refine .gT j<|.mo rfl<|.gT j<|.nc rfl<|.gT j<|.fa rfl<|.gT j<|.fa rfl<|.gT j<|.lo rfl<|.gT j<|.mo rfl<|.gT j ?_
  refine .ba i J I (λe9=>?_)
  refine .gT j<|.fa rfl<|.gT j<|.lo rfl<|.gT j<|.mo rfl<|.gT j<|.q .eg<|.q (.aW j) ?_
  refine .q (.cast (v':=.bool (fp s.V v id).isSome) .assign (aft Value.bool (by
    unfold fp
    first
      |(have a8:aS v s.V=none:=by rw[<-C.bt.get];exact hz.neg (by have h9:=bi n;omega)
        rw[a8]
        simp[Option.filter]<;>first|exact n|omega)
      |(rw[a5]
        have F:(t.kind==2)=true:=j
        by_cases a2:t.aC=id<;>simp[Option.filter,F,a2];done)
      |(rw[a5]
        have F:(t.kind==2)=false:=j
        simp[Option.filter,F];done)))) ?_
  refine .nil ?_
  ·exact aA () trivial kE.c.c.c.c.c.c.c.c rH
  refine .gF j<|.gF j<|.gF j<|.gF j<|.gF j<|.gF j<|.gF j<|.gF j<|.gF j<|.gF j<|.gF j<|.q (.aQ j) ?_
  refine .q (.cast (v':=.bool (fp s.V v id).isSome) .assign (aft Value.bool (by
    unfold fp
    first
      |(have a8:aS v s.V=none:=by rw[<-C.bt.get];exact hz.neg (by have h9:=bi n;omega)
        rw[a8]
        simp[Option.filter]<;>first|exact n|omega)
      |(rw[a5]
        have F:(t.kind==2)=true:=j
        by_cases a2:t.aC=id<;>simp[Option.filter,F,a2];done)
      |(rw[a5]
        have F:(t.kind==2)=false:=j
        simp[Option.filter,F];done)))) ?_
  refine .nil ?_
  ·exact aA () trivial kE.c.c.c.c.c.c.c.c rH
  refine .gF n<|.gF n<|.gF n<|.gF n<|.gF n<|.gF n<|.gF n<|.gF n<|.gF n<|.gF n<|.q (.aQ n) ?_
  refine .mo rfl<|.gX<|.gX<|.gX<|.gX<|.gX<|.gX<|.gX<|.gX<|.gX<|.gX<|.gX<|.q .bW ?_
  refine .q (.cast (v':=.bool (fp s.V v id).isSome) .assign (aft Value.bool (by
    unfold fp
    first
      |(have a8:aS v s.V=none:=by rw[<-C.bt.get];exact hz.neg (by have h9:=bi n;omega)
        rw[a8]
        simp[Option.filter]<;>first|exact n|omega)
      |(rw[a5]
        have F:(t.kind==2)=true:=j
        by_cases a2:t.aC=id<;>simp[Option.filter,F,a2];done)
      |(rw[a5]
        have F:(t.kind==2)=false:=j
        simp[Option.filter,F];done)))) ?_
  refine .nil ?_
  ·exact aA () trivial kE.c.c.c.c.c.c.c.c rH
  intro y hy
  obtain⟨O,Q⟩:∃O,O=fp s.V v id:=⟨_,rfl⟩
  rw[<-Q]
  refine aD<|.seq<|.sr<|.mo rfl<|.mo rfl ?_
  refine .split (t:=69) rfl (λf=>?_) (λf=>?_)
  obtain⟨t,i,w,a7,rfl,I,c0,a5,d7,d4⟩:=Lt C hz Q f
  have ci:=C.tr _ (bU I)
  have ii:bG (bA (w,t)):=⟨ci.bD⟩
  have iw:One w:=RS.av ci
  refine .gT f<|.mo rfl<|.gT f<|.nc rfl<|.gT f<|.fa rfl<|.gT f<|.fa rfl<|.gT f<|.lo rfl<|.gT f<|.mo rfl<|.gT f ?_
  refine .ba i J I (λf0=>?_)
  refine .gT f<|.fa rfl<|.gT f<|.lo rfl<|.q (.aW f) ?_
  refine .zn ?_
  refine .cond rfl (λh2=>?_) λh2=>?_
  have a0:t.used=true:=h2
  refine .seq ?_
  refine .dc 12 mixed (by kernel_rfl) ?_
  conv=>arg 6;dsimp only[List.take]
  refine .mo rfl<|.nc rfl<|.fa rfl<|.mo rfl<|.nc rfl<|.fa rfl<|.fa rfl<|.lo rfl<|.mo rfl ?_
  refine .ba i J I (λf1=>?_)
  refine .fa rfl<|.lo rfl<|.nil<|.sub (H':=[(xb,.cells [M,L,K,vv,.int .i64 s.last,.int .i64 s.now].toArray 44 (0,0))::Tv,Z,Y,W,[]]) ((aH [0,3,0,0,0,0]).trans (aU.bu (afu rfl))) ?_
  refine .bT (sv xb M L K s.now ts s.last _ ⟨vv,Tv,rfl,J,by omega⟩ s.V C.bt t.family R C.tr) (λu T4 A=>?_)
  obtain⟨rfl,b6,a4,rfl,a9,e2⟩:=A
  have i9:=a9.av
  refine .sub (H':=[bl xb [M,L,K,b6,.int .i64 s.last,.int .i64 s.now] 44,Z,Y,W,a4,[]]) ((aU.bu (H':=[bl xb [M,L,K,b6,.int .i64 s.last,.int .i64 s.now] 44,a4,Z,Y,W,[]]) (afu rfl)).trans (aH [0,1,1,1,0,0])) ?_
  refine .z<|.ag rfl<|.ag rfl<|.az rfl ?_
  refine .ret (aI (aN _ (.three (.tmp rfl) (.tmp rfl) (.tmp rfl)) rH ?_))
  ·have e:dI s id D v g a r rev=(e0,e0,18,{s with V:=s.V.filter λx=> !(x.2.family==t.family)}):=by
      unfold dI;rw[afr (by simp[S]), <-Q,a7];simp only;rw[afs a0]
   rw[e]
   exact⟨rfl,[_,_,_,_,_],[],rfl,M,L,K,b6,Z,Y,W,a4,rs,ns,gs,_,rfl,hr,hn,hg,a9,C.dr (λb o d=>.inl d) (C.bt.filter λu=> !(u.family==t.family)) λp hp=>(C.tr p (afx.1 hp).1).mono λb o d=>.inl d⟩
  first
    |have a0:t.used=false:=h2
    |skip
  refine .kn<|.sr<|.mo rfl ?_
  refine .aL (kO va a _ (ha.mono λb o d=>.inl d) (by omega)) (λu A=>?_)
  subst A
  refine .q (.cast (v':=.string (bj 97 a)) (.gB (p:=⟨#[97,46]⟩) (q:=⟨(dv a).toArray⟩) (by rw[fy (dv a)];show 2+_<=_;omega) rfl rfl) (aft Value.string (kZ 97 a))) ?_
  refine .mo rfl ?_
  refine .aL (kO vq r _ (hq.mono λb o d=>.inl d) (by omega)) (λu A=>?_)
  subst A
  refine .q (.cast (v':=.string (bj 114 r)) (.gB (p:=⟨#[114,46]⟩) (q:=⟨(dv r).toArray⟩) (by rw[fy (dv r)];show 2+_<=_;omega) rfl rfl) (aft Value.string (kZ 114 r))) ?_
  refine .ag rfl<|.ag rfl<|.z<|.mo rfl<|.mo rfl<|.mo rfl ?_
  refine .aL (o3 N d hk (bj 97 a) (bj 114 r) _ (λb o d=>.inl (a6 b o d)) (λb o d=>.inr (by simpa using d))) (λu A=>?_)
  subst A
  refine .ag rfl<|.zs<|.sr<|.mo rfl<|.q .dF<|.zn ?_
  refine .cond rfl (λh3=>?_) λh3=>?_
  have T:dD s (bj 97 a) (bj 114 r)≠0:=by simpa using h3
  refine .sr<|.mo rfl<|.ag rfl<|.ag rfl<|.az rfl ?_
  refine .ret (aI (aN _ (.three (.tmp rfl) (.tmp rfl) (.tmp rfl)) rH ?_))
  ·have e:dI s id D v g a r rev=(e0,e0,dD s (bj 97 a) (bj 114 r),s):=by
      unfold dI;rw[afr (by simp[S]), <-Q,a7];simp only;rw[afr (by simp[a0]),afs T]
   rw[e];exact⟨rfl,[_,_,_,_,_],[],rfl,N.mono λb o d=>.inl d⟩
  have T:dD s (bj 97 a) (bj 114 r)=0:=by simpa using h3
  refine .kn<|.seq<|.seq ?_
  refine .iA mixed (by kernel_rfl) ?_
  refine .mo rfl<|.q .not<|.mo rfl<|.gT (aft not f) ?_
  refine .mo rfl<|.gT (aft not f) ?_
  refine .nc rfl<|.gT (aft not f) ?_
  refine .fa rfl<|.gT (aft not f) ?_
  refine .fa rfl<|.gT (aft not f) ?_
  refine .lo rfl<|.gT (aft not f) ?_
  refine .mo rfl<|.gT (aft not f) ?_
  refine .ba i J I (λe5=>?_)
  refine .gT (aft not f) ?_
  refine .fa rfl<|.gT (aft not f) ?_
  refine .lo rfl<|.gT (aft not f) ?_
  refine .mo rfl<|.gT (aft not f) ?_
  refine .nc rfl<|.gT (aft not f) ?_
  refine .fa rfl<|.gT (aft not f) ?_
  refine .lo rfl<|.gT (aft not f) ?_
  refine .q .leq<|.q (.aQ (aft not f)) ?_
  refine .zn ?_
  refine .cond rfl (λh4=>?_) λh4=>?_
  refine .sr<|.ag rfl<|.ag rfl<|.az rfl ?_
  refine .ret (aI (aN _ (.three (.tmp rfl) (.tmp rfl) (.tmp rfl)) rH ?_))
  ·have e:dI s id D v g a r rev=(e0,e0,18,s):=by
      unfold dI;rw[afr (by simp[S]), <-Q,a7];simp only;rw[afr (by simp[a0]),afr (by simp[T]),afs (bq h4)]
   rw[e];exact⟨rfl,[_,_,_,_,_],[],rfl,N.mono λb o d=>.inl d⟩
  have b5:¬t.cb<=s.now:=bi h4
  refine .kn<|.sr<|.mo rfl<|.nc rfl<|.fa rfl<|.fa rfl<|.lo rfl<|.mo rfl ?_
  refine .ba i J I (λe6=>?_)
  refine .q (.bI rfl) ?_
  refine .cG (λc4=>?_)
  refine .cc rfl rfl<|.zs<|.sr<|.az rfl<|.block ?_
  refine .oT [(0,_),(1,_),(4,_),(7,_),(20,_),(22,_),(23,_),(24,_)] (X:=Nat) (λm=>m<=g.length/\jD (g.take m) t.scopes=true/\(g.take m).Nodup) (λm E=>(25,iN m)::E) (λ_ G=>G) (λm=>g.length-m) 0 ⟨afz _,rfl,List.nodup_nil⟩ kE.c.c.c.c.c.c.c.c.c rH ?_
  rintro m ⟨d8,b1,b3⟩
  refine .seq<|.sr<|.mo rfl<|.mo rfl<|.q (.di U) ?_
  refine .q .lss<|.zn ?_
  refine .cond rfl (λh5=>?_) λh5=>?_
  have c1:m<g.length:=by have h9:=bq h5;omega
  obtain⟨y,hy⟩:=dR c1
  have py:PC R (eK (.slice d2 g.length d1) (m*1)) (bz y):=(U.mono a6).pc hy
  refine .kn<|.seq<|.block<|.seq<|.cP [] mixed ?_
  refine .tO 0 rfl (.fieldAddr rfl)<|.tO 1 rfl (.bK rfl)<|.tO 2 rfl .move<|.tO 3 rfl .move ?_
  refine .tO 4 rfl (.ct m U hy rfl rfl rfl) ?_
  refine .tO 5 rfl (.bK rfl) ?_
  refine .sT 6 rfl ?_
  refine .aL (nA w t.scopes y _ (RS.mono (h:=ci) λb o d=>.inl (a6 b o d))) (λu A=>?_)
  subst A
  refine .nil (Next.sub ?_)
  refine .tO 7 rfl .not<|.tO 8 rfl .move ?_
  refine RA.split (t:=146) rfl (λB=>?_) (λB=>?_)
  refine .iW 9 rfl rfl B rfl (by kernel_rfl) ?_
  refine .iW 10 rfl rfl B rfl (by kernel_rfl) ?_
  refine .iW 11 rfl rfl B rfl (by kernel_rfl) ?_
  refine .iW 12 rfl rfl B rfl (by kernel_rfl) ?_
  refine .iW 13 rfl rfl B rfl (by kernel_rfl) ?_
  refine .iW 14 rfl rfl B rfl (by kernel_rfl) ?_
  refine .iW 15 rfl rfl B rfl (by kernel_rfl) ?_
  refine .sT 16 rfl ?_
  refine .gF B ?_
  refine .nil (Next.sub ?_)
  refine .tO 17 rfl (.aW B) ?_
  refine RA.nil (by kernel_rfl) ?_
  refine aD<|.dn<|.sr<|.ag rfl<|.ag rfl<|.az rfl ?_
  refine .ret (bp (aI (dj (bp (aI (aN _ (.three (.tmp rfl) (.tmp rfl) (.tmp rfl)) (aH [1,1,1,1,1,1]) ?_))))))
  ·have F:y∉t.scopes:=by simpa using B
   have a3:jD g t.scopes=false:=Bool.eq_false_iff.2 λe=>F (nN.1 e y (bU hy))
   have e:dI s id D v g a r rev=(e0,e0,19,s):=by
     unfold dI;rw[afr (by simp[S]), <-Q,a7];simp only;rw[afr (by simp[a0]),afr (by simp[T]),afr b5,afs (.inl a3)]
   rw[e];exact⟨rfl,[_,_,_,_,_],[],rfl,N.mono λb o d=>.inl d⟩
  refine .df 9 rfl rfl B .move (by kernel_rfl) ?_
  refine .df 10 rfl rfl B .move (by kernel_rfl) ?_
  refine .df 11 rfl rfl B (aP.nW m U (by omega) ⟨_,rfl⟩) (by kernel_rfl) ?_
  refine .df 12 rfl rfl B .move (by kernel_rfl) ?_
  refine .df 13 rfl rfl B .move (by kernel_rfl) ?_
  refine .df 14 rfl rfl B (.ct m U hy rfl rfl rfl) (by kernel_rfl) ?_
  refine .df 15 rfl rfl B (.bK rfl) (by kernel_rfl) ?_
  refine .sT 16 rfl ?_
  refine .gT B ?_
  refine .aL (nA _ (g.take m) y _ ((U.nW m (by omega)).mono λb o d=>.inl (a6 b o d))) (λu A=>?_)
  subst A
  refine .nil (Next.sub ?_)
  refine .tO 17 rfl (.aQ B) ?_
  refine RA.nil (by kernel_rfl) ?_
  refine aD ?_
  refine .cond rfl (λh6=>?_) λh6=>?_
  refine .sr<|.ag rfl<|.ag rfl<|.az rfl ?_
  refine .ret (bp (aI (dj (bp (aI (aN _ (.three (.tmp rfl) (.tmp rfl) (.tmp rfl)) (aH [1,1,1,1,1,1]) ?_))))))
  ·have F:y∈g.take m:=by simpa using h6
   have a3:¬g.Nodup:=λe=>((nL hy).1 (e.sublist (List.take_sublist _ _))).2 F
   have e:dI s id D v g a r rev=(e0,e0,19,s):=by
     unfold dI;rw[afr (by simp[S]), <-Q,a7];simp only;rw[afr (by simp[a0]),afr (by simp[T]),afr b5,afs (.inr a3)]
   rw[e];exact⟨rfl,[_,_,_,_,_],[],rfl,N.mono λb o d=>.inl d⟩
  refine .skip<|bw<|aD<|.region<|.mo rfl ?_
  refine .ia (m+1) .add ?_
  refine .ag rfl<|.nil ?_
  ·refine bd (m+1) ⟨c1,?_,?_⟩ (by omega) kE.c.c.c.c.c.c.c.c.c rH
   ·have F:y∈t.scopes:=by simpa using B
    rw[nN]at b1⊢
    intro x hx
    rcases(oW hy x).1 hx with h8|rfl
    ·exact b1 x h8
    ·exact F
   ·have a2:y∉g.take m:=by simpa using h6
    exact(nL hy).2 ⟨b3,a2⟩
  have c8:m=g.length:=by have h9:=bi h5;omega
  rw[c8,List.take_length]at b1 b3
  refine .exit<|bE<|bH<|bF<|aD<|.sr<|.mo rfl<|.nc rfl<|.fa rfl<|.fa rfl<|.lo rfl<|.mo rfl ?_
  refine .ba i J I (λe7=>?_)
  refine .fa rfl ?_
  refine .sO (k:=8) (cs:=[.bool true]) (z':=(w,t.mark)) i J I rfl rfl rfl rfl rfl (by simp[av]) rfl (by simp) (λa4 a9=>?_)
  have i7:=a9.av
  obtain⟨SC,b0⟩:∃l,l=(if g=[]then t.scopes else g):=⟨_,rfl⟩
  refine .z<|.fa rfl<|.lo rfl<|.ag rfl<|.zs<|.sr<|.mo rfl<|.q (.di U) ?_
  refine .q .gtr<|.zn ?_
  refine bO.lX [(0,_),(1,_),(7,_),(22,_),(23,_),(24,_)] kE.c.c.c.c.c.c (X:=Value×ax) (λy=>RS (λb o=>RD b o\/sg y.2 b o) 1 bz y.1 SC) (λy E=>(26,y.1)::E) (λy=>[bl c4 (bA (w,t)) 58,bl xb [M,L,K,vv,.int .i64 s.last,.int .i64 s.now] 44,Z,Y,W,a4,y.2]) ?_ ?_
  refine .cond rfl (λh7=>?_) λh7=>?_
  have c2:SC=g:=by
    have h9:=bq h7
    rw[b0,afr (λe=>by subst e;simp at h9)]
  refine .region<|.mo rfl ?_
  refine .cW (pt _ g 99 99 (by decide) _ (U.mono λb o d=>.inl (a6 b o d))) (λc3 b7 b2=>?_)
  rw[yg (l:=g) (by omega) d0]at b2
  have e3:=b2.av
  refine .ag rfl<|.nil ?_
  ·first
      |exact aA (c3,b7) (by simp only;rw[c2];exact b2.sg.mono λb o d=>.inr d) kE.c.c.c.c.c.c.c (aH [1,1,1,1,1,1,0])
      |exact aA (w,([]:ax)) (by simp only;rw[b0,afs (by have h9:=bi h7;exact List.length_eq_zero_iff.1 (by omega))];exact RS.mono (h:=ci) λb o d=>.inl d) kE.c.c.c.c.c.c.c rH
  refine .skip ?_
  ·first
      |exact aA (c3,b7) (by simp only;rw[c2];exact b2.sg.mono λb o d=>.inr d) kE.c.c.c.c.c.c.c (aH [1,1,1,1,1,1,0])
      |exact aA (w,([]:ax)) (by simp only;rw[b0,afs (by have h9:=bi h7;exact List.length_eq_zero_iff.1 (by omega))];exact RS.mono (h:=ci) λb o d=>.inl d) kE.c.c.c.c.c.c.c rH
  intro x hx
  obtain⟨u,Tx⟩:=x
  simp only at hx⊢
  have iu:=hx.av
  have c9:∀p∈ts.set i (w,t.mark),dh RD p:=λp hp=>by
    rcases List.mem_or_eq_of_mem_set hp with hp|rfl
    ·exact C.tr p hp
    ·exact ci
  have b8:eY (cO v t.mark s.V) (ts.set i (w,t.mark)):=by
    have:=C.bt.set (w':=w) (u:=t.mark) I rfl
    rw[c0]at this
    exact this
  have c6:DS (λb o=>RD b o\/sg Tx b o) xb {s with V:=cO v t.mark s.V} [bl xb [M,L,K,vv,.int .i64 s.last,.int .i64 s.now] 44,Z,Y,W,a4]:=⟨M,L,K,vv,Z,Y,W,a4,rs,ns,gs,_,rfl,hr,hn,hg,a9,C.dr (λb o d=>.inl d) b8 λp hp=>(c9 p hp).mono λb o d=>.inl d⟩
  have c7:OB {s with V:=cO v t.mark s.V} k:=d.less (afE _) (by rw[b8.len,C.bt.len,List.length_set];exact afE _) (afG _) d.cs
  refine aD<|.sr<|.mo rfl<|.mo rfl<|.mo rfl<|.mo rfl<|.fa rfl<|.lo rfl<|.mo rfl<|.fa rfl<|.lo rfl<|.mo rfl ?_
  refine .q (.du (out:=bA (u,⟨e0,0,id,t.user,SC,t.family,0,rev,false⟩)) rfl (qi iu.h)) ?_
  refine .call [1,1,1,1,1] (qx c6 c7 hk (bj 97 a) (bj 114 r) u ⟨e0,0,id,t.user,SC,t.family,0,rev,false⟩ hx _) (λu H' A=>?_)
  obtain⟨rfl,b9⟩:=A
  have c5:=b9
  obtain⟨ur,un,ug,uv,Ur,Un,Ug,Uv,f2,f3,f4,f5,rfl,_,_,_,_,_⟩:=b9
  conv=>arg 8;simp only[rest,aY,afv,afw]
  refine .z<|.mo rfl<|.mo rfl<|.ag rfl<|.ag rfl<|.az rfl ?_
  refine .ret (aN _ (.three (.tmp rfl) (.tmp rfl) (.tmp rfl)) (aH [0,0,0,0,0,1]) ?_)
  ·have e:dI s id D v g a r rev=(bj 97 a,bj 114 r,0,{s with V:=gI (cO v t.mark s.V) s.last s.now (bj 97 a) (bj 114 r) ⟨e0,0,id,t.user,SC,t.family,0,rev,false⟩}):=by
      unfold dI;rw[afr (by simp[S]), <-Q,a7];simp only;rw[afr (by simp[a0]),afr (by simp[T]),afr b5,afr (by simp[b1,b3]), <-b0]
   rw[e];exact⟨rfl,[_,_,_,_,_],Tx,rfl,c5⟩
  refine .gF f<|.gF f<|.gF f<|.gF f<|.gF f<|.gF f<|.gF f<|.gF f<|.gF f<|.q (.aQ f) ?_
  refine .zn<|.bX ?_
  first
    |have a0:t.used=false:=h2
    |skip
  refine .kn<|.sr<|.mo rfl ?_
  refine .aL (kO va a _ (ha.mono λb o d=>.inl d) (by omega)) (λu A=>?_)
  subst A
  refine .q (.cast (v':=.string (bj 97 a)) (.gB (p:=⟨#[97,46]⟩) (q:=⟨(dv a).toArray⟩) (by rw[fy (dv a)];show 2+_<=_;omega) rfl rfl) (aft Value.string (kZ 97 a))) ?_
  refine .mo rfl ?_
  refine .aL (kO vq r _ (hq.mono λb o d=>.inl d) (by omega)) (λu A=>?_)
  subst A
  refine .q (.cast (v':=.string (bj 114 r)) (.gB (p:=⟨#[114,46]⟩) (q:=⟨(dv r).toArray⟩) (by rw[fy (dv r)];show 2+_<=_;omega) rfl rfl) (aft Value.string (kZ 114 r))) ?_
  refine .ag rfl<|.ag rfl<|.z<|.mo rfl<|.mo rfl<|.mo rfl ?_
  refine .aL (o3 N d hk (bj 97 a) (bj 114 r) _ (λb o d=>.inl (a6 b o d)) (λb o d=>.inr (by simpa using d))) (λu A=>?_)
  subst A
  refine .ag rfl<|.zs<|.sr<|.mo rfl<|.q .dF<|.zn ?_
  refine .cond rfl (λh3=>?_) λh3=>?_
  have T:dD s (bj 97 a) (bj 114 r)≠0:=by simpa using h3
  refine .sr<|.mo rfl<|.ag rfl<|.ag rfl<|.az rfl ?_
  refine .ret (aI (aN _ (.three (.tmp rfl) (.tmp rfl) (.tmp rfl)) rH ?_))
  ·have b4:fp s.V v id=none:=by rw[<-Q];simpa using f
   have e:dI s id D v g a r rev=(e0,e0,dD s (bj 97 a) (bj 114 r),s):=by
     unfold dI;rw[afr (by simp[S]),b4];simp only;rw[afs T]
   rw[e];exact⟨rfl,[_,_,_,_,_],[],rfl,N.mono λb o d=>.inl d⟩
  have T:dD s (bj 97 a) (bj 114 r)=0:=by simpa using h3
  refine .kn<|.seq<|.seq ?_
  refine .iA mixed (by kernel_rfl) ?_
  refine .mo rfl<|.q .not<|.mo rfl<|.gF (aft not f) ?_
  refine .gF (aft not f) ?_
  refine .gF (aft not f) ?_
  refine .gF (aft not f) ?_
  refine .gF (aft not f) ?_
  refine .gF (aft not f) ?_
  refine .gF (aft not f) ?_
  refine .gF (aft not f) ?_
  refine .gF (aft not f) ?_
  refine .gF (aft not f) ?_
  refine .gF (aft not f) ?_
  refine .gF (aft not f) ?_
  refine .gF (aft not f) ?_
  refine .gF (aft not f) ?_
  refine .q (.aW (aft not f)) ?_
  refine .zn<|.dn<|.sr<|.ag rfl<|.ag rfl<|.az rfl ?_
  refine .ret (aI (aN _ (.three (.tmp rfl) (.tmp rfl) (.tmp rfl)) rH ?_))
  ·have b4:fp s.V v id=none:=by rw[<-Q];simpa using f
   have e:dI s id D v g a r rev=(e0,e0,18,s):=by
     unfold dI;rw[afr (by simp[S]),b4];simp only;rw[afr (by simp[T])]
   rw[e];exact⟨rfl,[_,_,_,_,_],[],rfl,N.mono λb o d=>.inl d⟩
end
def b6(x:Nat):List Nat:=[x/32 % 2,x/16 % 2,x/8 % 2,x/4 % 2,x/2 % 2,x % 2]
def bits(xs:List Nat):List Nat:=xs.flatMap b6
theorem re:∀{xs:List Nat},(bits xs).length=6*xs.length
 |[]=>rfl
 |x::xs=>by
  have:=re (xs:=xs)
  unfold bits at this⊢
  rw[List.flatMap_cons,List.length_append,this]
  simp only[b6,List.length_cons,List.length_nil]
  omega
theorem tP{xs:List Nat}{x:Nat}:bits (xs++[x])=bits xs++b6 x:=by simp[bits]
theorem zc{xs:List Nat}:∀b∈bits xs,b<=1:=λb a=>by
 obtain⟨x,_,c⟩:=List.mem_flatMap.1 a
 simp only[b6,afF,List.not_mem_nil,or_false]at c
 omega
def nF(xs:List Nat):Nat:=(xs.getLast?).getD 0
theorem zd{xs:List Nat}(e:6*xs.length % 8<6):(∀b∈(bits xs).drop (8*(6*xs.length/8)),b=0)↔nF xs % 2^(6*xs.length % 8)=0:=by
 rcases List.eq_nil_or_concat xs with rfl|⟨a,x,rfl⟩
 ·simp[bits,nF]
 ·rw[List.concat_eq_append]at e⊢
  have d:nF (a++[x])=x:=by simp[nF]
  have c:(a++[x]).length=a.length+1:=by simp
  rw[c]at e
  rw[d,c,tP]
  have f:=re (xs:=a)
  clear d c
  generalize a.length=n at *
  have h6:6*(n+1) % 8=0\/6*(n+1) % 8=2\/6*(n+1) % 8=4:=by omega
  rw[List.drop_append,f]
  rcases h6 with h6|h6|h6<;>rw[h6]
  ·rw[afI (by omega),show 8*(6*(n+1)/8)-6*n=6 by omega]
   simp[b6]
   omega
  ·rw[afI (by omega),show 8*(6*(n+1)/8)-6*n=4 by omega]
   simp[b6]
   omega
  ·rw[afI (by omega),show 8*(6*(n+1)/8)-6*n=2 by omega]
   simp[b6]
   omega
theorem KT(i:Nat)(h:i<64):fw (cN i)=i:=by
 have e:∀k:Fin 64,fw (cN k.val)=(k.val:Int):=by decide+kernel
 exact e ⟨i,h⟩
theorem wh(c:UInt8):fw c= -1\/∃i:Nat,i<64/\cN i=c/\fw c=i:=by
 have e:∀k:Fin 256,fw (UInt8.ofNat k.val)= -1\/(0<=fw (UInt8.ofNat k.val)/\cN (fw (UInt8.ofNat k.val)).toNat=UInt8.ofNat k.val):=by decide+kernel
 have h:=e ⟨c.toNat,c.toNat_lt⟩
 have d:=wi c
 simp only[UInt8.ofNat_toNat]at h
 rcases h with h|⟨b,a⟩
 ·exact .inl h
 ·exact .inr ⟨(fw c).toNat,by omega,a,by omega⟩
theorem Me(c:UInt8)(R:au):Spec prog 213 [.int .u8 (c.toNat:Nat)] R [] λu H'=>u=.int .i64 (fw c)/\H'=[]:=by
 refine Spec.body func213 rfl results213 ntmps213 rfl ?_
 refine .sr<|.ag rfl<|.zs<|.sr<|.az rfl<|.block ?_
 refine .loop (X:=Nat) (λi=>i<=64/\∀j,j<i->cN j≠c) (λi=>[(0,.int .u8 (c.toNat:Nat)),(3,iN i)]) (λ_=>[]) (λi=>64-i) 0 ⟨by omega,λj d=>by omega⟩ kE.c.c rH ?_
 rintro i ⟨n,g⟩
 refine .seq<|.sr<|.mo rfl<|.q .lss<|.zn ?_
 refine .cond rfl (λb=>?_) λb=>?_
 have f:i<64:=dT b
 refine .kn<|.seq<|.block<|.sr<|.mo rfl ?_
 refine .aL (lG i f _) (λu m=>?_)
 subst m
 refine .q (.cast (v':=.int .u8 ((cN i).toNat:Nat)) (.iG (p:=⟨#[cN i]⟩) 0 (show 0<1 by decide)) rfl) ?_
 refine .mo rfl<|.q .bR<|.zn ?_
 refine .cond rfl (λa=>?_) λa=>?_
 refine .sr<|.mo rfl<|.az rfl ?_
 refine .ret (bp (aI (dj (bp (aI (aO rfl ?_))))))
 ·have k:cN i=c:=UInt8.toNat.inj (by have h9:=a;simp at h9;omega)
  rw[<-k,KT i f]
  exact⟨rfl,rfl⟩
 refine .skip<|bw<|aD<|.region<|.mo rfl ?_
 refine .ia (i+1) .add ?_
 refine .ag rfl<|.nil ?_
 ·exact bd (i+1) ⟨f,λj d=>by
   by_cases e:j=i
   ·subst e
    intro h
    rw[h]at a
    simp at a
   ·exact g j (by omega)⟩ (by omega) kE.c.c rH
 refine .exit<|bE<|bH<|bF<|aD<|.sr<|.az rfl ?_
 refine .ret (aO rfl ?_)
 ·have l:i=64:=by have:=bi b;omega
  subst l
  rcases wh c with h9|⟨j,d,h9,_⟩
  ·rw[h9]
   exact⟨rfl,rfl⟩
  ·exact absurd h9 (g j d)
def jX(l:List UInt8):List Nat:=l.map λc=>(fw c).toNat
theorem KK{l:List UInt8}:lg l l.length=nF (jX l):=by
 unfold nF jX
 rw[List.getLast?_map]
 rcases List.eq_nil_or_concat l with rfl|⟨a,y,rfl⟩
 ·rfl
 ·rw[List.concat_eq_append,List.length_append]
  show lg (a++[y]) (a.length+1)=_
  show(fw ((a++[y]).getD a.length 0)).toNat=_
  simp
abbrev mD(n:Nat):List Value:=[iN n]
theorem yW{x j:Nat}(a:j<6):(b6 x).take (j+1)=(b6 x).take j++[x/(32/2^j) % 2]:=by
 have:j=0\/j=1\/j=2\/j=3\/j=4\/j=5:=by omega
 rcases this with rfl|rfl|rfl|rfl|rfl|rfl<;>simp[b6]
theorem LK{j:Nat}(a:j<6):32/2^j/2=32/2^(j+1):=by rw[Nat.div_div_eq_div_mul,Nat.pow_succ]
theorem LL{j:Nat}(a:j<6):32/2^j≠0/\32/2^j<=32:=by
 have:j=0\/j=1\/j=2\/j=3\/j=4\/j=5:=by omega
 rcases this with rfl|rfl|rfl|rfl|rfl|rfl<;>decide
theorem LZ(s:ByteArray)(hs:s.size<=1000)(R:au):Spec prog 169 [.string s] R [] λu H'=>∃T,H'=[T]/\∃(v:Value) (xs:List UInt8) (e:Int),u=.tuple [v,.int .i64 e].toArray/\OS 5 1 cK v xs T/\(e=0↔fU s.data.toList=true)/\(e=0->xs.length=6*s.size/8):=by
 obtain⟨l,f⟩:∃l,l=s.data.toList:=⟨_,rfl⟩
 have a1:l.length=s.size:=by rw[f];simp
 refine Spec.cX (H':=[[],[]]) (by simp) ?_
 refine Spec.body func169 rfl results169 ntmps169 rfl ?_
 refine .sr<|.ag rfl<|.ag rfl<|.z<|.ag rfl<|.zs<|.sr<|.az rfl<|.block ?_
 refine .loop (X:=Nat×Value×ax) (λy=>y.1<=s.size/\OS 3 1 mD y.2.1 (bits (jX (l.take y.1))) y.2.2/\∀c∈l.take y.1,0<=fw c) (λy=>[(0,.string s),(4,y.2.1),(5,iN y.1)]) (λy=>[y.2.2,[]]) (λy=>s.size-y.1) (0,sZ,[]) ⟨afz _,OS.nil,λc hc=>by cases hc⟩ kE.c.c.c rH ?_
 rintro⟨i,v4,h⟩ ⟨hi,o,H⟩
 simp only at hi o H⊢
 have d3:=o.av
 have I:=re (xs:=jX (l.take i))
 have L:(jX (l.take i)).length=i:=by unfold jX;rw[List.length_map,List.length_take];omega
 refine .seq<|.sr<|.mo rfl<|.mo rfl<|.q .fF<|.q .lss<|.zn ?_
 refine .cond rfl (λQ=>?_) λQ=>?_
 have a2:i<s.size:=by have d:=bq Q;omega
 obtain⟨c,a6⟩:∃c,c=s[i]:=⟨_,rfl⟩
 have a7:l[i]? =some c:=by rw[f,a6,bB (by simpa using a2)];rfl
 have b1:l.take (i+1)=l.take i++[c]:=by rw[List.take_add_one,a7];rfl
 refine .kn<|.seq<|.block<|.sr<|.mo rfl<|.mo rfl ?_
 refine .q (.cast (.iG i a2) (by rw[<-a6])) ?_
 refine .aL (Me c _) (λu hu=>?_)
 subst hu
 refine .ag rfl<|.zs<|.sr<|.mo rfl<|.q .lss<|.zn ?_
 refine .cond rfl (λS=>?_) λS=>?_
 have d1:fw c<0:=by simpa using S
 have A:fU l=false:=by
  unfold fU
  rw[Bool.and_eq_false_iff]
  refine .inl (List.all_eq_false.2 ⟨c,bU a7,by simp;omega⟩)
 refine .sr<|.ag rfl<|.az rfl ?_
 refine .ret (aI (bp (aI (dj (bp (aI (aN _ (.two (.tmp rfl) (.tmp rfl)) ((aH []).trans (aU.bu (H':=[[]]) (by simp[take]))) ?_)))))))
 ·first
   |exact⟨[],rfl,sZ,[],4,rfl,OS.nil,⟨λe=>absurd e (by decide),λe=>(by rw[<-f,A]at e;cases e)⟩,λe=>absurd e (by decide)⟩
   |exact⟨t,rfl,C,xs,0,rfl,r,⟨λ_=>(by rw[<-f];exact M),λ_=>rfl⟩,λ_=>(by rw[B,E])⟩
 have a8:¬fw c<0:=by simpa using S
 obtain⟨x,hx,_,b2⟩:=(wh c).resolve_left (λe=>by rw[e]at a8;exact a8 (by decide))
 rw[b2]
 have c4:jX (l.take (i+1))=jX (l.take i)++[x]:=by rw[b1];unfold jX;rw[List.map_append,List.map_cons,List.map_nil,b2];rfl
 refine .kn<|.sr<|.ag rfl<|.z<|.az rfl<|.block ?_
 refine .loop (X:=Nat×Nat×Value×ax) (λy=>(y.1<=6/\y.2.1=32/2^y.1)/\OS 3 1 mD y.2.2.1 (bits (jX (l.take i))++(b6 x).take y.1) y.2.2.2) (λy=>[(0,.string s),(4,y.2.2.1),(5,iN i),(6,iN x),(7,iN y.2.1),(8,iN y.1)]) (λy=>[y.2.2.2,[]]) (λy=>6-y.1) (0,32,v4,h) ⟨⟨by simp only;omega,by simp⟩,by simpa using o⟩ kE.c.c.c.c.c.c rH ?_
 rintro⟨j,p,v7,T7⟩ ⟨⟨J,K⟩,G⟩
 simp only at J K G⊢
 have d4:=G.av
 refine .seq<|.sr<|.mo rfl<|.q .lss<|.zn ?_
 refine .cond rfl (λU=>?_) λU=>?_
 have w:j<6:=by have d:=bq U;omega
 obtain⟨c1,d2⟩:=LL w
 refine .kn<|.seq<|.block<|.sr<|.mo rfl<|.mo rfl<|.mo rfl ?_
 refine .q (.mm p rfl rfl (by rw[K];exact c1) (by omega)) ?_
 refine .q (.lK 2 rfl rfl (by decide)) ?_
 refine .hZ (λc6=>?_)
 refine .append G (RS.lits (xs:=[x/p % 2]) rfl (by simp[mD]) (by simp[mD,av])) (by simp;omega) (λv8 O Z=>?_)
 rw[K,List.append_assoc, <-yW w]at Z
 have c5:=Z.av
 refine .az rfl<|.region<|.mo rfl ?_
 refine .q (.mm 2 rfl rfl (by decide) (by omega)) ?_
 refine .ag rfl<|.nil<|bw<|aD<|.region<|.mo rfl ?_
 refine .ia (j+1) .add ?_
 refine .ag rfl<|.nil ?_
 ·exact bd (j+1,p/2,v8,O) ⟨⟨w,by simp only;rw[K,LK w]⟩,Z⟩ (by simp only;omega) kE.c.c.c.c.c.c (aH [1,1])
 have w:j=6:=by have d:=bi U;omega
 subst w
 have b5:OS 3 1 mD v7 (bits (jX (l.take (i+1)))) T7:=by rw[c4,tP];exact G
 refine .exit<|bE<|bH<|bF<|bw<|aD<|.region<|.mo rfl ?_
 refine .ia (i+1) .add ?_
 refine .ag rfl<|.nil ?_
 ·exact bd (i+1,v7,T7) ⟨a2,b5,λy hy=>by
   rw[b1]at hy
   rcases afy.1 hy with hy|hy
   ·exact H y hy
   ·rw[List.mem_singleton]at hy;subst hy;omega⟩ (by simp only;omega) kE.c.c.c rH
 have a0:i=s.size:=by have d:=bi Q;omega
 have c3:l.take i=l:=afH (by omega)
 rw[c3]at o H I L
 have b7:(l.all λc=>decide (0<=fw c))=true:=List.all_eq_true.2 λc hc=>by simp only[decide_eq_true_eq];exact H c hc
 refine .exit<|bE<|bH<|bF<|aD<|.seq<|.sr<|.mo rfl<|.q (.ei o) ?_
 refine .q (.lK 8 rfl rfl (by decide)) ?_
 refine .q .geq<|.zn ?_
 refine .cond rfl (λV=>?_) λV=>?_
 have A:fU l=false:=by
  unfold fU
  have d:=bq V
  rw[a1,decide_eq_false (p:=6*s.size % 8<6) (by omega),Bool.false_and,Bool.and_false]
 refine .sr<|.ag rfl<|.az rfl ?_
 refine .ret (aI (aN _ (.two (.tmp rfl) (.tmp rfl)) ((aH []).trans (aU.bu (H':=[[]]) (by simp[take]))) ?_))
 ·first
   |exact⟨[],rfl,sZ,[],4,rfl,OS.nil,⟨λe=>absurd e (by decide),λe=>(by rw[<-f,A]at e;cases e)⟩,λe=>absurd e (by decide)⟩
   |exact⟨t,rfl,C,xs,0,rfl,r,⟨λ_=>(by rw[<-f];exact M),λ_=>rfl⟩,λ_=>(by rw[B,E])⟩
 have b0:6*s.size % 8<6:=by have d:=bi V;omega
 obtain⟨D,hD⟩:∃D,D=bits (jX l):=⟨_,rfl⟩
 rw[<-hD]at o I
 rw[L,a0]at I
 refine .kn<|.sr<|.ag rfl<|.zs<|.block ?_
 refine .loop (X:=Nat×Value×Value×List UInt8×ax) (λy=>8*y.1<=6*s.size/\RS (sg h) 1 mD y.2.1 (D.drop (8*y.1))/\OS 5 1 cK y.2.2.1 y.2.2.2.1 y.2.2.2.2/\y.2.2.2.1.length=y.1) (λy=>[(0,.string s),(4,y.2.1),(9,y.2.2.1)]) (λy=>[h,y.2.2.2.2]) (λy=>6*s.size-8*y.1) (0,v4,sZ,[],[]) ⟨by simp,by simpa using o.sg,OS.nil,rfl⟩ kE.c.c.c rH ?_
 rintro⟨m,N,C,xs,t⟩ ⟨c0,g,r,B⟩
 simp only at c0 g r B⊢
 have d7:=g.av
 have d6:=r.av
 have d0:(D.drop (8*m)).length=6*s.size-8*m:=by rw[List.length_drop,I]
 refine .seq<|.sr<|.mo rfl<|.q (.di g) ?_
 refine .q .geq<|.zn ?_
 refine .cond rfl (λW=>?_) λW=>?_
 have b4:8*m+8<=6*s.size:=by have d:=bq W;omega
 refine .kn<|.block<|.sr<|.ag rfl<|.zs<|.sr<|.az rfl<|.block ?_
 refine .loop (X:=Nat×Nat) (λy=>y.1<=8/\y.2<2^y.1) (λy=>[(0,.string s),(4,N),(9,C),(10,iN y.2),(11,iN y.1)]) (λy=>[h,t]) (λy=>8-y.1) (0,0) ⟨by simp,by simp⟩ kE.c.c.c.c.c rH ?_
 rintro⟨j,a⟩ ⟨J,ha⟩
 simp only at J ha⊢
 have c8:a<256:=Nat.lt_of_lt_of_le ha (Nat.pow_le_pow_right (n:=2) (by decide) J)
 refine .seq<|.sr<|.mo rfl<|.q .lss<|.zn ?_
 refine .cond rfl (λh6=>?_) λh6=>?_
 have b9:j<8:=by have d:=bq h6;omega
 obtain⟨b,k⟩:∃b,(D.drop (8*m))[j]? =some b:=⟨_,bB (by omega)⟩
 have c9:b<=1:=zc (xs:=jX l) b (hD▸List.mem_of_mem_drop (bU k))
 have pj:PS h (eK N (j*1)) (mD b):=⟨g.pc k⟩
 refine .kn<|.seq<|.block<|.region<|.mo rfl ?_
 refine .ia (2*a) .mul ?_
 refine .mo rfl<|.mo rfl<|.q (.ct j g k rfl rfl rfl) ?_
 refine .lo rfl ?_
 refine .ia (2*a+b) .add ?_
 refine .ag rfl<|.nil<|bw<|aD<|.region<|.mo rfl ?_
 refine .ia (j+1) .add ?_
 refine .ag rfl<|.nil ?_
 ·exact bd (j+1,2*a+b) ⟨b9,by simp only;rw[Nat.pow_succ];generalize 2^j=q at *;omega⟩ (by simp only;omega) kE.c.c.c.c.c rH
 refine .exit<|bE<|bH<|bF<|aD<|.sr<|.mo rfl<|.mo rfl<|.q (.sS rfl) ?_
 refine .hZ (λc7=>?_)
 refine .append r (RS.lits (xs:=[UInt8.ofNat a]) rfl (by simp[cK]) (by simp[cK,av])) (by simp;omega) (λv8 O a5=>?_)
 have c5:=a5.av
 refine .az rfl<|.region<|.mo rfl ?_
 refine .jS (R':=sg h) 8 (D.drop (8*m)).length g ⟨_,rfl⟩ rfl (by omega) (by omega) (λv9 a3=>?_)
 have d5:=a3.av
 have e9:((D.drop (8*m)).drop 8).take ((D.drop (8*m)).length-8)=D.drop (8*(m+1)):=by rw[afH (by rw[List.length_drop];omega),List.drop_drop,show 8*(m+1)=8*m+8 by omega]
 rw[e9]at a3
 refine .ag rfl<|.nil<|bw ?_
 ·exact bd (m+1,v9,v8,xs++[UInt8.ofNat a],O) ⟨by simp only;omega,a3,a5,by simp[B]⟩ (by simp only;omega) kE.c.c.c (aH [1,1])
 have b4:¬8*m+8<=6*s.size:=by have d:=bi W;omega
 have E:m=6*s.size/8:=by omega
 have b3:(∀b∈D.drop (8*m),b=0)↔lg l l.length % 2^(6*l.length % 8)=0:=by
  have d:=zd (xs:=jX l) (by rw[L,a0];exact b0)
  rw[L,a0, <-hD, <-E, <-KK]at d
  rw[a1]at d⊢
  exact d
 refine .exit<|bE<|bH<|bF<|aD<|.seq<|.sr<|.az rfl<|.block ?_
 refine .loop (X:=Nat) (λi=>i<=(D.drop (8*m)).length/\∀b∈(D.drop (8*m)).take i,b=0) (λi=>[(0,.string s),(4,N),(9,C),(12,iN i)]) (λ_=>[h,t]) (λi=>(D.drop (8*m)).length-i) 0 ⟨afz _,λb hb=>by cases hb⟩ kE.c.c.c.c rH ?_
 rintro q ⟨hq,a4⟩
 refine .seq<|.sr<|.mo rfl<|.mo rfl<|.q (.di g) ?_
 refine .q .lss<|.zn ?_
 refine .cond rfl (λY=>?_) λY=>?_
 have a9:q<(D.drop (8*m)).length:=by have d:=bq Y;omega
 obtain⟨b,k⟩:=dR a9
 have pj:PS h (eK N (q*1)) (mD b):=⟨g.pc k⟩
 refine .kn<|.seq<|.block<|.sr<|.mo rfl<|.mo rfl<|.q (.ct q g k rfl rfl rfl) ?_
 refine .lo rfl<|.q .dF<|.zn ?_
 refine .cond rfl (λF=>?_) λF=>?_
 have A:fU l=false:=by
  have b8:¬((b:Nat):Int)=0:=by simpa using F
  have d:¬lg l l.length % 2^(6*l.length % 8)=0:=λe=>b8 (by rw[b3.2 e b (bU k)];rfl)
  unfold fU
  rw[beq_eq_false_iff_ne.2 d,Bool.and_false,Bool.and_false]
 refine .sr<|.ag rfl<|.az rfl ?_
 refine .ret (bp (aI (dj (bp (aI (aN _ (.two (.tmp rfl) (.tmp rfl)) ((aH []).trans (aU.bu (H':=[[]]) (by simp[take]))) ?_))))))
 ·first
   |exact⟨[],rfl,sZ,[],4,rfl,OS.nil,⟨λe=>absurd e (by decide),λe=>(by rw[<-f,A]at e;cases e)⟩,λe=>absurd e (by decide)⟩
   |exact⟨t,rfl,C,xs,0,rfl,r,⟨λ_=>(by rw[<-f];exact M),λ_=>rfl⟩,λ_=>(by rw[B,E])⟩
 refine .skip<|bw<|aD<|.region<|.mo rfl ?_
 refine .ia (q+1) .add ?_
 refine .ag rfl<|.nil ?_
 ·exact bd (q+1) ⟨a9,λy hy=>by
   rw[List.take_add_one,k]at hy
   rcases afy.1 hy with hy|hy
   ·exact a4 y hy
   ·have hy:y=b:=by simpa using hy
    have d:((b:Nat):Int)=0:=by
     by_cases d:((b:Nat):Int)=0
     ·exact d
     ·rw[bne_iff_ne.2 d]at F
      cases F
    omega⟩ (by omega) kE.c.c.c.c rH
 have c2:q=(D.drop (8*m)).length:=by have d:=bi Y;omega
 rw[c2,List.take_length]at a4
 have M:fU l=true:=by
  unfold fU
  rw[b7,decide_eq_true (p:=6*l.length % 8<6) (by rw[a1];exact b0),b3.1 a4]
  rfl
 refine .exit<|bE<|bH<|bF<|aD<|.sr<|.mo rfl<|.ag rfl<|.az rfl ?_
 refine .ret (aN _ (.two (.tmp rfl) (.tmp rfl)) (aH [1]) ?_)
 ·first
   |exact⟨[],rfl,sZ,[],4,rfl,OS.nil,⟨λe=>absurd e (by decide),λe=>(by rw[<-f,A]at e;cases e)⟩,λe=>absurd e (by decide)⟩
   |exact⟨t,rfl,C,xs,0,rfl,r,⟨λ_=>(by rw[<-f];exact M),λ_=>rfl⟩,λ_=>(by rw[B,E])⟩
theorem Mb(s:ByteArray)(h:s.size<=1000)(R:au):Spec prog 103 [.string s] R [] λu H'=>u=.bool (lI s)/\H'=[]:=by
  refine Spec.body func103 rfl results103 ntmps103 rfl ?_
  refine .sr<|.ag rfl<|.z<|.mo rfl ?_
  refine .cW (LZ s h _) (λu j i=>?_)
  obtain⟨v,l,e,rfl,f,d,g⟩:=i
  have k:=f.av
  refine .mo rfl<|.q .extract<|.q .extract<|.ag rfl<|.ag rfl<|.z<|.mo rfl<|.q .bR<|.mo rfl ?_
  refine .split (t:=12) rfl (λa=>?_) (λa=>?_)
  refine .gT a<|.mo rfl<|.gT a<|.q (.ei f) ?_
  refine .gT a<|.q .bR<|.q (.aW a) ?_
  refine .az rfl ?_
  refine .ret (aO rfl ?_)
  ·unfold lI
   first
     |(have b:e=0:=by simpa using a
       have c:=g b
       rw[d.1 b,Bool.true_and]
       refine⟨aft Value.bool ?_,rfl⟩
       rw[Bool.eq_iff_iff]
       simp
       omega)
     |(have b:¬e=0:=by simpa using a
       have c:fU s.data.toList=false:=by
         cases e9:fU s.data.toList with
         |false=>rfl
         |true=>exact absurd (d.2 e9) b
       rw[c,Bool.false_and]
       exact⟨rfl,rfl⟩)
  refine .gF a<|.gF a<|.gF a<|.q (.aQ a) ?_
  refine .az rfl ?_
  refine .ret (aO rfl ?_)
  ·unfold lI
   first
     |(have b:e=0:=by simpa using a
       have c:=g b
       rw[d.1 b,Bool.true_and]
       refine⟨aft Value.bool ?_,rfl⟩
       rw[Bool.eq_iff_iff]
       simp
       omega)
     |(have b:¬e=0:=by simpa using a
       have c:fU s.data.toList=false:=by
         cases e9:fU s.data.toList with
         |false=>rfl
         |true=>exact absurd (d.2 e9) b
       rw[c,Bool.false_and]
       exact⟨rfl,rfl⟩)
section
variable{RD R:au}{xb k:Nat}{s:cm}{H:aV}
theorem DS.lE(h:DS RD xb s H):∃A B C D E,H=[A,B,C,D,E]:=by
 obtain⟨l,k,j,m,c,b,a,d,g,f,e,i,rfl,_⟩:=h
 exact⟨_,_,_,_,_,rfl⟩
theorem NL(l:List ByteArray)(n k:Nat):∀t∈texts l n k,t.size<=k:=by
 intro t a
 unfold texts at a
 obtain⟨u,_,rfl⟩:=List.mem_map.1 a
 exact pg _ _
theorem L6(h:DS RD xb s H)(c:OB s k)(l:k<=60)(w:OV)(x:OC)(R:au)(i:OR RD w x.bQ)(g:∀b o,RD b o->R b o):
  Spec prog 7 [pT xb,.agg (iS w x.bQ).toArray] R H λu H'=>u=.tuple [.string (eV s x.bQ).1,.string (eV s x.bQ).2.1,.int .i64 (eV s x.bQ).2.2.1].toArray/\∃Hs Td,H'=Hs++[Td]/\DS (λb o=>RD b o\/sg Td b o) xb (eV s x.bQ).2.2.2 Hs:=by
 have j:=h
 obtain⟨Y,C,B,D,M,F,E,G,rs,ns,gs,ts,rfl,hr,hn,hg,K,J⟩:=h
 obtain⟨l1,l2,l3,l4⟩:=J.len c l
 have j1:=hr.av
 have j2:=hn.av
 have j3:=hg.av
 have j4:=K.av
 have i1:bG (iS w x.bQ):=⟨i.bD⟩
 have i2:bG w.cr.cells:=⟨i.1.bD⟩
 have z1:x.bQ.user.size<=40:=pg _ _
 have z2:x.bQ.word.size<=140:=pg _ _
 have Z:x.bQ.scopes.length<=6:=by show(texts x.scopes 6 40).length<=6;simp[texts];omega
 have z4:x.bQ.a.length<=30:=by show(x.a.take 30).length<=30;simp;omega
 have z5:x.bQ.r.length<=30:=by show(x.r.take 30).length<=30;simp;omega
 have z6:∀t∈x.bQ.scopes,t.size<=99:=λt K=>Nat.le_trans (NL x.scopes 6 40 t K) (by omega)
 refine Spec.cX (H':=[bl xb [Y,C,B,D,.int .i64 s.last,.int .i64 s.now] 44,M,F,E,G,[]]) (by simp) ?_
 refine Spec.body func7 rfl results7 ntmps7 rfl ?_
 refine .sr ?_
 refine .dA rfl (λN=>?_)
 refine .ag rfl<|.ag rfl<|.ag rfl<|.z<|.fa rfl<|.lo rfl<|.zn<|.block<|.sr<|.q .bR<|.az rfl ?_
 refine .cond rfl (λO=>?_) λO=>?_
 refine .sr<|.mo rfl<|.fa rfl<|.lo rfl ?_
 refine .call [1,1,1,1,1] (Mi j c l x.bQ.n _) (λu H' f=>?_)
 obtain⟨rfl,e⟩:=f
 obtain⟨m,p,v,y,A,rfl⟩:=e.lE
 conv=>arg 8;simp only[rest,aY,afv,afw]
 refine .ag rfl<|.ag rfl<|.az rfl ?_
 refine .ret (bp (aN _ (.three (.tmp rfl) (.tmp rfl) (.tmp rfl)) (aH [0,0,0,0,0,1]) ?_))
 ·rw[wT (x:=x.bQ) (by have d:=O;simp only[afA]at d;exact d)]
  exact⟨rfl,[_,_,_,_,_],[],rfl,e.mono λb o c=>.inl c⟩
 refine .sr<|.q .bR<|.az rfl ?_
 refine .cond rfl (λQ=>?_) λQ=>?_
 refine .seq ?_
 refine .dc 5 mixed (by kernel_rfl) ?_
 conv=>arg 6;dsimp only[List.take]
 refine .mo rfl<|.nc rfl<|.fa rfl<|.fa rfl<|.q (.loadT rfl) ?_
 refine .nil<|.sub (H':=[(xb,.cells [Y,C,B,D,.int .i64 s.last,.int .i64 s.now].toArray 44 (0,0))::M,bl N (iS w x.bQ) 29,F,E,G,[]]) ((aH [1,1,0,0,0,0]).trans (aU.bu (afu rfl))) ?_
 refine .bT (LV xb C B D s.last s.now rs _ ⟨Y,M,rfl,hr,l1⟩ w.cr x.bQ.cl R (i.1.mono g) (bx.xW x.cl) (J.cr.mono g)) (λu T1 f=>?_)
 obtain⟨rfl,L,I,rfl,a1,a2⟩:=f
 rw[<-J.bc.code]
 have e:DS RD xb (nO s x.bQ.cl).2 [bl xb [L,C,B,D,.int .i64 s.last,.int .i64 s.now] 44,I,F,E,G]:=⟨L,C,B,D,I,F,E,G,_,ns,gs,ts,rfl,a1,hn,hg,K,J.yP i.1⟩
 refine .sub (H':=[bl xb [L,C,B,D,.int .i64 s.last,.int .i64 s.now] 44,I,F,E,G,bl N (iS w x.bQ) 29,[]]) ((aU.bu (H':=[bl xb [L,C,B,D,.int .i64 s.last,.int .i64 s.now] 44,I,bl N (iS w x.bQ) 29,F,E,G,[]]) (afu rfl)).trans (aH [0,0,1,1,1,0,0])) ?_
 refine .ag rfl<|.ag rfl<|.az rfl ?_
 refine .ret (bp (aN _ (.three (.tmp rfl) (.tmp rfl) (.tmp rfl)) (aH [0,0,0,0,0,1]) ?_))
 ·rw[wU (x:=x.bQ) (by have d:=Q;simp only[afA]at d;exact d)]
  exact⟨rfl,[_,_,_,_,_],[],rfl,e.mono λb o c=>.inl c⟩
 refine .sr<|.q .bR<|.az rfl ?_
 refine .cond rfl (λS=>?_) λS=>?_
 refine .sr<|.mo rfl<|.fa rfl<|.lo rfl ?_
 refine .call [1,1,1,1,1] (Mg j c l x.bQ.id _ (λb o c=>.inl (g b o c))) (λu H' f=>?_)
 obtain⟨rfl,e⟩:=f
 obtain⟨m,p,v,y,A,rfl⟩:=e.lE
 conv=>arg 8;simp only[rest,aY,afv,afw]
 refine .ag rfl<|.ag rfl<|.az rfl ?_
 refine .ret (bp (aN _ (.three (.tmp rfl) (.tmp rfl) (.tmp rfl)) (aH [0,0,0,0,0,1]) ?_))
 ·rw[wV (x:=x.bQ) (by have d:=S;simp only[afA]at d;exact d)]
  exact⟨rfl,[_,_,_,_,_],[],rfl,e.mono λb o c=>.inl c⟩
 refine .sr<|.q .bR<|.az rfl ?_
 refine .cond rfl (λT=>?_) λT=>?_
 refine .sr<|.mo rfl<|.fa rfl<|.lo rfl<|.fa rfl<|.lo rfl<|.fa rfl<|.lo rfl ?_
 refine .call [1,1,1,1,1] (LW j c l x.bQ.user x.bQ.id (by omega) w.vs x.bQ.scopes i.2.1 Z _ (λb o c=>.inl (g b o c))) (λu H' f=>?_)
 obtain⟨rfl,Hs,Td,rfl,e⟩:=f
 obtain⟨m,p,v,y,A,rfl⟩:=e.lE
 conv=>arg 8;simp only[rest,aY,afv,afw]
 refine .ag rfl<|.ag rfl<|.az rfl ?_
 refine .ret (bp (aN _ (.three (.tmp rfl) (.tmp rfl) (.tmp rfl)) (aH [0,0,0,0,0,0]) ?_))
 ·rw[wW (x:=x.bQ) (by have d:=T;simp only[afA]at d;exact d)]
  exact⟨rfl,[_,_,_,_,_],Td,rfl,e⟩
 refine .sr<|.q .bR<|.az rfl ?_
 refine .cond rfl (λU=>?_) λU=>?_
 refine .sr<|.mo rfl<|.fa rfl<|.lo rfl<|.fa rfl<|.lo rfl ?_
 refine .call [1,1,1,1,1] (Ml j c l x.bQ.user x.bQ.id _) (λu H' f=>?_)
 obtain⟨rfl,e⟩:=f
 obtain⟨m,p,v,y,A,rfl⟩:=e.lE
 conv=>arg 8;simp only[rest,aY,afv,afw]
 refine .ag rfl<|.ag rfl<|.az rfl ?_
 refine .ret (bp (aN _ (.three (.tmp rfl) (.tmp rfl) (.tmp rfl)) (aH [0,0,0,0,0,1]) ?_))
 ·rw[wX (x:=x.bQ) (by have d:=U;simp only[afA]at d;exact d)]
  exact⟨rfl,[_,_,_,_,_],[],rfl,e.mono λb o c=>.inl c⟩
 refine .sr<|.q .bR<|.az rfl ?_
 refine .cond rfl (λV=>?_) λV=>?_
 refine .sr<|.mo rfl<|.fa rfl<|.lo rfl<|.fa rfl<|.lo rfl<|.fa rfl<|.lo rfl<|.fa rfl<|.lo rfl<|.fa rfl<|.lo rfl<|.fa rfl<|.lo rfl ?_
 refine .call [1,1,1,1,1] (LU j c l x.bQ.user x.bQ.id x.bQ.uri (by omega) w.vs x.bQ.scopes i.2.1 Z z6 x.bQ.word (Mb x.bQ.word (by omega)) w.va x.bQ.a (by omega) _ (i.2.2.1.mono λb o c=>.inl (g b o c)) (λb o c=>.inl (g b o c))) (λu H' f=>?_)
 obtain⟨rfl,Hs,Td,rfl,e⟩:=f
 obtain⟨m,p,v,y,A,rfl⟩:=e.lE
 conv=>arg 8;simp only[rest,aY,afv,afw]
 refine .mo rfl<|.q .extract<|.q .extract<|.ag rfl<|.ag rfl<|.z<|.mo rfl<|.mo rfl<|.ag rfl<|.ag rfl<|.az rfl ?_
 refine .ret (bp (aN _ (.three (.tmp rfl) (.tmp rfl) (.tmp rfl)) (aH [0,0,0,0,0,0]) ?_))
 ·rw[wY (x:=x.bQ) (by have d:=V;simp only[afA]at d;exact d)]
  exact⟨rfl,[_,_,_,_,_],Td,rfl,e⟩
 refine .sr<|.q .bR<|.az rfl ?_
 refine .cond rfl (λW=>?_) λW=>?_
 refine .sr<|.mo rfl<|.fa rfl<|.lo rfl<|.fa rfl<|.lo rfl<|.fa rfl<|.lo rfl<|.fa rfl<|.lo rfl<|.fa rfl<|.lo rfl<|.fa rfl<|.lo rfl<|.fa rfl<|.lo rfl<|.fa rfl<|.lo rfl ?_
 refine .call [1,1,1,1,1] (L7 j c l x.bQ.id x.bQ.cy x.bQ.text x.bQ.uri x.bQ.word (by omega) w.va w.vr x.bQ.a x.bQ.r x.bQ.rev (by omega) (by omega) _ (i.2.2.1.mono λb o c=>.inl (g b o c)) (i.2.2.2.mono λb o c=>.inl (g b o c)) (λb o c=>.inl (g b o c))) (λu H' f=>?_)
 obtain⟨rfl,e⟩:=f
 obtain⟨m,p,v,y,A,rfl⟩:=e.lE
 conv=>arg 8;simp only[rest,aY,afv,afw]
 refine .q .extract<|.q .extract<|.q .extract<|.ag rfl<|.ag rfl<|.az rfl ?_
 refine .ret (bp (aN _ (.three (.tmp rfl) (.tmp rfl) (.tmp rfl)) (aH [0,0,0,0,0,1]) ?_))
 ·rw[wZ (x:=x.bQ) (by have d:=W;simp only[afA]at d;exact d)]
  exact⟨rfl,[_,_,_,_,_],[],rfl,e.mono λb o c=>.inl c⟩
 refine .sr<|.q .bR<|.az rfl ?_
 refine .cond rfl (λX=>?_) λX=>?_
 refine .sr<|.mo rfl<|.fa rfl<|.lo rfl<|.fa rfl<|.lo rfl<|.fa rfl<|.lo rfl<|.fa rfl<|.lo rfl<|.fa rfl<|.lo rfl<|.fa rfl<|.lo rfl<|.fa rfl<|.lo rfl ?_
 refine .call [1,1,1,1,1] (Mf j c l x.bQ.id x.bQ.cy x.bQ.text w.vs x.bQ.scopes i.2.1 Z z6 w.va w.vr x.bQ.a x.bQ.r x.bQ.rev (by omega) (by omega) _ (i.2.2.1.mono λb o c=>.inl (g b o c)) (i.2.2.2.mono λb o c=>.inl (g b o c)) (λb o c=>.inl (g b o c))) (λu H' f=>?_)
 obtain⟨rfl,Hs,Td,rfl,e⟩:=f
 obtain⟨m,p,v,y,A,rfl⟩:=e.lE
 conv=>arg 8;simp only[rest,aY,afv,afw]
 refine .q .extract<|.q .extract<|.q .extract<|.ag rfl<|.ag rfl<|.az rfl ?_
 refine .ret (bp (aN _ (.three (.tmp rfl) (.tmp rfl) (.tmp rfl)) (aH [0,0,0,0,0,0]) ?_))
 ·rw[w7 (x:=x.bQ) (by have d:=X;simp only[afA]at d;exact d)]
  exact⟨rfl,[_,_,_,_,_],Td,rfl,e⟩
 refine .sr<|.q .bR<|.az rfl ?_
 refine .cond rfl (λd=>?_) λd=>?_
 refine .sr<|.mo rfl<|.fa rfl<|.lo rfl<|.fa rfl<|.lo rfl<|.fa rfl<|.lo rfl ?_
 refine .call [1,1,1,1,1] (Mh j c l x.bQ.id x.bQ.cy x.bQ.text _ (λb o c=>.inl (g b o c))) (λu H' f=>?_)
 obtain⟨rfl,e⟩:=f
 obtain⟨m,p,v,y,A,rfl⟩:=e.lE
 conv=>arg 8;simp only[rest,aY,afv,afw]
 refine .ag rfl<|.ag rfl<|.az rfl ?_
 refine .ret (bp (aN _ (.three (.tmp rfl) (.tmp rfl) (.tmp rfl)) (aH [0,0,0,0,0,1]) ?_))
 ·rw[w8 (x:=x.bQ) (by have d:=d;simp only[afA]at d;exact d)]
  exact⟨rfl,[_,_,_,_,_],[],rfl,e.mono λb o c=>.inl c⟩
 refine .sr<|.ag rfl<|.ag rfl<|.az rfl ?_
 refine .ret (bp (aN _ (.three (.tmp rfl) (.tmp rfl) (.tmp rfl)) (aH [1,1,1,1,1,1]) ?_))
 ·have a0:x.bQ.kind<0\/8<x.bQ.kind:=by
   simp only[beq_eq_false_iff_ne,ne_eq]at O Q S T U V W X d
   omega
  rw[xa (x:=x.bQ) a0]
  exact⟨rfl,[_,_,_,_,_],[],rfl,j.mono λb o c=>.inl c⟩
end
theorem K7(w:Value)(t:bJ)(R:au){R':au}(h:dl R' (w,t)):Spec prog 60 [.agg (bM (w,t)).toArray] R [] λv H'=>v=.agg (bM (w,t)).toArray/\H'=[]:=by
 have d:bG (bM (w,t)):=⟨h.bD⟩
 have a:RS R' 1 bz w t.scopes:=h
 obtain⟨f,e,rfl⟩:=a.val
 refine Spec.body func60 rfl results60 ntmps60 rfl ?_
 refine .sr ?_
 refine .dA rfl (λb=>?_)
 refine .cG (λc=>?_)
 refine .z<|.fa rfl<|.lo rfl<|.fa rfl<|.lo rfl<|.fa rfl<|.lo rfl<|.fa rfl<|.lo rfl<|.fa rfl<|.lo rfl<|.fa rfl<|.lo rfl<|.fa rfl<|.lo rfl<|.fa rfl<|.lo rfl<|.fa rfl<|.lo rfl ?_
 refine .q .du ?_
 refine .cc rfl rfl<|.zn ?_
 refine .ret (aN _ (.one (.dO rfl rfl)) (.none _) ?_)
 ·exact⟨rfl,rfl⟩
section
variable{RD:au}{xb k:Nat}{s:cm}{H:aV}
theorem Lk(q:Nat)(T:ax)(hC:fc q s T)(hD:DS RD xb s H)(f:OB s k)(hk:k<=60)(R:au)(a2:∀p∈T,R p.1 p.2)(hH:∀b o,(b,o)∈H.flatten->R b o)(a3:∀b o,RD b o->R b o):
  Spec prog 14 [pT q,pT xb] R [] λu H'=>u=.bool true/\H'=[]:=by
 obtain⟨M,Y,gv,Tc,Tb,Tv,hT,hR,hG,hV⟩:=id hC
 obtain⟨vr,vn,vg,vv,Ur,Un,Ug,Uv,rs,ns,Z,ts,rfl,hr,hn,hg,ht,L⟩:=hD
 obtain⟨l1,l2,l3,l4⟩:=L.len f hk
 have i1:=hr.av
 have i2:=hn.av
 have i3:=hg.av
 have i4:=ht.av
 have pq:PC R (pT q) [pT M,pT Y,pT gv,.int .i64 s.now]:=PC.of (E:=74) (fr:=(0,0)) (a2 (q,.cells [pT M,pT Y,pT gv,.int .i64 s.now].toArray 74 (0,0)) (by rw[hT];simp))
 have d0:∀p∈Tc,R p.1 p.2:=λp e=>a2 p (by rw[hT];simp[e])
 have b4:∀p∈Tb,R p.1 p.2:=λp e=>a2 p (by rw[hT];simp[e])
 have b5:∀p∈Tv,R p.1 p.2:=λp e=>a2 p (by rw[hT];simp[e])
 have c7:∀p∈s.C,p.2.length<=1000000:=λp e=>by have:=f.cl p e;omega
 have px:PC R (pT xb) [vr,vn,vg,vv,.int .i64 s.last,.int .i64 s.now]:=PC.of (E:=44) (fr:=(0,0)) (hH _ _ (by simp))
 have sr:RS R 4 dX vr rs:=hr.rs λp e=>hH _ _ (by simp[e])
 have sn:RS R 3 eb vn ns:=hn.rs λp e=>hH _ _ (by simp[e])
 have a6:RS R 9 bM vg Z:=hg.rs λp e=>hH _ _ (by simp[e])
 have st:RS R 9 bA vv ts:=ht.rs λp e=>hH _ _ (by simp[e])
 have e1:=f.cs
 have cA:=f.A
 have cV:=f.V
 have cC:=f.C
 refine Spec.body func14 rfl results14 ntmps14 rfl ?_
 refine .sr<|.ag rfl<|.z<|.mo rfl ?_
 refine .aL (sd q M Y _ _ _) (λu d=>?_)
 subst d
 refine .cW (Ke Y s.C s.A Tb hG (by omega) c7 _ λp e=>.inl (b4 p e)) (λw T1 U=>?_)
 obtain⟨ys,To,Ti,rfl,S,d2,d4,d5⟩:=U
 have j1:=S.av
 have b6:=MZ L.bn d4 d5
 have d3:ys.length=ns.length:=by have:=aft List.length b6;simpa using this
 refine .mo rfl ?_
 refine .aL (sd q M Y _ _ _) (λu d=>?_)
 subst d
 refine .cW (vp Y s.C s.A Tb hG (by omega) _ λp e=>.inl (b4 p e)) (λw2 T2 U=>?_)
 obtain⟨zs,a9,b8,rfl,a0,d6,d8,d9⟩:=U
 have J:=a0.av
 have b7:=MY L.bg d8 d9
 have d7:zs.length=Z.length:=by have:=aft List.length b7;simpa using this
 refine .mo rfl ?_
 refine .aL (wQ q M gv _ _ _) (λu d=>?_)
 subst d
 refine .cW (qU gv s.V s.last Tv hV (by omega) _ λp e=>.inl (b5 p e)) (λw3 T3 U=>?_)
 obtain⟨a7,b0,c0,rfl,a1,c1,c3,c4⟩:=U
 have j3:=a1.av
 have b2:=M0 L.bt c3 c4
 refine .sub (H':=[b0,c0,a9,b8,To,Ti]) (aU.bu (by simp)) ?_
 have c2:a7.length=ts.length:=by have:=aft List.length b2;simpa using this
 refine .ag rfl<|.ag rfl<|.ag rfl<|.zs<|.seq<|.cP [] mixed ?_
 refine .tO 0 rfl .move<|.tO 2 rfl .move<|.tO 3 rfl (.nilCheck rfl)<|.tO 4 rfl (.fieldAddr rfl)<|.tO 5 rfl (.bK rfl) ?_
 refine .sT 1 rfl ?_
 refine .aL (wE q M _ _ _ _) (λu d=>?_)
 subst d
 refine .nil (Next.sub ?_)
 refine .tO 6 rfl .dF<|.tO 7 rfl .move ?_
 refine RA.split (t:=28) rfl (λy=>?_) (λy=>?_)
 ·simp at y
 refine .df 8 rfl rfl y .move (by kernel_rfl) ?_
 refine .df 11 rfl rfl y .move (by kernel_rfl) ?_
 refine .df 12 rfl rfl y (.nilCheck rfl) (by kernel_rfl) ?_
 refine .df 13 rfl rfl y (.fieldAddr rfl) (by kernel_rfl) ?_
 refine .df 14 rfl rfl y (.fieldAddr rfl) (by kernel_rfl) ?_
 refine .df 15 rfl rfl y (.bK rfl) (by kernel_rfl) ?_
 refine .sT 9 rfl ?_
 refine .gT y ?_
 refine .aL (wQ q M gv _ _ _) (λu d=>?_)
 subst d
 refine .nil (Next.sub ?_)
 refine .sT 10 rfl ?_
 refine .gT y ?_
 refine .aL (qT gv s.V s.last Tv hV _ λp e=>.inl (b5 p e)) (λu d=>?_)
 subst d
 refine .nil (Next.sub ?_)
 refine .df 16 rfl rfl y .dF (by kernel_rfl) ?_
 refine .tO 17 rfl (.aQ y) ?_
 refine .tO 18 rfl .move ?_
 refine RA.split (t:=39) rfl (λm=>?_) (λm=>?_)
 ·simp at m
 refine .df 19 rfl rfl m .move (by kernel_rfl) ?_
 refine .df 22 rfl rfl m .move (by kernel_rfl) ?_
 refine .df 23 rfl rfl m (.nilCheck rfl) (by kernel_rfl) ?_
 refine .df 24 rfl rfl m (.fieldAddr rfl) (by kernel_rfl) ?_
 refine .df 25 rfl rfl m (.fieldAddr rfl) (by kernel_rfl) ?_
 refine .df 26 rfl rfl m (.bK rfl) (by kernel_rfl) ?_
 refine .sT 20 rfl ?_
 refine .gT m ?_
 refine .aL (K6 q M _ _ _ _) (λu d=>?_)
 subst d
 refine .nil (Next.sub ?_)
 refine .sT 21 rfl ?_
 refine .gT m ?_
 refine .cW (zT M s.cs Tc hR (by omega) _ λp e=>.inl (d0 p e)) (λw4 T4 U=>?_)
 obtain⟨bs,e0,a8,rfl,b1,a4,c8,c9⟩:=U
 have j4:=b1.av
 have c6:cM bs=cM rs:=yS L.bc.ga (c8.trans L.bc.pm) (by
  rw[List.pairwise_map]
  exact c9.imp_of_mem λ{a b} ha f b3=>by rw[mI,(a4 a ha).id,(a4 b f).id]at b3;exact b3)
 refine .nil (Next.sub ?_)
 refine .sT 27 rfl ?_
 refine .gT m ?_
 refine .aL (MP _ _ bs rs _ (b1.rs λp e=>.inr (by simp[e])) sr.rx (CL.mono (R:=sg a8) a4 λb o f=>.inr (by have c5:(b,o)∈a8:=f;simp[c5])) (L.cr.mono λb o f=>.inl (a3 b o f))) (λu d=>?_)
 rw[c6,decide_eq_true rfl]at d
 subst d
 refine .nil (Next.sub ?_)
 refine .df 28 rfl rfl m .not (by kernel_rfl) ?_
 refine .tO 29 rfl (.aQ m) ?_
 refine .tO 30 rfl .move ?_
 refine RA.split (t:=51) rfl (λx=>?_) (λx=>?_)
 ·simp at x
 refine .df 31 rfl rfl x .move (by kernel_rfl) ?_
 refine .df 32 rfl rfl x (.ei S) (by kernel_rfl) ?_
 refine .df 33 rfl rfl x .move (by kernel_rfl) ?_
 refine .df 34 rfl rfl x (.nilCheck rfl) (by kernel_rfl) ?_
 refine .df 35 rfl rfl x (.fieldAddr rfl) (by kernel_rfl) ?_
 refine .df 36 rfl rfl x (.fieldAddr rfl) (by kernel_rfl) ?_
 refine .df 37 rfl rfl x (.bK rfl) (by kernel_rfl) ?_
 refine .df 38 rfl rfl x (.di sn) (by kernel_rfl) ?_
 refine .df 39 rfl rfl x .dF (by kernel_rfl) ?_
 refine .tO 40 rfl (.aQ x) ?_
 refine .tO 41 rfl .move ?_
 refine RA.split (t:=62) rfl (λn=>?_) (λn=>?_)
 ·rw[d3]at n
  simp at n
 refine .df 42 rfl rfl n .move (by kernel_rfl) ?_
 refine .df 43 rfl rfl n (.ei a0) (by kernel_rfl) ?_
 refine .df 44 rfl rfl n .move (by kernel_rfl) ?_
 refine .df 45 rfl rfl n (.nilCheck rfl) (by kernel_rfl) ?_
 refine .df 46 rfl rfl n (.fieldAddr rfl) (by kernel_rfl) ?_
 refine .df 47 rfl rfl n (.fieldAddr rfl) (by kernel_rfl) ?_
 refine .df 48 rfl rfl n (.bK rfl) (by kernel_rfl) ?_
 refine .df 49 rfl rfl n (.di a6) (by kernel_rfl) ?_
 refine .df 50 rfl rfl n .dF (by kernel_rfl) ?_
 refine .tO 51 rfl (.aQ n) ?_
 refine .tO 52 rfl .move ?_
 refine RA.split (t:=73) rfl (λr=>?_) (λr=>?_)
 ·rw[d7]at r
  simp at r
 refine .df 53 rfl rfl r .move (by kernel_rfl) ?_
 refine .df 54 rfl rfl r (.ei a1) (by kernel_rfl) ?_
 refine .df 55 rfl rfl r .move (by kernel_rfl) ?_
 refine .df 56 rfl rfl r (.nilCheck rfl) (by kernel_rfl) ?_
 refine .df 57 rfl rfl r (.fieldAddr rfl) (by kernel_rfl) ?_
 refine .df 58 rfl rfl r (.fieldAddr rfl) (by kernel_rfl) ?_
 refine .df 59 rfl rfl r (.bK rfl) (by kernel_rfl) ?_
 refine .df 60 rfl rfl r (.di st) (by kernel_rfl) ?_
 refine .df 61 rfl rfl r .dF (by kernel_rfl) ?_
 refine .tO 62 rfl (.aQ r) ?_
 refine RA.nil (by kernel_rfl) ?_
 refine aD ?_
 refine .cond rfl (λh1=>?_) λh1=>?_
 ·rw[c2]at h1
  simp at h1
 refine .kn<|.seq<|.sr<|.az rfl<|.block ?_
 refine .oT [(1,_),(5,_),(6,_),(7,_)] (X:=Nat) (λi=>i<=ns.length) (λi E=>(8,iN i)::E) (λ_ G=>G) (λi=>ns.length-i) 0 (afz _) kE.c.c.c.c.c rH ?_
 rintro i hi
 refine .seq<|.sr<|.mo rfl<|.mo rfl<|.q (.ei S) ?_
 refine .q .lss<|.zn ?_
 refine .cond rfl (λh2=>?_) λh2=>?_
 have Q:i<ns.length:=by have I:=bq h2;omega
 obtain⟨⟨D,kz,N⟩,h⟩:=dR Q
 have O:=L.nr _ (bU h)
 have rz:RS RD 1 bz D N:=O
 have iz:bG (eb (D,kz,N)):=⟨O.bD⟩
 have pz:PC R (eK vn (i*3)) (eb (D,kz,N)):=sn.pc h
 obtain⟨⟨l,ky⟩,g⟩:∃z,ys[i]? =some z:=⟨_,bB (by omega)⟩
 have d1:ky=(kz,N):=by
  have I:(ys.map (·.2))[i]? =(ns.map (·.2))[i]? :=by rw[b6]
  simp[g,h]at I
  exact I
 subst d1
 have K:=d2 _ (bU g)
 have ry:RS (dU Ti) 1 bz l N:=K
 have iy:bG (eb (l,kz,N)):=⟨K.bD⟩
 have py:PS To (eK w (i*3)) (eb (l,kz,N)):=⟨S.pc g⟩
 refine .kn<|.seq<|.block<|.sr<|.mo rfl<|.nc rfl<|.fa rfl<|.fa rfl<|.lo rfl<|.mo rfl ?_
 refine .ct i sn h (λe3=>?_)
 refine .q (.bI rfl) ?_
 refine .cG (λb9=>?_)
 refine .cc rfl rfl<|.zs ?_
 refine .dc 26 mixed (by kernel_rfl) ?_
 conv=>arg 6;dsimp only[List.take]
 refine .mo rfl<|.mo rfl<|.q (.ct i S.sg g rfl rfl rfl) ?_
 refine .fa rfl<|.lo rfl<|.fa rfl<|.lo rfl<|.q .eU<|.mo rfl ?_
 refine .split (t:=106) rfl (λF=>?_) (λF=>?_)
 ·simp at F
 refine .gT F<|.mo rfl<|.gT F<|.mo rfl<|.gT F<|.q (.ct i S.sg g rfl rfl rfl) ?_
 refine .gT F<|.fa rfl<|.gT F<|.lo rfl<|.gT F<|.fa rfl<|.gT F<|.lo rfl<|.gT F<|.q .eU<|.q (.aQ F) ?_
 refine .mo rfl ?_
 refine .split (t:=116) rfl (λB=>?_) (λB=>?_)
 ·simp at B
 refine .gT B<|.mo rfl<|.gT B<|.mo rfl<|.gT B<|.q (.ct i S.sg g rfl rfl rfl) ?_
 refine .gT B<|.fa rfl<|.gT B<|.lo rfl<|.gT B<|.fa rfl<|.gT B<|.lo rfl<|.nil<|.gT B ?_
 refine .aL (o9 l D N N _ (ry.mono (pb (by simp))) (rz.mono λb o f=>.inl (a3 b o f))) (λu d=>?_)
 subst d
 rw[decide_eq_true rfl]
 refine .gT B<|.q .not<|.q (.aQ B) ?_
 refine .zn ?_
 refine .cond rfl (λh3=>?_) λh3=>?_
 ·simp at h3
 refine .skip<|bw<|aD<|.region<|.mo rfl ?_
 refine .ia (i+1) .add ?_
 refine .ag rfl<|.nil ?_
 ·exact bd (i+1) Q (by omega) kE.c.c.c.c.c (aH [1,1,1,1,1,1,1])
 refine .exit<|bE<|bH<|bF<|aD<|.seq<|.sr<|.az rfl<|.block ?_
 refine .oT [(1,_),(6,_),(7,_)] (X:=Nat) (λi=>i<=Z.length) (λi E=>(10,iN i)::E) (λ_ G=>G) (λi=>Z.length-i) 0 (afz _) kE.c.c.c.c rH ?_
 rintro j hj
 refine .seq<|.sr<|.mo rfl<|.mo rfl<|.q (.ei a0) ?_
 refine .q .lss<|.zn ?_
 refine .cond rfl (λh4=>?_) λh4=>?_
 have Q:j<Z.length:=by have I:=bq h4;omega
 obtain⟨⟨D,W⟩,h⟩:=dR Q
 have O:=L.gr _ (bU h)
 have iz:bG (bM (D,W)):=⟨O.bD⟩
 have pz:PC R (eK vg (j*9)) (bM (D,W)):=a6.pc h
 obtain⟨⟨l,v⟩,g⟩:∃z,zs[j]? =some z:=⟨_,bB (by omega)⟩
 have a5:v=W:=by
  have I:(eJ zs)[j]? =(eJ Z)[j]? :=by rw[b7]
  simp[g,h]at I
  exact I
 subst a5
 have K:=d6 _ (bU g)
 have iy:bG (bM (l,v)):=⟨K.bD⟩
 have py:PS a9 (eK w2 (j*9)) (bM (l,v)):=⟨a0.pc g⟩
 refine .kn<|.seq<|.block<|.seq<|.cP [] mixed ?_
 refine .tO 0 rfl .move<|.tO 1 rfl .move ?_
 refine .tO 2 rfl (.ct j a0.sg g rfl rfl rfl) ?_
 refine .tO 3 rfl (.bI rfl)<|.tO 5 rfl .move<|.tO 6 rfl (.nilCheck rfl)<|.tO 7 rfl (.fieldAddr rfl)<|.tO 8 rfl (.fieldAddr rfl)<|.tO 9 rfl (.bK rfl)<|.tO 10 rfl .move ?_
 refine .tO 11 rfl (.ct j a6 h rfl rfl rfl) ?_
 refine .tO 12 rfl (.bI rfl) ?_
 refine .sT 4 rfl ?_
 refine .aL (K7 l v _ K) (λu d=>?_)
 subst d
 refine .nil (Next.sub ?_)
 refine .sT 13 rfl ?_
 refine .aL (MW l D v v _ (K.mono (pb (by simp))) (O.mono λb o f=>.inl (a3 b o f))) (λu d=>?_)
 rw[MV]at d
 subst d
 refine .nil (Next.sub ?_)
 refine .tO 14 rfl .not ?_
 refine RA.nil (by kernel_rfl) ?_
 refine aD ?_
 refine .cond rfl (λh5=>?_) λh5=>?_
 ·simp at h5
 refine .skip<|bw<|aD<|.region<|.mo rfl ?_
 refine .ia (j+1) .add ?_
 refine .ag rfl<|.nil ?_
 ·exact bd (j+1) Q (by omega) kE.c.c.c.c rH
 refine .exit<|bE<|bH<|bF<|aD<|.seq<|.sr<|.az rfl<|.block ?_
 refine .oT [(1,_),(7,_)] (X:=Nat) (λi=>i<=ts.length) (λi E=>(11,iN i)::E) (λ_ G=>G) (λi=>ts.length-i) 0 (afz _) kE.c.c.c rH ?_
 rintro J e2
 refine .seq<|.sr<|.mo rfl<|.mo rfl<|.q (.ei a1) ?_
 refine .q .lss<|.zn ?_
 refine .cond rfl (λh6=>?_) λh6=>?_
 have Q:J<ts.length:=by have I:=bq h6;omega
 obtain⟨⟨D,W⟩,h⟩:=dR Q
 have O:=L.tr _ (bU h)
 have iz:bG (bA (D,W)):=⟨O.bD⟩
 have pz:PC R (eK vv (J*9)) (bA (D,W)):=st.pc h
 obtain⟨⟨l,v⟩,g⟩:∃z,a7[J]? =some z:=⟨_,bB (by omega)⟩
 have a5:v=W:=by
  have I:(dr a7)[J]? =(dr ts)[J]? :=by rw[b2]
  simp[g,h]at I
  exact I
 subst a5
 have K:=c1 _ (bU g)
 have iy:bG (bA (l,v)):=⟨K.bD⟩
 have py:PS b0 (eK w3 (J*9)) (bA (l,v)):=⟨a1.pc g⟩
 refine .kn<|.seq<|.block<|.seq<|.cP [] mixed ?_
 refine .tO 0 rfl .move<|.tO 1 rfl .move ?_
 refine .tO 2 rfl (.ct J a1.sg g rfl rfl rfl) ?_
 refine .tO 3 rfl (.bI rfl)<|.tO 5 rfl .move<|.tO 6 rfl (.nilCheck rfl)<|.tO 7 rfl (.fieldAddr rfl)<|.tO 8 rfl (.fieldAddr rfl)<|.tO 9 rfl (.bK rfl)<|.tO 10 rfl .move ?_
 refine .tO 11 rfl (.ct J st h rfl rfl rfl) ?_
 refine .tO 12 rfl (.bI rfl) ?_
 refine .sT 4 rfl ?_
 refine .aL (wG l v _ K) (λu d=>?_)
 subst d
 refine .nil (Next.sub ?_)
 refine .sT 13 rfl ?_
 refine .aL (xN l D v v _ (K.mono (pb (by simp))) (O.mono λb o f=>.inl (a3 b o f))) (λu d=>?_)
 rw[xM]at d
 subst d
 refine .nil (Next.sub ?_)
 refine .tO 14 rfl .not ?_
 refine RA.nil (by kernel_rfl) ?_
 refine aD ?_
 refine .cond rfl (λh7=>?_) λh7=>?_
 ·simp at h7
 refine .skip<|bw<|aD<|.region<|.mo rfl ?_
 refine .ia (J+1) .add ?_
 refine .ag rfl<|.nil ?_
 ·exact bd (J+1) Q (by omega) kE.c.c.c rH
 refine .exit<|bE<|bH<|bF<|aD<|.sr<|.az rfl ?_
 refine .ret (aN _ (.one (.tmp rfl)) (aH []) ?_)
 ·exact⟨rfl,rfl⟩
end
theorem DS.zero(RD:au)(xb:Nat):DS RD xb cm.zero [bl xb [sZ,sZ,sZ,sZ,.int .i64 0,.int .i64 0] 44,[],[],[],[]]:=
 ⟨_,_,_,_,[],[],[],[],[],[],[],[],rfl,OS.nil,OS.nil,OS.nil,OS.nil,DM.zero RD⟩
theorem Lf(v:Value)(O:List OD)(R:au)(H:RS R 16 uH v O)(hD:∀d∈O,OR R d.1 d.2)(hg:PC R (pT 1) (wv ks)):
  Spec prog 4 [v] R [] λu H'=>u=.bool true/\H'=[]:=by
 have iv:=H.av
 have b3:=H.le
 refine Spec.body func4 rfl results4 ntmps4 rfl ?_
 refine .sr<|.ag rfl<|.z ?_
 refine .cW (wD _) (λu T f=>?_)
 obtain⟨q,rfl,a7⟩:=f
 refine .q .du ?_
 refine .dA rfl (λW=>?_)
 refine .ag rfl<|.ag rfl<|.zs<|.sr<|.mo rfl<|.q (.qf rfl rfl) ?_
 refine .zn<|.bX<|.kn<|.seq<|.sr<|.az rfl<|.block ?_
 refine .loop (X:=Nat×cm×ax×ax×ax×ax×ax×ax×ax) (λy=>(y.1<=O.length/\y.1<=30)/\fc q y.2.1 y.2.2.1/\OB y.2.1 y.1/\DS (sg y.2.2.2.2.2.2.2.2) W y.2.1 [y.2.2.2.1,y.2.2.2.2.1,y.2.2.2.2.2.1,y.2.2.2.2.2.2.1,y.2.2.2.2.2.2.2.1]) (λy=>[(0,v),(3,pT q),(4,pT W),(5,iN y.1)]) (λy=>[y.2.2.1,y.2.2.2.1,y.2.2.2.2.1,y.2.2.2.2.2.1,y.2.2.2.2.2.2.1,y.2.2.2.2.2.2.2.1,y.2.2.2.2.2.2.2.2]) (λy=>30-y.1) (0,cm.zero,T,_,[],[],[],[],[]) ⟨⟨afz _,afz _⟩,a7,OB.zero,DS.zero _ _⟩ kE.c.c.c.c ((aH [1,0]).trans (aU.bu (by simp[take,aY]))) ?_
 rintro⟨i,s,T,A,B,C,D,E,j⟩ ⟨⟨hi,a8⟩,Y,Q,Z⟩
 simp only at hi a8 Y Q Z⊢
 refine .seq<|.sr<|.mo rfl<|.mo rfl<|.q (.di H) ?_
 refine .q .lss<|.mo rfl ?_
 refine .split (t:=26) rfl (λl=>?_) (λl=>?_)
 refine .gT l<|.mo rfl<|.gT l<|.q .lss<|.q (.aW l) ?_
 refine .zn ?_
 refine .cond rfl (λh2=>?_) λh2=>?_
 have a5:i<O.length:=by
  have:=bq l
  omega
 have a9:i<30:=dT h2
 obtain⟨d,V⟩:=dR a5
 obtain⟨w,x⟩:=d
 have a2:=hD _ (bU V)
 have b4:bG (iS w x):=⟨a2.bD⟩
 refine .kn<|.seq<|.block<|.sr<|.mo rfl<|.mo rfl<|.mo rfl ?_
 refine .ct i H V (λb5=>?_)
 refine .q (.bI rfl) ?_
 refine .bT (K9 q s T Y i Q (by omega) w x R a2 hg) (λu I f=>?_)
 obtain⟨rfl,U⟩:=f
 have S:=Q.step x.bQ (by show(texts x.scopes 6 40).length<=6;simp[texts];omega)
 refine .mo rfl<|.q .extract<|.q .extract<|.q .extract<|.ag rfl<|.ag rfl<|.ag rfl<|.z<|.mo rfl<|.mo rfl<|.mo rfl ?_
 refine .ct i H V (λb6=>?_)
 refine .q (.bI rfl) ?_
 refine .cW (wO w x _ (a2.mono λb o hb=>.inl hb)) (λu h f=>?_)
 obtain⟨w',rfl,a4⟩:=f
 have i3:bG (iS w' x.bQ):=⟨a4.bD⟩
 refine .call [2,2,2,2,2] (L6 (RD:=λb o=>sg j b o\/sg h b o) (Z.mono λb o hb=>.inl hb) Q (by omega) w' x _ (a4.mono λb o hb=>.inr hb) (λb o hb=>.inr (by
  rcases hb with hb|hb
  ·have g:(b,o)∈j:=hb
   simp[rest,aY,g]
  ·have g:(b,o)∈h:=hb
   simp[rest,aY,g]))) (λu H' f=>?_)
 obtain⟨rfl,Hs,m,rfl,a0⟩:=f
 obtain⟨J,K,L,M,N,rfl⟩:=a0.lE
 conv=>arg 8;simp only[rest,aY,afv,afw]
 obtain⟨a,ha⟩:∃a,a=(eV s x.bQ).1:=⟨_,rfl⟩
 obtain⟨b,hb⟩:∃b,b=(eV s x.bQ).2.1:=⟨_,rfl⟩
 obtain⟨e,he⟩:∃e,e=(eV s x.bQ).2.2.1:=⟨_,rfl⟩
 obtain⟨r,b0⟩:∃r,r=(eV s x.bQ).2.2.2:=⟨_,rfl⟩
 rw[<-b0]at U S a0
 rw[<-ha, <-hb, <-he]
 clear Z Y
 have a1:DS (sg (m++(h++j))) W r [J,K,L,M,N]:=a0.mono λb o hb=>by
  rcases hb with(hb|hb)|hb
  ·exact lr (lr hb)
  ·exact lr (ng hb)
  ·exact ng hb
 refine .sub (H':=[I,J,K,L,M,N,m++(h++j)]) (aU.bu (by
  have h9:∀(X:aV) (a b c d:ax),(X++[a,b,c,d]).flatten.Perm (c::X++[a++(b++d)]).flatten:=λX a b c d=>by
   simp only[List.flatten_append,afB,afC,afD,afv]
   exact(List.Perm.append_left _ ((List.Perm.append_left a (afJ b c d)).trans (afJ a c (b++d)))).trans (afJ _ c _)
  exact h9 [J,K,L,M,N] m h I j)) ?_
 refine .mo rfl<|.q .extract<|.q .extract<|.q .extract<|.ag rfl<|.ag rfl<|.ag rfl<|.zs<|.sr<|.mo rfl<|.mo rfl<|.q .eU<|.mo rfl ?_
 refine .split (t:=56) rfl (λF=>?_) (λF=>?_)
 ·simp at F
 refine .gT F<|.mo rfl<|.gT F<|.mo rfl<|.gT F<|.q .eU<|.q (.aQ F) ?_
 refine .mo rfl ?_
 refine .split (t:=61) rfl (λG=>?_) (λG=>?_)
 ·simp at G
 refine .gT G<|.mo rfl<|.gT G<|.mo rfl<|.gT G<|.q .dF<|.q (.aQ G) ?_
 refine .mo rfl ?_
 refine .split (t:=66) rfl (λn=>?_) (λn=>?_)
 ·simp at n
 refine .gT n<|.mo rfl<|.gT n<|.mo rfl<|.gT n ?_
 refine .aL (Lk q I U a1 S (by omega) _ (λp hp=>.inr (by simp[hp])) (λb o hb=>.inr (by
  simp only[afB,afC,afD,afy]at hb⊢
  exact .inr (hb.elim .inl λhb=>.inr (hb.elim .inl λhb=>.inr (hb.elim .inl λhb=>.inr (hb.elim .inl λhb=>.inr (.inl hb)))))))
  (λb o hb=>.inr (by
   have g:(b,o)∈m++(h++j):=hb
   simp only[afB,afC,afD,afy]
   simp only[afy]at g
   simp[g]))) (λu f=>?_)
 subst f
 refine .gT n<|.q .not<|.q (.aQ n) ?_
 refine .zn ?_
 refine .cond rfl (λh3=>?_) λh3=>?_
 ·simp at h3
 refine .kn<|.sr<|.mo rfl<|.mo rfl ?_
 refine .ct i H V (λb7=>?_)
 refine .fa rfl<|.lo rfl ?_
 refine .aL (lO x.text 60 _) (λu f=>?_)
 subst f
 refine .ag rfl<|.z<|.mo rfl<|.mo rfl ?_
 refine .cW (Ld q r I U x.bQ.text _ (λp hp=>.inr (by simp[hp]))) (λu T5 f=>?_)
 obtain⟨w5,rfl,a3⟩:=f
 have i5:bG (bA (w5,(eD r x.bQ.text).getD Tok.zero)):=⟨a3.bD⟩
 refine .mo rfl<|.q .extract<|.q .extract ?_
 refine .cG (λb1=>?_)
 refine .cc rfl rfl<|.ag rfl<|.z<|.mo rfl<|.mo rfl ?_
 refine .aL (Ma a1 S (by omega) x.bQ.text _ (λb o hb=>.inr (by
  have g:(b,o)∈m++(h++j):=hb
  simp only[afB,afC,afD,afy]
  simp only[afy]at g
  simp[g])) (λb o hb=>.inr (by
  simp only[afB,afC,afD,afy]at hb⊢
  exact .inr (.inr (.inr (hb.elim .inl λhb=>.inr (hb.elim .inl λhb=>.inr (hb.elim .inl λhb=>.inr (hb.elim .inl λhb=>.inr (.inl hb)))))))))) (λu f=>?_)
 obtain⟨w6,rfl,a6⟩:=f
 have i6:bG (bA (w6,(eD r x.bQ.text).getD Tok.zero)):=⟨a6.bD⟩
 refine .mo rfl<|.q .extract<|.q .extract ?_
 refine .cG (λb2=>?_)
 refine .cc rfl rfl<|.ag rfl<|.zs<|.cP [] mixed ?_
 refine .tO 0 rfl .move<|.tO 1 rfl .move<|.tO 2 rfl .KV<|.tO 3 rfl .move ?_
 refine RA.split (t:=93) rfl (λk=>?_) (λk=>?_)
 ·simp at k
 refine .df 4 rfl rfl k (.bI rfl) (by kernel_rfl) ?_
 refine .df 6 rfl rfl k (.bI rfl) (by kernel_rfl) ?_
 refine .sT 5 rfl ?_
 refine .gT k ?_
 refine .aL (wG w5 _ _ a3) (λu f=>?_)
 subst f
 refine .nil (Next.sub ?_)
 refine .sT 7 rfl ?_
 refine .gT k ?_
 refine .aL (xN w5 w6 _ _ _ (a3.mono (pb (by simp))) (a6.mono λb o hb=>.inr (by
  have g:(b,o)∈m++(h++j):=hb
  simp only[afB,afC,afD,afy]
  simp only[afy]at g
  simp[g]))) (λu f=>?_)
 rw[xM]at f
 subst f
 refine .nil (Next.sub ?_)
 refine .df 8 rfl rfl k .not (by kernel_rfl) ?_
 refine .tO 9 rfl (.aQ k) ?_
 refine RA.nil (by kernel_rfl) ?_
 refine aD ?_
 refine .cond rfl (λh4=>?_) λh4=>?_
 ·simp at h4
 refine .skip<|bw<|aD<|.region<|.mo rfl ?_
 refine .ia (i+1) .add ?_
 refine .ag rfl<|.nil ?_
 ·exact bd (i+1,r,I,J,K,L,M,N,m++(h++j)) ⟨⟨a5,a9⟩,U,S,a1⟩ (by simp only;omega) kE.c.c.c.c (aH [3,3,3,3,3,3,3])
 refine .exit<|bE<|bH<|bF<|aD<|.sr ?_
 refine .aL (wC _) (λu f=>?_)
 subst f
 refine .az rfl ?_
 refine .ret (aN _ (.one (.tmp rfl)) (aH []) ?_)
 ·exact⟨rfl,rfl⟩
 refine .gF l<|.gF l<|.q (.aQ l) ?_
 refine .zn<|.bX<|.exit<|bE<|bH<|bF<|aD<|.sr ?_
 refine .aL (wC _) (λu f=>?_)
 subst f
 refine .az rfl ?_
 refine .ret (aN _ (.one (.tmp rfl)) (aH []) ?_)
 ·exact⟨rfl,rfl⟩
end Go.Proofs.YtkkmbiojicgobaaGreatDoor

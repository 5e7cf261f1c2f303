/- What the law 'ExpA' uses. No condition. -/
import Derived.Test.YtdljmchhecoakaaGreatKExpAE
import Derived.Test.YtdljmchhecoakaaGreatKExpAF
import Derived.Test.YtdljmchhecoakaaGreatKExpAI
import Derived.Test.YtdljmchhecoakaaGreatKExpAM
import Derived.Test.YtdljmchhecoakaaGreatKExpAP
import Derived.Test.YtdljmchhecoakaaGreatKExpAQ
import Derived.Test.YtdljmchhecoakaaGreatKExpAR
namespace Go.Proofs.YtdljmchhecoakaaGreat
open Tryz (prog)
set_option linter.unusedVariables false
set_option linter.unusedSimpArgs false
set_option maxRecDepth 4000
theorem xP{l:List ByteArray}{s:ByteArray}:(l.any λx=>decide (x=s))=decide (s∈l):=by
 rw[Bool.eq_iff_iff,List.any_eq_true,decide_eq_true_eq]
 constructor
 ·rintro⟨x,a,h⟩
  exact bS h▸a
 ·exact λh=>⟨s,h,decide_eq_true rfl⟩
theorem xR{w:List Bool}{k j:Nat}(h:j<w.length):(w++List.replicate k false)[j]? =some (w.getD j false):=by
 rw[List.getElem?_append_left h,List.getD_eq_getElem?_getD,aX h]
 rfl
theorem Ol{p:bM}{us:ByteArray}{vf:Nat->Bool}{w:List Bool}{n:Nd}(c:p.nodes[w.length]? =some n)(d:(tree isWord p.nodes (w.length+1)).isSome=true)(f:∀e,e<w.length->w.getD e false=dh p us vf (e+1)):
  dh p us vf (w.length+1)=(if n.kind=1 then decide (us∈p.eR)||(p.leads.getD w.length []).any vf
   else if n.kind=2\/n.kind=3 then(p.leads.getD w.length []).any vf
   else if n.kind=4 then w.getD n.a.toNat false||w.getD n.b.toNat false
   else if n.kind=5 then w.getD n.a.toNat false&&w.getD n.b.toNat false
   else if n.kind=6 then w.getD n.a.toNat false&& !w.getD n.b.toNat false
   else false):=by
 have h:=PV (t:=none) c d f w.length (by rw[Bb];omega)
 rw[<-h]
 unfold pR
 rw[se,if_neg (by omega),if_pos rfl,xP]
theorem Ao{p:List Nd}{i:Nat}{n:Nd}(l:p[i]? =some n)(f:(tree isWord p (i+1)).isSome=true):n.kind=1\/n.kind=2\/n.kind=3\/((n.kind=4\/n.kind=5\/n.kind=6)/\0<=n.a/\n.a.toNat<i/\0<=n.b/\n.b.toNat<i):=by
 obtain⟨r,o⟩:=Option.isSome_iff_exists.1 f
 by_cases e:n.op=true
 ·obtain⟨b,x,y,c,g,d,q,s,_⟩:=mU l e o
  obtain⟨t,_,u,_⟩:=iB _ _ c
  obtain⟨v,_,w,_⟩:=iB _ _ d
  unfold Nd.op at e
  simp only[Bool.or_eq_true,beq_iff_eq]at e
  right;right;right
  refine⟨by omega,by omega,by omega,by omega,by omega⟩
 ·have m:n.op=false:=by simpa using e
  rw[kO l m]at f
  have j:n.leaf isWord=true:=by
   cases h:n.leaf isWord with
   |true=>rfl
   |false=>rw[h]at f;cases f
  unfold Nd.leaf at j
  simp only[Bool.and_eq_true]at j
  by_cases c:n.kind=1
  ·exact .inl c
  ·by_cases g:n.kind=2
   ·exact .inr (.inl g)
   ·by_cases d:n.kind=3
    ·exact .inr (.inr (.inl d))
    ·exfalso
     have k:=j.2
     rw[if_neg c,if_neg g,if_neg d]at k
     cases k
theorem Q0(sb:Nat)(vp:Value)(e:Nat)(us:ByteArray)(vv vb vw vq:Value) [ip:One vp] [iv:One vv] [iq:One vq](p:aD)(v:List Bool)(R:aB)(hp:p.is R)(hv:RS R 1 dF vv v)(pc:PC R (pT sb) [vp,iN e,.string us,vv,vb,vw,vq])
  (c4:p.ll.length=p.nodes.length)(c6:p.nodes.length<=1000000)(F:∀q∈p.ll,∀j∈q.2,j<v.length)(N:∀i,i<p.nodes.length->(tree isWord p.nodes (i+1)).isSome=true):
  Spec prog 94 [pT sb,.agg p.enc.toArray] R [] λu H'=>u=.bool (dh p.plain us (λj=>v.getD j false) p.nodes.length)/\H'=[]:=by
 have e0:ca p.enc:=⟨hp.cT⟩
 obtain⟨Z,W,U,d,S,a0,Q,ll,nm⟩:=p
 have a1:RS R 5 Nd.enc U d:=hp.n
 have b5:RS R 1 cg S a0:=hp.u
 have a4:RS R 1 dW Q ll:=hp.l.rs
 have O:=hp.l.all
 simp only at c4 c6 F N O
 have i2:=a1.ap
 have i3:=b5.ap
 have i4:=a4.ap
 have d9:=a1.le
 obtain⟨vf,J⟩:∃vf:Nat->Bool,vf=λj=>v.getD j false:=⟨_,rfl⟩
 rw[<-J]
 have I:=λ(w:List Bool) (n:Nd) (Y:d[w.length]? =some n) h2 h3=>Ol (p:=aD.plain ⟨Z,W,U,d,S,a0,Q,ll,nm⟩) (us:=us) (vf:=vf) (w:=w) (n:=n) Y h2 h3
 have c5:dh (aD.plain ⟨Z,W,U,d,S,a0,Q,ll,nm⟩) us vf 0=false:=by rw[dh]
 have c8:(aD.plain ⟨Z,W,U,d,S,a0,Q,ll,nm⟩).nodes=d:=rfl
 have c9:(aD.plain ⟨Z,W,U,d,S,a0,Q,ll,nm⟩).eR=a0:=rfl
 have c7:∀i q,ll[i]? =some q->(aD.plain ⟨Z,W,U,d,S,a0,Q,ll,nm⟩).leads.getD i []=q.2:=λi q hq=>by
  show((ll.map (·.2)).getD i [])=q.2
  rw[List.getD_eq_getElem?_getD,List.getElem?_map,hq];rfl
 generalize aD.plain ⟨Z,W,U,d,S,a0,Q,ll,nm⟩=pl at *
 subst c9
 rw[c8]at I
 refine Spec.body Tryz.func94 rfl Tryz.results94 Tryz.ntmps94 rfl ?_
 refine .sr ?_
 refine .bY rfl (λb3=>?_)
 refine .ag rfl<|.z<|.fa rfl<|.lo rfl<|.q (.bH a1) ?_
 refine .makeSlice (enc:=dF) d.length false rfl rfl (by decide) (by simp[dF,ap]) rfl rfl (by omega) (by omega) (λa6 b6 b8=>?_)
 refine .ag rfl<|.zs<|.sr<|.fa rfl<|.lo rfl<|.q (.bH a1) ?_
 refine .mo rfl<|.zn<|.block ?_
 refine .cz [(0,_),(3,_),(5,_),(13,_),(14,_)] (X:=Nat×List Bool×ay) (λy=>y.1<=d.length/\y.2.1.length=y.1/\OS 4 1 dF (.slice (some ⟨a6,0,none⟩) d.length d.length) (y.2.1++List.replicate (d.length-y.1) false) y.2.2/\∀e,e<y.2.1.length->y.2.1.getD e false=dh pl us vf (e+1)) (λy E=>(15,iN y.1)::E) (λy G=>y.2.2::G) (λy=>d.length-y.1) (0,[],b6) ⟨Nat.zero_le _,rfl,by simp only[List.nil_append,Nat.sub_zero];exact b8,λe he=>absurd he (by simp)⟩ kE.c.c.c.c.c.c rH ?_
 rintro⟨i,w,T⟩ ⟨hi,C,f,M⟩
 simp only at hi C f M⊢
 refine .sr<|.q .lss<|.zs ?_
 refine .cond rfl (λY=>?_) λY=>?_
 have a5:i<d.length:=cb Y
 obtain⟨n,hn⟩:=bL a5
 obtain⟨⟨vr,a3⟩,a2⟩:∃q,ll[i]? =some q:=⟨_,aX (by omega)⟩
 have b4:=aO a2
 have hr:RS R 1 cM vr a3:=O _ b4
 have H:=F _ b4
 simp only at H
 have i5:=hr.ap
 obtain⟨k,hk⟩:∃k,d.length-i=k+1:=⟨d.length-i-1,by omega⟩
 have c2:d.length-(i+1)=k:=by omega
 rw[hk]at f
 have f1:PC R (ei Q (i*1)) (dW (vr,a3)):=a4.pc a2
 have b1:=Ao hn (N i a5)
 have m:=I w n (by rw[C];exact hn) (by rw[C];exact N i a5) M
 rw[C,c7 i _ a2]at m
 simp only at m
 have r:(w++List.replicate (k+1) false)[i]? =some false:=by
  rw[List.getElem?_append_right (by omega),C,Nat.sub_self];rfl
 have D:∀j∈a3,∀V,(∀b o,R b o->V b o)->Spec prog 152 ([pT sb]++[iN j]) V [] λu H'=>u=.bool (vf j)/\H'=[]:=λj hj V hR=>by
  obtain⟨b,hb⟩:∃b,v[j]? =some b:=⟨_,aX (H j hj)⟩
  have c0:vf j=b:=by rw[J];simp only;rw[List.getD_eq_getElem?_getD,hb];rfl
  rw[c0]
  exact QO sb vp e us vv vb vw vq v j b hb V (hv.mono hR) (pc.mono hR)
 refine .kn<|.seq<|.block<|.sr<|.mo rfl ?_
 refine .bx i a1 hn (λe3=>?_)
 refine .q (.aM rfl) ?_
 refine .bX (λb7=>?_)
 refine .ag rfl<|.bP rfl rfl<|.z<|.fa rfl<|.lo rfl<|.zn ?_
 refine bz.cS [(0,_),(3,_),(5,_),(13,_),(14,_),(15,_)] kE.c.c.c.c.c.c (X:=ay) (λT=>OS 4 1 dF (.slice (some ⟨a6,0,none⟩) d.length d.length) ((w++[dh pl us vf (i+1)])++List.replicate k false) T) (λ_ E=>E) (λT=>[T,bl b3 (aD.enc ⟨Z,W,U,d,S,pl.eR,Q,ll,nm⟩) 95]) ?_ ?_
 refine .block<|.sr<|.q .bQ<|.az rfl ?_
 refine .cond rfl (λh2=>?_) λh2=>?_
 have a9:n.kind=1:=by simpa using h2
 rw[if_pos a9]at m
 refine .cL [20] mixed ?_
 refine .tO 0 rfl .move<|.tO 1 rfl .move<|.tO 2 rfl (.fieldAddr rfl)<|.tO 3 rfl (.bZ rfl)<|.tO 4 rfl .move<|.tO 5 rfl (.nilCheck rfl)<|.tO 6 rfl (.fieldAddr rfl)<|.tO 7 rfl (.bZ rfl) ?_
 refine .sT 8 rfl ?_
 refine .aY (Qn S pl.eR us _ b5.rx) (λu hu=>?_)
 subst hu
 refine .nil (Next.sub ?_)
 refine .tO 9 rfl .move ?_
 refine RA.split (t:=33) rfl (λh=>?_) (λh=>?_)
 refine .oP 10 rfl rfl h rfl (by kernel_rfl) ?_
 refine .oP 11 rfl rfl h rfl (by kernel_rfl) ?_
 refine .oP 12 rfl rfl h rfl (by kernel_rfl) ?_
 refine .oP 13 rfl rfl h rfl (by kernel_rfl) ?_
 refine .oP 14 rfl rfl h rfl (by kernel_rfl) ?_
 refine .oP 15 rfl rfl h rfl (by kernel_rfl) ?_
 refine .oP 16 rfl rfl h rfl (by kernel_rfl) ?_
 refine .sT 17 rfl ?_
 refine .gF h ?_
 refine .nil (Next.sub ?_)
 refine .tO 18 rfl (.aT h) ?_
 refine RA.aL 19 rfl i f r rfl rfl rfl (by kernel_rfl) (λd2=>?_)
 refine .sT 20 rfl ?_
 refine .dv i f r _ (λs g=>?_)
 rw[jN C]at g
 refine .nil (Next.mod rfl ?_)
 refine RA.nil (by kernel_rfl) ?_
 refine aV ?_
 exact aF s (by
  clear I D J M O F H N
  rw[m]
  first
   |exact g
   |(simp_all;done)) kE.c.c.c.c.c.c (aQ [1,1])
 refine .oQ 10 rfl rfl h (.fieldAddr rfl) (by kernel_rfl) ?_
 refine .oQ 11 rfl rfl h (.bZ rfl) (by kernel_rfl) ?_
 refine .oQ 12 rfl rfl h .move (by kernel_rfl) ?_
 refine .oQ 13 rfl rfl h (.bx i a4 a2 rfl rfl rfl) (by kernel_rfl) ?_
 refine .oQ 14 rfl rfl h (.bZ rfl) (by kernel_rfl) ?_
 refine .oQ 15 rfl rfl h .move (by kernel_rfl) ?_
 refine .oQ 16 rfl rfl h .makeFunc (by kernel_rfl) ?_
 refine .sT 17 rfl ?_
 refine .gT h ?_
 refine .aY (LIM.yg 152 [pT sb] vf vr a3 _ hr.rx λj hj V hR=>D j hj V λb o hb=>hR b o (.inl hb)) (λu hu=>?_)
 subst hu
 refine .nil (Next.sub ?_)
 refine .tO 18 rfl (.aS h) ?_
 refine RA.aL 19 rfl i f r rfl rfl rfl (by kernel_rfl) (λd2=>?_)
 refine .sT 20 rfl ?_
 refine .dv i f r _ (λs g=>?_)
 rw[jN C]at g
 refine .nil (Next.mod rfl ?_)
 refine RA.nil (by kernel_rfl) ?_
 refine aV ?_
 exact aF s (by
  clear I D J M O F H N
  rw[m]
  first
   |exact g
   |(simp_all;done)) kE.c.c.c.c.c.c (aQ [1,1])
 have a9:n.kind≠1:=by simpa using h2
 rw[if_neg a9]at m
 refine .seq<|.sr<|.q .bQ<|.az rfl ?_
 refine bz.cS [(0,_),(3,_),(5,_),(6,_),(7,_),(13,_),(14,_),(15,_),(21,_)] kE.c.c.c.c.c.c.c.c.c (X:=Unit) (λ_=>True) (λ_ E=>(44,.bool (decide (n.kind=2\/n.kind=3)))::E) (λ_=>[bl b7 n.enc 199,T,bl b3 (aD.enc ⟨Z,W,U,d,S,pl.eR,Q,ll,nm⟩) 95]) ?_ ?_
 refine .cond rfl (λh3=>?_) λh3=>?_
 refine .skip ?_
 ·exact aF () trivial (kE.c.c.c.c.c.c.c.c.c.bU rfl (by clear m I D F H J b1;grind)) rH
 refine .region<|.q .bQ<|.ag rfl<|.nil ?_
 ·exact aF () trivial (kE.c.c.c.c.c.c.c.c.c.bU rfl (by clear m I D F H J b1;grind)) rH
 intro x hx
 refine av ?_
 refine .cond rfl (λh4=>?_) λh4=>?_
 have b0:n.kind=2\/n.kind=3:=bS h4
 rw[if_pos b0]at m
 refine .region<|.mo rfl<|.mo rfl<|.fa rfl<|.lo rfl<|.mo rfl ?_
 refine .bx i a4 a2 (λe4=>?_)
 refine .lo rfl<|.mo rfl<|.q .makeFunc ?_
 refine .aY (LIM.yg 152 [pT sb] vf vr a3 _ hr.rx λj hj V hR=>D j hj V λb o hb=>hR b o (.inl hb)) (λu hu=>?_)
 subst hu
 refine .aL i f r (λe5=>?_)
 refine .dv i f r _ (λs g=>?_)
 rw[jN C]at g
 refine .nil<|aV ?_
 exact aF s (by
  clear I D J M O F H N
  rw[m]
  first
   |exact g
   |(simp_all;done)) kE.c.c.c.c.c.c (aQ [1,1])
 have b0:¬(n.kind=2\/n.kind=3):=bA h4
 rw[if_neg b0]at m
 have b9:0<=n.a/\n.a.toNat<i/\0<=n.b/\n.b.toNat<i:=by omega
 obtain⟨d5,d6,d7,d8⟩:=b9
 have a7:=xR (w:=w) (k:=k+1) (j:=n.a.toNat) (by omega)
 have a8:=xR (w:=w) (k:=k+1) (j:=n.b.toNat) (by omega)
 refine .sr<|.q .bQ<|.az rfl ?_
 refine .cond rfl (λh5=>?_) λh5=>?_
 refine .region<|.mo rfl<|.mo rfl<|.mo rfl<|.fa rfl<|.lo rfl ?_
 refine .aL n.a.toNat f a7 (λe6=>?_) rfl rfl (by omega)
 refine .lo rfl<|.mo rfl ?_
 refine .split (t:=67) rfl (λK=>?_) (λK=>?_)
 refine .gF K<|.gF K<|.gF K<|.gF K<|.gF K<|.q (.aT K) ?_
 refine .aL i f r (λd3=>?_)
 refine .dv i f r _ (λs g=>?_)
 rw[jN C]at g
 refine .nil<|aV ?_
 exact aF s (by
  clear I D J M O F H N
  rw[m]
  first
   |exact g
   |(simp_all;done)) kE.c.c.c.c.c.c (aQ [1,1])
 refine .gT K<|.mo rfl<|.gT K<|.fa rfl<|.gT K<|.lo rfl<|.gT K ?_
 refine .aL n.b.toNat f a8 (λe7=>?_) rfl rfl (by omega)
 refine .gT K<|.lo rfl<|.q (.aS K) ?_
 refine .aL i f r (λd3=>?_)
 refine .dv i f r _ (λs g=>?_)
 rw[jN C]at g
 refine .nil<|aV ?_
 exact aF s (by
  clear I D J M O F H N
  rw[m]
  first
   |exact g
   |(simp_all;done)) kE.c.c.c.c.c.c (aQ [1,1])
 refine .sr<|.q .bQ<|.az rfl ?_
 refine .cond rfl (λh6=>?_) λh6=>?_
 refine .region<|.mo rfl<|.mo rfl<|.mo rfl<|.fa rfl<|.lo rfl ?_
 refine .aL n.a.toNat f a7 (λe8=>?_) rfl rfl (by omega)
 refine .lo rfl<|.mo rfl ?_
 refine .split (t:=84) rfl (λL=>?_) (λL=>?_)
 refine .gT L<|.mo rfl<|.gT L<|.fa rfl<|.gT L<|.lo rfl<|.gT L ?_
 refine .aL n.b.toNat f a8 (λe9=>?_) rfl rfl (by omega)
 refine .gT L<|.lo rfl<|.q (.aT L) ?_
 refine .aL i f r (λd4=>?_)
 refine .dv i f r _ (λs g=>?_)
 rw[jN C]at g
 refine .nil<|aV ?_
 exact aF s (by
  clear I D J M O F H N
  rw[m]
  first
   |exact g
   |(simp_all;done)) kE.c.c.c.c.c.c (aQ [1,1])
 refine .gF L<|.gF L<|.gF L<|.gF L<|.gF L<|.q (.aS L) ?_
 refine .aL i f r (λd4=>?_)
 refine .dv i f r _ (λs g=>?_)
 rw[jN C]at g
 refine .nil<|aV ?_
 exact aF s (by
  clear I D J M O F H N
  rw[m]
  first
   |exact g
   |(simp_all;done)) kE.c.c.c.c.c.c (aQ [1,1])
 refine .sr<|.q .bQ<|.az rfl ?_
 refine .cond rfl (λh7=>?_) λh7=>?_
 refine .region<|.mo rfl<|.mo rfl<|.mo rfl<|.fa rfl<|.lo rfl ?_
 refine .aL n.a.toNat f a7 (λf0=>?_) rfl rfl (by omega)
 refine .lo rfl<|.mo rfl ?_
 refine .split (t:=101) rfl (λB=>?_) (λB=>?_)
 refine .gT B<|.mo rfl<|.gT B<|.fa rfl<|.gT B<|.lo rfl<|.gT B ?_
 refine .aL n.b.toNat f a8 (λe1=>?_) rfl rfl (by omega)
 refine .gT B<|.lo rfl<|.gT B<|.q .not<|.q (.aT B) ?_
 refine .aL i f r (λd1=>?_)
 refine .dv i f r _ (λs g=>?_)
 rw[jN C]at g
 refine .nil<|aV ?_
 exact aF s (by
  clear I D J M O F H N
  rw[m]
  first
   |exact g
   |(simp_all;done)) kE.c.c.c.c.c.c (aQ [1,1])
 refine .gF B<|.gF B<|.gF B<|.gF B<|.gF B<|.gF B<|.q (.aS B) ?_
 refine .aL i f r (λd1=>?_)
 refine .dv i f r _ (λs g=>?_)
 rw[jN C]at g
 refine .nil<|aV ?_
 exact aF s (by
  clear I D J M O F H N
  rw[m]
  first
   |exact g
   |(simp_all;done)) kE.c.c.c.c.c.c (aQ [1,1])
 ·exfalso
  clear m I D F H J
  simp_all
 intro x hx
 have d0:OS 4 1 dF (.slice (some ⟨a6,0,none⟩) d.length d.length) ((w++[dh pl us vf (i+1)])++List.replicate k false) x:=hx
 refine aV<|av<|.region ?_
 refine .ia (i+1) .add ?_
 refine .mo rfl<|.nil ?_
 ·exact aW (i+1,w++[dh pl us vf (i+1)],x) ⟨a5,by simp[C],by simp only;rw[c2];exact d0,λe he=>by
   simp only at he⊢
   rw[List.length_append,List.length_singleton]at he
   rw[se]
   split
   ·exact M e (by assumption)
   ·rw[if_pos (by omega),show e=i by omega]⟩ (by simp only;omega) kE.c.c.c.c.c.c rH
 have c1:i=d.length:=by have:=bA Y;omega
 subst c1
 rw[Nat.sub_self]at f
 simp only[List.replicate_zero,List.append_nil]at f
 refine .exit<|bm<|bs<|bo<|av<|.sr<|.mo rfl<|.q (.dK f) ?_
 refine .q .gtr<|.mo rfl ?_
 refine .split (t:=114) rfl (λA=>?_) (λA=>?_)
 have b2:0<d.length:=by have:=bS A;omega
 have c3:w[d.length-1]? =some (dh pl us vf d.length):=by
  have Y:=M (d.length-1) (by omega)
  rw[List.getD_eq_getElem?_getD,aX (by omega),Option.getD_some,show d.length-1+1=d.length by omega]at Y
  rw[aX (by omega),Y]
 refine .gT A<|.mo rfl<|.gT A<|.mo rfl<|.gT A<|.q (.dK f) ?_
 refine .gT A ?_
 refine .q (.i64 (((d.length-1:Nat)):Int) .sub ⟨by omega,by omega,by omega⟩) ?_
 refine .gT A ?_
 refine .aL (d.length-1) f c3 (λe2=>?_)
 refine .gT A<|.lo rfl<|.q (.aT A) ?_
 refine .az rfl ?_
 refine .ret (aP rfl ?_)
 ·exact⟨rfl,rfl⟩
 have b2:d.length=0:=by have:=bA A;omega
 refine .gF A<|.gF A<|.gF A<|.gF A<|.gF A<|.gF A<|.q (.aS A) ?_
 refine .az rfl ?_
 refine .ret (aP rfl ?_)
 ·exact⟨by rw[b2,c5],rfl⟩
def kU(ps:List bM):List Bool:=ps.map (·.found)
def qi(ps:List bM)(i:Nat):List Bool:=(kU ps).take i++List.replicate (ps.length-i) false
theorem AT{ps:List bM}{i:Nat}(h:i<=ps.length):(qi ps i).length=ps.length:=by unfold qi kU;simp;omega
theorem AU{ps:List bM}{i:Nat}{p:bM}(h:ps[i]? =some p):qi ps (i+1)=(qi ps i).set i p.found:=by
 have c:=(List.getElem?_eq_some_iff.1 h).1
 obtain⟨k,b⟩:∃k,ps.length-i=k+1:=⟨ps.length-i-1,by omega⟩
 have a:(kU ps)[i]? =some p.found:=by unfold kU;rw[List.getElem?_map,h];rfl
 unfold qi
 rw[b,jN (by unfold kU;simp;omega),dG a,show ps.length-(i+1)=k by omega]
theorem O3{ps:List bM}{i:Nat}{p:bM}(h:ps[i]? =some p)(a:p.found=false):qi ps (i+1)=qi ps i:=by
 have b:=(List.getElem?_eq_some_iff.1 h).1
 rw[AU h,a]
 refine tW ?_ (by rw[AT (by omega)];exact b)
 unfold qi
 rw[List.getD_eq_getElem?_getD,List.getElem?_append_right (by simp[kU];omega),List.getElem?_replicate]
 split<;>rfl
theorem O2(ps:List bM):qi ps ps.length=kU ps:=by
 unfold qi kU
 rw[List.take_of_length_le (by simp),Nat.sub_self,List.replicate_zero,List.append_nil]
theorem AV(ps:List bM):qi ps 0=List.replicate ps.length false:=by unfold qi;simp
theorem O8(ps:List bM):QW ps (qi ps 0) []:=⟨by
 have h:items ps (qi ps 0)=[]:=by
  unfold items
  rw[List.map_eq_nil_iff]
  cases hq:jA (qi ps 0)with
  |nil=>rfl
  |cons x l=>
   have:=fW.1 (show x∈jA (qi ps 0) by rw[hq];exact List.mem_cons_self)
   rw[AV,zm]at this
   cases this
 rw[h],λk b a=>absurd a (by simp)⟩
theorem CO(ps:List bM)(i:Nat)(a:List Nat)(j:Nat):(gL ps i a j).length<=i+1:=by
 have b:(lU ps i j).length<=i:=by
  unfold lU
  exact Nat.le_trans (List.length_filter_le _ _) (by simp)
 unfold gL
 rw[List.length_append]
 split
 ·rw[List.length_singleton];omega
 ·rw[List.length_nil];omega
theorem A7{a:List iE}{n:Nat}{f:Nat->List Nat}(h:a.map (·.1.2)=(List.range n).map f){k:Nat}(e:k<n):∃v T,a[k]? =some ((v,f k),T):=by
 have b:=congrArg (λl=>l[k]?) h
 simp only[List.getElem?_map,List.getElem?_range e,Option.map_some]at b
 obtain⟨⟨⟨v,r⟩,T⟩,d,c⟩:=Option.map_eq_some_iff.1 b
 simp only at c
 subst c
 exact⟨v,T,d⟩
theorem PO{a:List iE}{n:Nat}{f g:Nat->List Nat}(h:a.map (·.1.2)=(List.range n).map f){k:Nat}{v:Value}{r:List Nat}{T:ay}(b:∀j,j<n->g j=if j=k then r else f j)(c:k<n):(a.set k ((v,r),T)).map (·.1.2)=(List.range n).map g:=by
 rw[List.map_set,h]
 refine List.ext_getElem? λj=>?_
 rw[List.getElem?_set]
 rcases Nat.lt_or_ge j n with hj|hj
 ·rw[List.getElem?_map,List.getElem?_map,List.getElem?_range hj,Option.map_some,Option.map_some,b j hj]
  by_cases e:k=j
  ·subst e;simp[c]
  ·rw[if_neg e,if_neg λh=>e h.symm]
 ·rw[if_neg (by omega),List.getElem?_eq_none (by simpa using hj),List.getElem?_eq_none (by simpa using hj)]
theorem CQ(ps:List bM):(λj=>gL ps 0 [] j)=λ_=>[]:=by
 funext j
 unfold gL lU
 simp
theorem CL(ps:List bM):(λj=>gL ps ps.length [] j)=fL ps:=by
 funext j
 unfold gL
 rw[CC]
 simp
theorem M9(n:Nat):((List.replicate n ((((sZ,[]),[]):iE))).flatMap (·.2))=[]:=by
 rw[List.flatMap_eq_nil_iff]
 intro x a
 rw[(List.mem_replicate.1 a).2]
theorem QV(s:Value)(e:Nat)(us:ByteArray)(ps:List aD)(R:aB)(S:RS R 8 aD.enc s ps)(c4:∀p∈ps,p.is R)(h0:ps.length<=2000000)(f9:∀p∈ps,p.ll.length<=1000000)(f8:∀p∈ps,∀q∈p.ll,q.2.length<=1000000/\∀j∈q.2,j<ps.length):
  Spec prog 91 [.agg [s,iN e].toArray,.string us] R [] λu H'=>∃sb vv vb vw L LL Ta Tw Tv To,H'=[Ta,Tw,Tv,To,LL.flatMap (·.2)]/\u=pT sb/\One vv/\One vb/\One vw/\QI sb s e us vv vb vw L Ta/\QW (ps.map aD.plain) (kU (ps.map aD.plain)) L/\OS 4 1 dF vw (kU (ps.map aD.plain)) Tw/\OS 4 1 dF vv (List.replicate ps.length false) Tv/\oY vb LL To/\LL.map (·.1.2)=(List.range ps.length).map (fL (ps.map aD.plain)):=by
 have i0:=S.ap
 have g9:=S.le
 have g3:∀p∈ps,∀u∈p.enc,ap u=true:=λp M=>(c4 p M).cT
 have d2:∀(i:Nat) (p:aD),ps[i]? =some p->(ps.map aD.plain)[i]? =some p.plain:=λi p M=>by rw[List.getElem?_map,M];rfl
 obtain⟨P,Y⟩:∃P,P=ps.map aD.plain:=⟨_,rfl⟩
 have a3:P.length=ps.length:=by rw[Y,List.length_map]
 rw[<-Y]
 rw[<-Y]at d2
 refine Spec.body Tryz.func91 rfl Tryz.results91 Tryz.ntmps91 rfl ?_
 refine .sr ?_
 refine .bY rfl (λO=>?_)
 refine .ag rfl<|.z<|.fa rfl<|.lo rfl<|.q (.bH S) ?_
 refine .ag rfl<|.zs ?_
 refine bz.cS [(2,_)] kE.c (X:=(Nat×Nat×Nat×Nat)×(ay×ay×ay)) (λy=>OS 4 1 dF (.slice (some ⟨y.1.2.1,0,none⟩) ps.length ps.length) (List.replicate ps.length false) y.2.1/\OS 182 1 dW (.slice (some ⟨y.1.2.2.1,0,none⟩) ps.length ps.length) (List.replicate ps.length ((sZ,[]):fA)) y.2.2.1/\OS 4 1 dF (.slice (some ⟨y.1.2.2.2,0,none⟩) ps.length ps.length) (List.replicate ps.length false) y.2.2.2) (λy E=>(6,.pointer (some ⟨y.1.1,0,none⟩))::E) (λy=>[y.2.2.1,[],jc y.1.1 s e us (.slice (some ⟨y.1.2.1,0,none⟩) ps.length ps.length) (.slice (some ⟨y.1.2.2.1,0,none⟩) ps.length ps.length) (.slice (some ⟨y.1.2.2.2,0,none⟩) ps.length ps.length) (sZ),y.2.2.2,y.2.1,bl O [s,iN e] 81]) ?_ ?_
 refine .cL [] mixed ?_
 refine .tO 0 rfl (.aM rfl)<|.tO 1 rfl .move<|.tO 2 rfl .move<|.tO 4 rfl .move<|.tO 6 rfl .move ?_
 refine RA.Q5 3 5 7 rfl rfl rfl (by kernel_rfl) rfl ?_ ?_ ?_
 refine .makeSlice (enc:=dF) ps.length false rfl rfl (by decide) (by simp[dF,ap]) rfl rfl (by omega) (by omega) (λB Tv n=>?_)
 refine .nil (Next.sub ?_)
 refine RA.kL 5 7 rfl rfl (by kernel_rfl) rfl ?_ ?_
 refine .makeSlice (enc:=dW) ps.length ((sZ,[]):fA) rfl rfl (by decide) (by simp[dW,ap]) rfl rfl (by omega) (by omega) (λA w f=>?_)
 refine .nil (Next.sub ?_)
 refine .sT 7 rfl ?_
 refine .makeSlice (enc:=dF) ps.length false rfl rfl (by decide) (by simp[dF,ap]) rfl rfl (by omega) (by omega) (λC Tw g=>?_)
 refine .nil (Next.sub ?_)
 refine .tO 8 rfl .cR ?_
 refine .sT 9 rfl ?_
 refine .bY rfl (λF=>?_)
 refine .nil (Next.sub ?_)
 refine .tO 10 rfl .assign ?_
 refine RA.nil (by kernel_rfl) ?_
 ·exact aF ((F,B,A,C),(Tv,w,Tw)) ⟨n,f,g⟩ kE.c.c (bf.eL.trans (by
   first
    |exact(aQ [3,0,0,0,0,0])
    |exact(aQ [3,0,0,1,0,0])
    |exact(aQ [2,0,0,0,0,0])
    |exact(aQ [2,0,0,1,0,0])
    |exact(aQ [4,0,0,0,0,0])
    |exact(aQ [4,0,0,1,0,0])))
 refine .makeSlice (enc:=dF) ps.length false rfl rfl (by decide) (by simp[dF,ap]) rfl rfl (by omega) (by omega) (λC Tw g=>?_)
 refine .nil (Next.sub ?_)
 refine .sT 5 rfl ?_
 refine .makeSlice (enc:=dW) ps.length ((sZ,[]):fA) rfl rfl (by decide) (by simp[dW,ap]) rfl rfl (by omega) (by omega) (λA w f=>?_)
 refine .nil (Next.sub ?_)
 refine .tO 8 rfl .cR ?_
 refine .sT 9 rfl ?_
 refine .bY rfl (λF=>?_)
 refine .nil (Next.sub ?_)
 refine .tO 10 rfl .assign ?_
 refine RA.nil (by kernel_rfl) ?_
 ·exact aF ((F,B,A,C),(Tv,w,Tw)) ⟨n,f,g⟩ kE.c.c (bf.eL.trans (by
   first
    |exact(aQ [3,0,0,0,0,0])
    |exact(aQ [3,0,0,1,0,0])
    |exact(aQ [2,0,0,0,0,0])
    |exact(aQ [2,0,0,1,0,0])
    |exact(aQ [4,0,0,0,0,0])
    |exact(aQ [4,0,0,1,0,0])))
 refine .makeSlice (enc:=dW) ps.length ((sZ,[]):fA) rfl rfl (by decide) (by simp[dW,ap]) rfl rfl (by omega) (by omega) (λA w f=>?_)
 refine .nil (Next.sub ?_)
 refine RA.kL 3 7 rfl rfl (by kernel_rfl) rfl ?_ ?_
 refine .makeSlice (enc:=dF) ps.length false rfl rfl (by decide) (by simp[dF,ap]) rfl rfl (by omega) (by omega) (λB Tv n=>?_)
 refine .nil (Next.sub ?_)
 refine .sT 7 rfl ?_
 refine .makeSlice (enc:=dF) ps.length false rfl rfl (by decide) (by simp[dF,ap]) rfl rfl (by omega) (by omega) (λC Tw g=>?_)
 refine .nil (Next.sub ?_)
 refine .tO 8 rfl .cR ?_
 refine .sT 9 rfl ?_
 refine .bY rfl (λF=>?_)
 refine .nil (Next.sub ?_)
 refine .tO 10 rfl .assign ?_
 refine RA.nil (by kernel_rfl) ?_
 ·exact aF ((F,B,A,C),(Tv,w,Tw)) ⟨n,f,g⟩ kE.c.c (bf.eL.trans (by
   first
    |exact(aQ [3,0,0,0,0,0])
    |exact(aQ [3,0,0,1,0,0])
    |exact(aQ [2,0,0,0,0,0])
    |exact(aQ [2,0,0,1,0,0])
    |exact(aQ [4,0,0,0,0,0])
    |exact(aQ [4,0,0,1,0,0])))
 refine .makeSlice (enc:=dF) ps.length false rfl rfl (by decide) (by simp[dF,ap]) rfl rfl (by omega) (by omega) (λC Tw g=>?_)
 refine .nil (Next.sub ?_)
 refine .sT 3 rfl ?_
 refine .makeSlice (enc:=dF) ps.length false rfl rfl (by decide) (by simp[dF,ap]) rfl rfl (by omega) (by omega) (λB Tv n=>?_)
 refine .nil (Next.sub ?_)
 refine .tO 8 rfl .cR ?_
 refine .sT 9 rfl ?_
 refine .bY rfl (λF=>?_)
 refine .nil (Next.sub ?_)
 refine .tO 10 rfl .assign ?_
 refine RA.nil (by kernel_rfl) ?_
 ·exact aF ((F,B,A,C),(Tv,w,Tw)) ⟨n,f,g⟩ kE.c.c (bf.eL.trans (by
   first
    |exact(aQ [3,0,0,0,0,0])
    |exact(aQ [3,0,0,1,0,0])
    |exact(aQ [2,0,0,0,0,0])
    |exact(aQ [2,0,0,1,0,0])
    |exact(aQ [4,0,0,0,0,0])
    |exact(aQ [4,0,0,1,0,0])))
 refine .makeSlice (enc:=dF) ps.length false rfl rfl (by decide) (by simp[dF,ap]) rfl rfl (by omega) (by omega) (λC Tw g=>?_)
 refine .nil (Next.sub ?_)
 refine RA.kL 3 5 rfl rfl (by kernel_rfl) rfl ?_ ?_
 refine .makeSlice (enc:=dF) ps.length false rfl rfl (by decide) (by simp[dF,ap]) rfl rfl (by omega) (by omega) (λB Tv n=>?_)
 refine .nil (Next.sub ?_)
 refine .sT 5 rfl ?_
 refine .makeSlice (enc:=dW) ps.length ((sZ,[]):fA) rfl rfl (by decide) (by simp[dW,ap]) rfl rfl (by omega) (by omega) (λA w f=>?_)
 refine .nil (Next.sub ?_)
 refine .tO 8 rfl .cR ?_
 refine .sT 9 rfl ?_
 refine .bY rfl (λF=>?_)
 refine .nil (Next.sub ?_)
 refine .tO 10 rfl .assign ?_
 refine RA.nil (by kernel_rfl) ?_
 ·exact aF ((F,B,A,C),(Tv,w,Tw)) ⟨n,f,g⟩ kE.c.c (bf.eL.trans (by
   first
    |exact(aQ [3,0,0,0,0,0])
    |exact(aQ [3,0,0,1,0,0])
    |exact(aQ [2,0,0,0,0,0])
    |exact(aQ [2,0,0,1,0,0])
    |exact(aQ [4,0,0,0,0,0])
    |exact(aQ [4,0,0,1,0,0])))
 refine .makeSlice (enc:=dW) ps.length ((sZ,[]):fA) rfl rfl (by decide) (by simp[dW,ap]) rfl rfl (by omega) (by omega) (λA w f=>?_)
 refine .nil (Next.sub ?_)
 refine .sT 3 rfl ?_
 refine .makeSlice (enc:=dF) ps.length false rfl rfl (by decide) (by simp[dF,ap]) rfl rfl (by omega) (by omega) (λB Tv n=>?_)
 refine .nil (Next.sub ?_)
 refine .tO 8 rfl .cR ?_
 refine .sT 9 rfl ?_
 refine .bY rfl (λF=>?_)
 refine .nil (Next.sub ?_)
 refine .tO 10 rfl .assign ?_
 refine RA.nil (by kernel_rfl) ?_
 ·exact aF ((F,B,A,C),(Tv,w,Tw)) ⟨n,f,g⟩ kE.c.c (bf.eL.trans (by
   first
    |exact(aQ [3,0,0,0,0,0])
    |exact(aQ [3,0,0,1,0,0])
    |exact(aQ [2,0,0,0,0,0])
    |exact(aQ [2,0,0,1,0,0])
    |exact(aQ [4,0,0,0,0,0])
    |exact(aQ [4,0,0,1,0,0])))
 intro y hy
 obtain⟨⟨sb,B,A,C⟩,⟨Tv,w,Tw⟩⟩:=y
 obtain⟨n,f,g⟩:=hy
 simp only at n f g⊢
 obtain⟨vv,e0⟩:∃v,v=Value.slice (some ⟨B,0,none⟩) ps.length ps.length:=⟨_,rfl⟩
 obtain⟨vb,d9⟩:∃v,v=Value.slice (some ⟨A,0,none⟩) ps.length ps.length:=⟨_,rfl⟩
 obtain⟨vw,e1⟩:∃v,v=Value.slice (some ⟨C,0,none⟩) ps.length ps.length:=⟨_,rfl⟩
 rw[<-e0]at n⊢
 rw[<-d9]at f⊢
 rw[<-e1]at g⊢
 clear e0 d9 e1
 have i1:=n.ap
 have i2:=f.ap
 have i3:=g.ap
 refine av<|.seq<|.sr<|.fa rfl<|.lo rfl<|.q (.bH S) ?_
 refine .mo rfl<|.zn<|.block ?_
 refine .cz [(6,_),(28,_),(29,_)] (X:=Nat×List dD×List iE×(ay×ay×ay)) (λy=>y.1<=ps.length/\QI sb s e us vv vb vw y.2.1 y.2.2.2.1/\QW P (qi P y.1) y.2.1/\OS 4 1 dF vw (qi P y.1) y.2.2.2.2.1/\oY vb y.2.2.1 y.2.2.2.2.2/\y.2.2.1.map (·.1.2)=(List.range ps.length).map λj=>gL P y.1 [] j) (λy E=>(30,iN y.1)::E) (λy G=>y.2.2.2.2.2::y.2.2.1.flatMap (·.2)::y.2.2.2.1::y.2.2.2.2.1::G) (λy=>ps.length-y.1) (0,[],List.replicate ps.length (((sZ,[]),[]):iE),(jc sb s e us vv vb vw (sZ),Tw,w)) ⟨Nat.zero_le _,⟨_,[],(List.append_nil _).symm,OS.nil,by simp⟩,O8 P,by simp only;rw[AV,a3];exact g,⟨by simp only[List.map_replicate];exact f,λq hq=>by rw[(List.mem_replicate.1 hq).2];exact OS.nil⟩,by simp only;rw[CQ];simp[List.map_const']⟩ kE.c.c.c.c (bf.fq (by simp only[M9];exact .refl _)) ?_
 rintro⟨i,L,LL,⟨Ta,Tw,To⟩⟩ ⟨hi,Q,Z,g,D,k⟩
 simp only at hi Q Z g D k⊢
 refine .sr<|.q .lss<|.zs ?_
 refine .cond rfl (λh1=>?_) λh1=>?_
 have a5:i<ps.length:=cb h1
 obtain⟨p,M⟩:=bL a5
 have b7:=aO M
 have b6:=c4 p b7
 have b1:=d2 i p M
 have c7:=f8 p b7
 have g0:=f9 p b7
 have h8:ca p.enc:=⟨b6.cT⟩
 have f4:p.plain.leads.flatten=p.ll.flatMap (·.2):=by unfold aD.plain;simp[List.flatMap_def]
 have f5:p.plain.found=p.found:=rfl
 have b3:=CM b1
 have a6:=AU b1
 have a7:=O3 b1
 rw[f4]at b3
 rw[f5]at a6 a7
 generalize p.plain=pp at *
 obtain⟨k0,I,vn,a0,vu,a1,N,ll,nm⟩:=p
 have a4:RS R 1 dW N ll:=b6.l.rs
 have d0:=b6.l.all
 simp only at b3 a6 a7 c7 g0 d0
 have i4:=a4.ap
 obtain⟨vq,Tq,c3,c0,e8⟩:=Q
 have Q:QI sb s e us vv vb vw L Ta:=⟨vq,Tq,c3,c0,e8⟩
 have i5:=c0.ap
 have j5:PS Ta (pT sb) [s,iN e,.string us,vv,vb,vw,vq]:=PS.of (E:=206) (fr:=(0,0)) (by rw[c3];simp)
 refine .kn<|.seq<|.block<|.sr<|.mo rfl ?_
 refine .bx i S M (λi8=>?_)
 refine .q (.aM rfl) ?_
 refine .bX (λV=>?_)
 refine .ag rfl<|.bP rfl rfl<|.zs<|.sr<|.fa rfl<|.lo rfl<|.q (.bH a4) ?_
 refine .mo rfl<|.zn<|.block ?_
 refine .cz [(6,_),(7,_),(8,_),(28,_),(29,_),(30,_),(36,_),(37,_)] (X:=Nat×List iE×ay) (λy=>y.1<=ll.length/\oY vb y.2.1 y.2.2/\y.2.1.map (·.1.2)=(List.range ps.length).map λj=>gL P i ((ll.take y.1).flatMap (·.2)) j) (λy E=>(38,iN y.1)::E) (λy _=>[bl V (aD.enc ⟨k0,I,vn,a0,vu,a1,N,ll,nm⟩) 95,y.2.2,y.2.1.flatMap (·.2),Ta,Tw,Tv,bl O [s,iN e] 81]) (λy=>ll.length-y.1) (0,LL,To) ⟨Nat.zero_le _,D,by simpa using k⟩ kE.c.c.c.c.c.c.c.c.c rH (G:=[]) ?_
 rintro⟨m,LL,To⟩ ⟨hm,D,k⟩
 simp only at hm D k⊢
 refine .sr<|.q .lss<|.zs ?_
 refine .cond rfl (λh2=>?_) λh2=>?_
 have d1:m<ll.length:=cb h2
 obtain⟨⟨vr,H⟩,a8⟩:=bL d1
 have d4:=aO a8
 have hr:RS R 1 cM vr H:=d0 _ d4
 obtain⟨g5,c8⟩:=c7 _ d4
 simp only at g5 c8
 have i6:=hr.ap
 have g6:(ll.take (m+1)).flatMap (·.2)=(ll.take m).flatMap (·.2)++H:=by rw[dG a8,List.flatMap_append];simp
 generalize (ll.take m).flatMap (·.2)=seen0 at *
 have j3:PC R (ei N (m*1)) (dW (vr,H)):=a4.pc a8
 refine .kn<|.seq<|.block<|.sr ?_
 refine .bx m a4 a8 (λi9=>?_)
 refine .lo rfl<|.ag rfl<|.z<|.mo rfl<|.q (.bH hr) ?_
 refine .mo rfl<|.zn<|.block ?_
 refine .cz [(6,_),(7,_),(8,_),(28,_),(29,_),(30,_),(36,_),(37,_),(38,_),(42,_),(43,_)] (X:=Nat×List iE×ay) (λy=>y.1<=H.length/\oY vb y.2.1 y.2.2/\y.2.1.map (·.1.2)=(List.range ps.length).map λj=>gL P i (seen0++H.take y.1) j) (λy E=>(44,iN y.1)::E) (λy _=>[bl V (aD.enc ⟨k0,I,vn,a0,vu,a1,N,ll,nm⟩) 95,y.2.2,y.2.1.flatMap (·.2),Ta,Tw,Tv,bl O [s,iN e] 81]) (λy=>H.length-y.1) (0,LL,To) ⟨Nat.zero_le _,D,by simpa using k⟩ kE.c.c.c.c.c.c.c.c.c.c.c.c rH (G:=[]) ?_
 rintro⟨j,LL,To⟩ ⟨hj,D,k⟩
 simp only at hj D k⊢
 refine .sr<|.q .lss<|.zs ?_
 refine .cond rfl (λW=>?_) λW=>?_
 have c9:j<H.length:=cb W
 obtain⟨d,a9⟩:=bL c9
 have d7:d<ps.length:=c8 d (aO a9)
 have g2:seen0++H.take (j+1)=(seen0++H.take j)++[d]:=by rw[dG a9,List.append_assoc]
 generalize seen0++H.take j=seen at *
 obtain⟨vk,Tk,hk⟩:=A7 k d7
 have K:=CN P i seen d
 have d6:=λj=>CP P i seen d j
 have f2:=CO P i seen d
 obtain⟨r,d3⟩:∃r,r=gL P i seen d:=⟨_,rfl⟩
 rw[<-d3]at hk K f2
 obtain⟨f,a2⟩:=D
 have J:=a2 _ (aO hk)
 simp only at J
 have i7:One vk:=J.ap
 have T:(LL.map (·.1))[d]? =some (vk,r):=by rw[List.getElem?_map,hk];rfl
 have j2:PS To (ei vb (d*1)) (dW (vk,r)):=⟨f.pc T⟩
 have j6:PC R (ei vr (j*1)) (cM d):=hr.pc a9
 obtain⟨L1,L2,b0,g8,d5⟩:=z4 hk
 have h6:=J.le
 refine .kn<|.seq<|.block<|.sr ?_
 refine .bx j hr a9 (λj0=>?_)
 refine .lo rfl<|.ag rfl<|.z<|.mo rfl ?_
 refine .nc rfl<|.fa rfl<|.lo rfl<|.mo rfl<|.q (.bx d f.sg T rfl rfl rfl) ?_
 refine .lo rfl<|.q (.bH J.sg) ?_
 refine .ag rfl<|.zs ?_
 refine bz.cS [(6,_),(7,_),(8,_),(12,_),(28,_),(29,_),(30,_),(36,_),(37,_),(38,_),(42,_),(43,_),(44,_)] kE.c.c.c.c.c.c.c.c.c.c.c.c.c (X:=Unit) (λ_=>True) (λ_ E=>(72,.bool (!decide (d∈seen)))::E) (λ_=>[bl V (aD.enc ⟨k0,I,vn,a0,vu,a1,N,ll,nm⟩) 95,To,LL.flatMap (·.2),Ta,Tw,Tv,bl O [s,iN e] 81]) ?_ ?_
 refine .region<|.mo rfl<|.q .bQ<|.mo rfl ?_
 refine .split (t:=58) rfl (λa=>?_) (λa=>?_)
 have g4:r=[]:=by
  have h9:=bS a
  exact List.eq_nil_of_length_eq_zero (by omega)
 have b4:(!decide (d∈seen))=true:=by
  rw[g4]at K
  simp only[List.getLast?_nil]at K
  have:¬d∈seen:=λh=>by have:=K.2 h;cases this
  simp[this]
 rw[b4]
 refine .gF a<|.gF a<|.gF a<|.gF a<|.gF a<|.gF a<|.gF a<|.gF a<|.gF a<|.gF a<|.gF a<|.gF a<|.gF a<|.q (.aT a) ?_
 refine .nil ?_
 ·exact aF () trivial kE.c.c.c.c.c.c.c.c.c.c.c.c.c.c rH
 have h7:0<r.length:=by
  have h9:=bA a
  omega
 obtain⟨x,U⟩:∃x,r[r.length-1]? =some x:=⟨_,aX (by omega)⟩
 have j4:PS (LL.flatMap (·.2)) (ei vk ((r.length-1)*1)) (cM x):=⟨(J.pc U).mono λb o hb=>List.mem_flatMap.2 ⟨_,aO hk,hb⟩⟩
 have b4:(!decide (d∈seen))=((x:Int) !=(i:Nat)):=by
  rw[List.getLast?_eq_getElem?,U]at K
  by_cases h:d∈seen
  ·have h2:=K.2 h
   injection h2 with h2
   simp[h,h2]
  ·have h2:¬x=i:=λe=>h (K.1 (by rw[e]))
   have W:¬((x:Int)=(i:Int)):=by omega
   rw[bne_iff_ne.2 W]
   simp[h]
 rw[b4]
 refine .gT a<|.mo rfl<|.gT a<|.nc rfl<|.gT a<|.fa rfl<|.gT a<|.lo rfl<|.gT a<|.mo rfl<|.gT a<|.q (.bx d f.sg T rfl rfl rfl) ?_
 refine .gT a<|.lo rfl<|.gT a<|.mo rfl<|.gT a ?_
 refine .ia (r.length-1) .sub ?_
 refine .gT a<|.q (.bx (r.length-1) J.sg U rfl rfl rfl) ?_
 refine .gT a<|.lo rfl<|.gT a<|.mo rfl<|.gT a<|.q .et<|.q (.aS a) ?_
 refine .nil ?_
 ·exact aF () trivial kE.c.c.c.c.c.c.c.c.c.c.c.c.c.c rH
 intro y hy
 refine av ?_
 refine bz.cS [(6,_),(7,_),(8,_),(28,_),(29,_),(30,_),(36,_),(37,_),(38,_),(42,_),(43,_),(44,_)] kE.c.c.c.c.c.c.c.c.c.c.c.c (X:=List iE×ay) (λy=>oY vb y.1 y.2/\y.1.map (·.1.2)=(List.range ps.length).map λj=>gL P i (seen++[d]) j) (λ_ E=>E) (λy=>[bl V (aD.enc ⟨k0,I,vn,a0,vu,a1,N,ll,nm⟩) 95,y.2,y.1.flatMap (·.2),Ta,Tw,Tv,bl O [s,iN e] 81]) ?_ ?_
 refine .cond rfl (λh4=>?_) λh4=>?_
 have b5:¬d∈seen:=by simpa using h4
 refine bz.le (dM.refl _) (bf.fq (H':=[bl V (aD.enc ⟨k0,I,vn,a0,vu,a1,N,ll,nm⟩) 95,To,Tk,L1.flatMap (·.2)++L2.flatMap (·.2),Ta,Tw,Tv,bl O [s,iN e] 81]) (by
  rw[b0]
  simp only[List.flatMap_append,List.flatMap_cons,List.flatten_cons,List.flatten_nil,List.append_nil]
  refine .append_left _ (.append_left _ ?_)
  simp only[<-List.append_assoc]
  refine .append_right _ (.append_right _ (.append_right _ (.append_right _ (.append_right _ ?_))))
  exact List.perm_append_comm)) ?_
 refine .qV [1,1] [14,16] mixed ?_
 conv=>arg 3;simp only[take,rest,bJ,List.getD_cons_zero,List.getD_cons_succ]
 conv=>arg 5;simp only[take,rest,bJ,List.getD_cons_zero,List.getD_cons_succ]
 conv=>arg 9;simp only[take,rest,bJ,List.getD_cons_zero,List.getD_cons_succ]
 refine .tK 0 rfl .move ?_
 refine .tK 1 rfl (.lI rfl) ?_
 refine .tK 2 rfl (.gz rfl) ?_
 refine .tK 3 rfl (.bZ rfl)<|.tK 4 rfl .move<|.tO 5 rfl .move<|.tO 6 rfl (.nilCheck rfl)<|.tO 7 rfl (.fieldAddr rfl)<|.tO 8 rfl (.bZ rfl)<|.tO 9 rfl .move ?_
 refine .tO 10 rfl (.bx d f.sg T rfl rfl rfl) ?_
 refine .tO 11 rfl (.bZ rfl)<|.tO 12 rfl .move ?_
 refine .sT 13 rfl ?_
 refine .gM (λg7=>?_)
 refine .nil (Next.sub ?_)
 refine .sT 14 rfl ?_
 refine .append J (RS.lits (xs:=[i]) rfl (by simp[cM]) (by simp[cM,ap])) (by simp only[List.length_singleton];omega) (λv5 T5 d8=>?_)
 obtain⟨e2,c5,rfl,_⟩:=d8.shape
 refine .nil (Next.mod rfl ?_)
 refine RA.aL 15 rfl d f T rfl rfl rfl (by kernel_rfl) (λj1=>?_)
 refine .sT 16 rfl ?_
 refine .dv d f T ((.slice e2 (r++[i]).length c5,r++[i]):fA) (λTn e9=>?_)
 refine .nil (Next.mod rfl ?_)
 refine RA.nil (by kernel_rfl) ?_
 ·exact aF (LL.set d ((.slice e2 (r++[i]).length c5,r++[i]),T5),Tn) ⟨⟨by simp only;rw[List.map_set];exact e9,λq hq=>by
    simp only at hq
    rw[d5]at hq
    rcases List.mem_append.1 hq with hq|hq
    ·exact a2 q (by rw[b0];exact List.mem_append_left _ hq)
    ·rcases List.mem_cons.1 hq with rfl|hq
     ·exact d8
     ·exact a2 q (by rw[b0];exact List.mem_append_right _ (List.mem_cons_of_mem _ hq))⟩,by
    simp only
    refine PO k (λx U=>?_) d7
    rw[d6,d3]
    by_cases e:x=d
    ·subst e;rw[if_pos ⟨rfl,b5⟩,if_pos rfl]
    ·rw[if_neg λh=>e h.1,if_neg e]⟩ kE.c.c.c.c.c.c.c.c.c.c.c.c (by
    simp only
    rw[d5]
    refine(aQ [3,1,1,1,1,1,1,1]).trans (bf.fq ?_)
    simp only[take,rest,bJ,List.getD_cons_zero,List.getD_cons_succ,List.flatMap_append,List.flatMap_cons,List.flatten_cons,List.flatten_nil,List.append_nil,List.cons_append,List.nil_append]
    refine .cons _ (.append_left _ ?_)
    simp only[<-List.append_assoc]
    refine .append_right _ (.append_right _ (.append_right _ (.append_right _ (.append_right _ ?_))))
    exact List.perm_append_comm)
 have b5:d∈seen:=by simpa using h4
 refine .skip ?_
 ·exact aF (LL,To) ⟨⟨f,a2⟩,by
    simp only
    rw[k]
    refine List.map_congr_left λx _=>?_
    rw[d6,if_neg λh=>h.2 b5]⟩ kE.c.c.c.c.c.c.c.c.c.c.c.c rH
 intro x U
 obtain⟨e4,e6⟩:=x
 obtain⟨c2,b9⟩:=U
 simp only at c2 b9⊢
 rw[<-g2]at b9
 refine aV<|av<|.region ?_
 refine .ia (j+1) .add ?_
 refine .mo rfl<|.nil ?_
 ·exact aW (j+1,e4,e6) ⟨c9,c2,b9⟩ (by simp only;omega) kE.c.c.c.c.c.c.c.c.c.c.c.c rH
 have f7:H.length<=j:=by have:=bA W;omega
 rw[dw f7, <-g6]at k
 refine .exit<|bm<|bs<|bo<|aV<|av<|.region ?_
 refine .ia (m+1) .add ?_
 refine .mo rfl<|.nil ?_
 ·exact aW (m+1,LL,To) ⟨d1,D,k⟩ (by simp only;omega) kE.c.c.c.c.c.c.c.c.c rH
 have g1:ll.length<=m:=by have:=bA h2;omega
 rw[dw g1]at k
 have k:LL.map (·.1.2)=(List.range ps.length).map λj=>gL P (i+1) [] j:=by rw[k];exact List.map_congr_left λx _=>b3 x
 refine .exit<|bm<|bs<|bo<|av<|.sr<|.fa rfl<|.lo rfl<|.zn ?_
 refine .cond rfl (λh5=>?_) λh5=>?_
 have f6:I=true:=h5
 subst f6
 refine .region<|.mo rfl<|.mo rfl ?_
 refine .call [3,3] (Bx sb s e us vv vb vw L Ta Tw Q ps _ S.rx g3 (qi P i) g (by rw[AT (by omega),a3]) (Y▸Z) i a5 (by omega)) (λu H' hu=>?_)
 obtain⟨e5,e7,e3,rfl,f1,f0,c1⟩:=hu
 rw[<-Y]at c1
 conv=>arg 8;simp only[rest,bJ,List.cons_append,List.nil_append]
 refine .nil<|aV<|av<|.region ?_
 refine .ia (i+1) .add ?_
 refine .mo rfl<|.nil ?_
 ·exact aW (i+1,e3,LL,(e5,e7,To)) ⟨a5,f1,by simp only;rw[a6];exact c1,by simp only;rw[a6];exact f0,D,k⟩ (by simp only;omega) kE.c.c.c.c (aQ [3,3,0,0,1,1])
 have f3:I=false:=h5
 subst f3
 refine .skip<|aV<|av<|.region ?_
 refine .ia (i+1) .add ?_
 refine .mo rfl<|.nil ?_
 ·exact aW (i+1,L,LL,(Ta,Tw,To)) ⟨a5,Q,by simp only;rw[a7 rfl];exact Z,by simp only;rw[a7 rfl];exact g,D,k⟩ (by simp only;omega) kE.c.c.c.c (aQ [1,1,1,1,1,1])
 have c6:i=ps.length:=by have:=bA h1;omega
 rw[c6, <-a3,O2]at Z g
 have k:LL.map (·.1.2)=(List.range ps.length).map (fL P):=by
  rw[k,c6]
  refine List.map_congr_left λx _=>?_
  rw[<-a3]
  exact congrFun (CL P) x
 refine .exit<|bm<|bs<|bo<|av<|.sr<|.mo rfl<|.az rfl ?_
 refine .ret (bp _ (.one (.tmp rfl)) (aQ [2,2,2,0,0]) ?_)
 ·exact⟨sb,vv,vb,vw,L,LL,Ta,Tw,Tv,To,rfl,rfl,i1,i2,i3,Q,Z,g,n,D,k⟩
structure mz(ps:List aD)(us:ByteArray):Prop where
 ok:kQ (ps.map aD.plain) us
 tr:∀p∈ps,∀i,i<p.nodes.length->(tree isWord p.nodes (i+1)).isSome=true
 nl:∀p∈ps,p.nodes.length<=1000000
 rl:∀p∈ps,∀q∈p.ll,q.2.length<=1000000
 n:ps.length<=2000000
 ed:oz (ps.map aD.plain)<=1000000000
theorem mz.ll{ps:List aD}{us:ByteArray}(h:mz ps us):∀p∈ps,p.ll.length=p.nodes.length:=λp c=>by
 have:=h.ok.ln p.plain (List.mem_map.2 ⟨p,c,rfl⟩)
 have a:p.plain.leads.length=p.ll.length:=by unfold aD.plain;simp
 have b:p.plain.nodes=p.nodes:=rfl
 rw[a,b]at this
 exact this
theorem mz.jl{ps:List aD}{us:ByteArray}(h:mz ps us):∀p∈ps,∀q∈p.ll,∀j∈q.2,j<ps.length:=λp b q c j a=>by
 have:=h.ok.lt p.plain (List.mem_map.2 ⟨p,b,rfl⟩) j (List.mem_flatten.2 ⟨q.2,List.mem_map.2 ⟨q,c,rfl⟩,a⟩)
 rwa [List.length_map]at this
def eP(b:Int)(K:Nat)(v:List Bool):List Bool×Nat×Int:=
 if b<1 then([],0,2)else if b<K then([],b.toNat+1,16)else(v,K,0)
theorem Ow(l:List Bool):dO l<=l.length:=List.countP_le_length
theorem dV.more{ps:List bM}{us:ByteArray}{K k:Nat}{s t:QS}(h:dV ps us K s)(a:ja s.2)(b:dV ps us k t)(d:¬ja t.2):k<K:=by
 rcases Nat.lt_trichotomy k K with h1|h1|h1
 ·exact h1
 ·subst h1
  rw[h.dU b]at a
  exact absurd a d
 ·obtain⟨u,i,f,c⟩:=b.wj h1
  have e:=h.dU f
  subst e
  have:=c.1
  rw[a i]at this
  cases this
theorem B2(f:Value)(e:Nat)(us:ByteArray)(ps:List aD)(R:aB)(a8:RS R 8 aD.enc f ps)(b8:∀p∈ps,p.is R)(D:mz ps us)(b:Int)(M:b<=9223372036854775807)(K:Nat)(s:QS)(hK:dV (ps.map aD.plain) us K s)(hs:ja s.2):
  Spec prog 42 [.agg [f,iN e].toArray,.string us,.int .i64 b] R [] λu H'=>∃T,H'=[T]/\∃vo,u=.tuple [vo,.int .i64 ((eP b K s.1).2.1:Nat),.int .i64 (eP b K s.1).2.2].toArray/\OS 4 1 dF vo (eP b K s.1).1 T:=by
 have k7:=a8.ap
 have e8:∀p∈ps,∀u∈p.enc,ap u=true:=λp d=>(b8 p d).cT
 have e2:=D.n
 have e3:=D.ll
 have e0:=D.jl
 have e4:=D.nl
 have j3:=D.tr
 have e7:∀(i:Nat) (p:aD),ps[i]? =some p->(ps.map aD.plain)[i]? =some p.plain:=λi p d=>by rw[List.getElem?_map,d];rfl
 have e5:=QV f e us ps
 have j6:=Bx
 have g8:=D.ed
 have a0:=D.ok
 have I:(ps.map aD.plain).length=ps.length:=List.length_map _
 have d3:∀i,∀k∈fL (ps.map aD.plain) i,k<ps.length:=λi k hk=>by
  have:=(a0.rK hk).1
  rwa [I]at this
 have d4:∀i,(fL (ps.map aD.plain) i).length<=ps.length:=λi=>by
  unfold fL
  refine Nat.le_trans (List.length_filter_le _ _) ?_
  rw[List.length_range,I]
  exact Nat.le_refl _
 have c0:=λk t (h:dV (ps.map aD.plain) us k t)=>(h.inv a0).kZ a0
 have d8:=λk t (h:dV (ps.map aD.plain) us k t)=>h.inv a0
 have h8:iL (ps.map aD.plain)<=2000000:=by
  unfold iL
  refine Nat.le_trans (Ow _) ?_
  rw[List.length_map,I]
  exact e2
 have d6:∀(i:Nat) (p:aD) (vf:Nat->Bool),ps[i]? =some p->(eK (ps.map aD.plain) us).ex i vf=dh p.plain us vf p.nodes.length:=λi p vf d=>by
  show(match (ps.map aD.plain)[i]? with|none=>false|some p=>dh p us vf p.nodes.length)=_
  rw[e7 i p d];rfl
 obtain⟨P,hP⟩:∃P,P=ps.map aD.plain:=⟨_,rfl⟩
 rw[<-hP]at hK e7 g8 a0 d3 d4 c0 d8 h8 e5 I d6
 have k3:(List.replicate P.length false,kU P)=(List.replicate P.length false,P.map (·.found)):=rfl
 refine Spec.body Tryz.func42 rfl Tryz.results42 Tryz.ntmps42 rfl ?_
 refine .sr ?_
 refine .bY rfl (λb3=>?_)
 refine .ag rfl<|.ag rfl<|.ag rfl<|.zs<|.sr<|.mo rfl<|.q .lss<|.zn ?_
 refine .cond rfl (λh1=>?_) λh1=>?_
 have N:b<1:=bS h1
 refine .sr<|.ag rfl<|.ag rfl<|.az rfl ?_
 refine .ret (aH (bp _ (.three (.tmp rfl) (.tmp rfl) (.tmp rfl)) (bf.eL.trans (aQ [0])) ?_))
 ·exact⟨[],rfl,sZ,by unfold eP;rw[if_pos N];rfl,by unfold eP;rw[if_pos N];exact OS.nil⟩
 have N:¬b<1:=bA h1
 refine .kn<|.sr<|.q (.aM rfl)<|.mo rfl ?_
 refine .call [] (e5 _ a8.rx (λp d=>(b8 p d).mono λb o M=>.inl M) e2 (λp d=>by rw[e3 p d];exact e4 p d) (λp d q hq=>⟨D.rl p d q hq,e0 p d q hq⟩)) (λu H' B=>?_)
 obtain⟨w,g,r,l,L,LL,O,Tw,Tv,To,rfl,rfl,i1,i2,i3,Q,J,a3,A,c9,j0⟩:=B
 conv=>arg 8;simp only[rest,bJ,List.cons_append,List.nil_append]
 refine .ag rfl<|.z<|.ag rfl<|.zs<|.block ?_
 refine .cz [(2,_),(3,_),(9,_)] (X:=Nat×(List Bool×List Bool)×List dD×(ay×ay×ay)) (λy=>dV P us y.1 y.2.1/\(y.1:Int)<=b/\QI w f e us g r l y.2.2.1 y.2.2.2.1/\QW P y.2.1.2 y.2.2.1/\OS 4 1 dF l y.2.1.2 y.2.2.2.2.1/\OS 4 1 dF g y.2.1.1 y.2.2.2.2.2) (λy E=>(10,iN y.1)::E) (λy G=>y.2.2.2.1::y.2.2.2.2.1::y.2.2.2.2.2::G) (λy=>iL P+oz P-y.1) (0,(List.replicate P.length false,kU P),L,(O,Tw,Tv)) ⟨.start,by simp only;omega,Q,J,a3,by simp only;rw[I];exact A⟩ kE.c.c.c.c rH ?_
 rintro⟨k,⟨v,q⟩,L,⟨O,Tw,Tv⟩⟩ ⟨W,h0,Q,J,a3,A⟩
 simp only at W h0 Q J a3 A⊢
 have k2:=c0 _ _ W
 have d9:=d8 _ _ W
 have f1:v.length=ps.length:=by rw[<-I];exact d9.l1
 have i9:q.length=ps.length:=by rw[<-I];exact d9.l2
 obtain⟨vq,Tq,b7,b2,g2⟩:=Q
 have Q:QI w f e us g r l L O:=⟨vq,Tq,b7,b2,g2⟩
 have i5:=b2.ap
 have l6:PS O (pT w) [f,iN e,.string us,g,r,l,vq]:=PS.of (E:=206) (fr:=(0,0)) (by rw[b7];simp)
 have j1:RS (sg O) 2 dD.enc vq L:=b2.rs λp d=>by rw[b7];exact List.mem_append_right _ d
 refine .seq<|.sr<|.mo rfl<|.nc rfl<|.fa rfl<|.lo rfl ?_
 refine .aY (Bw vq L _ j1.nH) (λu B=>?_)
 subst B
 refine .q .gtr<|.zn ?_
 refine .cond rfl (λh2=>?_) λh2=>?_
 have g1:0<L.length:=cb h2
 obtain⟨x,hx⟩:=bL g1
 obtain⟨h9,_,k5⟩:=zy J.p J.h hx
 have k1:k<K:=hK.more hs W λh=>by have:=h9.1;rw[h x.2]at this;cases this
 have j9:=c0 _ _ hK
 refine .kn<|.block<|.seq<|.sr<|.mo rfl<|.mo rfl<|.q .bQ<|.zn ?_
 refine .cond rfl (λh3=>?_) λh3=>?_
 have e1:(k:Int)=b:=by simpa using h3
 refine .sr<|.mo rfl ?_
 refine .ia (k+1) .add ?_
 refine .ag rfl<|.ag rfl<|.az rfl ?_
 refine .ret (aH (bh (cB (bh (aH (bp _ (.three (.tmp rfl) (.tmp rfl) (.tmp rfl)) (bf.eL.trans (aQ [0])) ?_))))))
 ·have d2:b<(K:Int):=by omega
  exact⟨[],rfl,sZ,by unfold eP;rw[if_neg N,if_pos d2];simp only;rw[<-e1];rfl,by unfold eP;rw[if_neg N,if_pos d2];exact OS.nil⟩
 have e1:(k:Int)≠b:=by simpa using h3
 refine .kn<|.sr<|.mo rfl ?_
 refine .ia (k+1) .add ?_
 refine .ag rfl<|.z<|.mo rfl ?_
 refine .call [0,0] (QX w f e us g r l L O Tw Q _ P q a3 J x hx) (λu H' B=>?_)
 obtain⟨Y,b0,a9,rfl,rfl,a5,b5,b6,e6,j7⟩:=B
 obtain⟨xa,i⟩:=x
 simp only at e6 j7 b5 b6
 conv=>arg 8;simp only[rest,bJ,List.cons_append,List.nil_append]
 have d7:i<ps.length:=by omega
 obtain⟨bi,a7⟩:∃b,v[i]? =some b:=⟨_,aX (by omega)⟩
 have j4:v.getD i false=bi:=by rw[List.getD_eq_getElem?_getD,a7];rfl
 obtain⟨p,d⟩:=bL d7
 have V:=aO d
 have k6:ca p.enc:=⟨e8 p V⟩
 have g9:=d6 i p (λj=>v.getD j false) d
 obtain⟨c3,f4,d0,c6,g3⟩:=a5
 have a5:QI w f e us g r l a9 Y:=⟨c3,f4,d0,c6,g3⟩
 have i6:=c6.ap
 have j8:PS Y (pT w) [f,iN e,.string us,g,r,l,c3]:=PS.of (E:=206) (fr:=(0,0)) (by rw[d0];simp)
 have F:=dV.step W e6
 have i4:qT P us (v,q) i=if v.getD i false|| !(eK P us).ex i (λj=>v.getD j false)then(v,q.set i false)else(v.set i true,(fL P i).foldl (gJ (v.set i true)) (q.set i false)):=rfl
 rw[i4,j4,g9]at F
 refine .ag rfl<|.zs<|.seq ?_
 refine bz.cS [(2,_),(3,_),(9,_),(10,_),(11,_)] kE.c.c.c.c.c (X:=Unit) (λ_=>True) (λ_ E=>(50,.bool (bi|| !dh p.plain us (λj=>v.getD j false) p.nodes.length))::E) (λ_=>[Y,b0,Tv,To,LL.flatMap (·.2),bl b3 [f,iN e] 81]) ?_ ?_
 refine .region<|.mo rfl<|.nc rfl<|.fa rfl<|.lo rfl<|.mo rfl ?_
 refine .aL i A a7 (λk8=>?_)
 refine .lo rfl<|.mo rfl ?_
 refine .split (t:=41) rfl (λa=>?_) (λa=>?_)
 refine .gF a<|.gF a<|.gF a<|.gF a<|.gF a<|.gF a<|.gF a<|.gF a<|.q (.aT a) ?_
 refine .nil ?_
 ·exact aF () trivial (kE.c.c.c.c.c.bU rfl (by rw[a];rfl)) rH
 refine .gT a<|.mo rfl<|.gT a<|.fa rfl<|.gT a<|.lo rfl<|.gT a<|.mo rfl<|.gT a ?_
 refine .bx i a8 d (λk9=>?_)
 refine .gT a<|.q (.aM rfl)<|.gT a ?_
 refine .aY (Q0 w f e us g r l c3 p v _ ((b8 p V).mono λb o M=>.inl M) (A.sg.nH) (j8.h.mono λb o M=>.inr (by simp[sg]at M;simp[M])) (e3 p V) (e4 p V) (λq hq j hj=>by rw[f1];exact e0 p V q hq j hj) (j3 p V)) (λu B=>?_)
 subst B
 refine .gT a<|.q .not<|.q (.aS a) ?_
 refine .nil ?_
 ·exact aF () trivial (kE.c.c.c.c.c.bU rfl (by rw[a];rfl)) rH
 intro y hy
 refine av ?_
 refine .cond rfl (λh4=>?_) λh4=>?_
 rw[h4]at F
 simp only[if_true]at F
 refine .exit<|bm<|bo ?_
 ·exact aW (k+1,(v,q.set i false),a9,(Y,b0,Tv)) ⟨F,by simp only;omega,a5,b6,b5,A⟩ (by simp only;omega) kE.c.c.c.c rH
 rw[h4]at F
 simp only[Bool.false_eq_true,if_false]at F
 obtain⟨vk,Tk,hk⟩:=A7 j0 d7
 have c5:=c9.1
 have a2:=c9.2 _ (aO hk)
 simp only at a2
 have i7:One vk:=a2.ap
 have e9:(LL.map (·.1))[i]? =some (vk,fL P i):=by rw[List.getElem?_map,hk];rfl
 have l4:PS To (ei r (i*1)) (dW (vk,fL P i)):=⟨c5.pc e9⟩
 have g7:=d3 i
 have k0:=d4 i
 generalize fL P i=row at *
 obtain⟨C,c2⟩:∃C,C=v.set i true:=⟨_,rfl⟩
 rw[<-c2]at F
 have k4:C.length=ps.length:=by rw[c2,List.length_set];exact f1
 have f0:RS (sg (LL.flatMap (·.2))) 1 cM vk row:=a2.rs λp d=>List.mem_flatMap.2 ⟨_,aO hk,d⟩
 refine .kn<|.sr<|.mo rfl<|.nc rfl<|.fa rfl<|.lo rfl<|.mo rfl ?_
 refine .aL i A a7 (λl0=>?_)
 refine .dv i A a7 true (λf6 b4=>?_)
 rw[<-c2]at b4
 refine .z<|.mo rfl<|.nc rfl<|.fa rfl<|.lo rfl<|.mo rfl<|.q (.bx i c5.sg e9 rfl rfl rfl) ?_
 refine .lo rfl<|.q (.bH a2.sg) ?_
 refine .mo rfl<|.zn<|.block ?_
 refine .cz [(2,_),(3,_),(9,_),(10,_),(63,_),(64,_)] (X:=Nat×List Bool×List dD×(ay×ay)) (λy=>y.1<=row.length/\y.2.1=(row.take y.1).foldl (gJ C) (q.set i false)/\QI w f e us g r l y.2.2.1 y.2.2.2.1/\QW P y.2.1 y.2.2.1/\OS 4 1 dF l y.2.1 y.2.2.2.2) (λy E=>(65,iN y.1)::E) (λy G=>y.2.2.2.1::y.2.2.2.2::G) (λy=>row.length-y.1) (0,q.set i false,a9,(Y,b0)) ⟨Nat.zero_le _,rfl,a5,b6,b5⟩ kE.c.c.c.c.c.c.c rH ?_
 rintro⟨m,H,L3,⟨Z,b1⟩⟩ ⟨hm,a1,S,a6,a4⟩
 simp only at hm a1 S a6 a4⊢
 have i0:H.length=ps.length:=by rw[a1,w8,List.length_set];exact i9
 obtain⟨f2,f5,d1,c7,g4⟩:=S
 have S:QI w f e us g r l L3 Z:=⟨f2,f5,d1,c7,g4⟩
 have i8:=c7.ap
 have l7:PS Z (pT w) [f,iN e,.string us,g,r,l,f2]:=PS.of (E:=206) (fr:=(0,0)) (by rw[d1];simp)
 refine .sr<|.q .lss<|.zs ?_
 refine .cond rfl (λh5=>?_) λh5=>?_
 have c1:m<row.length:=cb h5
 obtain⟨t,ht⟩:=bL c1
 have j2:t<ps.length:=g7 t (aO ht)
 have l5:PS (LL.flatMap (·.2)) (ei vk (m*1)) (cM t):=⟨f0.pc ht⟩
 obtain⟨bt,d5⟩:∃b,C[t]? =some b:=⟨_,aX (by omega)⟩
 have j5:C.getD t false=bt:=by rw[List.getD_eq_getElem?_getD,d5];rfl
 have U:(row.take (m+1)).foldl (gJ C) (q.set i false)=if bt then H else H.set t true:=by
  rw[dG ht,List.foldl_append, <-a1]
  show gJ C H t=_
  unfold gJ
  rw[j5]
 refine .kn<|.seq<|.block<|.sr<|.q (.bx m f0 ht rfl rfl rfl) ?_
 refine .lo rfl<|.ag rfl<|.z<|.mo rfl ?_
 refine .nc rfl<|.fa rfl<|.lo rfl<|.mo rfl ?_
 refine .aL t b4 d5 (λl3=>?_)
 refine .lo rfl<|.q .not<|.zn ?_
 refine .cond rfl (λh6=>?_) λh6=>?_
 have b9:bt=false:=by simpa using h6
 rw[b9]at U
 simp only[Bool.false_eq_true,if_false]at U
 refine .region<|.mo rfl<|.mo rfl ?_
 refine .call [0,0] (j6 w f e us g r l L3 Z b1 S ps _ a8.rx e8 H a4 i0 (hP▸a6) t j2 (by omega)) (λu H' B=>?_)
 obtain⟨f3,f7,L4,rfl,g6,g5,c8⟩:=B
 rw[<-hP]at c8
 conv=>arg 8;simp only[rest,bJ,List.cons_append,List.nil_append]
 refine .nil<|aV<|av<|.region ?_
 refine .ia (m+1) .add ?_
 refine .mo rfl<|.nil ?_
 ·exact aW (m+1,H.set t true,L4,(f3,f7)) ⟨c1,U.symm,g6,c8,g5⟩ (by simp only;omega) kE.c.c.c.c.c.c.c rH
 have b9:bt=true:=by simpa using h6
 rw[b9]at U
 simp only[if_true]at U
 refine .skip<|aV<|av<|.region ?_
 refine .ia (m+1) .add ?_
 refine .mo rfl<|.nil ?_
 ·exact aW (m+1,H,L3,(Z,b1)) ⟨c1,U.symm,S,a6,a4⟩ (by simp only;omega) kE.c.c.c.c.c.c.c rH
 have h7:row.length<=m:=by have:=bA h5;omega
 rw[dw h7]at a1
 refine .exit<|bm<|bs<|bo<|aV ?_
 ·exact aW (k+1,(C,H),L3,(Z,b1,f6)) ⟨by rw[a1];exact F,by simp only;omega,S,a6,a4,b4⟩ (by simp only;omega) kE.c.c.c.c rH
 have g0:L=[]:=List.eq_nil_of_length_eq_zero (by have:=bA h2;omega)
 obtain⟨f8,f9⟩:=hK.last hs W (Nw J.p g0)
 have c4:¬b<(K:Int):=by omega
 refine .exit<|bm<|bs<|bo<|av<|.sr<|.mo rfl<|.nc rfl<|.fa rfl<|.lo rfl<|.mo rfl<|.ag rfl<|.ag rfl<|.az rfl ?_
 refine .ret (bp _ (.three (.tmp rfl) (.tmp rfl) (.tmp rfl)) (aQ [2]) ?_)
 ·exact⟨Tv,rfl,g,by unfold eP;rw[if_neg N,if_neg c4,f8],by unfold eP;rw[if_neg N,if_neg c4,f9];exact A⟩
theorem M7(us d c a b:ByteArray){si:ByteArray}:jL ⟨us,d,si,c⟩ ⟨a,b⟩=((!decide (us=⟨#[]⟩)&&decide (a=⟨#[]⟩)&&decide (b=⟨#[]⟩))||(decide (us=⟨#[]⟩)&& !decide (a=⟨#[]⟩)&&decide (a=d)&&decide (b=c))):=by
 unfold jL
 by_cases h:us=⟨#[]⟩<;>simp[h]
theorem Pb(c:bN)(R:aB)(h:c.is R)(hf:c.iI)(t:aE):Spec prog 148 [.agg c.enc.toArray,.agg t.enc.toArray] R [] λu H'=>u=.bool (allowed c.plain t.cJ t.sub)/\H'=[]:=by
 have a6:=s8 c R h hf
 have i1:One c.vs:=RS.ap h.ss
 have i2:One c.vc:=RS.ap h.sc
 have a1:=vG h
 have s:allowed c.plain t.cJ t.sub=match bW c.plain.all ⟨t.os,t.rel⟩with
  |none=>false
  |some i=>((c.plain.all.map (·.2.types)).getD i []).any (jL t.sub):=rfl
 have T:=oA c
 obtain⟨l,V,m,n,A,si,v⟩:=t
 have a7:aE.sub ⟨l,V,m,n,A,si,v⟩=⟨n,A,si,v⟩:=rfl
 rw[a7]at s⊢
 refine Spec.body Tryz.func148 rfl Tryz.results148 Tryz.ntmps148 rfl<|.sr ?_
 refine .bY rfl (λW=>?_)
 refine .bY rfl (λY=>?_)
 refine .ag rfl<|.z<|.q (.aM rfl)<|.cO (a6.weaken cZ) (λu L I=>?_)
 have iu:=I.ap
 have a3:qh (λb o=>R b o\/(b,o)∈L) u c.fO:=⟨I.rs λp hp=>.inr hp,λx C=>(a1 x C).mono λb o F=>.inl F⟩
 refine .ag rfl<|.z<|.mo rfl<|.fa rfl<|.fa rfl<|.lo rfl<|.fa rfl<|.lo rfl<|.aY ((oG _ _ _ a3 l m).weaken λb o F=>F.elim .inl λF=>.inr (by simp[F])) (λw hw=>?_)
 subst hw
 rw[T]
 refine .ag rfl<|.zs<|.sr<|.mo rfl<|.q .lss<|.zn<|.cond rfl (λB=>?_) λB=>?_
 have hn:bW c.plain.all ⟨l,m⟩=none:=by
  cases hh:bW c.plain.all ⟨l,m⟩with
  |none=>rfl
  |some i=>rw[hh]at B;simp only[fI]at B;have:=bS B;omega
 refine .sr<|.az rfl<|.ret (aH (aP rfl ?_))
 ·exact⟨by rw[s,hn],rfl⟩
 obtain⟨i,S⟩:∃i,bW c.plain.all ⟨l,m⟩=some i:=by
  cases hh:bW c.plain.all ⟨l,m⟩with
  |none=>rw[hh]at B;simp[fI]at B
  |some i=>exact⟨i,rfl⟩
 rw[S]
 have a4:i<c.fO.length:=by have:=wy S;rw[<-T,List.length_map]at this;exact this
 obtain⟨⟨sn,vt,vn,r⟩,C⟩:=bL a4
 have a2:=a1 _ (aO C)
 have K:RS R 2 Ty.enc vt r.types:=a2.t
 have b0:=K.ap
 have a9:One vn:=RS.ap a2.d
 have a5:(c.plain.all.map (·.2.types)).getD i []=r.types:=by
  rw[List.getD_eq_getElem?_getD,List.getElem?_map, <-T,List.getElem?_map,C];rfl
 rw[S]at s
 simp only[a5]at s
 have a8:=K.le
 refine .kn<|.seq<|.sr<|.az rfl<|.block<|.cz [(3,_),(5,_),(6,_)] (X:=Nat) (λj=>j<=r.types.length/\(r.types.take j).any (jL ⟨n,A,si,v⟩)=false) (λj E=>(7,iN j)::E) (λ_ G=>G) (λj=>r.types.length-j) 0 ⟨Nat.zero_le _,rfl⟩ kE.c.c.c.c rH ?_
 rintro j ⟨hj,U⟩
 refine .seq<|.sr<|.mo rfl<|.mo rfl<|.mo rfl ?_
 refine .aL i I C (λb1=>?_)
 refine .fa rfl<|.fa rfl<|.lo rfl<|.q (.bH K)<|.q .lss<|.zn<|.cond rfl (λM=>?_) λM=>?_
 have a0:j<r.types.length:=cb M
 obtain⟨⟨D,H⟩,J⟩:=bL a0
 have Q:=M7 n A v D H (si:=si)
 refine .kn<|.seq<|.block<|.sr<|.mo rfl<|.mo rfl ?_
 refine .aL i I C (λb4=>?_)
 refine .fa rfl<|.fa rfl<|.lo rfl<|.mo rfl ?_
 refine .bx j K J (λb5=>?_)
 refine .q (.aM rfl) ?_
 refine .bX (λZ=>?_)
 refine .bP rfl rfl<|.zs<|.seq ?_
 refine bz.cS [(3,_),(5,_),(6,_),(7,_),(8,_)] kE.c.c.c.c.c (X:=Unit) (λ_=>True) (λ_ E=>(53,.bool (!decide (n=⟨#[]⟩)&&decide (D=⟨#[]⟩)&&decide (H=⟨#[]⟩)))::E) (λ_=>[bl Z (Ty.enc ⟨D,H⟩) 249,L,bl Y (aE.enc ⟨l,V,m,n,A,si,v⟩) 119,bl W c.enc 25]) ?_ ?_
 refine .region<|.fa rfl<|.fa rfl<|.lo rfl<|.q .fU<|.mo rfl<|.split (t:=44) rfl (λg=>?_) (λg=>?_)
 refine .gT g<|.fa rfl<|.gT g<|.lo rfl<|.gT g<|.q .dP<|.q (.aT g)<|.mo rfl<|.split (t:=49) rfl (λk=>?_) (λk=>?_)
 refine .gT k<|.fa rfl<|.gT k<|.lo rfl<|.gT k<|.q .dP<|.q (.aT k)<|.nil ?_
 ·exact aF () trivial (kE.c.c.c.c.c.bU rfl (by grind)) rH
 refine .gF k<|.gF k<|.gF k<|.q (.aS k)<|.nil ?_
 ·exact aF () trivial (kE.c.c.c.c.c.bU rfl (by grind)) rH
 refine .gF g<|.gF g<|.gF g<|.q (.aS g)<|.mo rfl<|.gX<|.gX<|.gX<|.q .db<|.nil ?_
 ·exact aF () trivial (kE.c.c.c.c.c.bU rfl (by grind)) rH
 intro y hy
 refine av<|.cond rfl (λN=>?_) λN=>?_
 refine .sr<|.az rfl<|.ret (aH (bh (aH (cB (bh (aH (aP rfl ?_)))))))
 ·exact⟨by rw[s,nV J (by rw[Q,N];rfl)],rfl⟩
 refine .kn<|.seq ?_
 refine bz.cS [(3,_),(5,_),(6,_),(7,_)] kE.c.c.c.c (X:=Unit) (λ_=>True) (λ_ E=>(79,.bool (decide (n=⟨#[]⟩)&& !decide (D=⟨#[]⟩)&&decide (D=A)&&decide (H=v)))::E) (λ_=>[bl Z (Ty.enc ⟨D,H⟩) 249,L,bl Y (aE.enc ⟨l,V,m,n,A,si,v⟩) 119,bl W c.enc 25]) ?_ ?_
 refine .region<|.fa rfl<|.fa rfl<|.lo rfl<|.q .dP<|.mo rfl<|.split (t:=58) rfl (λf=>?_) (λf=>?_)
 refine .gT f<|.fa rfl<|.gT f<|.lo rfl<|.gT f<|.q .fU<|.q (.aT f)<|.mo rfl<|.split (t:=63) rfl (λa=>?_) (λa=>?_)
 refine .gT a<|.fa rfl<|.gT a<|.lo rfl<|.gT a<|.fa rfl<|.gT a<|.fa rfl<|.gT a<|.fa rfl<|.gT a<|.lo rfl<|.gT a<|.q .dP<|.q (.aT a)<|.mo rfl<|.split (t:=72) rfl (λe=>?_) (λe=>?_)
 refine .gT e<|.fa rfl<|.gT e<|.lo rfl<|.gT e<|.fa rfl<|.gT e<|.fa rfl<|.gT e<|.lo rfl<|.gT e<|.q .dP<|.q (.aT e)<|.nil ?_
 ·exact aF () trivial (kE.c.c.c.c.bU rfl (by grind)) rH
 refine .gF e<|.gF e<|.gF e<|.gF e<|.gF e<|.gF e<|.q (.aS e)<|.nil ?_
 ·exact aF () trivial (kE.c.c.c.c.bU rfl (by grind)) rH
 refine .gF a<|.gF a<|.gF a<|.gF a<|.gF a<|.gF a<|.gF a<|.q (.aS a)<|.mo rfl<|.gX<|.gX<|.gX<|.gX<|.gX<|.gX<|.q .db<|.nil ?_
 ·exact aF () trivial (kE.c.c.c.c.bU rfl (by grind)) rH
 refine .gF f<|.gF f<|.gF f<|.q (.aS f)<|.mo rfl<|.gX<|.gX<|.gX<|.gX<|.gX<|.gX<|.gX<|.q .db<|.mo rfl<|.gX<|.gX<|.gX<|.gX<|.gX<|.gX<|.q .db<|.nil ?_
 ·exact aF () trivial (kE.c.c.c.c.bU rfl (by grind)) rH
 intro y hy
 refine av<|.cond rfl (λO=>?_) λO=>?_
 refine .sr<|.az rfl<|.ret (bh (aH (cB (bh (aH (aP rfl ?_))))))
 ·exact⟨by rw[s,nV J (by rw[Q,O,Bool.or_true])],rfl⟩
 refine .skip<|aV<|av<|.region<|.mo rfl<|.ia (j+1) .add<|.ag rfl<|.nil ?_
 ·exact aW (j+1) ⟨a0,qm J U (by rw[Q,N,O];rfl)⟩ (by omega) kE.c.c.c.c (bf.drop [0] _)
 refine .exit<|bm<|bs<|bo<|av<|.sr<|.az rfl<|.ret (aP rfl ?_)
 ·rw[dw (gd M)]at U
  exact⟨by rw[s,U],rfl⟩
theorem A1(c:bN)(R:aB)(h:c.is R)(I:c.iI){b:Nat}{S:cW}{V:Value}{L:List bC}(F:DV R b S V L)(N:L.length<=512)(rev:Int)(k:bc)(sub:bc->List Sub)(A:sub=λk=>if scan S rev then(L.filter λy=>y.there rev&&decide (y.t.cJ=k)).map (·.t.sub)else []):
  Spec prog 88 [.agg c.enc.toArray,pT b,.int .u64 rev,.agg [.string k.os,.string k.oi].toArray,.string k.rel] R [] λu H'=>∃T,H'=[T]/\OS 117 4 Sub.enc u (fitting c.plain sub k) T:=by
 have H:=Pb c R h I
 have i1:One c.vs:=RS.ap h.ss
 have i2:One c.vc:=RS.ap h.sc
 have a2:(sub k).length<=512:=by
  rw[A]
  simp only
  split
  ·rw[List.length_map]
   exact Nat.le_trans (List.length_filter_le _ _) N
  ·simp
 have J:fitting c.plain sub k=(sub k).filter (allowed c.plain k):=rfl
 have O:sub k=if scan S rev then(L.filter λy=>y.there rev&&decide (y.t.cJ=k)).map (·.t.sub)else []:=by rw[A]
 rw[J]
 generalize a0:sub k=l at *
 have K:∀i,((l.take i).filter (allowed c.plain k)).length<=512:=λi=>Nat.le_trans (List.length_filter_le _ _) (by rw[List.length_take];omega)
 refine Spec.body Tryz.func88 rfl Tryz.results88 Tryz.ntmps88 rfl ?_
 refine .sr ?_
 refine .bY rfl (λb5=>?_)
 refine .bY rfl (λb8=>?_)
 refine .ag rfl<|.z<|.ag rfl<|.z<|.mo rfl<|.q (.aM rfl)<|.mo rfl<|.mo rfl ?_
 refine .cO ((F.Q9 (by omega) k rev).weaken cZ) (λu Y d=>?_)
 rw[<-O]at d
 have iu:=d.ap
 refine .ag rfl<|.zs<|.sr<|.az rfl<|.block ?_
 refine .cz [(4,_),(5,_),(8,_),(12,_)] (X:=Nat×Value×ay) (λy=>y.1<=l.length/\OS 117 4 Sub.enc y.2.1 ((l.take y.1).filter (allowed c.plain k)) y.2.2) (λy E=>(13,iN y.1)::(11,y.2.1)::E) (λy G=>y.2.2::G) (λy=>l.length-y.1) (0,sZ,[]) ⟨Nat.zero_le _,OS.nil⟩ kE.c.c.c.c.c.c bf.eL ?_
 rintro⟨i,W,x⟩ ⟨M,a⟩
 simp only at M a⊢
 have io:=a.ap
 refine .seq<|.sr<|.mo rfl<|.mo rfl<|.q (.dK d) ?_
 refine .q .lss<|.zn ?_
 refine .cond rfl (λm=>?_) λm=>?_
 have o:i<l.length:=cb m
 obtain⟨s,r⟩:=bL o
 have a1:=K i
 have B:=dG r
 obtain⟨j,g,e,f⟩:=s
 refine .kn<|.seq<|.block<|.seq ?_
 refine .dt 8 mixed (by kernel_rfl) ?_
 conv=>arg 6;dsimp only[List.take]
 refine .q (.aM rfl)<|.q (.aM rfl)<|.mo rfl<|.mo rfl<|.mo rfl ?_
 refine .aL i d r (λa3=>?_)
 refine .q (.aM rfl) ?_
 refine .q .cR ?_
 refine .nil ?_
 refine .aY ((H ⟨k.os,k.oi,k.rel,j,g,e,f⟩).weaken cZ) (λw Q=>?_)
 subst Q
 refine .zn ?_
 refine .cond rfl (λn=>?_) λn=>?_
 have v:allowed c.plain k ⟨j,g,e,f⟩=true:=n
 have p:(l.take (i+1)).filter (allowed c.plain k)=(l.take i).filter (allowed c.plain k)++[(⟨j,g,e,f⟩:Sub)]:=by rw[B,List.filter_append];simp[v]
 refine .region<|.mo rfl<|.mo rfl<|.mo rfl ?_
 refine .aL i d r (λa4=>?_)
 refine .q (.aM rfl) ?_
 refine .ej (λZ=>?_)
 refine .append a (RS.lits (xs:=[(⟨j,g,e,f⟩:Sub)]) rfl (by simp[Sub.enc]) (by simp[Sub.enc,ap])) (by simp only[List.length_singleton];omega) (λU D C=>?_)
 rw[<-p]at C
 refine .ag rfl<|.nil<|aV<|av<|.region<|.mo rfl ?_
 refine .ia (i+1) .add ?_
 refine .ag rfl<|.nil ?_
 ·exact aW (i+1,U,D) ⟨o,C⟩ (by simp only;omega) kE.c.c.c.c.c.c (bf.drop [0] _)
 have v:allowed c.plain k ⟨j,g,e,f⟩=false:=n
 have p:(l.take (i+1)).filter (allowed c.plain k)=(l.take i).filter (allowed c.plain k):=by rw[B,List.filter_append];simp[v]
 refine .skip<|aV<|av<|.region<|.mo rfl ?_
 refine .ia (i+1) .add ?_
 refine .ag rfl<|.nil ?_
 ·exact aW (i+1,W,x) ⟨o,by simp only;rw[p];exact a⟩ (by simp only;omega) kE.c.c.c.c.c.c rH
 refine .exit<|bm<|bs<|bo<|av<|.sr<|.mo rfl<|.az rfl ?_
 refine .ret (bp _ (.one (.tmp rfl)) (.one [0] _) ?_)
 ·rw[dw (gd m)]at a
  exact⟨x,by simp[take],a⟩
theorem Ref.eqv(a b c d:ByteArray):eA [Value.string a,.string b] [Value.string c,.string d]=decide (a=c/\b=d):=by
 have:=Ty.eq ⟨a,b⟩ ⟨c,d⟩
 simp only[Ty.enc,Ty.mk.injEq]at this
 exact this
theorem Pn(v:Value)(ps:List aD)(R:aB)(h:RS R 8 aD.enc v ps)(k:bc):
  Spec prog 90 [v,.agg [.string k.os,.string k.oi].toArray,.string k.rel] R [] λu H'=>u=.int .i64 (fI (eY (ps.map aD.plain) k))/\H'=[]:=by
 have K:=h.le
 have M:=h.ap
 obtain⟨os,oi,rel⟩:=k
 refine Spec.body Tryz.func90 rfl Tryz.results90 Tryz.ntmps90 rfl<|.sr ?_
 refine .bY rfl (λA=>?_)
 refine .ag rfl<|.zs<|.sr<|.az rfl<|.block<|.cz [(0,_),(2,_),(4,_)] (X:=Nat) (λi=>i<=ps.length/\∀j p,j<i->ps[j]? =some p->p.k≠⟨os,oi,rel⟩) (λi E=>(7,iN i)::E) (λ_ G=>G) (λi=>ps.length-i) 0 ⟨Nat.zero_le _,λj x f=>absurd f (by omega)⟩ kE.c.c.c.c rH ?_
 rintro i ⟨J,w⟩
 refine .seq<|.sr<|.mo rfl<|.mo rfl<|.q (.bH h)<|.q .lss<|.zn<|.cond rfl (λn=>?_) λn=>?_
 have s:i<ps.length:=cb n
 obtain⟨p,g⟩:=bL s
 have L:ca p.enc:=⟨h.one p (aO g)⟩
 obtain⟨⟨d,b,m⟩,I,W,O,Y,U,V,N,Q⟩:=p
 refine .kn<|.seq<|.block<|.seq ?_
 refine bz.cS [(0,_),(2,_),(4,_),(7,_)] kE.c.c.c.c (X:=Unit) (λ_=>True) (λ_ E=>(29,.bool (decide (d=os/\b=oi)&&decide (m=rel)))::E) (λ_=>[bl A [.string os,.string oi] 44]) ?_ ?_
 refine .gn mixed (by kernel_rfl)<|.mo rfl<|.mo rfl ?_
 refine .bx i h g (λS=>?_)
 refine .fa rfl<|.q (.loadT rfl)<|.q (.aM rfl)<|.q (.cast (.mE (xs:=[.string d,.string b]) (ys:=[.string os,.string oi]) rfl rfl (Ty.kinds ⟨d,b⟩) (Ty.kinds ⟨os,oi⟩)) (congrArg Value.bool (Ref.eqv d b os oi)))<|.mo rfl<|.split (t:=21) rfl (λa=>?_) (λa=>?_)
 refine .gT a<|.mo rfl<|.gT a<|.mo rfl<|.gT a ?_
 refine .bx i h g (λT=>?_)
 refine .gT a<|.fa rfl<|.gT a<|.lo rfl<|.gT a<|.mo rfl<|.gT a<|.q .dP<|.q (.aT a)<|.nil ?_
 ·exact aF () trivial (kE.c.c.c.c.bU rfl (by grind)) rH
 refine .gF a<|.gF a<|.gF a<|.gF a<|.gF a<|.gF a<|.gF a<|.q (.aS a)<|.nil ?_
 ·exact aF () trivial (kE.c.c.c.c.bU rfl (by grind)) rH
 intro y z
 refine av<|.cond rfl (λo=>?_) λo=>?_
 refine .sr<|.mo rfl<|.az rfl<|.ret (bh (aH (cB (bh (aH (aP rfl ?_))))))
 ·refine⟨?_,rfl⟩
  have r:(d=os/\b=oi)/\m=rel:=by simpa using o
  have:eY (ps.map aD.plain) ⟨os,oi,rel⟩=some i:=by
   unfold eY
   rw[List.findIdx?_eq_some_iff_getElem]
   refine⟨by rw[List.length_map];exact s,?_,λj f=>?_⟩
   ·have e:=(List.getElem?_eq_some_iff.1 g).2
    rw[List.getElem_map,e]
    exact decide_eq_true (by show(⟨d,b,m⟩:bc)=_;rw[r.1.1,r.1.2,r.2])
   ·rw[List.getElem_map]
    have:=w j _ f (aX (by omega))
    exact λB=>this (bS B)
  rw[this]
  rfl
 refine .skip<|aV<|av<|.region<|.mo rfl<|.ia (i+1) .add<|.ag rfl<|.nil ?_
 ·exact aW (i+1) ⟨s,λj x f l=>by
   rcases Nat.lt_or_ge j i with hh|hh
   ·exact w j x hh l
   ·obtain rfl:j=i:=by omega
    rw[g]at l
    cases l
    intro C
    injection C with k1 k2 k3
    have D:d=os:=k1
    have F:b=oi:=k2
    have H:m=rel:=k3
    subst D;subst F;subst H
    simp at o⟩ (by omega) kE.c.c.c.c rH
 refine .exit<|bm<|bs<|bo<|av<|.sr<|.az rfl<|.ret (aP rfl ?_)
 ·refine⟨?_,rfl⟩
  have:eY (ps.map aD.plain) ⟨os,oi,rel⟩=none:=by
   unfold eY
   rw[List.findIdx?_eq_none_iff]
   intro x l
   obtain⟨y,z,rfl⟩:=List.mem_map.1 l
   obtain⟨j,f,e⟩:=List.mem_iff_getElem.1 z
   have:=w j y (by have:=bA n;omega) (by rw[aX f,e])
   exact decide_eq_false this
  rw[this]
  rfl
def rG(c:Cf)(sub:bc->List Sub)(k:bc)(n:Nd):List Sub:=(dX c sub k n).map λx=>⟨⟨#[]⟩,x.os,x.oi,x.rel⟩
theorem O9(c:bN)(R:aB)(h:c.is R)(hf:c.iI){b:Nat}{S:cW}{vL:Value}{L:List bC}(hD:DV R b S vL L)(hl:L.length<=512)(rev:Int)(sub:bc->List Sub)(a6:sub=λk=>if scan S rev then(L.filter λy=>y.there rev&&decide (y.t.cJ=k)).map (·.t.sub)else [])(k:bc)(N:List Value)(n:Nd) [ie:ca N](a9:N.length=5):
  Spec prog 89 [.agg c.enc.toArray,pT b,.int .u64 rev,.agg (.string k.os:: .string k.oi:: .string k.rel::N).toArray,.agg n.enc.toArray] R [] λu H'=>∃T,H'=[T]/\OS 117 4 Sub.enc u (rG c.plain sub k n) T:=by
 obtain⟨Z,x4,x5,x6,x7,rfl⟩:∃a b c d f,N=[a,b,c,d,f]:=by
  match N,a9 with
  |[a,b,c,d,f],_=>exact⟨a,b,c,d,f,rfl⟩
 have c1:ca (Value.string k.os:: .string k.oi:: .string k.rel::[Z,x4,x5,x6,x7]):=⟨λu hu=>by
  simp only[List.mem_cons,List.not_mem_nil,or_false]at hu
  rcases hu with rfl|rfl|rfl|hu
  ·rfl
  ·rfl
  ·rfl
  ·exact ie.h u (by simpa using hu)⟩
 have V:=λk=>A1 c R h hf hD hl rev k sub a6
 have i1:One c.vs:=RS.ap h.ss
 have i2:One c.vc:=RS.ap h.sc
 have Y:∀k,(fitting c.plain sub k).length<=512:=λk=>by
  unfold fitting
  refine Nat.le_trans (List.length_filter_le _ _) ?_
  rw[a6]
  simp only
  split
  ·rw[List.length_map]
   exact Nat.le_trans (List.length_filter_le _ _) hl
  ·simp
 have W:∀k,fu c.plain sub k=(fitting c.plain sub k).filter λs=>decide (s.us=⟨#[]⟩):=λ_=>rfl
 have r:rG c.plain sub k n=(if n.kind=1 then(fu c.plain sub k).map λs=>(⟨s.ss,s.si,s.sr⟩:bc)
  else if n.kind=3 then(fu c.plain sub ⟨k.os,k.oi,n.rel⟩).map λs=>⟨s.ss,s.si,n.dz⟩
  else if n.kind=2 then [⟨k.os,k.oi,n.rel⟩]
  else []).map λx=>(⟨⟨#[]⟩,x.os,x.oi,x.rel⟩:Sub):=rfl
 generalize c0:rG c.plain sub k n=out at *
 refine Spec.gu (H':=[[]]) (by simp) ?_
 refine Spec.body Tryz.func89 rfl Tryz.results89 Tryz.ntmps89 rfl ?_
 refine .sr ?_
 refine .bY rfl (λb5=>?_)
 refine .bY rfl (λb8=>?_)
 refine .bY rfl (λb9=>?_)
 refine .ag rfl<|.zs<|.seq ?_
 refine bz.cS [(1,_),(2,_),(5,_),(8,_),(9,_)] kE.c.c.c.c.c (X:=Unit) (λ_=>True) (λ_ E=>(22,.bool (decide (n.kind=1)||decide (n.kind=3)))::E) (λ_=>[bl b9 n.enc 199,bl b8 (Value.string k.os:: .string k.oi:: .string k.rel::[Z,x4,x5,x6,x7]) 93,bl b5 c.enc 25,[]]) ?_ ?_
 refine .region<|.fa rfl<|.lo rfl<|.q .bQ<|.mo rfl ?_
 refine .split (t:=18) rfl (λp=>?_) (λp=>?_)
 refine .gF p<|.gF p<|.gF p<|.q (.aT p) ?_
 refine .nil ?_
 ·exact aF () trivial (kE.c.c.c.c.c.bU rfl (by grind)) rH
 refine .gT p<|.fa rfl<|.gT p<|.lo rfl<|.gT p<|.q .bQ<|.q (.aS p) ?_
 refine .nil ?_
 ·exact aF () trivial (kE.c.c.c.c.c.bU rfl (by grind)) rH
 intro y hy
 refine av ?_
 refine .cond rfl (λh1=>?_) λh1=>?_
 have a3:n.kind=1\/n.kind=3:=by simpa using h1
 refine .sr<|.fa rfl<|.lo rfl<|.ag rfl<|.zs<|.sr<|.fa rfl<|.lo rfl<|.q .bQ<|.zn ?_
 refine .cond rfl (λh2=>?_) λh2=>?_
 have H:n.kind=3:=bS h2
 have a1:=V ⟨k.os,k.oi,n.rel⟩
 have b2:=Y ⟨k.os,k.oi,n.rel⟩
 have a4:∃g:Sub->Sub,g=(λs=>⟨⟨#[]⟩,s.ss,s.si,n.dz⟩)/\out=((fitting c.plain sub ⟨k.os,k.oi,n.rel⟩).filter λs=>decide (s.us=⟨#[]⟩)).map g:=⟨_,rfl,by rw[r,if_neg (by omega),if_pos H,List.map_map,W];rfl⟩
 clear V Y W r
 generalize b1:fitting c.plain sub ⟨k.os,k.oi,n.rel⟩=l at *
 obtain⟨g,hg,a5⟩:=a4
 refine .region<|.fa rfl<|.lo rfl<|.ag rfl<|.z<|.ag rfl<|.z<|.q (.aM rfl)<|.mo rfl<|.mo rfl<|.fa rfl<|.q (.loadT rfl) ?_
 refine .mo rfl ?_
 refine .cO (a1.weaken cZ) (λu a0 hu=>?_)
 have iu:=hu.ap
 have a2:∀i,(((l.take i).filter λs=>decide (s.us=⟨#[]⟩)).map g).length<=512:=λi=>by
  rw[List.length_map]
  exact Nat.le_trans (List.length_filter_le _ _) (by rw[List.length_take];omega)
 refine .ag rfl<|.zs<|.sr<|.az rfl<|.block ?_
 refine .cz [(9,_),(13,_)] (X:=Nat×Value×ay) (λy=>y.1<=l.length/\OS 117 4 Sub.enc y.2.1 (((l.take y.1).filter λs=>decide (s.us=⟨#[]⟩)).map g) y.2.2) (λy E=>(14,iN y.1)::(12,y.2.1)::E) (G:=[a0,bl b9 n.enc 199,bl b8 (Value.string k.os:: .string k.oi:: .string k.rel::[Z,x4,x5,x6,x7]) 93,bl b5 c.enc 25]) (λy G=>y.2.2::G) (λy=>l.length-y.1) (0,sZ,[]) ⟨Nat.zero_le _,OS.nil⟩ kE.c.c.c.c (aQ [4,0,0,0,0]) ?_
 rintro⟨i,vo,M⟩ ⟨hi,e⟩
 simp only at hi e⊢
 have io:=e.ap
 refine .seq<|.sr<|.mo rfl<|.mo rfl<|.q (.dK hu) ?_
 refine .q .lss<|.zn ?_
 refine .cond rfl (λC=>?_) λC=>?_
 have v:i<l.length:=cb C
 obtain⟨s,A⟩:=bL v
 have b0:=a2 i
 have Q:=dG A
 obtain⟨U,m,j,o⟩:=s
 refine .kn<|.seq<|.block<|.seq<|.sr<|.mo rfl<|.mo rfl ?_
 refine .aL i hu A (λb3=>?_)
 refine .fa rfl<|.lo rfl<|.q .fU<|.zn ?_
 refine .cond rfl (λD=>?_) λD=>?_
 have I:U≠⟨#[]⟩:=by simpa using D
 have w:((l.take (i+1)).filter λs=>decide (s.us=⟨#[]⟩)).map g=((l.take i).filter λs=>decide (s.us=⟨#[]⟩)).map g:=by rw[Q,List.filter_append];simp[I]
 refine .exit<|bm<|bo<|av<|.region<|.mo rfl ?_
 refine .ia (i+1) .add ?_
 refine .ag rfl<|.nil ?_
 ·exact aW (i+1,vo,M) ⟨v,by simp only;rw[w];exact e⟩ (by simp only;omega) kE.c.c.c.c rH
 have I:U=⟨#[]⟩:=by simpa using D
 subst I
 have w:((l.take (i+1)).filter λs=>decide (s.us=⟨#[]⟩)).map g=((l.take i).filter λs=>decide (s.us=⟨#[]⟩)).map g++[g ⟨⟨#[]⟩,m,j,o⟩]:=by rw[Q,List.filter_append,List.map_append];simp
 refine .kn<|.sr<|.fa rfl<|.lo rfl<|.q .bQ<|.zn ?_
 refine .cond rfl (λO=>?_) λO=>?_
 (have F:g ⟨⟨#[]⟩,m,j,o⟩=⟨⟨#[]⟩,m,j,n.dz⟩:=by rw[hg])
 refine .cL [10] mixed ?_
 refine .tO 0 rfl .move<|.tO 1 rfl .move<|.tO 2 rfl .move ?_
 refine RA.aL 3 rfl i hu A rfl rfl rfl (by kernel_rfl) (λb4=>?_)
 refine .tO 4 rfl (.fieldAddr rfl) ?_
 refine .tO 5 rfl (.loadT rfl) ?_
 refine .tO 6 rfl (.fieldAddr rfl)<|.tO 7 rfl (.bZ rfl) ?_
 refine .tO 8 rfl .cR ?_
 refine .sT 9 rfl ?_
 refine .ej (λa7=>?_)
 refine .nil (Next.sub ?_)
 refine .sT 10 rfl ?_
 refine .append e (RS.lits (xs:=[(⟨⟨#[]⟩,m,j,n.dz⟩:Sub)]) rfl (by simp[Sub.enc]) (by simp[Sub.enc,ap])) (by simp only[List.length_singleton];omega) (λK B J=>?_)
 refine .nil (Next.mod rfl ?_)
 refine .tK 11 rfl .assign ?_
 refine RA.nil (by kernel_rfl) ?_
 refine aV<|av<|.region<|.mo rfl ?_
 refine .ia (i+1) .add ?_
 refine .ag rfl<|.nil ?_
 ·exact aW (i+1,K,B) ⟨v,by simp only;rw[w,F];exact J⟩ (by simp only;omega) kE.c.c.c.c (bf.drop [0] _)
 (have F:g ⟨⟨#[]⟩,m,j,o⟩=⟨⟨#[]⟩,m,j,o⟩:=by exfalso;have:=bA O;omega)
 refine .region<|.mo rfl<|.mo rfl<|.mo rfl ?_
 refine .aL i hu A (λb6=>?_)
 refine .q (.aM rfl) ?_
 refine .ej (λa8=>?_)
 refine .append e (RS.lits (xs:=[(⟨⟨#[]⟩,m,j,o⟩:Sub)]) rfl (by simp[Sub.enc]) (by simp[Sub.enc,ap])) (by simp only[List.length_singleton];omega) (λK B J=>?_)
 refine .ag rfl<|.nil<|aV<|av<|.region<|.mo rfl ?_
 refine .ia (i+1) .add ?_
 refine .ag rfl<|.nil ?_
 ·exact aW (i+1,K,B) ⟨v,by simp only;rw[w,F];exact J⟩ (by simp only;omega) kE.c.c.c.c (bf.drop [0] _)
 refine .exit<|bm<|bs<|bo<|av<|.sr<|.mo rfl<|.az rfl ?_
 refine .ret (aH (bp _ (.one (.tmp rfl)) (.one [0] _) ?_))
 ·rw[dw (gd C)]at e
  exact⟨M,by simp[take],by rw[a5];exact e⟩
 have H:n.kind=1:=by have:=bA h2;omega
 have a1:=V ⟨k.os,k.oi,k.rel⟩
 have b2:=Y ⟨k.os,k.oi,k.rel⟩
 have a4:∃g:Sub->Sub,g=(λs=>⟨⟨#[]⟩,s.ss,s.si,s.sr⟩)/\out=((fitting c.plain sub ⟨k.os,k.oi,k.rel⟩).filter λs=>decide (s.us=⟨#[]⟩)).map g:=⟨_,rfl,by rw[r,if_pos H,List.map_map,W];rfl⟩
 clear V Y W r
 generalize b1:fitting c.plain sub ⟨k.os,k.oi,k.rel⟩=l at *
 obtain⟨g,hg,a5⟩:=a4
 refine .kn<|.sr<|.ag rfl<|.z<|.q (.aM rfl)<|.mo rfl<|.mo rfl<|.fa rfl<|.q (.loadT rfl) ?_
 refine .mo rfl ?_
 refine .cO (a1.weaken cZ) (λu a0 hu=>?_)
 have iu:=hu.ap
 have a2:∀i,(((l.take i).filter λs=>decide (s.us=⟨#[]⟩)).map g).length<=512:=λi=>by
  rw[List.length_map]
  exact Nat.le_trans (List.length_filter_le _ _) (by rw[List.length_take];omega)
 refine .ag rfl<|.zs<|.sr<|.az rfl<|.block ?_
 refine .cz [(9,_),(13,_)] (X:=Nat×Value×ay) (λy=>y.1<=l.length/\OS 117 4 Sub.enc y.2.1 (((l.take y.1).filter λs=>decide (s.us=⟨#[]⟩)).map g) y.2.2) (λy E=>(14,iN y.1)::(12,y.2.1)::E) (G:=[a0,bl b9 n.enc 199,bl b8 (Value.string k.os:: .string k.oi:: .string k.rel::[Z,x4,x5,x6,x7]) 93,bl b5 c.enc 25]) (λy G=>y.2.2::G) (λy=>l.length-y.1) (0,sZ,[]) ⟨Nat.zero_le _,OS.nil⟩ kE.c.c.c.c (aQ [4,0,0,0,0]) ?_
 rintro⟨i,vo,M⟩ ⟨hi,e⟩
 simp only at hi e⊢
 have io:=e.ap
 refine .seq<|.sr<|.mo rfl<|.mo rfl<|.q (.dK hu) ?_
 refine .q .lss<|.zn ?_
 refine .cond rfl (λC=>?_) λC=>?_
 have v:i<l.length:=cb C
 obtain⟨s,A⟩:=bL v
 have b0:=a2 i
 have Q:=dG A
 obtain⟨U,m,j,o⟩:=s
 refine .kn<|.seq<|.block<|.seq<|.sr<|.mo rfl<|.mo rfl ?_
 refine .aL i hu A (λb3=>?_)
 refine .fa rfl<|.lo rfl<|.q .fU<|.zn ?_
 refine .cond rfl (λD=>?_) λD=>?_
 have I:U≠⟨#[]⟩:=by simpa using D
 have w:((l.take (i+1)).filter λs=>decide (s.us=⟨#[]⟩)).map g=((l.take i).filter λs=>decide (s.us=⟨#[]⟩)).map g:=by rw[Q,List.filter_append];simp[I]
 refine .exit<|bm<|bo<|av<|.region<|.mo rfl ?_
 refine .ia (i+1) .add ?_
 refine .ag rfl<|.nil ?_
 ·exact aW (i+1,vo,M) ⟨v,by simp only;rw[w];exact e⟩ (by simp only;omega) kE.c.c.c.c rH
 have I:U=⟨#[]⟩:=by simpa using D
 subst I
 have w:((l.take (i+1)).filter λs=>decide (s.us=⟨#[]⟩)).map g=((l.take i).filter λs=>decide (s.us=⟨#[]⟩)).map g++[g ⟨⟨#[]⟩,m,j,o⟩]:=by rw[Q,List.filter_append,List.map_append];simp
 refine .kn<|.sr<|.fa rfl<|.lo rfl<|.q .bQ<|.zn ?_
 refine .cond rfl (λO=>?_) λO=>?_
 (have F:g ⟨⟨#[]⟩,m,j,o⟩=⟨⟨#[]⟩,m,j,n.dz⟩:=by exfalso;have:=bS O;omega)
 refine .cL [10] mixed ?_
 refine .tO 0 rfl .move<|.tO 1 rfl .move<|.tO 2 rfl .move ?_
 refine RA.aL 3 rfl i hu A rfl rfl rfl (by kernel_rfl) (λb4=>?_)
 refine .tO 4 rfl (.fieldAddr rfl) ?_
 refine .tO 5 rfl (.loadT rfl) ?_
 refine .tO 6 rfl (.fieldAddr rfl)<|.tO 7 rfl (.bZ rfl) ?_
 refine .tO 8 rfl .cR ?_
 refine .sT 9 rfl ?_
 refine .ej (λa7=>?_)
 refine .nil (Next.sub ?_)
 refine .sT 10 rfl ?_
 refine .append e (RS.lits (xs:=[(⟨⟨#[]⟩,m,j,n.dz⟩:Sub)]) rfl (by simp[Sub.enc]) (by simp[Sub.enc,ap])) (by simp only[List.length_singleton];omega) (λK B J=>?_)
 refine .nil (Next.mod rfl ?_)
 refine .tK 11 rfl .assign ?_
 refine RA.nil (by kernel_rfl) ?_
 refine aV<|av<|.region<|.mo rfl ?_
 refine .ia (i+1) .add ?_
 refine .ag rfl<|.nil ?_
 ·exact aW (i+1,K,B) ⟨v,by simp only;rw[w,F];exact J⟩ (by simp only;omega) kE.c.c.c.c (bf.drop [0] _)
 (have F:g ⟨⟨#[]⟩,m,j,o⟩=⟨⟨#[]⟩,m,j,o⟩:=by rw[hg])
 refine .region<|.mo rfl<|.mo rfl<|.mo rfl ?_
 refine .aL i hu A (λb6=>?_)
 refine .q (.aM rfl) ?_
 refine .ej (λa8=>?_)
 refine .append e (RS.lits (xs:=[(⟨⟨#[]⟩,m,j,o⟩:Sub)]) rfl (by simp[Sub.enc]) (by simp[Sub.enc,ap])) (by simp only[List.length_singleton];omega) (λK B J=>?_)
 refine .ag rfl<|.nil<|aV<|av<|.region<|.mo rfl ?_
 refine .ia (i+1) .add ?_
 refine .ag rfl<|.nil ?_
 ·exact aW (i+1,K,B) ⟨v,by simp only;rw[w,F];exact J⟩ (by simp only;omega) kE.c.c.c.c (bf.drop [0] _)
 refine .exit<|bm<|bs<|bo<|av<|.sr<|.mo rfl<|.az rfl ?_
 refine .ret (aH (bp _ (.one (.tmp rfl)) (.one [0] _) ?_))
 ·rw[dw (gd C)]at e
  exact⟨M,by simp[take],by rw[a5];exact e⟩
 have a3:n.kind≠1/\n.kind≠3:=by simpa using h1
 rw[if_neg a3.1,if_neg a3.2]at r
 refine .kn<|.seq<|.sr<|.fa rfl<|.lo rfl<|.q .bQ<|.zn ?_
 refine .cond rfl (λh6=>?_) λh6=>?_
 refine .sr<|.fa rfl<|.q (.loadT rfl) ?_
 refine .fa rfl<|.lo rfl ?_
 refine .q .cR ?_
 refine .ej (λb7=>?_)
 refine .az rfl ?_
 refine .ret (aH (bp _ (.one (.tmp rfl)) (.one [0] _) ?_))
 ·have H:n.kind=2:=by simpa using h6
  rw[if_pos H]at r
  exact⟨_,rfl,by rw[r];exact OS.lits rfl (by simp[Sub.enc]) (by simp[Sub.enc,ap])⟩
 refine .kn<|.sr<|.az rfl ?_
 refine .ret (bp _ (.one (.tmp rfl)) (.one [3] _) ?_)
 ·have H:n.kind≠2:=by simpa using h6
  rw[if_neg H]at r
  exact⟨_,rfl,by rw[r];exact OS.nil⟩
def aD.zero(k:bc):aD:=⟨k,false,sZ,[],sZ,[],sZ,[],0⟩
def PU(R:aB)(A:List (ByteArray×Rl))(num:List Nat)(k:bc)(m:Nat)(p:aD):Prop:=
 (p=aD.zero k/\∀j x,j<m->A[j]? =some x->dY x≠⟨k.os,k.rel⟩)\/
 ∃j x vn,j<m/\A[j]? =some x/\dY x=⟨k.os,k.rel⟩/\p=⟨k,true,vn,x.2.nodes,sZ,[],sZ,[],num.getD j 0⟩/\RS R 5 Nd.enc vn x.2.nodes
theorem PU.cT{R:aB}{A:List (ByteArray×Rl)}{num:List Nat}{k:bc}{m:Nat}{p:aD}(h:PU R A num k m p):ca p.enc:=by
 rcases h with⟨rfl,_⟩|⟨j,x,c,_,_,_,rfl,b⟩
 ·exact⟨by simp[aD.enc,aD.zero,ap]⟩
 ·have:=b.ap
  refine⟨λu a=>?_⟩
  simp only[aD.enc,List.mem_cons,List.not_mem_nil,or_false]at a
  rcases a with rfl|rfl|rfl|rfl|rfl|rfl|rfl|rfl
  ·rfl
  ·rfl
  ·rfl
  ·rfl
  ·exact this.h
  ·rfl
  ·rfl
  ·rfl
theorem PU.skip{R:aB}{A:List (ByteArray×Rl)}{num:List Nat}{k:bc}{m:Nat}{p:aD}{x:ByteArray×Rl}(h:PU R A num k m p)(f:A[m]? =some x)(d:dY x≠⟨k.os,k.rel⟩):PU R A num k (m+1) p:=by
 rcases h with⟨e,b⟩|⟨j,y,g,b,c⟩
 ·refine .inl ⟨e,λj y i a=>?_⟩
  rcases Nat.lt_or_ge j m with h3|h3
  ·exact b j y h3 a
  ·obtain rfl:j=m:=by omega
   rw[f]at a;cases a;exact d
 ·exact .inr ⟨j,y,g,by omega,c⟩
theorem As{A:List (ByteArray×Rl)}(a:(A.map dY).Nodup){i j:Nat}{x y:ByteArray×Rl}{t:Ty}(f:A[i]? =some x)(g:A[j]? =some y)(d:dY x=t)(e:dY y=t):i=j:=by
 have b:(A.map dY)[i]? =some t:=by rw[List.getElem?_map,f, <-d];rfl
 have c:(A.map dY)[j]? =some t:=by rw[List.getElem?_map,g, <-e];rfl
 rcases Nat.lt_trichotomy i j with h|h|h
 ·exact absurd a (mM h c b rfl)
 ·exact h
 ·exact absurd a (mM h b c rfl)
theorem PU.same{R:aB}{A:List (ByteArray×Rl)}{num:List Nat}{k:bc}{m:Nat}{p:aD}(h:PU R A num k m p)(r:A.length<=m)(n:(A.map dY).Nodup){c:Cf}(g:c.all=A):p.plain=one c num k/\p.is R:=by
 unfold one
 rw[g]
 rcases h with⟨rfl,d⟩|⟨j,x,s,d,a,e,rfl,f⟩
 ·rw[ze λj y q b=>d j y (by omega) b]
  exact⟨rfl,RS.fk,RS.fk,NN.nil⟩
 ·rw[zf a e λi y o b l=>by have:=As n a b e l;omega]
  refine⟨?_,f,RS.fk,NN.nil⟩
  simp only[aD.plain,List.getD_eq_getElem?_getD,List.getElem?_map,a]
  rfl
theorem PL(c:bN)(R:aB)(h:c.is R)(num:List Nat)(M:lv isWord dj c.plain num)(c5:(c.plain.numbers isWord dj).2=rows c.plain.bg num)(k:bc):
  Spec prog 87 [.agg c.enc.toArray,.agg [.string k.os,.string k.oi].toArray,.string k.rel] R [] λu H'=>(∃p:aD,u=.agg p.enc.toArray/\p.plain=one c.plain num k/\p.is R)/\H'=[]:=by
 have a9:=A6 c R h
 have l:=h.ss
 have i1:=l.ap
 have i2:One c.vc:=RS.ap h.sc
 have d6:=l.le
 have b9:=h.all
 have d3:=oT c.plain
 have d7:=M.len
 have b1:(c.plain.all.map dY).Nodup:=M.dU.2.1
 have d2:c.plain.bg.length=c.bg.length:=by unfold bN.plain;simp
 have a7:∀(i:Nat) (s:cy),c.bg[i]? =some s->c.plain.bg[i]? =some s.plain:=λi s b=>oF b
 have d4:=λ(p:gl) (s:cy) (r:cv)=>oB (c:=c) (p:=p) (s:=s) (r:=r)
 have c1:∀i k,c.ix (i,k)=cG c.plain.bg i+k:=λ_ _=>rfl
 have d1:=λ(p:aD) (m:Nat) (h:PU R c.plain.all num k m p) (M:c.plain.all.length<=m)=>h.same M b1 (c:=c.plain) rfl
 rw[c5]at a9
 have d0:∀i s,c.bg[i]? =some s->(rows c.plain.bg num)[i]? =some ((num.drop (cG c.plain.bg i)).take s.bR.length):=λi s b=>by
  have F:=pP (n:=num) (a7 i s b)
  rwa [show s.plain.bR.length=s.bR.length by simp[cy.plain]]at F
 generalize hA:c.plain.all=A at *
 generalize a0:cG c.plain.bg=of at *
 have c6:of 0=0:=by rw[<-a0];cases c.plain.bg<;>rfl
 refine Spec.body Tryz.func87 rfl Tryz.results87 Tryz.ntmps87 rfl ?_
 refine .sr ?_
 refine .bY rfl (λU=>?_)
 refine .bY rfl (λV=>?_)
 refine .bX (λW=>?_)
 refine .z<|.q (.aM rfl)<|.mo rfl ?_
 refine .q .cR ?_
 refine .bX (λY=>?_)
 refine .bP rfl rfl<|.z<|.q (.aM rfl) ?_
 refine .cO (a9.weaken cZ) (λu D hu=>?_)
 obtain⟨w,ll,rfl,K,c2⟩:=hu
 have iw:One w:=K.rs.ap
 refine .mo rfl<|.q .extract<|.q .extract<|.ag rfl<|.ag rfl<|.zs<|.sr<|.az rfl<|.block ?_
 refine .cz [(2,_),(3,_),(4,_),(6,_),(7,_),(8,_)] (X:=Nat×aD) (λy=>y.1<=c.bg.length/\PU R A num k (of y.1) y.2) (λy E=>(10,iN y.1)::E) (G:=[D,bl W (aD.enc ⟨⟨⟨#[]⟩,⟨#[]⟩,⟨#[]⟩⟩,false,sZ,[],sZ,[],sZ,[],0⟩) 93,bl V [.string k.os,.string k.oi] 44,bl U c.enc 25]) (λy G=>bl Y y.2.enc 93::G) (λy=>c.bg.length-y.1) (0,aD.zero k) ⟨Nat.zero_le _,.inl ⟨rfl,λj x hj=>by rw[c6]at hj;omega⟩⟩ kE.c.c.c.c.c.c.c (aQ [1,0,0,0,0]) ?_
 rintro⟨i,p⟩ ⟨hi,N⟩
 simp only at hi N⊢
 have e0:=N.cT
 refine .seq<|.sr<|.mo rfl<|.fa rfl<|.lo rfl<|.q (.bH l) ?_
 refine .q .lss<|.zn ?_
 refine .cond rfl (λF=>?_) λF=>?_
 have a5:i<c.bg.length:=cb F
 obtain⟨⟨f,J,g⟩,b⟩:=bL a5
 have a3:=b9 _ (aO b)
 have B:RS R 3 cv.enc J g:=a3.rs
 have e5:=B.ap
 have d8:=B.le
 have e7:ca (cy.enc ⟨f,J,g⟩):=⟨a3.cT⟩
 have c7:=a7 i _ b
 have a6:=oD c7
 rw[a0,show(cy.plain ⟨f,J,g⟩).bR.length=g.length by simp[cy.plain]]at a6
 have a2:=d0 i _ b
 simp only at a2
 rw[<-c2,List.getElem?_map]at a2
 obtain⟨⟨v,b2⟩,a1,b0⟩:=Option.map_eq_some_iff.1 a2
 simp only at b0
 have S:=K.all _ (aO a1)
 simp only at S
 have iv:=S.ap
 have f4:PS D (ei w (i*1)) (dW (v,b2)):=⟨K.rs.pc a1⟩
 refine .kn<|.seq<|.block<|.sr<|.az rfl<|.block ?_
 refine .cz [(2,_),(3,_),(4,_),(6,_),(7,_),(8,_),(10,_)] (X:=Nat×aD) (λy=>y.1<=g.length/\PU R A num k (of i+y.1) y.2) (λy E=>(11,iN y.1)::E) (G:=[D,bl W (aD.enc ⟨⟨⟨#[]⟩,⟨#[]⟩,⟨#[]⟩⟩,false,sZ,[],sZ,[],sZ,[],0⟩) 93,bl V [.string k.os,.string k.oi] 44,bl U c.enc 25]) (λy G=>bl Y y.2.enc 93::G) (λy=>g.length-y.1) (0,p) ⟨Nat.zero_le _,N⟩ kE.c.c.c.c.c.c.c.c rH ?_
 rintro⟨q,T⟩ ⟨hq,o⟩
 simp only at hq o⊢
 have e3:=o.cT
 refine .seq<|.sr<|.mo rfl<|.fa rfl<|.lo rfl<|.mo rfl ?_
 refine .bx i l b (λe8=>?_)
 refine .fa rfl<|.lo rfl<|.q (.bH B) ?_
 refine .q .lss<|.zn ?_
 refine .cond rfl (λh2=>?_) λh2=>?_
 have O:q<g.length:=cb h2
 obtain⟨⟨vt,C,r⟩,I⟩:=bL O
 have Q:=a3.all _ (aO I)
 have c4:RS R 5 Nd.enc C r.nodes:=Q.d
 have e6:One vt:=RS.ap Q.t
 have e4:One C:=RS.ap Q.d
 have d9:ca (cv.enc ⟨vt,C,r⟩):=⟨Q.cT⟩
 have H:=d4 (i,q) _ _ b I
 rw[c1]at H
 have d5:of i+q<A.length:=(List.getElem?_eq_some_iff.1 H).1
 obtain⟨n,hn⟩:∃n,num[of i+q]? =some n:=⟨_,aX (by omega)⟩
 have a8:b2[q]? =some n:=by rw[b0,List.getElem?_take_of_lt O,List.getElem?_drop];exact hn
 have f5:PS D (ei v (q*1)) (cM n):=⟨S.pc a8⟩
 have c3:num.getD (of i+q) 0=n:=by rw[List.getD_eq_getElem?_getD,hn];rfl
 refine .kn<|.seq<|.block<|.seq ?_
 refine bz.cS [(2,_),(3,_),(4,_),(6,_),(7,_),(8,_),(10,_),(11,_)] kE.c.c.c.c.c.c.c.c (X:=Unit) (λ_=>True) (λ_ E=>(60,.bool (decide (f=k.os)&&decide (r.name=k.rel)))::E) (λ_=>[bl Y T.enc 93,D,bl W (aD.enc ⟨⟨⟨#[]⟩,⟨#[]⟩,⟨#[]⟩⟩,false,sZ,[],sZ,[],sZ,[],0⟩) 93,bl V [.string k.os,.string k.oi] 44,bl U c.enc 25]) ?_ ?_
 refine .gn mixed (by kernel_rfl) ?_
 refine .fa rfl<|.lo rfl<|.mo rfl ?_
 refine .bx i l b (λe9=>?_)
 refine .fa rfl<|.lo rfl<|.fa rfl<|.lo rfl<|.q .dP<|.mo rfl ?_
 refine .split (t:=47) rfl (λa=>?_) (λa=>?_)
 refine .gT a<|.fa rfl<|.gT a<|.lo rfl<|.gT a<|.mo rfl<|.gT a ?_
 refine .bx i l b (λf0=>?_)
 refine .gT a<|.fa rfl<|.gT a<|.lo rfl<|.gT a<|.mo rfl<|.gT a ?_
 refine .bx q B I (λf1=>?_)
 refine .gT a<|.fa rfl<|.gT a<|.lo rfl<|.gT a<|.mo rfl<|.gT a<|.q .dP<|.q (.aT a) ?_
 refine .nil ?_
 ·exact aF () trivial (kE.c.c.c.c.c.c.c.c.bU rfl (by grind)) rH
 refine .gF a<|.gF a<|.gF a<|.gF a<|.gF a<|.gF a<|.gF a<|.gF a<|.gF a<|.gF a<|.gF a<|.gF a<|.q (.aS a) ?_
 refine .nil ?_
 ·exact aF () trivial (kE.c.c.c.c.c.c.c.c.bU rfl (by grind)) rH
 intro y hy
 refine av ?_
 refine .cond rfl (λh3=>?_) λh3=>?_
 have a4:f=k.os/\r.name=k.rel:=by simpa using h3
 have L:dY (f,r)=⟨k.os,k.rel⟩:=by show(⟨f,r.name⟩:Ty)=_;rw[a4.1,a4.2]
 have c8:T=aD.zero k:=by
  rcases o with⟨e,_⟩|⟨j,x,v9,g1,g2,g3,_⟩
  ·exact e
  ·have:=As b1 H g2 L g3;omega
 subst c8
 have f2:PC R (ei c.vs (i*2)) (cy.enc ⟨f,J,g⟩):=l.pc b
 have f3:PC R (ei J (q*3)) (cv.enc ⟨vt,C,r⟩):=B.pc I
 refine .qV [0] [18,20,22] mixed ?_
 conv=>arg 3;simp only[take,rest,bJ,List.getD_cons_zero,List.getD_cons_succ]
 conv=>arg 5;simp only[take,rest,bJ,List.getD_cons_zero,List.getD_cons_succ]
 conv=>arg 9;simp only[take,rest,bJ,List.getD_cons_zero,List.getD_cons_succ]
 refine .tK 0 rfl (.gz rfl) ?_
 refine .tK 1 rfl (.bZ rfl)<|.tK 2 rfl .move ?_
 refine .tK 3 rfl (.bx i l b rfl rfl rfl) ?_
 refine .tK 4 rfl (.fieldAddr rfl)<|.tK 5 rfl (.bZ rfl)<|.tK 6 rfl .move ?_
 refine .tK 7 rfl (.bx q B I rfl rfl rfl) ?_
 refine .tK 8 rfl (.fieldAddr rfl)<|.tK 9 rfl (.bZ rfl)<|.tK 10 rfl .move<|.tK 11 rfl .move ?_
 refine .tK 12 rfl (.bx i K.rs a1 rfl rfl rfl) ?_
 refine .tK 13 rfl (.bZ rfl)<|.tK 14 rfl .move ?_
 refine .tK 15 rfl (.bx q S a8 rfl rfl rfl) ?_
 refine .tK 16 rfl (.bZ rfl)<|.tO 17 rfl (.fieldAddr rfl) ?_
 refine .sT 18 rfl ?_
 refine .dZ rfl rfl ?_
 refine .nil (Next.mod rfl ?_)
 refine .tK 19 rfl (.gz rfl) ?_
 refine .sT 20 rfl ?_
 refine .dZ rfl rfl ?_
 refine .nil (Next.mod rfl ?_)
 refine .tK 21 rfl (.gz rfl) ?_
 refine .sT 22 rfl ?_
 refine .dZ rfl rfl ?_
 refine .nil (Next.mod rfl ?_)
 refine RA.nil (by kernel_rfl) ?_
 refine aV<|av<|.region<|.mo rfl ?_
 refine .ia (q+1) .add ?_
 refine .ag rfl<|.nil ?_
 ·exact aW (q+1,⟨k,true,C,r.nodes,sZ,[],sZ,[],n⟩) ⟨O,.inr ⟨of i+q,(f,r),C,by simp only;omega,H,L,by rw[c3],c4⟩⟩ (by simp only;omega) kE.c.c.c.c.c.c.c.c rH
 have L:dY (f,r)≠⟨k.os,k.rel⟩:=λhe=>by
  injection he with e1 Z
  have b5:f=k.os:=e1
  have b8:r.name=k.rel:=Z
  simp[b5,b8]at h3
 refine .skip<|aV<|av<|.region<|.mo rfl ?_
 refine .ia (q+1) .add ?_
 refine .ag rfl<|.nil ?_
 ·exact aW (q+1,T) ⟨O,o.skip H L⟩ (by simp only;omega) kE.c.c.c.c.c.c.c.c rH
 have c9:q=g.length:=by have:=bA h2;omega
 rw[c9, <-a6]at o
 refine .exit<|bm<|bs<|bo<|aV<|av<|.region<|.mo rfl ?_
 refine .ia (i+1) .add ?_
 refine .ag rfl<|.nil ?_
 ·exact aW (i+1,T) ⟨a5,o⟩ (by simp only;omega) kE.c.c.c.c.c.c.c rH
 refine .exit<|bm<|bs<|bo<|av<|.sr<|.q (.aM rfl)<|.bP rfl rfl<|.zn ?_
 refine .ret (bp _ (.one (.fB rfl rfl)) (bf.none _) ?_)
 ·have c0:A.length<=of i:=by
   have:i=c.bg.length:=by have:=bA F;omega
   rw[this, <-d2, <-a0, <-d3]
   exact Nat.le_refl _
  obtain⟨e1,Z⟩:=d1 p _ N c0
  exact⟨⟨p,rfl,e1,Z⟩,rfl⟩
structure Ci(c:Cf)(num:List Nat)(sub:bc->List Sub)(R:aB)(ps:List aD)(k:bc)(ns:List Nd)(ps1:List aD)(vp:Value)(To:ay)(vL:Value)(L:List fA)(TL Tr:ay)(vS:Value)(sn:List Nat)(TS:ay):Prop where
 eq:ps1.map aD.plain=(de c num sub k (ps.map aD.plain) ns).1
 o:OS 93 8 aD.enc vp ps1 To
 gr:∃l,ps1=ps++l/\∀p∈l,p.is R
 le:OS 182 1 dW vL L TL
 rows:∀q∈L,RS (sg Tr) 1 cM q.1 q.2
 ll:L.map (·.2)=(de c num sub k (ps.map aD.plain) ns).2
 so:OS 3 1 cM vS sn TS
 sq:sn=jC [] (de c num sub k (ps.map aD.plain) ns).2.flatten
structure Cj(c:Cf)(num:List Nat)(R:aB)(ps1:List aD)(ks:List bc)(sn0:List Nat)(ps2:List aD)(vp:Value)(To:ay)(vR:Value)(TR:ay)(vS:Value)(sn:List Nat)(TS:ay):Prop where
 eq:ps2.map aD.plain=(dl c num (ps1.map aD.plain) ks).1
 o:OS 93 8 aD.enc vp ps2 To
 gr:∃l,ps2=ps1++l/\∀p∈l,p.is R
 r:OS 3 1 cM vR (dl c num (ps1.map aD.plain) ks).2 TR
 so:OS 3 1 cM vS sn TS
 sq:sn=jC sn0 (dl c num (ps1.map aD.plain) ks).2
theorem Cz{l:List Nat}{i x:Nat}(a:l[i]? =some x)(t:Nat):(l.take (i+1)).any (λz=>decide (z=t))=((l.take i).any (λz=>decide (z=t))||decide (x=t)):=by
 rw[dG a,List.any_append]
 simp
theorem Pe(c:bN)(R:aB)(h:c.is R)(num:List Nat)(hm:lv isWord dj c.plain num)(l4:(c.plain.numbers isWord dj).2=rows c.plain.bg num){g:Nat}{S:cW}{vl:Value}{L:List bC}(hD:DV R g S vl L)(hl:L.length<=512)(rev:Int)
  (k:bc)(b:Int)(sub:bc->List Sub)(c4:sub=λk=>if scan S rev then(L.filter λy=>y.there rev&&decide (y.t.cJ=k)).map (·.t.sub)else [])
  (g0:∀i,(∀j,j<i->j<(opened c.plain num sub k j).1.length)->(opened c.plain num sub k i).1.length+(opened c.plain num sub k i).2<=1048576)(N:Nat)(hN:eW c.plain num sub k N):
  Spec prog 35 [.agg c.enc.toArray,pT g,.int .u64 rev,.agg [.string k.os,.string k.oi].toArray,.string k.rel,.int .i64 b] R [] (nP R (gW c.plain num sub k b (scan S rev) N)):=by
 have g4:=PL c R h num hm l4
 have e7:=(rX hm.right).1
 have k0:=λk=>A1 c R h e7 hD hl rev k sub c4
 have j7:=λk ex n (ie:ca ex) j9=>O9 c R h e7 hD hl rev sub c4 k ex n j9
 have i1:One c.vs:=RS.ap h.ss
 have i2:One c.vc:=RS.ap h.sc
 have g9:∀k,(fu c.plain sub k).length<=512:=λk=>by
  unfold fu fitting
  refine Nat.le_trans (List.length_filter_le _ _) (Nat.le_trans (List.length_filter_le _ _) ?_)
  rw[c4]
  simp only
  split
  ·rw[List.length_map]
   exact Nat.le_trans (List.length_filter_le _ _) hl
  ·simp
 have j8:∀k n,(dX c.plain sub k n).length<=512:=λk n=>by
  unfold dX
  split
  ·rw[List.length_map];exact g9 _
  ·split
   ·rw[List.length_map];exact g9 _
   ·split<;>simp
 have k1:∀k,(fitting c.plain sub k).length<=512:=λk=>by
  unfold fitting
  refine Nat.le_trans (List.length_filter_le _ _) ?_
  rw[c4]
  simp only
  split
  ·rw[List.length_map]
   exact Nat.le_trans (List.length_filter_le _ _) hl
  ·simp
 have n1:∀k,gS c.plain sub k=((fitting c.plain sub k).filter λs=> !decide (s.us=⟨#[]⟩)).map (·.us):=λ_=>rfl
 have c1:∀out u H',nP R out u H'↔∃vp I T,H'=[T]/\u=.tuple [.agg [vp,iN out.2.1].toArray,.int .i64 out.2.2].toArray/\RS (λb o=>R b o\/(b,o)∈T) 8 aD.enc vp I/\(∀p∈I,aD.is (λb o=>R b o\/(b,o)∈T) p)/\I.map aD.plain=out.1:=λ_ _ _=>Iff.rfl
 have Z:gW c.plain num sub k b (scan S rev) N=if b<1 then([],0,2)else if scan S rev=false then([],0,12)
  else if(((opened c.plain num sub k N).1.length+(opened c.plain num sub k N).2:Nat):Int)<=b then((opened c.plain num sub k N).1,(opened c.plain num sub k N).2,0)else([],0,16):=rfl
 have l6:∀x:bc,(one c.plain num x).nodes.length<=64:=λx=>vO (num:=num) (k:=x) hm.right
 generalize o4:c.plain=cp at *
 refine Spec.body Tryz.func35 rfl Tryz.results35 Tryz.ntmps35 rfl ?_
 refine .sr ?_
 refine .bY rfl (λb6=>?_)
 refine .bY rfl (λb9=>?_)
 refine .bX (λa6=>?_)
 refine .ag rfl<|.zs<|.sr<|.mo rfl<|.q .lss<|.zn ?_
 refine .cond rfl (λh1=>?_) λh1=>?_
 have b0:b<1:=bS h1
 refine .sr ?_
 refine .q .cR ?_
 refine .bP rfl rfl<|.az rfl ?_
 refine .ret (aH (bp _ (.two (.fB rfl rfl) (.tmp rfl)) (bf.one [] _) ?_))
 ·exact(c1 _ _ _).2 ⟨_,[],_,rfl,by rw[Z,if_pos b0];rfl,RS.fk,λp F=>(by cases F),by rw[Z,if_pos b0];rfl⟩
 have b0:¬b<1:=bA h1
 refine .kn<|.seq<|.sr<|.mo rfl<|.mo rfl ?_
 refine .aY ((hD.can rev).weaken cZ) (λu K=>?_)
 subst K
 refine .q .not<|.zn ?_
 refine .cond rfl (λh2=>?_) λh2=>?_
 have c2:scan S rev=false:=by simpa using h2
 refine .sr ?_
 refine .q .cR ?_
 refine .bP rfl rfl<|.az rfl ?_
 refine .ret (aH (bp _ (.two (.fB rfl rfl) (.tmp rfl)) (bf.one [] _) ?_))
 ·exact(c1 _ _ _).2 ⟨_,[],_,rfl,by rw[Z,if_neg b0,if_pos c2];rfl,RS.fk,λp F=>(by cases F),by rw[Z,if_neg b0,if_pos c2];rfl⟩
 have c2:scan S rev=true:=by simpa using h2
 rw[if_neg b0,if_neg (by rw[c2];simp)]at Z
 refine .kn<|.sr<|.q (.aM rfl)<|.q (.aM rfl)<|.mo rfl ?_
 refine .aY ((g4 k).weaken cZ) (λu K=>?_)
 obtain⟨p0,rfl,l9,d8⟩:=K
 have n3:ca p0.enc:=⟨d8.cT⟩
 refine .ej (λe3=>?_)
 refine .q .cR ?_
 refine .bX (λa7=>?_)
 refine .bP rfl rfl<|.zs<|.sr<|.az rfl<|.block ?_
 refine .cz [(1,_),(2,_),(5,_),(6,_),(12,_),(14,_)] (X:=Nat×List aD×Value×ay×ay) (λy=>(∀j,j<y.1->j<(opened cp num sub k j).1.length)/\y.2.1.map aD.plain=(opened cp num sub k y.1).1/\OS 93 8 aD.enc y.2.2.1 y.2.1 y.2.2.2.1/\∀q∈y.2.1,(q.is λb o=>R b o\/(b,o)∈y.2.2.2.2)/\RS R 5 Nd.enc q.vn q.nodes) (λy E=>(15,iN y.1)::E) (G:=[bl a6 [sZ,.int .i64 0] 86,bl b9 [.string k.os,.string k.oi] 44,bl b6 c.enc 25]) (λy G=>bl a7 [y.2.2.1,.int .i64 ((opened cp num sub k y.1).2:Nat)] 86::y.2.2.2.1::y.2.2.2.2::G) (λy=>N+1-y.1) (0,[p0],.slice (some ⟨e3,0,none⟩) 1 1,bl e3 p0.enc 93,[]) ⟨λj hj=>(by omega),by simp only[List.map_cons,List.map_nil,l9];rfl,OS.lits (by simp) (by simp[aD.enc]) (by simpa using n3.h),λq hq=>by
  rw[List.mem_singleton]at hq
  subst hq
  exact⟨d8.mono λb o A=>.inl A,d8.n⟩⟩ kE.c.c.c.c.c.c.c (bf.eL.trans (aQ [1,1,0,0,0,0])) ?_
 rintro⟨i,I,vp,To,Tp⟩ ⟨b5,b4,hO,hP⟩
 simp only at b5 b4 hO hP⊢
 have r2:=hO.ap
 have o7:=AG hN b5
 have p4:=g0 i b5
 have p6:I.length=(opened cp num sub k i).1.length:=by rw[<-b4,List.length_map]
 refine .seq<|.sr<|.mo rfl<|.fa rfl<|.lo rfl<|.q (.dK hO) ?_
 refine .q .lss<|.zn ?_
 refine .cond rfl (λh3=>?_) λh3=>?_
 have f0:i<I.length:=cb h3
 obtain⟨p,F⟩:=bL f0
 have g7:=aO F
 have m2:=(hP p g7).1
 have m4:=(hP p g7).2
 have n5:ca p.enc:=⟨m2.cT⟩
 have k2:p.plain=one cp num p.k:=vQ (c:=cp) (num:=num) (sub:=sub) (k:=k) i i p.plain (Nat.le_refl _) (by rw[<-b4,List.getElem?_map,F];rfl)
 have l3:p.nodes.length<=64:=by
  have O:=l6 p.k
  rw[<-k2]at O
  exact O
 have f1:∀j,j<i+1->j<(opened cp num sub k j).1.length:=λj O=>by
  rcases Nat.lt_or_ge j i with h8|h8
  ·exact b5 j h8
  ·obtain rfl:j=i:=by omega
   omega
 have p5:=g0 (i+1) f1
 have b1:=AH (c:=cp) (num:=num) (sub:=sub) (k:=k) i
 have m3:(I.map aD.plain)[i]? =some p.plain:=by rw[List.getElem?_map,F];rfl
 have l8:=AD (c:=cp) (num:=num) (sub:=sub) m3
 rw[<-b4,l8]at b1
 obtain⟨a,B,U,v,a2,us,a0,ll,Q⟩:=p
 have hn:RS R 5 Nd.enc U v:=m4
 have m1:aD.plain ⟨a,B,U,v,a2,us,a0,ll,Q⟩=⟨a,B,v,Q,us,ll.map (·.2)⟩:=rfl
 rw[m1]at b1
 simp only at b1 l3
 have o8:=hn.ap
 have f6:=λj=>xB (c:=cp) (num:=num) (sub:=sub) a v j (I.map aD.plain)
 have m8:=λ(j:Nat) (n:Nd) (hj:v[j]? =some n)=>xD (c:=cp) (num:=num) (sub:=sub) hj a (I.map aD.plain)
 have g2:=λj=>rE (c:=cp) (num:=num) (sub:=sub) a (v.take j) (I.map aD.plain)
 have p1:(de cp num sub a (I.map aD.plain) v).1.length<=1048576:=by
  have O:=congrArg (λz:List bM×Nat=>z.1.length) b1
  simp only[List.length_set]at O
  omega
 refine .kn<|.seq<|.block<|.sr<|.fa rfl<|.lo rfl<|.mo rfl ?_
 refine .aL i hO F (λs1=>?_)
 refine .q (.aM rfl) ?_
 refine .bX (λb3=>?_)
 refine .bP rfl rfl<|.z<|.ag rfl<|.z<|.ag rfl<|.zs ?_
 refine bz.cS [(1,_),(2,_),(5,_),(6,_),(12,_),(14,_),(15,_),(16,_),(17,_)] kE.c.c.c.c.c.c.c.c.c (X:=Value×ay) (λy=>OS 9 1 cg y.1 (if B then gS cp sub a else []) y.2) (λy E=>(18,y.1)::E) (λy=>[y.2,bl b3 (aD.enc ⟨a,B,U,v,a2,us,a0,ll,Q⟩) 93,bl a7 [vp,.int .i64 ((opened cp num sub k i).2:Nat)] 86,To,Tp,bl a6 [sZ,.int .i64 0] 86,bl b9 [.string k.os,.string k.oi] 44,bl b6 c.enc 25]) ?_ ?_
 refine .sr<|.fa rfl<|.lo rfl<|.zn ?_
 refine .cond rfl (λh4=>?_) λh4=>?_
 have hf:B=true:=h4
 refine .sr<|.q (.aM rfl)<|.mo rfl<|.mo rfl<|.fa rfl<|.q (.loadT rfl) ?_
 refine .fa rfl<|.lo rfl ?_
 refine .cO ((k0 a).weaken cZ) (λu n6 K=>?_)
 have iu:=K.ap
 have o5:=k1 a
 have n2:=n1 a
 generalize o6:fitting cp sub a=fl at *
 have n0:∀q,(((fl.take q).filter λs=> !decide (s.us=⟨#[]⟩)).map (·.us)).length<=512:=λq=>by
  rw[List.length_map]
  exact Nat.le_trans (List.length_filter_le _ _) (by rw[List.length_take];omega)
 refine .ag rfl<|.z<|.az rfl<|.block ?_
 refine .cz [(1,_),(2,_),(5,_),(6,_),(12,_),(14,_),(15,_),(16,_),(17,_),(19,_)] (X:=Nat×Value×ay) (λy=>y.1<=fl.length/\OS 9 1 cg y.2.1 (((fl.take y.1).filter λs=> !decide (s.us=⟨#[]⟩)).map (·.us)) y.2.2) (λy E=>(20,iN y.1)::(18,y.2.1)::E) (λy G=>y.2.2::G) (λy=>fl.length-y.1) (0,sZ,[]) ⟨Nat.zero_le _,OS.nil⟩ kE.c.c.c.c.c.c.c.c.c.c.c.c bf.eL ?_
 rintro⟨q,vo,Tq⟩ ⟨hq,a8⟩
 simp only at hq a8⊢
 have io:=a8.ap
 refine .seq<|.sr<|.mo rfl<|.mo rfl<|.q (.dK K) ?_
 refine .q .lss<|.zn ?_
 refine .cond rfl (λh5=>?_) λh5=>?_
 have b2:q<fl.length:=cb h5
 obtain⟨s,hs⟩:=bL b2
 have q0:=n0 q
 have h0:=dG hs
 obtain⟨c9,s6,s4,s5⟩:=s
 refine .kn<|.seq<|.block<|.sr<|.mo rfl<|.mo rfl ?_
 refine .aL q K hs (λs2=>?_)
 refine .fa rfl<|.lo rfl<|.q .fU<|.zn ?_
 refine .cond rfl (λh6=>?_) λh6=>?_
 have d9:c9≠⟨#[]⟩:=by simpa using h6
 have d7:((fl.take (q+1)).filter λs=> !decide (s.us=⟨#[]⟩)).map (·.us)=((fl.take q).filter λs=> !decide (s.us=⟨#[]⟩)).map (·.us)++[c9]:=by rw[h0,List.filter_append,List.map_append];simp[d9]
 refine .region<|.mo rfl<|.mo rfl<|.mo rfl ?_
 refine .aL q K hs (λs3=>?_)
 refine .fa rfl<|.lo rfl ?_
 refine .gM (λo0=>?_)
 refine .append a8 (RS.lits (xs:=[c9]) rfl (by simp[cg]) (by simp[cg,ap])) (by simp only[List.length_singleton];omega) (λv5 T5 a1=>?_)
 rw[<-d7]at a1
 refine .ag rfl<|.nil<|aV<|av<|.region<|.mo rfl ?_
 refine .ia (q+1) .add ?_
 refine .ag rfl<|.nil ?_
 ·exact aW (q+1,v5,T5) ⟨b2,a1⟩ (by simp only;omega) kE.c.c.c.c.c.c.c.c.c.c.c.c (bf.drop [0] _)
 have d9:c9=⟨#[]⟩:=by simpa using h6
 have d7:((fl.take (q+1)).filter λs=> !decide (s.us=⟨#[]⟩)).map (·.us)=((fl.take q).filter λs=> !decide (s.us=⟨#[]⟩)).map (·.us):=by rw[h0,List.filter_append];simp[d9]
 refine .skip<|aV<|av<|.region<|.mo rfl ?_
 refine .ia (q+1) .add ?_
 refine .ag rfl<|.nil ?_
 ·exact aW (q+1,vo,Tq) ⟨b2,by simp only;rw[d7];exact a8⟩ (by simp only;omega) kE.c.c.c.c.c.c.c.c.c.c.c.c rH
 refine .exit<|bm<|bs<|bo ?_
 ·exact aF (vo,Tq) (by
   rw[dw (gd h5), <-n2]at a8
   simp only[hf,if_true]
   exact a8) kE.c.c.c.c.c.c.c.c.c.c (aQ [0,1,1,1,1,1,1,1])
 have hf:B=false:=h4
 refine .skip ?_
 ·exact aF (sZ,[]) (by simp only[hf];exact OS.nil) kE.c.c.c.c.c.c.c.c.c.c bf.eL
 intro y hy
 obtain⟨vu,Tu⟩:=y
 have K:=hy
 simp only at K⊢
 have i8:=K.ap
 clear hy
 refine av<|.sr<|.ag rfl<|.zs<|.sr<|.az rfl<|.block ?_
 refine .cz [(1,_),(2,_),(5,_),(6,_),(12,_),(14,_),(15,_),(16,_),(18,_)] (X:=Nat×List aD×Value×ay×Value×List fA×ay×ay×Value×List Nat×ay) (λy=>y.1<=v.length/\Ci cp num sub R I a (v.take y.1) y.2.1 y.2.2.1 y.2.2.2.1 y.2.2.2.2.1 y.2.2.2.2.2.1 y.2.2.2.2.2.2.1 y.2.2.2.2.2.2.2.1 y.2.2.2.2.2.2.2.2.1 y.2.2.2.2.2.2.2.2.2.1 y.2.2.2.2.2.2.2.2.2.2) (λy E=>(22,iN y.1)::(21,y.2.2.2.2.1)::(17,y.2.2.2.2.2.2.2.2.1)::E) (G:=[Tu,bl b3 (aD.enc ⟨a,B,U,v,a2,us,a0,ll,Q⟩) 93,Tp,bl a6 [sZ,.int .i64 0] 86,bl b9 [.string k.os,.string k.oi] 44,bl b6 c.enc 25]) (λy G=>bl a7 [y.2.2.1,.int .i64 ((opened cp num sub k i).2:Nat)] 86::y.2.2.2.1::y.2.2.2.2.2.2.1::y.2.2.2.2.2.2.2.1::y.2.2.2.2.2.2.2.2.2.2::G) (λy=>v.length-y.1) (0,I,vp,To,sZ,[],[],[],sZ,[],[]) ⟨Nat.zero_le _,⟨rfl,hO,⟨[],by simp,λq hq=>(by cases hq)⟩,OS.nil,λq hq=>(by cases hq),rfl,OS.nil,rfl⟩⟩ kE.c.c.c.c.c.c.c.c.c.c.c.c (bf.Ar.trans (aQ [5,5,0,0,0,0,0,0,0,0,0])) ?_
 rintro⟨j,C,j0,j1,vL,L,TL,Tr,vS,sn,TS⟩ ⟨hj,d⟩
 simp only at hj d⊢
 have i7:=d.le.ap
 have q1:=d.o.ap
 have r0:=d.so.ap
 have o2:L.length<=j:=by
  have O:=congrArg List.length d.ll
  have h8:=(rD (c:=cp) (num:=num) (sub:=sub) a (v.take j) (I.map aD.plain)).1
  rw[List.length_map]at O
  rw[List.length_take]at h8
  omega
 have j3:C.length=(de cp num sub a (I.map aD.plain) (v.take j)).1.length:=by rw[<-d.eq,List.length_map]
 have p2:=f6 j
 have p8:sn.length<=C.length:=by
  rw[d.sq,j3]
  refine Bj λy hy=>?_
  obtain⟨l,a5,hy⟩:=List.mem_flatten.1 hy
  exact g2 j l a5 y hy
 refine .seq<|.sr<|.mo rfl<|.fa rfl<|.lo rfl<|.q (.bH hn) ?_
 refine .q .lss<|.zn ?_
 refine .cond rfl (λh7=>?_) λh7=>?_
 have f2:j<v.length:=cb h7
 obtain⟨n,g3⟩:=bL f2
 have c5:=m8 j n g3
 have f7:=f6 (j+1)
 rw[c5, <-d.eq]at f7
 simp only at f7
 have j4:rG cp sub a n=(dX cp sub a n).map λx=>⟨⟨#[]⟩,x.os,x.oi,x.rel⟩:=rfl
 have o3:=j8 a n
 generalize o9:dX cp sub a n=ks at *
 have f8:=λm=>xw (c:=cp) (num:=num) ks m (C.map aD.plain)
 have k8:=λm=>rC (c:=cp) (num:=num) (ks.take m) (C.map aD.plain)
 refine .kn<|.seq<|.block<|.sr<|.ag rfl<|.zs ?_
 refine .dt 9 mixed (by kernel_rfl) ?_
 conv=>arg 6;dsimp only[List.take]
 refine .q (.aM rfl)<|.mo rfl<|.mo rfl<|.q (.aM rfl)<|.fa rfl<|.lo rfl<|.mo rfl ?_
 refine .bx j hn g3 (λr3=>?_)
 refine .q (.aM rfl)<|.nil ?_
 refine .cO ((j7 a [.bool B,U,a2,a0,iN Q] n ⟨λu K=>n5.h u (by simp only[aD.enc];simp only[List.mem_cons,List.not_mem_nil,or_false]at K⊢;simp[K])⟩ rfl).weaken cZ) (λu d0 hS=>?_)
 have q4:=hS.ap
 rw[j4]at hS
 refine .ag rfl<|.zs<|.sr<|.az rfl<|.block ?_
 refine .cz [(1,_),(2,_),(5,_),(6,_),(12,_),(14,_),(15,_),(16,_),(18,_),(21,_),(22,_),(24,_)] (X:=Nat×List aD×Value×ay×Value×ay×Value×List Nat×ay) (λy=>y.1<=ks.length/\Cj cp num R C (ks.take y.1) sn y.2.1 y.2.2.1 y.2.2.2.1 y.2.2.2.2.1 y.2.2.2.2.2.1 y.2.2.2.2.2.2.1 y.2.2.2.2.2.2.2.1 y.2.2.2.2.2.2.2.2) (λy E=>(25,iN y.1)::(23,y.2.2.2.2.1)::(17,y.2.2.2.2.2.2.1)::E) (G:=[d0,TL,Tr,Tu,bl b3 (aD.enc ⟨a,B,U,v,a2,us,a0,ll,Q⟩) 93,Tp,bl a6 [sZ,.int .i64 0] 86,bl b9 [.string k.os,.string k.oi] 44,bl b6 c.enc 25]) (λy G=>bl a7 [y.2.2.1,.int .i64 ((opened cp num sub k i).2:Nat)] 86::y.2.2.2.1::y.2.2.2.2.2.1::y.2.2.2.2.2.2.2.2::G) (λy=>ks.length-y.1) (0,C,j0,j1,sZ,[],vS,sn,TS) ⟨Nat.zero_le _,⟨rfl,d.o,⟨[],by simp,λq hq=>(by cases hq)⟩,OS.nil,d.so,rfl⟩⟩ kE.c.c.c.c.c.c.c.c.c.c.c.c.c.c.c (bf.eL.trans (aQ [2,2,0,3,0,0,0,0,0,0,0,0,0])) ?_
 rintro⟨m,D,e0,e2,vR,TR,i9,H,b8⟩ ⟨k9,f⟩
 simp only at k9 f⊢
 have q8:=f.r.ap
 have q2:=f.o.ap
 have r1:=f.so.ap
 have p3:=f8 m
 have g1:=k8 m
 rw[List.length_take]at g1
 have o1:D.length=(dl cp num (C.map aD.plain) (ks.take m)).1.length:=by rw[<-f.eq,List.length_map]
 have p7:H.length<=1048576:=by
  rw[f.sq,d.sq, <-ra]
  refine Nat.le_trans (Bj (n:=D.length) λy hy=>?_) (by omega)
  rcases List.mem_append.1 hy with hy|hy
  ·obtain⟨l,a5,hy⟩:=List.mem_flatten.1 hy
   have h8:=g2 j l a5 y hy
   obtain⟨l7,k7,_⟩:=f.gr
   rw[k7,List.length_append]
   omega
  ·have h8:=tQ (c:=cp) (num:=num) (ks.take m) (C.map aD.plain) y hy
   omega
 refine .seq<|.sr<|.mo rfl<|.mo rfl<|.q (.dK hS) ?_
 refine .q .lss<|.zn ?_
 refine .cond rfl (λh8=>?_) λh8=>?_
 have d6:m<ks.length:=by have:=bS h8;rw[List.length_map]at this;omega
 obtain⟨⟨W,V,Y⟩,hx⟩:=bL d6
 have hs:(ks.map λx=>(⟨⟨#[]⟩,x.os,x.oi,x.rel⟩:Sub))[m]? =some ⟨⟨#[]⟩,W,V,Y⟩:=by rw[List.getElem?_map,hx];rfl
 have c6:=xy (c:=cp) (num:=num) hx (C.map aD.plain)
 rw[<-f.eq]at c6
 have f9:=f8 (m+1)
 rw[c6]at f9
 simp only at f9
 have k5:∀q,eY (D.map aD.plain) ⟨W,V,Y⟩=some q->ew cp num (D.map aD.plain) ⟨W,V,Y⟩=(D.map aD.plain,q):=λq hq=>by unfold ew;rw[hq]
 have k6:eY (D.map aD.plain) ⟨W,V,Y⟩=none->ew cp num (D.map aD.plain) ⟨W,V,Y⟩=(D.map aD.plain++[one cp num ⟨W,V,Y⟩],D.length):=λhq=>by unfold ew;rw[hq];simp
 refine .kn<|.seq<|.block<|.seq ?_
 refine .dt 12 mixed (by kernel_rfl) ?_
 conv=>arg 6;dsimp only[List.take]
 refine .fa rfl<|.lo rfl<|.mo rfl<|.mo rfl ?_
 refine .aL m hS hs (λr4=>?_)
 refine .fa rfl<|.q (.loadT rfl) ?_
 refine .mo rfl<|.mo rfl ?_
 refine .aL m hS hs (λr5=>?_)
 refine .fa rfl<|.lo rfl<|.nil ?_
 refine .aY (Pn e0 D _ f.o.rx ⟨W,V,Y⟩) (λw hw=>?_)
 subst hw
 refine .ag rfl<|.zs ?_
 refine bz.cS [(1,_),(2,_),(5,_),(6,_),(12,_),(14,_),(15,_),(16,_),(17,_),(18,_),(21,_),(22,_),(23,_),(24,_),(25,_)] kE.c.c.c.c.c.c.c.c.c.c.c.c.c.c.c (X:=Nat×List aD×Value×ay) (λy=>y.1=(ew cp num (D.map aD.plain) ⟨W,V,Y⟩).2/\y.2.1.map aD.plain=(ew cp num (D.map aD.plain) ⟨W,V,Y⟩).1/\OS 93 8 aD.enc y.2.2.1 y.2.1 y.2.2.2/\∃l,y.2.1=D++l/\∀p∈l,aD.is R p) (λy E=>(26,iN y.1)::E) (λy=>[bl a7 [y.2.2.1,.int .i64 ((opened cp num sub k i).2:Nat)] 86,y.2.2.2,TR,b8,d0,TL,Tr,Tu,bl b3 (aD.enc ⟨a,B,U,v,a2,us,a0,ll,Q⟩) 93,Tp,bl a6 [sZ,.int .i64 0] 86,bl b9 [.string k.os,.string k.oi] 44,bl b6 c.enc 25]) ?_ ?_
 refine .sr<|.mo rfl<|.q .lss<|.zn ?_
 refine .cond rfl (λO=>?_) λO=>?_
 have l5:eY (D.map aD.plain) ⟨W,V,Y⟩=none:=by
  cases hh:eY (D.map aD.plain) ⟨W,V,Y⟩with
  |none=>rfl
  |some q=>rw[hh]at O;simp only[fI]at O;have:=bS O;omega
 have f4:=k6 l5
 refine .sr<|.fa rfl<|.lo rfl<|.q (.dK f.o) ?_
 refine .ag rfl<|.z<|.fa rfl<|.lo rfl<|.az rfl<|.cL [14,16] mixed ?_
 refine .tO 0 rfl .move<|.tO 1 rfl (.aM rfl)<|.tO 2 rfl .move<|.tO 3 rfl .move ?_
 refine RA.aL 4 rfl m hS hs rfl rfl rfl (by kernel_rfl) (λr6=>?_)
 refine .tO 5 rfl (.fieldAddr rfl) ?_
 refine .tO 6 rfl (.loadT rfl) ?_
 refine .tO 7 rfl .move<|.tO 8 rfl .move ?_
 refine RA.aL 9 rfl m hS hs rfl rfl rfl (by kernel_rfl) (λr7=>?_)
 refine .tO 10 rfl (.fieldAddr rfl)<|.tO 11 rfl (.bZ rfl) ?_
 refine .sT 12 rfl ?_
 refine .aY ((g4 ⟨W,V,Y⟩).weaken cZ) (λu m9=>?_)
 obtain⟨p9,rfl,m0,g6⟩:=m9
 have n4:ca p9.enc:=⟨g6.cT⟩
 refine .nil (Next.sub ?_)
 refine .sT 13 rfl ?_
 refine .ej (λn7=>?_)
 refine .nil (Next.sub ?_)
 refine .sT 14 rfl ?_
 refine .append f.o (RS.lits (xs:=[p9]) (by simp) (by simp[aD.enc]) (by simpa using n4.h)) (by simp only[List.length_singleton];omega) (λv5 T5 a1=>?_)
 have q5:=a1.ap
 refine .nil (Next.mod rfl ?_)
 refine .tK 15 rfl (.gz rfl) ?_
 refine .sT 16 rfl ?_
 refine .dZ rfl rfl ?_
 refine .nil (Next.mod rfl ?_)
 refine RA.nil (by kernel_rfl) ?_
 ·exact aF (D.length,D++[p9],v5,T5) ⟨by rw[f4],by rw[f4,List.map_append,List.map_cons,List.map_nil,m0],a1,_,rfl,λp F=>by rw[List.mem_singleton]at F;subst F;exact g6⟩ kE.c.c.c.c.c.c.c.c.c.c.c.c.c.c.c.c (bf.drop [0] _)
 obtain⟨q9,g8⟩:∃q,eY (D.map aD.plain) ⟨W,V,Y⟩=some q:=by
  cases hh:eY (D.map aD.plain) ⟨W,V,Y⟩with
  |none=>rw[hh]at O;simp[fI]at O
  |some q=>exact⟨q,rfl⟩
 have f3:=k5 q9 g8
 rw[g8]
 refine .skip ?_
 ·exact aF (q9,D,e0,e2) ⟨by rw[f3],by rw[f3],f.o,[],by simp,λp F=>(by cases F)⟩ kE.c.c.c.c.c.c.c.c.c.c.c.c.c.c.c.c rH
 intro y hy
 obtain⟨M,c8,e1,d1⟩:=y
 obtain⟨i4,e6,c0,e8⟩:=hy
 simp only at i4 e6 c0 e8⊢
 have q3:=c0.ap
 have i3:(dl cp num (C.map aD.plain) (ks.take (m+1))).2=(dl cp num (C.map aD.plain) (ks.take m)).2++[M]:=by rw[c6,i4]
 have i0:(dl cp num (C.map aD.plain) (ks.take (m+1))).1=c8.map aD.plain:=by rw[c6,e6]
 have c3:jC sn (dl cp num (C.map aD.plain) (ks.take (m+1))).2=if M∈H then H else H++[M]:=by rw[i3,ra, <-f.sq,Bk]
 have e9:∃l,c8=C++l/\∀p∈l,aD.is R p:=by
  obtain⟨l1,a3,a4⟩:=f.gr
  obtain⟨l2,d3,d4⟩:=e8
  refine⟨l1++l2,by rw[d3,a3,List.append_assoc],λq hq=>?_⟩
  rcases List.mem_append.1 hq with hq|hq
  ·exact a4 q hq
  ·exact d4 q hq
 refine av<|.sr<|.mo rfl<|.mo rfl ?_
 refine .gM (λj2=>?_)
 refine .append f.r (RS.lits (xs:=[M]) rfl (by simp[cM]) (by simp[cM,ap])) (by simp only[List.length_singleton];omega) (λv6 T6 c7=>?_)
 have q6:=c7.ap
 rw[<-i3]at c7
 refine .ag rfl<|.z<|.ag rfl<|.zs<|.sr<|.az rfl<|.block ?_
 refine .cz [(1,_),(2,_),(5,_),(6,_),(12,_),(14,_),(15,_),(16,_),(17,_),(18,_),(21,_),(22,_),(23,_),(24,_),(25,_),(26,_)] (X:=Nat) (λq=>q<=H.length) (λq E=>(29,iN q)::(28,.bool ((H.take q).any λz=>decide (z=M)))::E) (λ_ G=>G) (λq=>H.length-q) 0 (Nat.zero_le _) kE.c.c.c.c.c.c.c.c.c.c.c.c.c.c.c.c.c.c rH ?_
 rintro q hq
 refine .seq<|.sr<|.mo rfl<|.mo rfl<|.q (.dK f.so) ?_
 refine .q .lss<|.zn ?_
 refine .cond rfl (λd2=>?_) λd2=>?_
 have b2:q<H.length:=cb d2
 obtain⟨z,hz⟩:=bL b2
 have e5:=Cz hz M
 refine .kn<|.seq<|.block ?_
 refine bz.cS [(1,_),(2,_),(5,_),(6,_),(12,_),(14,_),(15,_),(16,_),(17,_),(18,_),(21,_),(22,_),(23,_),(24,_),(25,_),(26,_),(29,_)] kE.c.c.c.c.c.c.c.c.c.c.c.c.c.c.c.c.c (X:=Unit) (λ_=>True) (λ_ E=>(28,.bool ((H.take (q+1)).any λz=>decide (z=M)))::E) (λ_=>[bl j2 [iN M] 3,bl a7 [e1,.int .i64 ((opened cp num sub k i).2:Nat)] 86,d1,T6,b8,d0,TL,Tr,Tu,bl b3 (aD.enc ⟨a,B,U,v,a2,us,a0,ll,Q⟩) 93,Tp,bl a6 [sZ,.int .i64 0] 86,bl b9 [.string k.os,.string k.oi] 44,bl b6 c.enc 25]) ?_ ?_
 refine .region<|.mo rfl<|.mo rfl ?_
 refine .split (t:=156) rfl (λJ=>?_) (λJ=>?_)
 refine .gF J<|.gF J<|.gF J<|.gF J<|.gF J<|.gF J<|.q (.aT J) ?_
 refine .ag rfl<|.nil ?_
 ·exact aF () trivial (kE.c.c.c.c.c.c.c.c.c.c.c.c.c.c.c.c.c.bU rfl (by rw[e5];grind)) rH
 refine .gT J<|.mo rfl<|.gT J<|.mo rfl<|.gT J ?_
 refine .aL q f.so hz (λr8=>?_)
 refine .gT J<|.lo rfl<|.gT J<|.mo rfl<|.gT J<|.q .bQ<|.q (.aS J) ?_
 refine .ag rfl<|.nil ?_
 ·exact aF () trivial (kE.c.c.c.c.c.c.c.c.c.c.c.c.c.c.c.c.c.bU rfl (by rw[e5];grind)) rH
 intro y hy
 refine aV<|av<|.region<|.mo rfl ?_
 refine .ia (q+1) .add ?_
 refine .ag rfl<|.nil ?_
 ·exact aW (q+1) b2 (by omega) kE.c.c.c.c.c.c.c.c.c.c.c.c.c.c.c.c.c.c rH
 have m6:q=H.length:=by have:=bA d2;omega
 subst m6
 refine .exit<|bm<|bs<|bo<|av<|.sr<|.mo rfl<|.q .not<|.zn ?_
 refine .cond rfl (λa3=>?_) λa3=>?_
 have d5:M∉H:=by
  have:((H.take H.length).any λz=>decide (z=M))=false:=by simpa using a3
  rw[List.take_length]at this
  intro hh
  have h8:=List.any_eq_false.1 this M hh
  simp at h8
 rw[if_neg d5]at c3
 refine .region<|.mo rfl<|.mo rfl ?_
 refine .gM (λn8=>?_)
 refine .append f.so (RS.lits (xs:=[M]) rfl (by simp[cM]) (by simp[cM,ap])) (by simp only[List.length_singleton];omega) (λv7 T7 i6=>?_)
 have q7:=i6.ap
 refine .ag rfl<|.nil<|aV<|av<|.region<|.mo rfl ?_
 refine .ia (m+1) .add ?_
 refine .ag rfl<|.nil ?_
 ·exact aW (m+1,c8,e1,d1,v6,T6,v7,H++[M],T7) ⟨d6,⟨i0.symm,c0,e9,c7,i6,c3.symm⟩⟩ (by simp only;omega) kE.c.c.c.c.c.c.c.c.c.c.c.c.c.c.c (bf.drop [0,0] _)
 have d5:M∈H:=by
  have:((H.take H.length).any λz=>decide (z=M))=true:=by simpa using a3
  rw[List.take_length,List.any_eq_true]at this
  obtain⟨z,hz,e⟩:=this
  exact(bS e)▸hz
 rw[if_pos d5]at c3
 refine .skip<|aV<|av<|.region<|.mo rfl ?_
 refine .ia (m+1) .add ?_
 refine .ag rfl<|.nil ?_
 ·exact aW (m+1,c8,e1,d1,v6,T6,i9,H,b8) ⟨d6,⟨i0.symm,c0,e9,c7,f.so,c3.symm⟩⟩ (by simp only;omega) kE.c.c.c.c.c.c.c.c.c.c.c.c.c.c.c (bf.drop [0] _)
 have l0:m=ks.length:=by have:=bA h8;rw[List.length_map]at this;omega
 rw[l0,List.take_length]at f g1
 obtain⟨pu,cu,rfl,_⟩:=f.r.shape
 refine .exit<|bm<|bs<|bo<|av<|.region<|.mo rfl<|.mo rfl ?_
 refine .gM (λn9=>?_)
 refine .append d.le (RS.lits (xs:=[((.slice pu (dl cp num (C.map aD.plain) ks).2.length cu,(dl cp num (C.map aD.plain) ks).2):fA)]) rfl (by simp[dW]) (by simp[dW,ap])) (by simp only[List.length_singleton];omega) (λv5 T5 a1=>?_)
 have i5:=a1.ap
 refine .ag rfl<|.nil<|aV<|av<|.region<|.mo rfl ?_
 refine .ia (j+1) .add ?_
 refine .ag rfl<|.nil ?_
 ·exact aW (j+1,D,e0,e2,v5,L++[(.slice pu (dl cp num (C.map aD.plain) ks).2.length cu,(dl cp num (C.map aD.plain) ks).2)],T5,TR++Tr,i9,H,b8) ⟨f2,⟨by rw[c5,f.eq,d.eq],f.o,by
   obtain⟨l1,a3,a4⟩:=d.gr
   obtain⟨l2,d3,d4⟩:=f.gr
   refine⟨l1++l2,by rw[d3,a3,List.append_assoc],λq hq=>?_⟩
   rcases List.mem_append.1 hq with hq|hq
   ·exact a4 q hq
   ·exact d4 q hq,a1,λq hq=>by
   rcases List.mem_append.1 hq with hq|hq
   ·exact(d.rows q hq).mono λb o A=>iM A
   ·rw[List.mem_singleton]at hq
    subst hq
    exact f.r.sg.mono λb o A=>jO A,by rw[c5,List.map_append,d.ll,d.eq];rfl,f.so,by rw[c5,List.flatten_append,ra,f.sq,d.sq,d.eq];simp⟩⟩ (by simp only;omega) kE.c.c.c.c.c.c.c.c.c.c.c.c ((aQ [1,1,4,1,3,1,2,2,2,2,2,2]).trans (bf.fq (by simp[take,bJ])))
 have k4:j=v.length:=by have:=bA h7;omega
 rw[k4,List.take_length]at d
 have b7:C[i]? =some ⟨a,B,U,v,a2,us,a0,ll,Q⟩:=by
  obtain⟨l,a5,_⟩:=d.gr
  rw[a5,List.getElem?_append_left f0,F]
 obtain⟨a9,j6⟩:=d.o.xQ b7
 have m7:sn.length=kC (de cp num sub a (I.map aD.plain) v).2.flatten:=by rw[d.sq];rfl
 refine .exit<|bm<|bs<|bo<|av<|.seq<|.qV [1] [10,13] mixed ?_
 conv=>arg 3;simp only[take,rest,bJ,List.getD_cons_zero,List.getD_cons_succ]
 conv=>arg 5;simp only[take,rest,bJ,List.getD_cons_zero,List.getD_cons_succ]
 conv=>arg 9;simp only[take,rest,bJ,List.getD_cons_zero,List.getD_cons_succ]
 refine .tO 0 rfl (.fieldAddr rfl)<|.tO 1 rfl (.bZ rfl)<|.tO 2 rfl .move ?_
 refine .tK 3 rfl (.gz rfl) ?_
 refine .tK 4 rfl (.bZ rfl)<|.tK 5 rfl .move<|.tO 6 rfl .move<|.tK 7 rfl .move ?_
 refine RA.aL 8 rfl i d.o b7 rfl rfl rfl (by kernel_rfl) (λr9=>?_)
 refine .tO 9 rfl (.fieldAddr rfl) ?_
 refine .sT 10 rfl ?_
 refine .oO (k:=5) (cs:=[vu]) (z':=(⟨a,B,U,v,vu,if B then gS cp sub a else [],a0,ll,Q⟩:aD)) i d.o b7 rfl rfl rfl (nk i8.h) rfl (by simpa using i8.h) rfl (by simp) (λTd j5=>?_)
 have m5:(C.set i (⟨a,B,U,v,vu,if B then gS cp sub a else [],a0,ll,Q⟩:aD))[i]? =some ⟨a,B,U,v,vu,if B then gS cp sub a else [],a0,ll,Q⟩:=by rw[List.getElem?_set_self (List.getElem?_eq_some_iff.1 b7).1]
 refine .nil (Next.mod rfl ?_)
 refine RA.aL 11 rfl i d.o b7 rfl rfl rfl (by kernel_rfl) (λs0=>?_)
 refine .tK 12 rfl (.gz rfl j6) ?_
 refine .sT 13 rfl ?_
 refine .oO (k:=6) (cs:=[vL]) (z':=(⟨a,B,U,v,vu,if B then gS cp sub a else [],vL,L,Q⟩:aD)) i j5 m5 rfl rfl rfl (nk i7.h) rfl (by simpa using i7.h) rfl (by simp) (λTe e4=>?_)
 rw[List.set_set]at e4
 refine .nil (Next.mod rfl ?_)
 refine RA.nil (by kernel_rfl) ?_
 refine av<|.region ?_
 conv=>arg 8;simp only[rest,bJ,List.cons_append,List.nil_append]
 refine .fa rfl<|.lo rfl<|.mo rfl<|.q (.dK d.so) ?_
 refine .ia ((opened cp num sub k i).2+sn.length) .add ?_
 refine .fa rfl<|.dZ rfl rfl<|.nil<|aV<|av<|.region<|.mo rfl ?_
 refine .ia (i+1) .add ?_
 refine .ag rfl<|.nil ?_
 ·exact aW (i+1,C.set i ⟨a,B,U,v,vu,if B then gS cp sub a else [],vL,L,Q⟩,j0,Te,TL++(Tr++(Tu++Tp))) ⟨f1,by
   simp only
   rw[b1,List.map_set,d.eq, <-d.ll]
   rfl,e4,λz hz=>by
   rcases List.mem_or_eq_of_mem_set hz with hz|rfl
   ·obtain⟨l,a5,f5⟩:=d.gr
    rw[a5]at hz
    rcases List.mem_append.1 hz with hz|hz
    ·exact⟨(hP z hz).1.mono λb o A=>A.imp id λA=>List.mem_append_right _ (List.mem_append_right _ (List.mem_append_right _ A)),(hP z hz).2⟩
    ·exact⟨(f5 z hz).mono λb o A=>.inl A,(f5 z hz).n⟩
   ·exact⟨⟨hn.mono λb o A=>.inl A,K.sg.mono λb o A=>.inr (List.mem_append_right _ (List.mem_append_right _ (List.mem_append_left _ A))),d.le.sg.mono λb o A=>.inr (List.mem_append_left _ A),λy hy=>(d.rows y hy).mono λb o A=>.inr (List.mem_append_right _ (List.mem_append_left _ A))⟩,hn⟩⟩ (by simp only;omega) kE.c.c.c.c.c.c.c ((aQ [1,0,0,0,1,2,2,2,2]).trans (bf.fq (by simp[take,bJ,dc,b1,m7])))
 have k3:i=N:=eW.dU (c:=cp) (num:=num) (sub:=sub) (k:=k) ⟨by have:=bA h3;omega,b5⟩ hN
 subst k3
 refine .exit<|bm<|bs<|bo<|av<|.seq<|.sr<|.fa rfl<|.lo rfl<|.q (.dK hO) ?_
 refine .fa rfl<|.lo rfl ?_
 refine .ia (I.length+(opened cp num sub k i).2) .add ?_
 refine .mo rfl<|.q .gtr<|.zn ?_
 refine .cond rfl (λa4=>?_) λa4=>?_
 have g5:b<(((opened cp num sub k i).1.length+(opened cp num sub k i).2:Nat):Int):=by have:=bS a4;omega
 rw[if_neg (by omega)]at Z
 refine .sr ?_
 refine .q .cR ?_
 refine .bP rfl rfl<|.az rfl ?_
 refine .ret (aH (bp _ (.two (.fB rfl rfl) (.tmp rfl)) (bf.one [] _) ?_))
 ·exact(c1 _ _ _).2 ⟨_,[],_,rfl,by rw[Z];rfl,RS.fk,λp F=>(by cases F),by rw[Z];rfl⟩
 have g5:(((opened cp num sub k i).1.length+(opened cp num sub k i).2:Nat):Int)<=b:=by have:=bA a4;omega
 rw[if_pos g5]at Z
 refine .kn<|.sr<|.q (.aM rfl)<|.bP rfl rfl<|.az rfl ?_
 refine .ret (bp _ (.two (.fB rfl rfl) (.tmp rfl)) (bf.one [1,1] _) ?_)
 ·exact(c1 _ _ _).2 ⟨vp,I,_,rfl,by rw[Z];rfl,hO.rs λp F=>.inr (by simp[take,bJ,F]),λp F=>(hP p F).1.mono λb o A=>A.imp id λA=>by simp[take,bJ,A],by rw[Z];exact b4⟩
def da(S:cW)(L:List bC)(rev:Int)(k:bc):List Sub:=if scan S rev then(L.filter λy=>y.there rev&&decide (y.t.cJ=k)).map (·.t.sub)else []
structure WS(R:aB)(cp:Cf)(c:bN)(hb g x:Nat)(S:cW)(num:List Nat)(L:List bC):Prop where
 ci:c.is R
 pl:c.plain=cp
 h:∃vl e,HV R hb vl [e] 0/\e.rev=0/\e.c.plain=cp/\e.ll.map (·.2)=rows cp.bg num
 s:∃ps vf vr Mf Mr,SV R g S ps vf vr Mf Mr
 d:∃vL,DV R x S vL L
 rl:RL S L
 rh:gj S
 len:S.rows.length<=512
 m:lv isWord dj cp num
 nm:(cp.numbers isWord dj).2=rows cp.bg num
 nJ:cp.bg.length<=5/\∀y∈cp.bg,y.bR.length<=6
theorem WS.mono{R R':aB}{cp:Cf}{c:bN}{f g x:Nat}{S:cW}{num:List Nat}{L:List bC}(h:WS R cp c f g x S num L)(a:∀b o,R b o->R' b o):WS R' cp c f g x S num L:=by
 obtain⟨w,e,k,l,n,p⟩:=h.h
 obtain⟨t,v,y,i,j,q⟩:=h.s
 obtain⟨u,r⟩:=h.d
 exact⟨h.ci.mono a,h.pl,⟨w,e,k.mono a,l,n,p⟩,⟨t,v,y,i,j,q.mono a⟩,⟨u,r.mono a⟩,h.rl,h.rh,h.len,h.m,h.nm,h.nJ⟩
theorem C0(c:Cf):(iG c).bg.length<=5/\∀y∈(iG c).bg,y.bR.length<=6:=by
 unfold iG
 refine⟨by simp only[List.length_map,List.length_take];omega,λy a=>?_⟩
 simp only at a
 obtain⟨s,_,rfl⟩:=List.mem_map.1 a
 unfold rW
 simp only[List.length_map,List.length_take]
 omega
section
variable{R:aB}{cp:Cf}{c:bN}{hb g x:Nat}{S:cW}{num:List Nat}{L:List bC}
theorem WS.row(h:WS R cp c hb g x S num L):∀y∈L,eB y.t=true:=λy a=>(h.rh.ok y (h.rl.pm.mem_iff.1 a)).1
theorem WS.ll(h:WS R cp c hb g x S num L):L.length<=512:=by rw[h.rl.pm.length_eq];exact h.len
theorem Q7(S:cW)(L:List bC)(rev:Int):∃M:List (bc×Sub),M.length<=L.length/\(∀y∈M,∃r∈L,y=(r.t.cJ,r.t.sub))/\fQ M=da S L rev:=by
 refine⟨if scan S rev then(L.filter λy=>y.there rev).map λy=>(y.t.cJ,y.t.sub)else [],?_,?_,?_⟩
 ·split
  ·rw[List.length_map];exact List.length_filter_le _ _
  ·simp
 ·intro y b
  split at b
  ·obtain⟨r,c,rfl⟩:=List.mem_map.1 b
   exact⟨r,(List.mem_filter.1 c).1,rfl⟩
  ·cases b
 ·funext k
  unfold fQ da
  split
  ·rw[List.filter_map,List.map_map,List.filter_filter]
   have:(λa:bC=>((λx:bc×Sub=>decide (x.1=k))∘λy:bC=>(y.t.cJ,y.t.sub)) a&&a.there rev)=λy:bC=>y.there rev&&decide (y.t.cJ=k):=by
    funext y
    simp[Bool.and_comm]
   rw[this]
   rfl
  ·rfl
theorem BH{rev:Int}{k:bc}{s:Sub}(h:s∈da S L rev k):∃r∈L,s=r.t.sub:=by
 unfold da at h
 split at h
 ·obtain⟨r,a,rfl⟩:=List.mem_map.1 h
  exact⟨r,(List.mem_filter.1 a).1,rfl⟩
 ·cases h
theorem WS.kz(h:WS R cp c hb g x S num L)(rev:Int)(k:bc)(i:Nat)(a:∀j,j<i->j<(opened cp num (da S L rev) k j).1.length):(opened cp num (da S L rev) k i).1.length+(opened cp num (da S L rev) k i).2<=1048576:=by
 obtain⟨M,b,_,d⟩:=Q7 S L rev
 rw[<-d]at a⊢
 obtain⟨E,e,_⟩:=h.m.ex
 exact RH e h.m.right h.m.dU h.nJ.2 (Nat.le_trans b (Nat.le_trans h.ll (by decide))) k i a
theorem WS.fin(h:WS R cp c hb g x S num L)(rev:Int)(k:bc):∃N,eW cp num (da S L rev) k N:=by
 have d:∀k,∀s∈da S L rev k,s∈L.map (·.t.sub):=λk s b=>by
  obtain⟨r,a,rfl⟩:=BH b
  exact List.mem_map.2 ⟨r,a,rfl⟩
 exact eW.ex λi=>OI (Pf d) Qq i
theorem WS.small(h:WS R cp c hb g x S num L)(rev:Int){B:Nat}(b:32<=B){k:bc}(e:oK B k)(i:Nat):∀p∈(opened cp num (da S L rev) k i).1,oK B p.k:=
 OL h.m.right (λs d=>Nat.le_trans (uU d) b) (λk s d=>by
  obtain⟨r,f,rfl⟩:=BH d
  have a:=h.row r f
  unfold eB at a
  simp only[Bool.and_eq_true]at a
  have a:=a.2
  unfold ik at a
  split at a
  ·unfold dj at a
   simp only[Bool.and_eq_true]at a
   exact⟨Nat.le_trans (uU a.1.1) b,Nat.le_trans (Nr a.1.2) b,Nat.le_trans (uU a.2) b⟩
  ·simp only[Bool.and_eq_true,decide_eq_true_eq]at a
   rw[a.2.1.1,a.2.1.2,a.2.2]
   exact⟨Nat.zero_le _,Nat.zero_le _,Nat.zero_le _⟩) e i
theorem WS.tw(h:WS R cp c hb g x S num L)(rev:Int)(k:bc):(fitting cp (da S L rev) k).length<=512:=by
 unfold fitting
 refine Nat.le_trans (List.length_filter_le _ _) ?_
 unfold da
 split
 ·rw[List.length_map]
  exact Nat.le_trans (List.length_filter_le _ _) h.ll
 ·simp
theorem WS.tR(h:WS R cp c hb g x S num L)(rev:Int)(k:bc)(n:Nd):(dX cp (da S L rev) k n).length<=512:=by
 have a:∀k,(fu cp (da S L rev) k).length<=512:=λk=>Nat.le_trans (List.length_filter_le _ _) (h.tw rev k)
 unfold dX
 split
 ·rw[List.length_map];exact a _
 ·split
  ·rw[List.length_map];exact a _
  ·split<;>simp
theorem WS.gW(h:WS R cp c hb g x S num L)(rev:Int)(D:0<=rev)(k:bc)(b:Int)(w:b<=9223372036854775807){N:Nat}(r:eW cp num (da S L rev) k N):
  Spec prog 34 [pT hb,pT g,.int .u64 rev,.agg [.string k.os,.string k.oi].toArray,.string k.rel,.int .i64 b] R [] (nP R (gW cp num (da S L rev) k b (scan S rev) N)):=by
 obtain⟨J,e,u,y,z,f⟩:=h.h
 obtain⟨H,I,K,E,F,t⟩:=h.s
 have v:lB [e] rev=some e:=by
  unfold lB
  have:hl [e] rev 1=some 0:=by
   simp only[hl,List.getElem?_cons_zero,y]
   simp[D]
  rw[show([e]:List ep).length=1 from rfl,this]
  rfl
 have A:=h.kz rev k
 subst z
 exact Dm u t h.rl (Nat.le_trans h.len (by decide)) rev e v num h.m f (by simp) (λa j=>by
  rw[List.mem_singleton]at j
  subst j
  have G:a.ll.length=a.c.plain.bg.length:=by rw[<-pQ a.c.plain.bg num, <-f,List.length_map]
  refine⟨by have:=h.nJ.1;omega,λq B=>?_⟩
  have C:q.2∈rows a.c.plain.bg num:=by rw[<-f];exact List.mem_map.2 ⟨q,B,rfl⟩
  obtain⟨i,d,o⟩:=List.mem_iff_getElem.1 C
  rw[pQ]at d
  have l:=pP (n:=num) (aX d)
  rw[aX (by rw[pQ];exact d),o]at l
  have p:=Option.some.inj l
  rw[p,List.length_take]
  have:=h.nJ.2 _ (List.getElem_mem d)
  omega) k b w (da S L rev) rfl A N r
theorem WS.Pd(h:WS R cp c hb g x S num L)(rev:Int)(k:bc)(b:Int){N:Nat}(e:eW cp num (da S L rev) k N):
  Spec prog 35 [.agg c.enc.toArray,pT x,.int .u64 rev,.agg [.string k.os,.string k.oi].toArray,.string k.rel,.int .i64 b] R [] (nP R (Go.Proofs.YtdljmchhecoakaaGreat.gW cp num (da S L rev) k b (scan S rev) N)):=by
 obtain⟨n,a⟩:=h.d
 have i:=h.kz rev k
 have j:=h.m
 have l:=h.nm
 have f:=h.pl
 subst f
 exact Pe c R h.ci num j l a h.ll rev k b (da S L rev) rfl i N e
end
theorem Aa(w:kR)(R:aB)(h:w.is R):Spec prog 14 [.agg w.enc.toArray] R [] λu H'=>∃T,H'=[T]/\∃(c:bN) (p1 p2 p3:Value) (ok:Bool),u=.tuple [p1,p2,.agg c.enc.toArray,p3,.bool ok].toArray/\One p1/\One p2/\One p3/\c.is (λb o=>R b o\/(b,o)∈T)/\c.plain=iG w.c.plain/\ok=decide (((iG w.c.plain).numbers isWord dj).1=0)/\
  (ok=true->∃hb g x S num L,p1=pT hb/\p2=pT g/\p3=pT x/\WS (λb o=>R b o\/(b,o)∈T) (iG w.c.plain) c hb g x S num L):=by
 refine Spec.flat ((NW w R h).mono λu H' hu=>?_)
 rcases hu with hu|⟨T,c,x,rfl,rfl,k,a,l⟩
 ·obtain⟨d,f,i,j,hb,g,x,e,S,c,rfl,rfl,k,a,l,E,n,y,A,B,t,F⟩:=hu
  obtain⟨num,q,G⟩:=OA l
  refine⟨_,d++(f++(i++j)),rfl,by simp,_,rfl,c,_,_,_,true,rfl,⟨rfl⟩,⟨rfl⟩,⟨rfl⟩,k.mono λb o hb=>hb.imp id λhb=>List.mem_append_left _ hb,a,by rw[l];rfl,λ_=>?_⟩
  obtain⟨K,m⟩:=y.view (R:=λb o=>R b o\/(b,o)∈d++(f++(i++j))) λp a=>.inr (List.mem_append_right _ (List.mem_append_left _ a))
  obtain⟨H,J,M,r,s,C⟩:=A.view (R:=λb o=>R b o\/(b,o)∈d++(f++(i++j))) λp a=>.inr (List.mem_append_right _ (List.mem_append_right _ (List.mem_append_left _ a)))
  obtain⟨I,L,v,z⟩:=t.view (R:=λb o=>R b o\/(b,o)∈d++(f++(i++j))) λp a=>.inr (List.mem_append_right _ (List.mem_append_right _ (List.mem_append_right _ a)))
  have D:=m.all e (by simp)
  exact⟨hb,g,x,S,num,L,rfl,rfl,rfl,k.mono λb o hb=>hb.imp id λhb=>List.mem_append_left _ hb,a,⟨K,e,m,E,n,by rw[D.eq,n,q]⟩,⟨H,J,M,r,s,C⟩,⟨I,v⟩,z,B,F,G,q,C0 _⟩
 ·exact⟨_,T,rfl,by simp,_,rfl,c,_,_,_,false,rfl,⟨rfl⟩,⟨rfl⟩,⟨rfl⟩,k,a,(decide_eq_false l).symm,λh=>(by cases h)⟩
theorem Dj{W:ByteArray->Bool}{l:List Nd}(h:fC W l≠0):∀i,i<l.length->(tree W l (i+1)).isSome=true:=λi d=>by
 unfold fC at h
 cases ht:tree W l l.length with
 |none=>rw[ht]at h;exact absurd rfl h
 |some p=>
  obtain⟨b,x⟩:=p
  rw[ht]at h
  simp only at h
  have c:b=0:=by
   by_cases a:b=0
   ·exact a
   ·rw[if_neg a]at h;exact absurd rfl h
  subst c
  exact(iB _ _ ht).2.2.2 i (Nat.zero_le _) d
theorem OD{W:ByteArray->Bool}{F:ByteArray->ByteArray->Bool}{c:Cf}{num:List Nat}{k:bc}(d:c.right W F=true):∀i,i<(one c num k).nodes.length->(tree W (one c num k).nodes (i+1)).isSome=true:=by
 unfold one
 split
 ·intro i a;exact absurd a (by simp)
 ·rename_i i a
  simp only[List.getD_eq_getElem?_getD,List.getElem?_map]
  cases hy:c.all[i]? with
  |none=>intro i a;exact absurd a (by simp)
  |some y=>
   have b:=(mP d y (aO hy)).1
   unfold ml at b
   simp only[Bool.and_eq_true,bne_iff_ne,ne_eq]at b
   simp only[Option.map_some,Option.getD_some]
   exact Dj b.1.2
section
variable{R R':aB}{cp:Cf}{c:bN}{hb g x:Nat}{S:cW}{num:List Nat}{L:List bC}
theorem WS.ri(h:WS R cp c hb g x S num L){rev:Int}{k:bc}{N:Nat}(b:eW cp num (da S L rev) k N){ps:List aD}(e:ps.map aD.plain=(opened cp num (da S L rev) k N).1)(us:ByteArray):mz ps us:=by
 have f:=b.gr
 have C:∀p∈ps,p.plain∈(opened cp num (da S L rev) k N).1:=λp a=>by rw[<-e];exact List.mem_map.2 ⟨p,a,rfl⟩
 have o:∀p∈ps,p.nodes=(one cp num p.k).nodes:=λp a=>(f.one p.plain (C p a)).2.1
 have I:=h.kz rev k N b.2
 have z:=b.yx
 have H:(opened cp num (da S L rev) k N).1.length=ps.length:=by rw[<-e,List.length_map]
 refine⟨by rw[e];exact h.m.ps b us,λp a=>by rw[o p a];exact OD h.m.right,λp a=>by rw[o p a];exact Nat.le_trans (vO h.m.right) (by decide),λp a q F=>?_,by omega,by rw[e,z];omega⟩
 obtain⟨i,A,s⟩:=List.mem_iff_getElem.1 a
 have E:(opened cp num (da S L rev) k N).1[i]? =some p.plain:=by rw[<-e,List.getElem?_map,aX A,s];rfl
 obtain⟨⟨t,v⟩,G⟩:=f.op i p.plain (by omega) E
 have u:p.ll.length=p.nodes.length:=by have:(p.ll.map (·.2)).length=p.nodes.length:=t;rwa [List.length_map]at this
 obtain⟨j,l,r⟩:=List.mem_iff_getElem.1 F
 have B:j<p.nodes.length:=by rw[<-u];exact l
 obtain⟨n,D⟩:∃n,p.nodes[j]? =some n:=⟨_,aX B⟩
 have d:=v j n D
 have w:(p.plain.leads.getD j [])=q.2:=by
  show((p.ll.map (·.2)).getD j [])=q.2
  rw[List.getD_eq_getElem?_getD,List.getElem?_map,aX l,r];rfl
 rw[w]at d
 have y:=congrArg List.length d
 rw[List.length_map,List.length_map]at y
 have:=h.tR rev p.plain.k n
 omega
end
theorem ob{P:Program}{f:FuncId}{c:List Value}{R a:aB}{H:aR}{out:List bM×Nat×Int}(h:Spec P f c a H (nP R out)):Spec P f c a H λu H'=>∃T,H'=[T]/\∃vp ps,u=.tuple [.agg [vp,iN out.2.1].toArray,.int .i64 out.2.2].toArray/\RS (λb o=>R b o\/(b,o)∈T) 8 aD.enc vp ps/\(∀p∈ps,aD.is (λb o=>R b o\/(b,o)∈T) p)/\ps.map aD.plain=out.1:=h.mono λu H' g=>by
 obtain⟨vp,ps,T,d,e⟩:=g
 exact⟨T,d,vp,ps,e⟩
def po(us:ByteArray)(D:List bM×Nat×Int)(b:Int)(K:Nat)(v:List Bool):Bool×Int:=
 if gH us=false then(false,9)else if D.2.2≠0 then(false,D.2.2)
 else if(eP b K v).2.2≠0 then(false,(eP b K v).2.2)else((eP b K v).1.getD 0 false,0)
theorem Dl{c:Cf}{num:List Nat}{sub:bc->List Sub}{k:bc}{b:Int}{can:Bool}{N:Nat}(h:(gW c num sub k b can N).2.2=0):(gW c num sub k b can N).1=(opened c num sub k N).1/\(gW c num sub k b can N).2.1=(opened c num sub k N).2/\1<=b:=by
 unfold gW at h⊢
 split
 ·rename_i a;rw[if_pos a]at h;cases h
 ·rename_i a
  rw[if_neg a]at h
  split
  ·rename_i d;rw[if_pos d]at h;cases h
  ·rename_i d
   rw[if_neg d]at h
   split
   ·exact⟨rfl,rfl,by omega⟩
   ·rename_i e;rw[if_neg e]at h;cases h
theorem OJ(c:Cf)(num:List Nat)(sub:bc->List Sub)(k:bc)(N:Nat):0<(opened c num sub k N).1.length:=by
 have:=(vT (c:=c) (num:=num) (sub:=sub) (k:=k) (Nat.zero_le N)).1
 have a:(opened c num sub k 0).1.length=1:=by simp[opened]
 omega
theorem QQ{ps:List bM}{us:ByteArray}{K:Nat}{s:QS}(ok:kQ ps us)(e:dV ps us K s){b:Int}(a:(eP b K s.1).2.2=0):(eP b K s.1).1=s.1/\(eP b K s.1).1.length=ps.length:=by
 have f:=(e.inv ok).l1
 unfold eP at a⊢
 split
 ·rename_i c;rw[if_pos c]at a;cases a
 ·rename_i c
  rw[if_neg c]at a
  split
  ·rename_i d;rw[if_pos d]at a;cases a
  ·exact⟨rfl,f⟩
theorem QN{R R':aB}{cp:Cf}{c:bN}{d g x:Nat}{S:cW}{num:List Nat}{L:List bC}(h:WS R cp c d g x S num L)(rev:Int)(V:0<=rev)(k:bc)(us:ByteArray)(Y:us.size<=9223372036854775807)(b:Int)(A:b<=9223372036854775807){N:Nat}(w:eW cp num (da S L rev) k N){K:Nat}{s:QS}(n:dV (opened cp num (da S L rev) k N).1 us K s)(W:ja s.2):
  Spec prog 26 [pT d,pT g,.int .u64 rev,.agg [.string k.os,.string k.oi].toArray,.string k.rel,.string us,.int .i64 b] R [] λu H'=>u=.tuple [.bool (po us (gW cp num (da S L rev) k b (scan S rev) N) b K s.1).1,.int .i64 (po us (gW cp num (da S L rev) k b (scan S rev) N) b K s.1).2].toArray/\H'=[]:=by
 have B:=h.gW rev V k b A w
 have X:=λ(ps:List aD) e=>h.ri w (ps:=ps) e us
 have H:=Dl (c:=cp) (num:=num) (sub:=da S L rev) (k:=k) (b:=b) (can:=scan S rev) (N:=N)
 have C:=OJ cp num (da S L rev) k N
 obtain⟨D,O⟩:∃D,D=gW cp num (da S L rev) k b (scan S rev) N:=⟨_,rfl⟩
 rw[<-O]at B H⊢
 have a:po us D b K s.1=if gH us=false then(false,9)else if D.2.2≠0 then(false,D.2.2)
  else if(eP b K s.1).2.2≠0 then(false,(eP b K s.1).2.2)else((eP b K s.1).1.getD 0 false,0):=rfl
 generalize po us D b K s.1=out at *
 generalize (opened cp num (da S L rev) k N).1=OP at *
 refine Spec.body Tryz.func26 rfl Tryz.results26 Tryz.ntmps26 rfl<|.sr ?_
 refine .bY rfl (λa2=>?_)
 refine .ag rfl<|.ag rfl<|.zs<|.sr<|.mo rfl<|.aY ((uR us Y R).weaken cZ) (λu f=>?_)
 subst f
 refine .q .not<|.zn<|.cond rfl (λj=>?_) λj=>?_
 have t:gH us=false:=by simpa using j
 rw[if_pos t]at a
 subst a
 refine .sr<|.ag rfl<|.az rfl<|.ret (aH (bp _ (.two (.tmp rfl) (.tmp rfl)) (.none _) ?_))
 ·exact⟨rfl,rfl⟩
 have t:¬gH us=false:=by simpa using j
 rw[if_neg t]at a
 refine .kn<|.sr<|.mo rfl<|.mo rfl<|.mo rfl<|.q (.aM rfl)<|.mo rfl<|.mo rfl<|.cO ((ob B).weaken cZ) (λu a0 f=>?_)
 obtain⟨vp,ps,rfl,E,Q,r⟩:=f
 have a8:=E.ap
 refine .mo rfl<|.q .extract<|.q .extract ?_
 refine .bX (λa3=>?_)
 refine .bP rfl rfl<|.ag rfl<|.zs<|.sr<|.mo rfl<|.q .et<|.zn<|.cond rfl (λl=>?_) λl=>?_
 have v:D.2.2≠0:=by simpa using l
 rw[if_pos v]at a
 subst a
 refine .sr<|.mo rfl<|.ag rfl<|.az rfl<|.ret (aH (bp _ (.two (.tmp rfl) (.tmp rfl)) (.none _) ?_))
 ·exact⟨rfl,rfl⟩
 have I:D.2.2=0:=by simpa using l
 rw[if_neg (by rw[I];simp)]at a
 obtain⟨Z,a5,a6⟩:=H I
 rw[Z]at r
 have G:=X ps r
 rw[<-r]at n C
 have F:=λM=>QQ G.ok n (b:=b) M
 rw[List.length_map]at C F
 refine .kn<|.sr<|.q (.aM rfl)<|.mo rfl<|.mo rfl<|.cO (B2 vp _ us ps _ (E.mono λb o d=>d.elim .inl λd=>.inr (by simp[d])) (λp U=>(Q p U).mono λb o d=>d.elim .inl λd=>.inr (by simp[d])) G b A K s n W) (λu a1 f=>?_)
 obtain⟨vo,rfl,y⟩:=f
 have a7:=y.ap
 refine .mo rfl<|.q .extract<|.q .extract<|.q .extract<|.ag rfl<|.ag rfl<|.ag rfl<|.zs<|.sr<|.mo rfl<|.q .et<|.zn<|.cond rfl (λm=>?_) λm=>?_
 have v:(eP b K s.1).2.2≠0:=by simpa using m
 rw[if_pos v]at a
 subst a
 refine .sr<|.mo rfl<|.ag rfl<|.az rfl<|.ret (aH (bp _ (.two (.tmp rfl) (.tmp rfl)) (.none _) ?_))
 ·exact⟨rfl,rfl⟩
 have J:(eP b K s.1).2.2=0:=by simpa using m
 rw[if_neg (by rw[J];simp)]at a
 obtain⟨_,a4⟩:=F J
 obtain⟨i,z⟩:∃i,(eP b K s.1).1[0]? =some i:=⟨_,aX (by omega)⟩
 have T:(eP b K s.1).1.getD 0 false=i:=by rw[List.getD_eq_getElem?_getD,z];rfl
 rw[T]at a
 subst a
 refine .kn<|.sr<|.mo rfl ?_
 refine .aL 0 y z (λa9=>?_)
 refine .lo rfl<|.ag rfl<|.az rfl<|.ret (bp _ (.two (.tmp rfl) (.tmp rfl)) (.none _) ?_)
 ·exact⟨rfl,rfl⟩
theorem RN{H:Type}{enc:TypeId×Value->H}{W:World}{f:Nat}{cs:List Value}{x:DataW H×List MemPlace}(h:DataW.trod enc prog W 0 (λ_=>true) true f 249 cs=some x):∃t:Ty,cs=t.enc/\t.fits:=by
 obtain⟨c,d⟩:=kF Tryz.underlying249 h
 have j:Tryz.prog.cellsOf 249=2:=by kernel_rfl
 rw[j]at c
 have e:Tryz.prog.cellsOf 9=1:=by kernel_rfl
 match cs,c with
 |[a0,a1],_=>
  obtain⟨p,r,a⟩:∃n y,DataW.trod enc prog W 0 (λ_=>true) true n 9 (([a0,a1].drop 0).take (Tryz.prog.cellsOf 9))=some y:=d 0 _ rfl
  obtain⟨q,s,b⟩:∃n y,DataW.trod enc prog W 0 (λ_=>true) true n 9 (([a0,a1].drop 1).take (Tryz.prog.cellsOf 9))=some y:=d 1 _ rfl
  simp only[e,List.drop_zero,List.drop_succ_cons,List.take_succ_cons,List.take_zero]at a b
  obtain⟨m,g,k⟩:=kM a
  obtain⟨o,i,l⟩:=kM b
  cases g;cases i
  exact⟨⟨m,o⟩,rfl,k,l⟩
theorem N8{H:Type}{enc:TypeId×Value->H}{W:World}{f:Nat}{cs:List Value}{x:DataW H×List MemPlace}(h:DataW.trod enc prog W 0 (λ_=>true) true f 199 cs=some x):∃t:Nd,cs=t.enc/\t.fits:=by
 obtain⟨i,a⟩:=kF Tryz.underlying199 h
 have s:Tryz.prog.cellsOf 199=5:=by kernel_rfl
 rw[s]at i
 have j:Tryz.prog.cellsOf 3=1:=by kernel_rfl
 have l:Tryz.prog.cellsOf 9=1:=by kernel_rfl
 match cs,i with
 |[a0,a1,a2,a3,a4],_=>
  obtain⟨D,J,b⟩:∃n y,DataW.trod enc prog W 0 (λ_=>true) true n 3 (([a0,a1,a2,a3,a4].drop 0).take (Tryz.prog.cellsOf 3))=some y:=a 0 _ rfl
  obtain⟨E,K,c⟩:∃n y,DataW.trod enc prog W 0 (λ_=>true) true n 9 (([a0,a1,a2,a3,a4].drop 1).take (Tryz.prog.cellsOf 9))=some y:=a 1 _ rfl
  obtain⟨F,L,d⟩:∃n y,DataW.trod enc prog W 0 (λ_=>true) true n 9 (([a0,a1,a2,a3,a4].drop 2).take (Tryz.prog.cellsOf 9))=some y:=a 2 _ rfl
  obtain⟨G,M,e⟩:∃n y,DataW.trod enc prog W 0 (λ_=>true) true n 3 (([a0,a1,a2,a3,a4].drop 3).take (Tryz.prog.cellsOf 3))=some y:=a 3 _ rfl
  obtain⟨I,N,g⟩:∃n y,DataW.trod enc prog W 0 (λ_=>true) true n 3 (([a0,a1,a2,a3,a4].drop 4).take (Tryz.prog.cellsOf 3))=some y:=a 4 _ rfl
  simp only[j,l,List.drop_zero,List.drop_succ_cons,List.take_succ_cons,List.take_zero]at b c d e g
  obtain⟨A,m⟩:=sl (k:=.i64) b
  obtain⟨w,o,u⟩:=kM c
  obtain⟨z,p,v⟩:=kM d
  obtain⟨B,q⟩:=sl (k:=.i64) e
  obtain⟨C,r⟩:=sl (k:=.i64) g
  cases m;cases o;cases p;cases q;cases r
  exact⟨⟨A,w,z,B,C⟩,rfl,u,v⟩
theorem Qi{H:Type}{enc:TypeId×Value->H}{W:World}{f:Nat}{cs:List Value}{x:DataW H×List MemPlace}(h:DataW.trod enc prog W 0 (λ_=>true) true f 169 cs=some x):∃t:Sc,cs=t.enc/\t.fits:=by
 obtain⟨e,a⟩:=kF Tryz.underlying169 h
 have m:Tryz.prog.cellsOf 169=4:=by kernel_rfl
 rw[m]at e
 have i:Tryz.prog.cellsOf 9=1:=by kernel_rfl
 have g:Tryz.prog.cellsOf 44=2:=by kernel_rfl
 match cs,e with
 |[a0,a1,a2,a3],_=>
  obtain⟨z,C,b⟩:∃n y,DataW.trod enc prog W 0 (λ_=>true) true n 9 (([a0,a1,a2,a3].drop 0).take (Tryz.prog.cellsOf 9))=some y:=a 0 _ rfl
  obtain⟨A,D,c⟩:∃n y,DataW.trod enc prog W 0 (λ_=>true) true n 44 (([a0,a1,a2,a3].drop 1).take (Tryz.prog.cellsOf 44))=some y:=a 1 _ rfl
  obtain⟨B,E,d⟩:∃n y,DataW.trod enc prog W 0 (λ_=>true) true n 9 (([a0,a1,a2,a3].drop 3).take (Tryz.prog.cellsOf 9))=some y:=a 2 _ rfl
  simp only[i,g,List.drop_zero,List.drop_succ_cons,List.take_succ_cons,List.take_zero]at b c d
  obtain⟨s,j,o⟩:=kM b
  obtain⟨u,v,k,p,q⟩:=pM c
  obtain⟨w,l,r⟩:=kM d
  cases j;cases k;cases l
  exact⟨⟨s,u,v,w⟩,rfl,o,p,q,r⟩
theorem RQ{H:Type}{enc:TypeId×Value->H}{W:World}{f:Nat}{cs:List Value}{x:DataW H×List MemPlace}(h:DataW.trod enc prog W 0 (λ_=>true) true f 165 cs=some x):∃v l,cs=[v]/\RS (Rw W) 2 Ty.enc v l/\∀t∈l,t.fits:=
 RS.nw (D:=λt:Ty=>t.fits) (sz:=2) (en:=Ty.enc) Tryz.underlying165 (by kernel_rfl) (by omega) h λn cs x b=>by
  obtain⟨t,rfl,a⟩:=RN b
  exact⟨rfl,(Ty.one t).h,t,rfl,a⟩
theorem Ob{H:Type}{enc:TypeId×Value->H}{W:World}{f:Nat}{cs:List Value}{x:DataW H×List MemPlace}(h:DataW.trod enc prog W 0 (λ_=>true) true f 90 cs=some x):∃v l,cs=[v]/\RS (Rw W) 5 Nd.enc v l/\∀t∈l,t.fits:=
 RS.nw (D:=λt:Nd=>t.fits) (sz:=5) (en:=Nd.enc) Tryz.underlying90 (by kernel_rfl) (by omega) h λn cs x b=>by
  obtain⟨t,rfl,a⟩:=N8 b
  exact⟨rfl,(Nd.one t).h,t,rfl,a⟩
theorem Qo{H:Type}{enc:TypeId×Value->H}{W:World}{f:Nat}{cs:List Value}{x:DataW H×List MemPlace}(h:DataW.trod enc prog W 0 (λ_=>true) true f 23 cs=some x):∃v l,cs=[v]/\RS (Rw W) 4 Sc.enc v l/\∀t∈l,t.fits:=
 RS.nw (D:=λt:Sc=>t.fits) (sz:=4) (en:=Sc.enc) Tryz.underlying23 (by kernel_rfl) (by omega) h λn cs x b=>by
  obtain⟨t,rfl,a⟩:=Qi b
  exact⟨rfl,(Sc.one t).h,t,rfl,a⟩
theorem PA{H:Type}{enc:TypeId×Value->H}{W:World}{f:Nat}{cs:List Value}{x:DataW H×List MemPlace}(h:DataW.trod enc prog W 0 (λ_=>true) true f 167 cs=some x):∃t:cv,cs=t.enc/\t.is (Rw W):=by
 obtain⟨e,a⟩:=kF Tryz.underlying167 h
 have q:Tryz.prog.cellsOf 167=3:=by kernel_rfl
 rw[q]at e
 have i:Tryz.prog.cellsOf 9=1:=by kernel_rfl
 have j:Tryz.prog.cellsOf 90=1:=by kernel_rfl
 have g:Tryz.prog.cellsOf 165=1:=by kernel_rfl
 match cs,e with
 |[a0,a1,a2],_=>
  obtain⟨A,F,b⟩:∃n y,DataW.trod enc prog W 0 (λ_=>true) true n 9 (([a0,a1,a2].drop 0).take (Tryz.prog.cellsOf 9))=some y:=a 0 _ rfl
  obtain⟨B,G,c⟩:∃n y,DataW.trod enc prog W 0 (λ_=>true) true n 165 (([a0,a1,a2].drop 1).take (Tryz.prog.cellsOf 165))=some y:=a 1 _ rfl
  obtain⟨C,I,d⟩:∃n y,DataW.trod enc prog W 0 (λ_=>true) true n 90 (([a0,a1,a2].drop 2).take (Tryz.prog.cellsOf 90))=some y:=a 2 _ rfl
  simp only[i,j,g,List.drop_zero,List.drop_succ_cons,List.take_succ_cons,List.take_zero]at b c d
  obtain⟨z,k,r⟩:=kM b
  obtain⟨D,s,l,v,o⟩:=RQ c
  obtain⟨E,u,m,w,p⟩:=Ob d
  cases k;cases l;cases m
  exact⟨⟨_,_,⟨z,s,u⟩⟩,rfl,r,v,w,o,p⟩
theorem PD{H:Type}{enc:TypeId×Value->H}{W:World}{f:Nat}{cs:List Value}{x:DataW H×List MemPlace}(h:DataW.trod enc prog W 0 (λ_=>true) true f 162 cs=some x):∃v l,cs=[v]/\RS (Rw W) 3 cv.enc v l/\∀t∈l,t.is (Rw W):=
 RS.nw (D:=λt:cv=>t.is (Rw W)) (sz:=3) (en:=cv.enc) Tryz.underlying162 (by kernel_rfl) (by omega) h λn cs x b=>by
  obtain⟨t,rfl,a⟩:=PA b
  exact⟨rfl,a.cT,t,rfl,a⟩
theorem Q2{H:Type}{enc:TypeId×Value->H}{W:World}{f:Nat}{cs:List Value}{x:DataW H×List MemPlace}(h:DataW.trod enc prog W 0 (λ_=>true) true f 164 cs=some x):∃t:cy,cs=t.enc/\t.is (Rw W):=by
 obtain⟨c,d⟩:=kF Tryz.underlying164 h
 have l:Tryz.prog.cellsOf 164=2:=by kernel_rfl
 rw[l]at c
 have g:Tryz.prog.cellsOf 9=1:=by kernel_rfl
 have e:Tryz.prog.cellsOf 162=1:=by kernel_rfl
 match cs,c with
 |[a0,a1],_=>
  obtain⟨r,v,a⟩:∃n y,DataW.trod enc prog W 0 (λ_=>true) true n 9 (([a0,a1].drop 0).take (Tryz.prog.cellsOf 9))=some y:=d 0 _ rfl
  obtain⟨s,w,b⟩:∃n y,DataW.trod enc prog W 0 (λ_=>true) true n 162 (([a0,a1].drop 1).take (Tryz.prog.cellsOf 162))=some y:=d 1 _ rfl
  simp only[g,e,List.drop_zero,List.drop_succ_cons,List.take_succ_cons,List.take_zero]at a b
  obtain⟨q,i,m⟩:=kM a
  obtain⟨u,o,j,p,k⟩:=PD b
  cases i;cases j
  exact⟨⟨q,_,o⟩,rfl,m,p,k⟩
theorem Q3{H:Type}{enc:TypeId×Value->H}{W:World}{f:Nat}{cs:List Value}{x:DataW H×List MemPlace}(h:DataW.trod enc prog W 0 (λ_=>true) true f 22 cs=some x):∃v l,cs=[v]/\RS (Rw W) 2 cy.enc v l/\∀t∈l,t.is (Rw W):=
 RS.nw (D:=λt:cy=>t.is (Rw W)) (sz:=2) (en:=cy.enc) Tryz.underlying22 (by kernel_rfl) (by omega) h λn cs x b=>by
  obtain⟨t,rfl,a⟩:=Q2 b
  exact⟨rfl,a.cT,t,rfl,a⟩
theorem C1{H:Type}{enc:TypeId×Value->H}{W:World}{f:Nat}{cs:List Value}{x:DataW H×List MemPlace}(h:DataW.trod enc prog W 0 (λ_=>true) true f 25 cs=some x):∃c:bN,cs=c.enc/\c.is (Rw W):=by
 obtain⟨d,e⟩:=kF Tryz.underlying25 h
 have o:Tryz.prog.cellsOf 25=2:=by kernel_rfl
 rw[o]at d
 have g:Tryz.prog.cellsOf 22=1:=by kernel_rfl
 have i:Tryz.prog.cellsOf 23=1:=by kernel_rfl
 match cs,d with
 |[a0,a1],_=>
  obtain⟨t,z,a⟩:∃n y,DataW.trod enc prog W 0 (λ_=>true) true n 22 (([a0,a1].drop 0).take (Tryz.prog.cellsOf 22))=some y:=e 0 _ rfl
  obtain⟨u,A,b⟩:∃n y,DataW.trod enc prog W 0 (λ_=>true) true n 23 (([a0,a1].drop 1).take (Tryz.prog.cellsOf 23))=some y:=e 1 _ rfl
  simp only[g,i,List.drop_zero,List.drop_succ_cons,List.take_succ_cons,List.take_zero]at a b
  obtain⟨v,p,j,r,l⟩:=Q3 a
  obtain⟨w,q,k,s,m⟩:=Qo b
  cases j;cases k
  exact⟨⟨_,_,p,q⟩,rfl,r,s,l,m⟩
theorem Ca{H:Type}{enc:TypeId×Value->H}{W:World}{f:Nat}{cs:List Value}{x:DataW H×List MemPlace}(h:DataW.trod enc prog W 0 (λ_=>true) true f 28 cs=some x):∃w:kR,cs=w.enc/\w.is (Rw W):=by
 obtain⟨e,g⟩:=kF Tryz.underlying28 h
 have a:Tryz.prog.cellsOf 28=3:=by kernel_rfl
 rw[a]at e
 have i:Tryz.prog.cellsOf 25=2:=by kernel_rfl
 have j:Tryz.prog.cellsOf 26=1:=by kernel_rfl
 match cs,e with
 |[a0,a1,a2],_=>
  obtain⟨q,t,b⟩:∃n y,DataW.trod enc prog W 0 (λ_=>true) true n 25 (([a0,a1,a2].drop 0).take (Tryz.prog.cellsOf 25))=some y:=g 0 _ rfl
  obtain⟨r,u,d⟩:∃n y,DataW.trod enc prog W 0 (λ_=>true) true n 26 (([a0,a1,a2].drop 2).take (Tryz.prog.cellsOf 26))=some y:=g 1 _ rfl
  simp only[i,j,List.drop_zero,List.drop_succ_cons,List.take_succ_cons,List.take_zero]at b d
  obtain⟨c,k,a⟩:=C1 b
  obtain⟨s,o,l,p,m⟩:=Qk d
  cases k;cases l
  exact⟨⟨c,_,o⟩,rfl,a,p,m⟩
theorem Ba(o:Value)(a:List Nat)(p:Value)(v:List Bool)(R:aB)(e:RS R 1 cM o a)(m:RS R 1 dF p v)(t:∀j∈a,j<v.length):
  Spec prog 96 [o,p] R [] λu H'=>u=.bool (a.any λj=>v.getD j false)/\H'=[]:=by
 have z:=e.ap
 have A:=m.ap
 have y:=e.le
 refine Spec.body Tryz.func96 rfl Tryz.results96 Tryz.ntmps96 rfl<|.sr<|.ag rfl<|.zs<|.sr<|.az rfl<|.block<|.cz [(0,_),(1,_)] (X:=Nat) (λi=>i<=a.length/\(a.take i).any (λj=>v.getD j false)=false) (λi E=>(5,iN i)::E) (λ_ G=>G) (λi=>a.length-i) 0 ⟨Nat.zero_le _,by simp⟩ kE.c.c.c rH ?_
 rintro i ⟨x,h⟩
 refine .seq<|.sr<|.mo rfl<|.mo rfl<|.q (.bH e)<|.q .lss<|.zn<|.cond rfl (λf=>?_) λf=>?_
 have l:i<a.length:=cb f
 obtain⟨j,d⟩:=bL l
 have w:=t j (aO d)
 obtain⟨b,k⟩:=bL w
 have n:v.getD j false=b:=by rw[List.getD_eq_getElem?_getD,k];rfl
 refine .kn<|.seq<|.block<|.sr<|.mo rfl<|.mo rfl<|.mo rfl ?_
 refine .bx i e d (λB=>?_)
 refine .lo rfl ?_
 refine .bx j m k (λC=>?_)
 refine .lo rfl<|.zn<|.cond rfl (λg=>?_) λg=>?_
 have s:b=true:=g
 refine .sr<|.az rfl<|.ret (bh (aH (cB (bh (aH (aP rfl ?_))))))
 ·exact⟨by rw[nV d (by rw[n];exact s)],rfl⟩
 have r:b=false:=g
 refine .skip<|aV<|av<|.region<|.mo rfl<|.ia (i+1) .add<|.ag rfl<|.nil ?_
 ·exact aW (i+1) ⟨l,qm d h (by rw[n];exact r)⟩ (by omega) kE.c.c.c rH
 refine .exit<|bm<|bs<|bo<|av<|.sr<|.az rfl<|.ret (aP rfl ?_)
 ·rw[dw (gd f)]at h
  exact⟨by rw[h],rfl⟩
theorem On{p:bM}{us:ByteArray}{vf:Nat->Bool}{e:Nat}{n:Nd}(g:p.nodes[e]? =some n)(j:n.kind=1\/n.kind=2\/n.kind=3\/((n.kind=4\/n.kind=5\/n.kind=6)/\0<=n.a/\n.a.toNat<e/\0<=n.b/\n.b.toNat<e)):
  dh p us vf (e+1)=(if n.kind=1 then decide (us∈p.eR)||(p.leads.getD e []).any vf
   else if n.kind=4 then dh p us vf (n.a.toNat+1)||dh p us vf (n.b.toNat+1)
   else if n.kind=5 then dh p us vf (n.a.toNat+1)&&dh p us vf (n.b.toNat+1)
   else if n.kind=6 then dh p us vf (n.a.toNat+1)&& !dh p us vf (n.b.toNat+1)
   else(p.leads.getD e []).any vf):=by
 rw[dh]
 simp only[g]
 by_cases c:n.op=true
 ·have d:n.kind=4\/n.kind=5\/n.kind=6:=by
   unfold Nd.op at c
   simp only[Bool.or_eq_true,beq_iff_eq]at c
   omega
  have f:n.a.toNat+1<=e/\n.b.toNat+1<=e:=by omega
  simp only[c,if_true]
  rw[dif_pos f]
  rcases d with h|h|h<;>simp[h]
 ·have d:n.kind=1\/n.kind=2\/n.kind=3:=by
   unfold Nd.op at c
   simp only[Bool.or_eq_true,beq_iff_eq]at c
   omega
  have i:n.op=false:=by simpa using c
  simp only[i,Bool.false_eq_true,if_false]
  rw[xP]
  rcases d with h|h|h<;>simp[h]
theorem PK(us:ByteArray)(p:aD)(Q:Value)(v:List Bool)(b6:p.ll.length=p.nodes.length)(a8:∀q∈p.ll,∀j∈q.2,j<v.length)(ht:∀i,i<p.nodes.length->(tree isWord p.nodes (i+1)).isSome=true):
  ∀(e:Nat),e<p.nodes.length->∀(R:aB),p.is R->RS R 1 dF Q v->Spec prog 45 [.agg p.enc.toArray,iN e,.string us,Q] R [] λu H'=>u=.bool (dh p.plain us (λj=>v.getD j false) (e+1))/\H'=[]:=by
 intro e
 induction e using Nat.strongRecOn with
 |ind e ih=>
 intro he R L V
 have c0:ca p.enc:=⟨L.cT⟩
 have i1:=V.ap
 obtain⟨n,Z⟩:=bL he
 have a7:=Ao Z (ht e he)
 have k:=On (p:=p.plain) (us:=us) (vf:=λj=>v.getD j false) (e:=e) (n:=n) Z a7
 obtain⟨⟨vr,W⟩,U⟩:∃q,p.ll[e]? =some q:=⟨_,aX (by omega)⟩
 have a6:=aO U
 have hr:RS R 1 cM vr W:=L.l.all _ a6
 have a0:=a8 _ a6
 simp only at a0
 have a9:p.plain.leads.getD e []=W:=by
  show((p.ll.map (·.2)).getD e [])=W
  rw[List.getD_eq_getElem?_getD,List.getElem?_map,U];rfl
 rw[a9]at k
 have M:∀(C:aB),(∀b o,R b o->C b o)->n.a.toNat<e->0<=n.a->Spec prog 45 [.agg p.enc.toArray,.int .i64 n.a,.string us,Q] C [] λu H'=>u=.bool (dh p.plain us (λj=>v.getD j false) (n.a.toNat+1))/\H'=[]:=λC S D F=>by
  have h9:=ih _ D (by omega) C (L.mono S) (V.mono S)
  have h8:=congrArg (Value.int .i64) (Int.toNat_of_nonneg F)
  rw[<-h8]
  exact h9
 have N:∀(C:aB),(∀b o,R b o->C b o)->n.b.toNat<e->0<=n.b->Spec prog 45 [.agg p.enc.toArray,.int .i64 n.b,.string us,Q] C [] λu H'=>u=.bool (dh p.plain us (λj=>v.getD j false) (n.b.toNat+1))/\H'=[]:=λC S D F=>by
  have h9:=ih _ D (by omega) C (L.mono S) (V.mono S)
  have h8:=congrArg (Value.int .i64) (Int.toNat_of_nonneg F)
  rw[<-h8]
  exact h9
 clear ih
 have b0:p.plain.eR=p.eR:=rfl
 rw[b0]at k
 generalize dh p.plain us (λj=>v.getD j false) (e+1)=val at *
 generalize dh p.plain us (λj=>v.getD j false) (n.a.toNat+1)=va at *
 generalize dh p.plain us (λj=>v.getD j false) (n.b.toNat+1)=vb at *
 obtain⟨k0,fo,vn,b3,vu,Y,vl,ll,nm⟩:=p
 have n0:RS R 5 Nd.enc vn b3:=L.n
 have u0:RS R 1 cg vu Y:=L.u
 have l0:RS R 1 dW vl ll:=L.l.rs
 simp only at Z U k he
 have b8:=n0.ap
 have c2:=u0.ap
 have b7:=l0.ap
 have c1:=hr.ap
 have c3:=u0.le
 refine Spec.body Tryz.func45 rfl Tryz.results45 Tryz.ntmps45 rfl ?_
 refine .sr ?_
 refine .bY rfl (λb4=>?_)
 refine .ag rfl<|.z<|.fa rfl<|.lo rfl<|.mo rfl ?_
 refine .bx e n0 Z (λc4=>?_)
 refine .q (.aM rfl) ?_
 refine .bX (λb9=>?_)
 refine .bP rfl rfl<|.zs<|.sr<|.fa rfl<|.lo rfl<|.q .bQ<|.zn ?_
 refine .cond rfl (λD=>?_) λD=>?_
 have hk:n.kind=1:=by simpa using D
 rw[if_pos hk]at k
 refine .sr<|.az rfl<|.block ?_
 refine .cz [(1,_),(2,_),(3,_),(4,_),(9,_)] (X:=Nat) (λi=>i<=Y.length/\us∉Y.take i) (λi E=>(10,iN i)::E) (λ_ G=>G) (λi=>Y.length-i) 0 ⟨Nat.zero_le _,by simp⟩ kE.c.c.c.c.c.c rH ?_
 rintro i ⟨hi,a3⟩
 refine .seq<|.sr<|.mo rfl<|.fa rfl<|.lo rfl<|.q (.bH u0) ?_
 refine .q .lss<|.zn ?_
 refine .cond rfl (λF=>?_) λF=>?_
 have a5:i<Y.length:=cb F
 obtain⟨s,hs⟩:=bL a5
 refine .kn<|.seq<|.block<|.sr<|.fa rfl<|.lo rfl<|.mo rfl ?_
 refine .bx i u0 hs (λc5=>?_)
 refine .lo rfl<|.mo rfl<|.q .dP<|.zn ?_
 refine .cond rfl (λh3=>?_) λh3=>?_
 have a4:s=us:=bS h3
 rw[decide_eq_true (a4▸aO hs),Bool.true_or]at k
 subst k
 refine .sr<|.az rfl ?_
 refine .ret (bh (aH (cB (bh (aH (bp _ (.one (.tmp rfl)) (bf.none _) ?_))))))
 ·exact⟨rfl,rfl⟩
 have a4:¬s=us:=bA h3
 refine .skip<|aV<|av<|.region<|.mo rfl ?_
 refine .ia (i+1) .add ?_
 refine .ag rfl<|.nil ?_
 ·exact aW (i+1) ⟨a5,by
   rw[dG hs,List.mem_append,List.mem_singleton]
   rintro(h|h)
   ·exact a3 h
   ·exact a4 h.symm⟩ (by omega) kE.c.c.c.c.c.c rH
 rw[dw (gd F)]at a3
 rw[decide_eq_false a3,Bool.false_or]at k
 refine .exit<|bm<|bs<|bo<|av<|.seq<|.sr<|.fa rfl<|.lo rfl<|.q .bQ<|.zn ?_
 refine .cond rfl (λH=>?_) λH=>?_
 have K:n.kind=4:=by simpa using H
 have B:0<=n.a/\n.a.toNat<e/\0<=n.b/\n.b.toNat<e:=by omega
 obtain⟨w,x,y,A⟩:=B
 have k:val=(va||vb):=by
  (exfalso;omega)
 subst k
 refine .sr<|.q (.aM rfl)<|.fa rfl<|.lo rfl<|.mo rfl<|.mo rfl ?_
 refine .aY (M _ (λb o r=>.inl r) x w) (λu m=>?_)
 subst m
 refine .mo rfl ?_
 refine .split (t:=42) rfl (λg=>?_) (λg=>?_)
 refine .gF g<|.gF g<|.gF g<|.gF g<|.gF g<|.gF g<|.q (.aT g) ?_
 refine .az rfl ?_
 refine .ret (aH (bp _ (.one (.tmp rfl)) (bf.none _) ?_))
 ·exact⟨by simp_all,rfl⟩
 refine .gT g<|.q (.aM rfl)<|.gT g<|.fa rfl<|.gT g<|.lo rfl<|.gT g<|.mo rfl<|.gT g<|.mo rfl<|.gT g ?_
 refine .aY (N _ (λb o r=>.inl r) A y) (λu m=>?_)
 subst m
 refine .q (.aS g) ?_
 refine .az rfl ?_
 refine .ret (aH (bp _ (.one (.tmp rfl)) (bf.none _) ?_))
 ·exact⟨by simp_all,rfl⟩
 have K:n.kind≠4:=by simpa using H
 refine .kn<|.seq<|.sr<|.fa rfl<|.lo rfl<|.q .bQ<|.zn ?_
 refine .cond rfl (λI=>?_) λI=>?_
 have O:n.kind=5:=by simpa using I
 have B:0<=n.a/\n.a.toNat<e/\0<=n.b/\n.b.toNat<e:=by omega
 obtain⟨w,x,y,A⟩:=B
 have k:val=(va&&vb):=by
  (exfalso;omega)
 subst k
 refine .sr<|.q (.aM rfl)<|.fa rfl<|.lo rfl<|.mo rfl<|.mo rfl ?_
 refine .aY (M _ (λb o r=>.inl r) x w) (λu m=>?_)
 subst m
 refine .mo rfl ?_
 refine .split (t:=59) rfl (λf=>?_) (λf=>?_)
 refine .gT f<|.q (.aM rfl)<|.gT f<|.fa rfl<|.gT f<|.lo rfl<|.gT f<|.mo rfl<|.gT f<|.mo rfl<|.gT f ?_
 refine .aY (N _ (λb o r=>.inl r) A y) (λu m=>?_)
 subst m
 refine .q (.aT f) ?_
 refine .az rfl ?_
 refine .ret (aH (bp _ (.one (.tmp rfl)) (bf.none _) ?_))
 ·exact⟨by simp_all,rfl⟩
 refine .gF f<|.gF f<|.gF f<|.gF f<|.gF f<|.gF f<|.q (.aS f) ?_
 refine .az rfl ?_
 refine .ret (aH (bp _ (.one (.tmp rfl)) (bf.none _) ?_))
 ·exact⟨by simp_all,rfl⟩
 have O:n.kind≠5:=by simpa using I
 refine .kn<|.seq<|.sr<|.fa rfl<|.lo rfl<|.q .bQ<|.zn ?_
 refine .cond rfl (λJ=>?_) λJ=>?_
 have T:n.kind=6:=by simpa using J
 have B:0<=n.a/\n.a.toNat<e/\0<=n.b/\n.b.toNat<e:=by omega
 obtain⟨w,x,y,A⟩:=B
 have k:val=(va&& !vb):=by
  (exfalso;omega)
 subst k
 refine .sr<|.q (.aM rfl)<|.fa rfl<|.lo rfl<|.mo rfl<|.mo rfl ?_
 refine .aY (M _ (λb o r=>.inl r) x w) (λu m=>?_)
 subst m
 refine .mo rfl ?_
 refine .split (t:=76) rfl (λd=>?_) (λd=>?_)
 refine .gT d<|.q (.aM rfl)<|.gT d<|.fa rfl<|.gT d<|.lo rfl<|.gT d<|.mo rfl<|.gT d<|.mo rfl<|.gT d ?_
 refine .aY (N _ (λb o r=>.inl r) A y) (λu m=>?_)
 subst m
 refine .gT d<|.q .not<|.q (.aT d) ?_
 refine .az rfl ?_
 refine .ret (aH (bp _ (.one (.tmp rfl)) (bf.none _) ?_))
 ·exact⟨by simp_all,rfl⟩
 refine .gF d<|.gF d<|.gF d<|.gF d<|.gF d<|.gF d<|.gF d<|.q (.aS d) ?_
 refine .az rfl ?_
 refine .ret (aH (bp _ (.one (.tmp rfl)) (bf.none _) ?_))
 ·exact⟨by simp_all,rfl⟩
 have T:n.kind≠6:=by simpa using J
 refine .kn<|.sr<|.fa rfl<|.lo rfl<|.mo rfl ?_
 refine .bx e l0 U (λb5=>?_)
 refine .lo rfl<|.mo rfl ?_
 refine .aY (Ba vr W Q v _ hr.rx V.rx a0) (λu m=>?_)
 subst m
 skip
 subst k
 refine .az rfl ?_
 refine .ret (bp _ (.one (.tmp rfl)) (bf.none _) ?_)
 ·exact⟨rfl,rfl⟩
 have hk:n.kind≠1:=by simpa using D
 rw[if_neg hk]at k
 refine .kn<|.seq<|.sr<|.fa rfl<|.lo rfl<|.q .bQ<|.zn ?_
 refine .cond rfl (λH=>?_) λH=>?_
 have K:n.kind=4:=by simpa using H
 have B:0<=n.a/\n.a.toNat<e/\0<=n.b/\n.b.toNat<e:=by omega
 obtain⟨w,x,y,A⟩:=B
 have k:val=(va||vb):=by
  (rw[if_pos K]at k;exact k)
 subst k
 refine .sr<|.q (.aM rfl)<|.fa rfl<|.lo rfl<|.mo rfl<|.mo rfl ?_
 refine .aY (M _ (λb o r=>.inl r) x w) (λu m=>?_)
 subst m
 refine .mo rfl ?_
 refine .split (t:=42) rfl (λg=>?_) (λg=>?_)
 refine .gF g<|.gF g<|.gF g<|.gF g<|.gF g<|.gF g<|.q (.aT g) ?_
 refine .az rfl ?_
 refine .ret (aH (bp _ (.one (.tmp rfl)) (bf.none _) ?_))
 ·exact⟨by simp_all,rfl⟩
 refine .gT g<|.q (.aM rfl)<|.gT g<|.fa rfl<|.gT g<|.lo rfl<|.gT g<|.mo rfl<|.gT g<|.mo rfl<|.gT g ?_
 refine .aY (N _ (λb o r=>.inl r) A y) (λu m=>?_)
 subst m
 refine .q (.aS g) ?_
 refine .az rfl ?_
 refine .ret (aH (bp _ (.one (.tmp rfl)) (bf.none _) ?_))
 ·exact⟨by simp_all,rfl⟩
 have K:n.kind≠4:=by simpa using H
 refine .kn<|.seq<|.sr<|.fa rfl<|.lo rfl<|.q .bQ<|.zn ?_
 refine .cond rfl (λI=>?_) λI=>?_
 have O:n.kind=5:=by simpa using I
 have B:0<=n.a/\n.a.toNat<e/\0<=n.b/\n.b.toNat<e:=by omega
 obtain⟨w,x,y,A⟩:=B
 have k:val=(va&&vb):=by
  (rw[if_neg K,if_pos O]at k;exact k)
 subst k
 refine .sr<|.q (.aM rfl)<|.fa rfl<|.lo rfl<|.mo rfl<|.mo rfl ?_
 refine .aY (M _ (λb o r=>.inl r) x w) (λu m=>?_)
 subst m
 refine .mo rfl ?_
 refine .split (t:=59) rfl (λf=>?_) (λf=>?_)
 refine .gT f<|.q (.aM rfl)<|.gT f<|.fa rfl<|.gT f<|.lo rfl<|.gT f<|.mo rfl<|.gT f<|.mo rfl<|.gT f ?_
 refine .aY (N _ (λb o r=>.inl r) A y) (λu m=>?_)
 subst m
 refine .q (.aT f) ?_
 refine .az rfl ?_
 refine .ret (aH (bp _ (.one (.tmp rfl)) (bf.none _) ?_))
 ·exact⟨by simp_all,rfl⟩
 refine .gF f<|.gF f<|.gF f<|.gF f<|.gF f<|.gF f<|.q (.aS f) ?_
 refine .az rfl ?_
 refine .ret (aH (bp _ (.one (.tmp rfl)) (bf.none _) ?_))
 ·exact⟨by simp_all,rfl⟩
 have O:n.kind≠5:=by simpa using I
 refine .kn<|.seq<|.sr<|.fa rfl<|.lo rfl<|.q .bQ<|.zn ?_
 refine .cond rfl (λJ=>?_) λJ=>?_
 have T:n.kind=6:=by simpa using J
 have B:0<=n.a/\n.a.toNat<e/\0<=n.b/\n.b.toNat<e:=by omega
 obtain⟨w,x,y,A⟩:=B
 have k:val=(va&& !vb):=by
  (rw[if_neg K,if_neg O,if_pos T]at k;exact k)
 subst k
 refine .sr<|.q (.aM rfl)<|.fa rfl<|.lo rfl<|.mo rfl<|.mo rfl ?_
 refine .aY (M _ (λb o r=>.inl r) x w) (λu m=>?_)
 subst m
 refine .mo rfl ?_
 refine .split (t:=76) rfl (λd=>?_) (λd=>?_)
 refine .gT d<|.q (.aM rfl)<|.gT d<|.fa rfl<|.gT d<|.lo rfl<|.gT d<|.mo rfl<|.gT d<|.mo rfl<|.gT d ?_
 refine .aY (N _ (λb o r=>.inl r) A y) (λu m=>?_)
 subst m
 refine .gT d<|.q .not<|.q (.aT d) ?_
 refine .az rfl ?_
 refine .ret (aH (bp _ (.one (.tmp rfl)) (bf.none _) ?_))
 ·exact⟨by simp_all,rfl⟩
 refine .gF d<|.gF d<|.gF d<|.gF d<|.gF d<|.gF d<|.gF d<|.q (.aS d) ?_
 refine .az rfl ?_
 refine .ret (aH (bp _ (.one (.tmp rfl)) (bf.none _) ?_))
 ·exact⟨by simp_all,rfl⟩
 have T:n.kind≠6:=by simpa using J
 refine .kn<|.sr<|.fa rfl<|.lo rfl<|.mo rfl ?_
 refine .bx e l0 U (λb5=>?_)
 refine .lo rfl<|.mo rfl ?_
 refine .aY (Ba vr W Q v _ hr.rx V.rx a0) (λu m=>?_)
 subst m
 rw[if_neg K,if_neg O,if_neg T]at k
 subst k
 refine .az rfl ?_
 refine .ret (bp _ (.one (.tmp rfl)) (bf.none _) ?_)
 ·exact⟨rfl,rfl⟩
def fT(l:List aD):Nat:=l.foldl (λa p=>if a<p.number then p.number else a) 0
theorem Ag:∀(l:List aD) (a:Nat),a<=l.foldl (λa p=>if a<p.number then p.number else a) a/\∀p∈l,p.number<=l.foldl (λa p=>if a<p.number then p.number else a) a
 |[],a=>⟨Nat.le_refl _,λp hp=>(by cases hp)⟩
 |x::l,a=>by
  obtain⟨b,c⟩:=Ag l (if a<x.number then x.number else a)
  rw[List.foldl_cons]
  refine⟨?_,λp hp=>?_⟩
  ·refine Nat.le_trans ?_ b
   split<;>omega
  ·rcases List.mem_cons.1 hp with rfl|hp
   ·refine Nat.le_trans ?_ b
    split<;>omega
   ·exact c p hp
theorem Ah{B:Nat}:∀(l:List aD) (a:Nat),a<=B->(∀p∈l,p.number<=B)->l.foldl (λa p=>if a<p.number then p.number else a) a<=B
 |[],a,h,_=>h
 |x::l,a,h,h2=>by
  rw[List.foldl_cons]
  refine Ah l _ ?_ λp b=>h2 p (List.mem_cons_of_mem _ b)
  have:=h2 x List.mem_cons_self
  split<;>omega
theorem Qa(V:Value)(e:Nat)(us:ByteArray)(ps:List aD)(R:aB)(w:RS R 8 aD.enc V ps)(a7:∀p∈ps,p.is R)(N:mz ps us)(b3:∀p∈ps,p.found=true->0<p.nodes.length)(c1:∀p∈ps,p.number<=1000000):
    Spec prog 41 [.agg [V,iN e].toArray,.string us] R [] λu H'=>∃T,H'=[T]/\OS 4 1 dF u (nq (eK (ps.map aD.plain) us) (fT ps)) T:=by
  have d9:=w.ap
  have d0:=N.n
  have c0:=N.ll
  have b7:=N.jl
  have c5:=N.tr
  have c2:=N.nl
  have c9:=w.le
  have d1:fT ps<=1000000:=Ah ps 0 (Nat.zero_le _) c1
  have Q:(eK (ps.map aD.plain) us).n=ps.length:=by show(ps.map aD.plain).length=_;rw[List.length_map]
  have H:∀(k i:Nat) (v:List Bool) (p:aD),ps[i]? =some p->gN (eK (ps.map aD.plain) us) k v i=if p.found&&decide (p.number=k)&& !v.getD i false&&dh p.plain us (λj=>v.getD j false) p.nodes.length then v.set i true else v:=λk i v p s=>by
    have c3:(ps.map aD.plain)[i]? =some p.plain:=by rw[List.getElem?_map,s];rfl
    unfold gN eK
    simp only[c3,Option.map_some,Option.getD_some]
    rfl
  obtain⟨G,hG⟩:∃G,G=eK (ps.map aD.plain) us:=⟨_,rfl⟩
  rw[<-hG]at Q H⊢
  have b0:nq G (fT ps)=jT G (fT ps+1) 0 (List.replicate ps.length false):=by unfold nq;rw[Q]
  rw[b0]
  obtain⟨a0,a2⟩:∃a0,a0=jT G (fT ps+1) 0 (List.replicate ps.length false):=⟨_,rfl⟩
  rw[<-a2]
  refine Spec.body Tryz.func41 rfl Tryz.results41 Tryz.ntmps41 rfl ?_
  refine .sr ?_
  refine .bY rfl (λb2=>?_)
  refine .ag rfl<|.z<|.fa rfl<|.lo rfl<|.q (.bH w) ?_
  refine .makeSlice (enc:=dF) ps.length false rfl rfl (by decide) (by simp[dF,ap]) rfl rfl (by omega) (by omega) (λW T5 a6=>?_)
  refine .ag rfl<|.z<|.ag rfl<|.zs<|.sr<|.az rfl<|.block ?_
  refine .cz [(1,_),(2,_),(5,_)] (X:=Nat) (λi=>i<=ps.length) (λi E=>(7,iN i)::(6,.int .i64 (fT (ps.take i):Nat))::E) (λ_ G=>G) (λi=>ps.length-i) 0 (Nat.zero_le _) kE.c.c.c.c.c rH ?_
  rintro i hi
  refine .seq<|.sr<|.mo rfl<|.fa rfl<|.lo rfl<|.q (.bH w) ?_
  refine .q .lss<|.zn ?_
  refine .cond rfl (λY=>?_) λY=>?_
  have A:i<ps.length:=cb Y
  obtain⟨p,s⟩:=bL A
  have L:fT (ps.take (i+1))=if fT (ps.take i)<p.number then p.number else fT (ps.take i):=by
    unfold fT
    rw[dG s,List.foldl_append]
    rfl
  obtain⟨k0,fo,vn,e0,vu,e6,vl,ll,S⟩:=p
  simp only at L
  refine .kn<|.seq<|.block<|.sr<|.fa rfl<|.lo rfl<|.mo rfl ?_
  refine .bx i w s (λe1=>?_)
  refine .fa rfl<|.lo rfl<|.mo rfl<|.q .gtr<|.zn ?_
  refine bz.cS [(1,_),(2,_),(5,_),(7,_)] kE.c.c.c.c (X:=Unit) (λ_=>True) (λ_ E=>(6,.int .i64 (fT (ps.take (i+1)):Nat))::E) (λ_=>[T5,bl b2 [V,iN e] 86]) ?_ ?_
  refine .cond rfl (λI=>?_) λI=>?_
  refine .region<|.fa rfl<|.lo rfl<|.mo rfl ?_
  refine .bx i w s (λe2=>?_)
  refine .fa rfl<|.lo rfl<|.ag rfl<|.nil ?_
  ·first
      |exact aF () trivial (kE.c.c.c.c.kT rfl (by have J:(S:Int)>(fT (ps.take i):Nat):=bS I;rw[L,if_pos (by omega)])) rH
      |exact aF () trivial (kE.c.c.c.c.kT rfl (by have J:¬(S:Int)>(fT (ps.take i):Nat):=bA I;rw[L,if_neg (by omega)])) rH
  refine .skip ?_
  ·first
      |exact aF () trivial (kE.c.c.c.c.kT rfl (by have J:(S:Int)>(fT (ps.take i):Nat):=bS I;rw[L,if_pos (by omega)])) rH
      |exact aF () trivial (kE.c.c.c.c.kT rfl (by have J:¬(S:Int)>(fT (ps.take i):Nat):=bA I;rw[L,if_neg (by omega)])) rH
  intro x hx
  refine aV<|av<|.region<|.mo rfl ?_
  refine .ia (i+1) .add ?_
  refine .ag rfl<|.nil ?_
  ·exact aW (i+1) A (by omega) kE.c.c.c.c.c rH
  rw[dw (gd Y)]
  refine .exit<|bm<|bs<|bo<|av<|.seq<|.sr<|.az rfl<|.block ?_
  refine .cz [(1,_),(2,_),(5,_),(6,_)] (X:=Nat×List Bool×ay) (λy=>y.1<=fT ps+1/\OS 4 1 dF (.slice (some ⟨W,0,none⟩) ps.length ps.length) y.2.1 y.2.2/\y.2.1.length=ps.length/\jT G (fT ps+1-y.1) y.1 y.2.1=a0) (λy E=>(8,iN y.1)::E) (λy G=>y.2.2::G) (λy=>fT ps+1-y.1) (0,List.replicate ps.length false,T5) ⟨Nat.zero_le _,a6,by simp,a2.symm⟩ kE.c.c.c.c.c rH ?_
  rintro⟨k,v,T⟩ ⟨hk,f,h,B⟩
  simp only at hk f h B⊢
  refine .seq<|.sr<|.mo rfl<|.mo rfl<|.q .leq<|.zn ?_
  refine .cond rfl (λZ=>?_) λZ=>?_
  have c8:k<=fT ps:=by have:=bS Z;omega
  rw[show fT ps+1-k=(fT ps-k)+1 by omega,jT,Q]at B
  obtain⟨vr,a4⟩:∃vr,vr=fD G k (ps.length+1) v:=⟨_,rfl⟩
  rw[<-a4]at B
  refine .kn<|.seq<|.block<|.sr<|.az rfl<|.block ?_
  refine .cz [(1,_),(2,_),(5,_),(6,_),(8,_)] (X:=Nat×List Bool×ay) (λy=>y.1<=ps.length+1/\OS 4 1 dF (.slice (some ⟨W,0,none⟩) ps.length ps.length) y.2.1 y.2.2/\y.2.1.length=ps.length/\fD G k (ps.length+1-y.1) y.2.1=vr) (λy E=>(9,iN y.1)::E) (λy G=>y.2.2::G) (λy=>ps.length+1-y.1) (0,v,T) ⟨Nat.zero_le _,f,h,a4.symm⟩ kE.c.c.c.c.c.c rH ?_
  rintro⟨r,v,T⟩ ⟨hr,f,h,C⟩
  simp only at hr f h C⊢
  refine .seq<|.sr<|.mo rfl<|.fa rfl<|.lo rfl<|.q (.bH w) ?_
  refine .q .leq<|.zn ?_
  refine .cond rfl (λh4=>?_) λh4=>?_
  have d4:r<=ps.length:=by have:=bS h4;omega
  rw[show ps.length+1-r=(ps.length-r)+1 by omega,fD]at C
  obtain⟨U,a3⟩:∃U,U=mD G k v:=⟨_,rfl⟩
  rw[<-a3]at C
  have c7:(List.range' 0 ps.length).foldl (gN G k) v=U:=by rw[a3];unfold mD;rw[Q]
  refine .kn<|.seq<|.block<|.sr<|.az rfl<|.block ?_
  refine .cz [(1,_),(2,_),(5,_),(6,_),(8,_),(9,_)] (X:=Nat×List Bool×ay) (λy=>y.1<=ps.length/\OS 4 1 dF (.slice (some ⟨W,0,none⟩) ps.length ps.length) y.2.1 y.2.2/\y.2.1.length=ps.length/\(List.range' y.1 (ps.length-y.1)).foldl (gN G k) y.2.1=U) (λy E=>(10,iN y.1)::E) (λy G=>y.2.2::G) (λy=>ps.length-y.1) (0,v,T) ⟨Nat.zero_le _,f,h,c7⟩ kE.c.c.c.c.c.c.c rH ?_
  rintro⟨i,v,T⟩ ⟨hi,f,h,d⟩
  simp only at hi f h d⊢
  refine .seq<|.sr<|.mo rfl<|.fa rfl<|.lo rfl<|.q (.bH w) ?_
  refine .q .lss<|.zn ?_
  refine .cond rfl (λh5=>?_) λh5=>?_
  have A:i<ps.length:=cb h5
  obtain⟨p,s⟩:=bL A
  have F:=aO s
  have O:=a7 p F
  have d8:ca p.enc:=⟨O.cT⟩
  rw[show ps.length-i=(ps.length-(i+1))+1 by omega,List.range'_succ,List.foldl_cons,H k i v p s]at d
  obtain⟨b,D⟩:∃b,v[i]? =some b:=⟨_,aX (by omega)⟩
  have c6:v.getD i false=b:=by rw[List.getD_eq_getElem?_getD,D];rfl
  rw[c6]at d
  have b4:=b3 p F
  have d3:=c2 p F
  have M:=λ(R':aB) (vv:Value)=>PK us p vv v (c0 p F) (λq hq j hj=>by rw[h];exact b7 p F q hq j hj) (c5 p F)
  have n0:=O.n
  have d5:=n0.ap
  have d6:=O.u.ap
  have d7:=O.l.rs.ap
  obtain⟨c,K⟩:∃c,c=(p.found&&decide (p.number=k)&& !b&&dh p.plain us (λj=>v.getD j false) p.nodes.length):=⟨_,rfl⟩
  rw[<-K]at d
  refine .kn<|.seq<|.block<|.sr<|.fa rfl<|.lo rfl<|.mo rfl ?_
  refine .bx i w s (λe3=>?_)
  refine .q (.aM rfl) ?_
  refine .bX (λa5=>?_)
  refine .bP rfl rfl<|.zs ?_
  refine bz.cS [(1,_),(2,_),(5,_),(6,_),(8,_),(9,_),(10,_)] kE.c.c.c.c.c.c.c (X:=Unit) (λ_=>True) (λ_ E=>(85,.bool c)::E) (λ_=>[bl a5 p.enc 93,T,bl b2 [V,iN e] 86]) ?_ ?_
  refine .region<|.fa rfl<|.lo rfl<|.mo rfl ?_
  refine .split (t:=63) rfl (λm=>?_) (λm=>?_)
  refine .gT m<|.fa rfl<|.gT m<|.lo rfl<|.gT m<|.mo rfl<|.gT m<|.q .bQ<|.q (.aT m) ?_
  refine .mo rfl ?_
  refine .split (t:=69) rfl (λg=>?_) (λg=>?_)
  have b9:p.number=k:=by
    have J:(p.number:Int)=(k:Nat):=by simpa using g
    omega
  refine .gT g<|.mo rfl<|.gT g<|.mo rfl<|.gT g ?_
  refine .aL i f D (λe4=>?_)
  refine .gT g<|.lo rfl<|.gT g<|.q .not<|.q (.aT g) ?_
  refine .mo rfl ?_
  refine .split (t:=76) rfl (λa=>?_) (λa=>?_)
  have b1:p.found=true:=by
    cases hpf:p.found with
    |true=>rfl
    |false=>simp_all
  have d2:=b4 b1
  refine .gT a<|.q (.aM rfl)<|.gT a<|.fa rfl<|.gT a<|.lo rfl<|.gT a<|.q (.bH n0) ?_
  refine .gT a ?_
  refine .ia (p.nodes.length-1) .sub ?_
  refine .gT a<|.mo rfl<|.gT a<|.mo rfl<|.gT a ?_
  refine .aY ((M (λb o=>True) _ (p.nodes.length-1) (by omega) _ (O.mono λb o D=>.inl D) (f.sg.nH))) (λu hu=>?_)
  subst hu
  rw[show p.nodes.length-1+1=p.nodes.length by omega]
  refine .q (.aT a) ?_
  refine .nil ?_
  ·exact aF () trivial (kE.c.c.c.c.c.c.c.bU rfl (by rw[K];clear M H d;simp_all)) rH
  refine .gF a<|.gF a<|.gF a<|.gF a<|.gF a<|.gF a<|.gF a<|.gF a<|.q (.aS a) ?_
  refine .nil ?_
  ·exact aF () trivial (kE.c.c.c.c.c.c.c.bU rfl (by rw[K];clear M H d;simp_all)) rH
  have b9:¬p.number=k\/p.found=false:=by
    (left
     have J:¬(p.number:Int)=(k:Nat):=by simpa using g
     omega)
  refine .gF g<|.gF g<|.gF g<|.gF g<|.gF g<|.q (.aS g) ?_
  refine .mo rfl<|.gX<|.gX<|.gX<|.gX<|.gX<|.gX<|.gX<|.gX<|.q .db<|.nil ?_
  ·exact aF () trivial (kE.c.c.c.c.c.c.c.bU rfl (by rw[K];clear M H d;simp_all)) rH
  refine .gF m<|.gF m<|.gF m<|.gF m<|.q (.aS m) ?_
  refine .mo rfl<|.gX<|.gX<|.gX<|.gX<|.gX<|.q .db<|.mo rfl<|.gX<|.gX<|.gX<|.gX<|.gX<|.gX<|.gX<|.gX<|.q .db<|.nil ?_
  ·exact aF () trivial (kE.c.c.c.c.c.c.c.bU rfl (by rw[K];clear M H d;simp_all)) rH
  intro y hy
  refine av ?_
  refine .cond rfl (λh6=>?_) λh6=>?_
  have a9:c=true:=h6
  rw[a9]at d
  simp only[if_true]at d
  refine .region<|.mo rfl<|.mo rfl ?_
  refine .aL i f D (λe5=>?_)
  refine .dv i f D true (λTn a1=>?_)
  refine .nil<|aV<|av<|.region<|.mo rfl ?_
  refine .ia (i+1) .add ?_
  refine .ag rfl<|.nil ?_
  ·first
      |exact aW (i+1,v.set i true,Tn) ⟨A,a1,by simp[h],d⟩ (by simp only;omega) kE.c.c.c.c.c.c.c (aQ [1,1])
      |exact aW (i+1,v,T) ⟨A,f,h,d⟩ (by simp only;omega) kE.c.c.c.c.c.c.c (aQ [1,1])
  have a8:c=false:=h6
  rw[a8]at d
  simp only[Bool.false_eq_true,if_false]at d
  refine .skip<|aV<|av<|.region<|.mo rfl ?_
  refine .ia (i+1) .add ?_
  refine .ag rfl<|.nil ?_
  ·first
      |exact aW (i+1,v.set i true,Tn) ⟨A,a1,by simp[h],d⟩ (by simp only;omega) kE.c.c.c.c.c.c.c (aQ [1,1])
      |exact aW (i+1,v,T) ⟨A,f,h,d⟩ (by simp only;omega) kE.c.c.c.c.c.c.c (aQ [1,1])
  have b6:ps.length-i=0:=by have:=bA h5;omega
  rw[b6,List.range'_zero,List.foldl_nil]at d
  subst d
  refine .exit<|bm<|bs<|bo<|aV<|av<|.region<|.mo rfl ?_
  refine .ia (r+1) .add ?_
  refine .ag rfl<|.nil ?_
  ·exact aW (r+1,v,T) ⟨by omega,f,h,by simp only;rw[show ps.length+1-(r+1)=ps.length-r by omega];exact C⟩ (by simp only;omega) kE.c.c.c.c.c.c rH
  have c4:ps.length+1-r=0:=by have:=bA h4;omega
  rw[c4,fD]at C
  subst C
  refine .exit<|bm<|bs<|bo<|aV<|av<|.region<|.mo rfl ?_
  refine .ia (k+1) .add ?_
  refine .ag rfl<|.nil ?_
  ·exact aW (k+1,v,T) ⟨by omega,f,h,by simp only;rw[show fT ps+1-(k+1)=fT ps-k by omega];exact B⟩ (by simp only;omega) kE.c.c.c.c.c rH
  have b8:fT ps+1-k=0:=by have:=bA Z;omega
  rw[b8,jT]at B
  refine .exit<|bm<|bs<|bo<|av<|.sr<|.mo rfl<|.az rfl ?_
  refine .ret (bp _ (.one (.tmp rfl)) (aQ [0]) ?_)
  ·exact⟨T,rfl,by rw[<-B];exact f⟩
abbrev JV:=List Value×J
abbrev jU(p:JV):List Value:=p.1
def jt(s:ByteArray):List Value:=[.int .i64 3,.bool false,.int .i64 0,.string s,sZ,sZ]
theorem qG(R:aB)(s:ByteArray):fZ R (jt s) (eG s):=.mk (l:=[]) RS.fk RS.fk λp a=>(by cases a)
def jn(n:Int):List Value:=[.int .i64 2,.bool false,.int .i64 n,.string ⟨#[]⟩,sZ,sZ]
theorem zK(R:aB)(n:Int):fZ R (jn n) (mJ n):=.mk (l:=[]) RS.fk RS.fk λp a=>(by cases a)
def jb(b:Bool):List Value:=[.int .i64 1,.bool b,.int .i64 0,.string ⟨#[]⟩,sZ,sZ]
theorem Nz(R:aB)(b:Bool):fZ R (jb b) (sx b):=.mk (l:=[]) RS.fk RS.fk λp a=>(by cases a)
def jz:List Value:=[.int .i64 0,.bool false,.int .i64 0,.string ⟨#[]⟩,sZ,sZ]
theorem NE(R:aB):fZ R jz oh:=.mk (l:=[]) RS.fk RS.fk λp a=>(by cases a)
instance Sl(s:ByteArray):ca (jt s):=⟨by simp[jt,ap]⟩
instance Sk(n:Int):ca (jn n):=⟨by simp[jn,ap]⟩
instance Si(b:Bool):ca (jb b):=⟨by simp[jb,ap]⟩
theorem fZ.nJ{R:aB}{cs:List Value}{j:J}(h:fZ R cs j):cs.length=6:=by cases h;rfl
theorem QH{cs:List Value}(h:cs.length=6):∃a b c d f g,cs=[a,b,c,d,f,g]:=by
 match cs,h with
 |[a,b,c,d,f,g],_=>exact⟨a,b,c,d,f,g,rfl⟩
theorem wX(s:ByteArray)(R:aB):Spec prog 164 [.string s] R [] λu H'=>u=.agg (jt s).toArray/\H'=[]:=by
 refine Spec.body Tryz.func164 rfl Tryz.results164 Tryz.ntmps164 rfl<|.sr ?_
 refine .bX (λa=>?_)
 refine .z<|.mo rfl<|.q .cR<|.bP rfl rfl<|.zn ?_
 refine .ret (bp _ (.one (.fB rfl rfl)) (.none _) ?_)
 ·exact⟨rfl,rfl⟩
theorem Al(k:bc)(e:List Value) [ie:ca e](g:e.length=5)(p:k.os.size<=1000000000000000)(r:k.oi.size<=1000000000000000)(s:k.rel.size<=1000000000000000)(R:aB):Spec prog 165 [.agg (.string k.os:: .string k.oi:: .string k.rel::e).toArray] R [] λu H'=>u=.string (nC k)/\H'=[]:=by
 obtain⟨i,j,l,m,n,rfl⟩:∃a b c d f,e=[a,b,c,d,f]:=by
  match e,g with
  |[a,b,c,d,f],_=>exact⟨a,b,c,d,f,rfl⟩
 have t:ca (Value.string k.os:: .string k.oi:: .string k.rel::[i,j,l,m,n]):=⟨λu hu=>by
  simp only[List.mem_cons,List.not_mem_nil,or_false]at hu
  rcases hu with rfl|rfl|rfl|hu
  ·rfl
  ·rfl
  ·rfl
  ·exact ie.h u (by simpa using hu)⟩
 have v:(⟨#[58]⟩:ByteArray).size=1:=rfl
 have w:(⟨#[35]⟩:ByteArray).size=1:=rfl
 refine Spec.body Tryz.func165 rfl Tryz.results165 Tryz.ntmps165 rfl<|.sr ?_
 refine .bY rfl (λo=>?_)
 refine .ag rfl<|.z<|.fa rfl<|.fa rfl<|.lo rfl ?_
 refine .q (.rF (by omega) rfl rfl) ?_
 refine .fa rfl<|.fa rfl<|.lo rfl ?_
 refine .q (.rF (by simp only[ByteArray.size_append];omega) rfl rfl)<|.q (.rF (by simp only[ByteArray.size_append];omega) rfl rfl) ?_
 refine .fa rfl<|.lo rfl ?_
 refine .q (.rF (by simp only[ByteArray.size_append];omega) rfl rfl)<|.az rfl<|.ret (aP rfl ?_)
 ·exact⟨rfl,rfl⟩
theorem NI(a:Int)(R:aB):Spec prog 208 [.int .i64 a] R [] λu H'=>u=.string (kb a)/\H'=[]:=by
 refine Spec.body Tryz.func208 rfl Tryz.results208 Tryz.ntmps208 rfl<|.sr<|.ag rfl<|.zs<|.sr<|.mo rfl<|.zn<|.block<|.sr<|.q .bQ<|.az rfl<|.cond rfl (λb=>?_) λb=>?_
 refine .sr<|.az rfl<|.ret (bh (aH (aP rfl ?_)))
 ·refine⟨congrArg _ ?_,rfl⟩
  unfold kb
  simp_all
 refine .sr<|.q .bQ<|.az rfl<|.cond rfl (λc=>?_) λc=>?_
 refine .sr<|.az rfl<|.ret (bh (aH (aP rfl ?_)))
 ·refine⟨congrArg _ ?_,rfl⟩
  unfold kb
  simp_all
 refine .sr<|.q .bQ<|.az rfl<|.cond rfl (λd=>?_) λd=>?_
 refine .sr<|.az rfl<|.ret (bh (aH (aP rfl ?_)))
 ·refine⟨congrArg _ ?_,rfl⟩
  unfold kb
  simp_all
 refine .sr<|.q .bQ<|.az rfl<|.cond rfl (λe=>?_) λe=>?_
 refine .sr<|.az rfl<|.ret (bh (aH (aP rfl ?_)))
 ·refine⟨congrArg _ ?_,rfl⟩
  unfold kb
  simp_all
 refine .sr<|.q .bQ<|.az rfl<|.cond rfl (λf=>?_) λf=>?_
 refine .sr<|.az rfl<|.ret (bh (aH (aP rfl ?_)))
 ·refine⟨congrArg _ ?_,rfl⟩
  unfold kb
  simp_all
 refine .skip<|aV<|av<|.sr<|.az rfl<|.ret (aP rfl ?_)
 ·refine⟨congrArg _ ?_,rfl⟩
  unfold kb
  simp_all
def me(s:ByteArray):JV:=(jt s,eG s)
def ma(v:Value):List Value:=[.int .i64 4,.bool false,.int .i64 0,.string ⟨#[]⟩,v,sZ]
instance Sj(v:Value) [i:One v]:ca (ma v):=⟨λu a=>by
 simp only[ma,List.mem_cons,List.not_mem_nil,or_false]at a
 rcases a with rfl|rfl|rfl|rfl|rfl|rfl
 ·rfl
 ·rfl
 ·rfl
 ·rfl
 ·exact i.h
 ·rfl⟩
theorem uY{R:aB}{v:Value}{l:List JV}(h:RS R 6 jU v l)(a:∀p∈l,fZ R p.1 p.2):fZ R (ma v) (iJ (l.map (·.2))):=.mk (l:=l) h RS.fk a
theorem BP(v:Value)(l:List ByteArray)(R:aB)(h:RS R 1 cg v l)(x:l.length<=100000000):Spec prog 209 [v] R [] λu H'=>∃T,H'=[T]/\∃vo,u=.agg (ma vo).toArray/\OS 219 6 jU vo (l.map me) T:=by
 have C:=h.ap
 refine Spec.gu (H':=[[]]) (by simp)<|Spec.body Tryz.func209 rfl Tryz.results209 Tryz.ntmps209 rfl<|.sr ?_
 refine .bX (λm=>?_)
 refine .z<|.q .cR ?_
 refine .bX (λn=>?_)
 refine .bP rfl rfl<|.zs<|.sr<|.mo rfl<|.q (.bH h)<|.mo rfl<|.zn<|.block<|.cz [(2,_),(3,_),(7,_),(8,_)] (X:=Nat×Value×ay) (λy=>y.1<=l.length/\OS 219 6 jU y.2.1 ((l.take y.1).map me) y.2.2) (λy E=>(9,iN y.1)::E) (G:=[bl m jz 219]) (λy G=>y.2.2::bl n (ma y.2.1) 219::G) (λy=>l.length-y.1) (0,sZ,[]) ⟨Nat.zero_le _,OS.nil⟩ kE.c.c.c.c.c (aQ [2,0,0]) ?_
 rintro⟨i,vo,k⟩ ⟨o,a⟩
 simp only at o a⊢
 have B:=a.ap
 refine .sr<|.q .lss<|.zs<|.cond rfl (λb=>?_) λb=>?_
 have e:i<l.length:=cb b
 obtain⟨s,g⟩:=bL e
 have p:=dG g
 refine .kn<|.seq<|.block<|.sr ?_
 refine .bx i h g (λD=>?_)
 refine .lo rfl<|.az rfl<|.cL [5,7] mixed<|.tO 0 rfl (.fieldAddr rfl)<|.tO 1 rfl (.bZ rfl)<|.tO 2 rfl .move<|.sT 3 rfl<|.aY (wX s _) (λu r=>?_)
 subst r
 refine .nil<|Next.sub<|.sT 4 rfl ?_
 refine .ej (λw=>?_)
 refine .nil<|Next.sub<|.sT 5 rfl<|.append a (RS.lits (xs:=[me s]) rfl (by simp[jU,me,jt]) (by simp[jU,me,jt,ap])) (by simp only[List.length_singleton,List.length_map,List.length_take];omega) (λt j d=>?_)
 rw[<-List.map_singleton (f:=me), <-List.map_append, <-p]at d
 have A:=d.ap
 refine .nil<|Next.mod rfl<|.tK 6 rfl (.gz rfl)<|.sT 7 rfl<|.dZ rfl rfl<|.nil<|Next.mod rfl<|RA.nil (by kernel_rfl)<|aV<|av<|.region<|.ia (i+1) .add<|.mo rfl<|.nil ?_
 ·exact aW (i+1,t,j) ⟨e,d⟩ (by simp only;omega) kE.c.c.c.c.c (aQ [1,1,1])
 refine .exit<|bm<|bs<|bo<|av<|.sr<|.q (.aM rfl)<|.bP rfl rfl<|.zn ?_
 refine .ret (bp _ (.one (.fB rfl rfl)) (.one [0] _) ?_)
 ·rw[dw (gd b)]at a
  exact⟨k,by simp[take],vo,rfl,a⟩
abbrev qn(bb:Nat)(kd:Int)(vl vk:Value):ay:=(bl bb [.int .i64 kd,.bool false,.int .i64 0,.string ⟨#[]⟩,vl,vk] 300)
theorem nI(s:Nat)(H:Int)(E D:Value)(l:List JV)(ks:List ByteArray)(y x:ay)(t:OS 219 6 jU E l y)(A:OS 9 1 cg D ks x)(N:l.length<=100000000/\ks.length<=100000000)(key:ByteArray)(cs:List Value)(j:J) [B:ca cs](F:cs.length=6)(R:aB):
  Spec prog 163 [pT s,.string key,.agg cs.toArray] R [qn s H E D,y,x] λ_ H'=>∃vl' vk' Tl' Tk',H'=[qn s 5 vl' vk',Tl',Tk']/\OS 219 6 jU vl' (l++[(cs,j)]) Tl'/\OS 9 1 cg vk' (ks++[key]) Tk':=by
 obtain⟨i,k,m,n,o,p,rfl⟩:∃a b c d f g,cs=[a,b,c,d,f,g]:=by
  match cs,F with
  |[a,b,c,d,f,g],_=>exact⟨a,b,c,d,f,g,rfl⟩
 have T:=t.ap
 have S:=A.ap
 refine Spec.body Tryz.func163 rfl Tryz.results163 Tryz.ntmps163 rfl<|.sr ?_
 refine .bY rfl (λM=>?_)
 refine .z<|.mo rfl<|.nc rfl<|.fa rfl<|.fa rfl<|.dZ rfl rfl<|.z<|.mo rfl<|.mo rfl<|.nc rfl<|.fa rfl<|.fa rfl<|.lo rfl<|.mo rfl ?_
 refine .gM (λK=>?_)
 refine .append A (RS.lits (xs:=[key]) rfl (by simp[cg]) (by simp[cg,ap])) (by simp only[List.length_singleton];omega) (λC w u=>?_)
 have O:=u.ap
 refine .nc rfl<|.fa rfl<|.fa rfl<|.dZ rfl rfl<|.zn<|.qV [2,2] [8,10,14] mixed ?_
 conv=>arg 3;simp only[take,rest,bJ,List.getD_cons_zero,List.getD_cons_succ]
 conv=>arg 5;simp only[take,rest,bJ,List.getD_cons_zero,List.getD_cons_succ]
 conv=>arg 9;simp only[take,rest,bJ,List.getD_cons_zero,List.getD_cons_succ]
 refine .tO 0 rfl .move<|.tO 1 rfl (.nilCheck rfl)<|.tO 2 rfl (.fieldAddr rfl)<|.tO 3 rfl (.fieldAddr rfl)<|.tO 4 rfl (.bZ rfl)<|.tO 5 rfl (.aM rfl)<|.tO 6 rfl (.dK t)<|.sT 7 rfl ?_
 refine .ej (λL=>?_)
 refine .nil<|Next.sub<|.sT 8 rfl<|.append t (RS.lits (xs:=[((jz,oh):JV)]) rfl (by simp[jU,jz]) (by simp[jU,jz,ap])) (by simp only[List.length_singleton];omega) (λV I q=>?_)
 have Q:=q.ap
 have v:(l++[((jz,oh):JV)])[l.length]? =some (jz,oh):=by simp
 refine .nil (Next.mod rfl ?_)
 refine RA.aL 9 rfl l.length q v rfl rfl rfl (by kernel_rfl) (λU=>?_)
 refine .tK 11 rfl (.lI rfl)<|.tK 12 rfl (.gz rfl)<|.tK 13 rfl (.gz rfl)<|RA.kL 10 14 rfl rfl (by kernel_rfl) rfl ?_ ?_
 refine .eD (z':=(([i,k,m,n,o,p],j):JV)) l.length q v (λr e=>?_) B.h
 have G:=e.ap
 rw[show(l++[((jz,oh):JV)]).set l.length ([i,k,m,n,o,p],j)=l++[([i,k,m,n,o,p],j)] by simp]at e
 refine .nil<|Next.mod rfl<|.sT 14 rfl<|.dZ rfl rfl<|.nil<|Next.mod rfl<|RA.nil (by kernel_rfl)<|gg _ .none (aQ [1,1,3]) ?_
 ·exact⟨_,C,r,w,by simp[take,bJ,rest,dc,qn],e,u⟩
 refine .dZ rfl rfl<|.nil<|Next.mod rfl<|.sT 10 rfl<|.eD (z':=(([i,k,m,n,o,p],j):JV)) l.length q v (λr e=>?_) B.h
 have G:=e.ap
 rw[show(l++[((jz,oh):JV)]).set l.length ([i,k,m,n,o,p],j)=l++[([i,k,m,n,o,p],j)] by simp]at e
 refine .nil<|Next.mod rfl<|RA.nil (by kernel_rfl)<|gg _ .none (aQ [1,1,3]) ?_
 ·exact⟨_,C,r,w,by simp[take,bJ,rest,dc,qn],e,u⟩
def ka:ByteArray:=⟨#[107,105,110,100]⟩
def kA:ByteArray:=⟨#[97]⟩
def kB:ByteArray:=⟨#[98]⟩
def pF:ByteArray:=⟨#[117,115,101,114,115]⟩
def nu:ByteArray:=⟨#[115,101,116,115]⟩
def u6:ByteArray:=⟨#[112,108,97,99,101]⟩
def u4:ByteArray:=⟨#[102,111,117,110,100]⟩
def u5:ByteArray:=⟨#[110,111,100,101,115]⟩
def jZ(ps:List bM)(j:Nat):ByteArray:=((ps[j]?).map λp=>nC p.k).getD ⟨#[]⟩
def sy(ps:List bM)(us:List ByteArray)(n:Nd)(row:List Nat):J:=
 if 3<n.kind then kW [ka,kA,kB] [eG (kb n.kind),mJ n.a,mJ n.b]
 else if n.kind=1 then kW [ka,pF,nu] [eG (kb n.kind),iJ (us.map eG),iJ ((row.map (jZ ps)).map eG)]
 else kW [ka,nu] [eG (kb n.kind),iJ ((row.map (jZ ps)).map eG)]
def pE(ps:List bM)(p:bM)(i:Nat):J:=sy ps p.eR ((p.nodes[i]?).getD ⟨0,⟨#[]⟩,⟨#[]⟩,0,0⟩) ((p.leads[i]?).getD [])
def u3(ps:List bM)(p:bM):J:=kW [u6,u4,u5] [eG (nC p.k),sx p.found,iJ ((List.range p.nodes.length).map (pE ps p))]
def zL:List bM->J
 |[]=>oh
 |p::ps=>u3 (p::ps) p
structure xe(R:aB)(vp:Value)(ps:List aD):Prop where
 rs:RS R 8 aD.enc vp ps
 all:∀p∈ps,p.is R
 small:∀p∈ps,oK 1000000000000000 p.k
 first:∀p,ps[0]? =some p->p.ll.length=p.nodes.length/\p.eR.length<=10000000/\p.nodes.length<=10000000/\∀q∈p.ll,q.2.length<=10000000/\∀j∈q.2,j<ps.length
 kinds:∀p∈ps,∀n∈p.nodes,1<=n.kind/\n.kind<=6
theorem uZ{R:aB}{b a:Value}{l:List JV}{ks:List ByteArray}(h:RS R 6 jU b l)(d:RS R 1 cg a ks)(c:∀p∈l,fZ R p.1 p.2):fZ R [.int .i64 5,.bool false,.int .i64 0,.string ⟨#[]⟩,b,a] (kW ks (l.map (·.2))):=.mk (l:=l) h d c
theorem zM{R:aB}{l:List ByteArray}:∀p∈l.map me,fZ R p.1 p.2:=λp a=>by
 obtain⟨s,_,rfl⟩:=List.mem_map.1 a
 exact qG R s
theorem zN(l:List ByteArray):(l.map me).map (·.2)=l.map eG:=by rw[List.map_map];rfl
theorem Ov(vp:Value)(e:Int)(ps:List aD)(R:aB)(h:xe R vp ps)(B:aD)(h0:ps[0]? =some B)(i:Nat)(n:Nd)(S:B.nodes[i]? =some n):
  Spec prog 162 [.agg [vp,.int .i64 e].toArray,iN i] R [] λu H'=>∃T,H'=[T]/\∃cs,u=.agg cs.toArray/\fZ (sg T) cs (pE (ps.map aD.plain) B.plain i):=by
 have a5:=h.rs
 have g1:=a5.ap
 have d6:=aO h0
 have K:=h.all B d6
 have e1:=h.small
 have d2:=h.all
 obtain⟨d5,e3,d7,c3⟩:=h.first B h0
 have f5:ca B.enc:=⟨K.cT⟩
 obtain⟨k0,fo,vn,a7,V,s,vl,U,nm⟩:=B
 have c1:RS R 5 Nd.enc vn a7:=K.n
 have c7:RS R 1 cg V s:=K.u
 have b9:RS R 1 dW vl U:=K.l.rs
 have b8:=K.l.all
 simp only at S d5 e3 d7 c3 b8
 have e9:=(List.getElem?_eq_some_iff.1 S).1
 obtain⟨⟨v,r⟩,a6⟩:∃q,U[i]? =some q:=⟨_,aX (by omega)⟩
 have c5:=aO a6
 have hr:RS R 1 cM v r:=b8 _ c5
 obtain⟨d9,c4⟩:=c3 _ c5
 simp only at d9 c4
 have f6:=c1.ap
 have f7:=c7.ap
 have f8:=b9.ap
 have f9:=hr.ap
 have hJ:pE (ps.map aD.plain) (aD.plain ⟨k0,fo,vn,a7,V,s,vl,U,nm⟩) i=sy (ps.map aD.plain) s n r:=by
  unfold pE aD.plain
  simp only[S,Option.getD_some,List.getElem?_map,a6,Option.map_some]
 rw[hJ]
 have H:sy (ps.map aD.plain) s n r=if 3<n.kind then kW [ka,kA,kB] [eG (kb n.kind),mJ n.a,mJ n.b]
  else if n.kind=1 then kW [ka,pF,nu] [eG (kb n.kind),iJ (s.map eG),iJ ((r.map (jZ (ps.map aD.plain))).map eG)]
  else kW [ka,nu] [eG (kb n.kind),iJ ((r.map (jZ (ps.map aD.plain))).map eG)]:=rfl
 have c6:∀m,((r.take m).map (jZ (ps.map aD.plain))).length<=10000000:=λm=>by rw[List.length_map,List.length_take];omega
 generalize sy (ps.map aD.plain) s n r=jj at *
 obtain⟨w,hw⟩:∃w,w=kb n.kind:=⟨_,rfl⟩
 rw[<-hw]at H
 refine Spec.gu (H':=[[],[]]) (by simp) ?_
 refine Spec.body Tryz.func162 rfl Tryz.results162 Tryz.ntmps162 rfl ?_
 refine .sr ?_
 refine .bY rfl (λb2=>?_)
 refine .bX (λb4=>?_)
 refine .z<|.fa rfl<|.lo rfl ?_
 refine .bx 0 a5 h0 (λg3=>?_)
 refine .q (.aM rfl) ?_
 refine .bX (λb5=>?_)
 refine .bP rfl rfl<|.z<|.fa rfl<|.lo rfl<|.mo rfl ?_
 refine .bx i c1 S (λg4=>?_)
 refine .q (.aM rfl) ?_
 refine .bX (λb6=>?_)
 refine .bP rfl rfl<|.z ?_
 refine .bX (λC=>?_)
 refine .z<|.fa rfl<|.lo rfl ?_
 refine .aY (NI n.kind _) (λu g=>?_)
 subst g
 rw[<-hw]
 refine .aY (wX w _) (λu g=>?_)
 subst g
 refine .call [0,4,4] (nI C 0 (sZ) (sZ) [] [] [] [] OS.nil OS.nil (by simp) ka (jt w) (eG w) rfl _) (λu H' g=>?_)
 obtain⟨a9,a8,Z,W,rfl,Q,O⟩:=g
 have f4:=Q.ap
 have f3:=O.ap
 conv=>arg 8;simp only[rest,bJ,List.cons_append,List.nil_append]
 refine .zs<|.sr<|.fa rfl<|.lo rfl<|.q .geq<|.zn ?_
 refine .cond rfl (λh1=>?_) λh1=>?_
 have a2:3<n.kind:=by have h8:=bS h1;omega
 rw[if_pos a2]at H
 refine .sr<|.fa rfl<|.lo rfl ?_
 refine .q .cR ?_
 refine .call [0,0,0] (nI C 5 a9 a8 _ _ Z W Q O (by simp) kA (jn n.a) (mJ n.a) rfl _) (λu H' g=>?_)
 obtain⟨N,M,F,D,rfl,x,t⟩:=g
 have d0:=x.ap
 have c9:=t.ap
 conv=>arg 8;simp only[rest,bJ,List.cons_append,List.nil_append]
 refine .z<|.fa rfl<|.lo rfl ?_
 refine .q .cR ?_
 refine .call [0,0,0] (nI C 5 N M _ _ F D x t (by simp) kB (jn n.b) (mJ n.b) rfl _) (λu H' g=>?_)
 obtain⟨e7,e6,a0,Y,rfl,J,I⟩:=g
 have e5:=J.ap
 have e4:=I.ap
 conv=>arg 8;simp only[rest,bJ,List.cons_append,List.nil_append]
 refine .z<|.fa rfl<|.q (.loadT rfl) ?_
 refine .bP rfl rfl<|.zn ?_
 refine .ret (aH (bp _ (.one (.fB rfl rfl)) (bf.one [1,1] _) ?_))
 ·refine⟨_,rfl,_,rfl,?_⟩
  rw[H]
  exact uZ (l:=[(jt w,eG w),(jn n.a,mJ n.a),(jn n.b,mJ n.b)]) (ks:=[ka,kA,kB]) (J.rs λp hp=>by simp[sg,take,bJ,hp]) (I.rs λp hp=>by simp[sg,take,bJ,hp]) λp hp=>by
   simp only[List.mem_cons,List.not_mem_nil,or_false]at hp
   rcases hp with rfl|rfl|rfl
   ·exact qG _ w
   ·exact zK _ n.a
   ·exact zK _ n.b
 have a2:¬3<n.kind:=by have:=bA h1;omega
 rw[if_neg a2]at H
 refine .kn<|.seq ?_
 refine bz.cS [(1,_),(2,_),(4,_),(5,_),(7,_)] kE.c.c.c.c.c (X:=List JV×List ByteArray×Value×Value×ay×ay×ay) (λy=>OS 219 6 jU y.2.2.1 y.1 y.2.2.2.2.1/\OS 9 1 cg y.2.2.2.1 y.2.1 y.2.2.2.2.2.1/\(∀p∈y.1,fZ (sg y.2.2.2.2.2.2) p.1 p.2)/\y.1.map (·.2)=(if n.kind=1 then [eG w,iJ (s.map eG)]else [eG w])/\y.2.1=if n.kind=1 then [ka,pF]else [ka]) (λy E=>E) (λy=>[qn C 5 y.2.2.1 y.2.2.2.1,y.2.2.2.2.1,y.2.2.2.2.2.1,y.2.2.2.2.2.2,bl b6 n.enc 199,bl b5 (aD.enc ⟨k0,fo,vn,a7,V,s,vl,U,nm⟩) 95,bl b4 jz 219,bl b2 [vp,.int .i64 e] 81]) ?_ ?_
 refine .sr<|.fa rfl<|.lo rfl<|.q .bQ<|.zn ?_
 refine .cond rfl (λh2=>?_) λh2=>?_
 have L:n.kind=1:=by simpa using h2
 refine .region<|.fa rfl<|.lo rfl ?_
 refine .cO ((BP V s R c7 (by omega)).weaken cZ) (λu d1 g=>?_)
 obtain⟨vo,rfl,A⟩:=g
 have g0:=A.ap
 refine .call [1,1,1] (nI C 5 a9 a8 _ _ Z W Q O (by simp) pF (ma vo) (iJ ((s.map me).map (·.2))) rfl _) (λu H' g=>?_)
 obtain⟨N,M,F,D,rfl,x,t⟩:=g
 have d0:=x.ap
 have c9:=t.ap
 conv=>arg 8;simp only[rest,bJ,List.cons_append,List.nil_append]
 refine .nil ?_
 ·exact aF (_,_,N,M,F,D,d1) ⟨x,t,λp hp=>by
   simp only[List.nil_append,List.cons_append,List.mem_cons,List.not_mem_nil,or_false]at hp
   rcases hp with rfl|rfl
   ·exact qG _ w
   ·exact uY A.sg zM,by rw[if_pos L];simp only[List.nil_append,List.cons_append,List.map_cons,List.map_nil,zN],by rw[if_pos L];rfl⟩ (((((kE.d rfl).d rfl).d rfl).d rfl).d rfl) rH
 have L:n.kind≠1:=by simpa using h2
 refine .skip ?_
 ·exact aF (_,_,a9,a8,Z,W,[]) ⟨Q,O,λp hp=>by
   simp only[List.nil_append,List.mem_cons,List.not_mem_nil,or_false]at hp
   subst hp
   exact qG _ w,by rw[if_neg L];rfl,by rw[if_neg L];rfl⟩ (((((kE.d rfl).d rfl).d rfl).d rfl).d rfl) (bf.eL.trans (aQ [1,1,1,0,0,0,0,0]))
 intro y hy
 obtain⟨lj,ks,N,M,F,D,Tx⟩:=y
 obtain⟨x,t,b3,a4,a3⟩:=hy
 simp only at x t b3 a4 a3⊢
 have d0:=x.ap
 have c9:=t.ap
 have f1:lj.length<=2:=by
  have:=congrArg List.length a4
  rw[List.length_map]at this
  rw[this];split<;>simp
 have f0:ks.length<=2:=by rw[a3];split<;>simp
 refine av<|.sr<|.ag rfl<|.zs<|.sr<|.fa rfl<|.lo rfl<|.mo rfl ?_
 refine .bx i b9 a6 (λg5=>?_)
 refine .lo rfl<|.q (.bH hr) ?_
 refine .mo rfl<|.zn<|.block ?_
 refine .cz [(2,_),(4,_),(7,_),(49,_),(50,_)] (X:=Nat×Value×ay) (λy=>y.1<=r.length/\OS 9 1 cg y.2.1 ((r.take y.1).map (jZ (ps.map aD.plain))) y.2.2) (λy E=>(51,iN y.1)::(8,y.2.1)::E) (λy G=>y.2.2::G) (λy=>r.length-y.1) (0,sZ,[]) ⟨Nat.zero_le _,OS.nil⟩ kE.c.c.c.c.c.c.c bf.eL ?_
 rintro⟨m,vo,To⟩ ⟨hm,A⟩
 simp only at hm A⊢
 have io:=A.ap
 refine .sr<|.q .lss<|.zs ?_
 refine .cond rfl (λh3=>?_) λh3=>?_
 have c0:m<r.length:=cb h3
 obtain⟨j,hj⟩:=bL c0
 have d3:=c4 j (aO hj)
 obtain⟨q,hq⟩:=bL d3
 have c2:=aO hq
 have iq:ca q.enc:=⟨(d2 q c2).cT⟩
 obtain⟨s1,s2,s3⟩:=e1 q c2
 have e2:=dG hj
 have d4:jZ (ps.map aD.plain) j=nC q.k:=by unfold jZ;rw[List.getElem?_map,hq];rfl
 have f2:=c6 m
 refine .kn<|.seq<|.block<|.sr ?_
 refine .bx m hr hj (λg6=>?_)
 refine .lo rfl<|.az rfl<|.region<|.mo rfl<|.fa rfl<|.lo rfl<|.mo rfl ?_
 refine .bx j a5 hq (λg7=>?_)
 refine .q (.aM rfl) ?_
 refine .aY (Al q.k [.bool q.found,q.vn,q.vu,q.vl,iN q.number] (ie:=⟨λu g=>iq.h u (by simp only[aD.enc];simp only[List.mem_cons,List.not_mem_nil,or_false]at g⊢;simp[g])⟩) rfl s1 s2 s3 _) (λu g=>?_)
 subst g
 rw[<-d4]
 refine .gM (λe8=>?_)
 refine .append A (RS.lits (xs:=[jZ (ps.map aD.plain) j]) rfl (by simp[cg]) (by simp[cg,ap])) (by simp only[List.length_singleton];omega) (λv5 T5 c8=>?_)
 rw[<-List.map_singleton (f:=jZ (ps.map aD.plain)), <-List.map_append, <-e2]at c8
 refine .ag rfl<|.nil<|aV<|av<|.region ?_
 refine .ia (m+1) .add ?_
 refine .mo rfl<|.nil ?_
 ·exact aW (m+1,v5,T5) ⟨c0,c8⟩ (by simp only;omega) kE.c.c.c.c.c.c.c (bf.drop [0] _)
 rw[dw (gd h3)]at A
 have e0:=c6 r.length
 rw[List.take_length]at e0
 refine .exit<|bm<|bs<|bo<|av<|.sr<|.mo rfl ?_
 refine .cO (BP vo _ _ A.rx (by omega)) (λu b0 g=>?_)
 obtain⟨vs,rfl,b1⟩:=g
 have g2:=b1.ap
 refine .call [2,2,2] (nI C 5 N M _ _ F D x t (by omega) nu (ma vs) (iJ (((r.map (jZ (ps.map aD.plain))).map me).map (·.2))) rfl _) (λu H' g=>?_)
 obtain⟨e7,e6,a0,Y,rfl,J,I⟩:=g
 have e5:=J.ap
 have e4:=I.ap
 conv=>arg 8;simp only[rest,bJ,List.cons_append,List.nil_append]
 refine .z<|.fa rfl<|.q (.loadT rfl) ?_
 refine .bP rfl rfl<|.zn ?_
 refine .ret (bp _ (.one (.fB rfl rfl)) (bf.one [1,1,1,2] _) ?_)
 ·refine⟨_,rfl,_,rfl,?_⟩
  have a1:=uZ (R:=sg (a0++(Y++(b0++Tx)))) (J.rs λp hp=>by simp[sg,hp]) (I.rs λp hp=>by simp[sg,hp]) λp hp=>by
   rcases List.mem_append.1 hp with hp|hp
   ·exact(b3 p hp).mono λb o hb=>by
     have:(b,o)∈Tx:=hb
     simp[sg,this]
   ·rw[List.mem_singleton]at hp
    subst hp
    exact uY (b1.rs λp hp=>by simp[sg,hp]) zM
  rw[H]
  rw[List.map_append,a4,a3,List.map_singleton,zN]at a1
  have d8:kW ((if n.kind=1 then [ka,pF]else [ka])++[nu]) ((if n.kind=1 then [eG w,iJ (s.map eG)]else [eG w])++[iJ ((r.map (jZ (ps.map aD.plain))).map eG)])=if n.kind=1 then kW [ka,pF,nu] [eG w,iJ (s.map eG),iJ ((r.map (jZ (ps.map aD.plain))).map eG)]else kW [ka,nu] [eG w,iJ ((r.map (jZ (ps.map aD.plain))).map eG)]:=by
   by_cases hk:n.kind=1<;>simp[hk]
  rw[d8]at a1
  exact a1.mono λb o hb=>by
   have:(b,o)∈a0++(Y++(b0++Tx)):=hb
   simpa[sg,take,bJ]using this
theorem RK(C:Value)(e:Int)(ps:List aD)(R:aB)(h:xe R C ps):
  Spec prog 101 [.agg [C,.int .i64 e].toArray] R [] λu H'=>∃T,H'=[T]/\∃cs,u=.agg cs.toArray/\fZ (sg T) cs (zL (ps.map aD.plain)):=by
 have s:=h.rs
 have e4:=s.ap
 have b8:=h.all
 have c7:=h.small
 have b9:=h.first
 have c5:=λj f i n L=>Ov C e ps R h j f i n L
 refine Spec.gu (H':=[[],[],[],[]]) (by simp)<|Spec.body Tryz.func101 rfl Tryz.results101 Tryz.ntmps101 rfl<|.sr ?_
 refine .bY rfl (λb1=>?_)
 refine .bX (λb2=>?_)
 refine .zs<|.sr<|.fa rfl<|.lo rfl<|.q (.bH s)<|.q .bQ<|.zn<|.cond rfl (λH=>?_) λH=>?_
 have h9:(ps.length:Int)=0:=by simpa using H
 have c3:ps=[]:=List.eq_nil_of_length_eq_zero (by omega)
 subst c3
 refine .sr<|.q .cR<|.bP rfl rfl<|.zn ?_
 refine .ret (aH (bp _ (.one (.fB rfl rfl)) (bf.one [] _) ?_))
 ·exact⟨_,rfl,_,rfl,NE _⟩
 have c6:0<ps.length:=by
  have:¬(ps.length:Int)=0:=by simpa using H
  omega
 obtain⟨j,f⟩:=bL c6
 have a5:=aO f
 have a2:=b8 j a5
 obtain⟨s1,s2,s3⟩:=c7 j a5
 obtain⟨_,_,c4,_⟩:=b9 j f
 have c9:ca j.enc:=⟨a2.cT⟩
 have c2:zL (ps.map aD.plain)=u3 (ps.map aD.plain) j.plain:=by
  cases ps with
  |nil=>simp at f
  |cons a l=>
   simp only[List.getElem?_cons_zero,Option.some.injEq]at f
   subst f
   rfl
 rw[c2]
 have a7:=c5 j f
 obtain⟨k,m,t,g,D,O,B,N,A⟩:=j
 have a6:RS R 5 Nd.enc t g:=a2.n
 simp only at c4 a7 s1 s2 s3
 have e3:=a6.ap
 have c1:u3 (ps.map aD.plain) (aD.plain ⟨k,m,t,g,D,O,B,N,A⟩)=kW [u6,u4,u5] [eG (nC k),sx m,iJ ((List.range g.length).map (pE (ps.map aD.plain) (aD.plain ⟨k,m,t,g,D,O,B,N,A⟩)))]:=rfl
 generalize d5:pE (ps.map aD.plain) (aD.plain ⟨k,m,t,g,D,O,B,N,A⟩)=fn at *
 refine .kn<|.sr<|.q .cR ?_
 refine .bX (λb3=>?_)
 refine .bP rfl rfl<|.zs<|.sr<|.fa rfl<|.lo rfl ?_
 refine .bx 0 s f (λe5=>?_)
 refine .fa rfl<|.lo rfl<|.q (.bH a6)<|.mo rfl<|.zn<|.block<|.cz [(1,_),(2,_),(3,_),(17,_)] (X:=Nat×Value×List JV×ay×ay) (λy=>y.1<=g.length/\OS 219 6 jU y.2.1 y.2.2.1 y.2.2.2.1/\(∀p∈y.2.2.1,fZ (sg y.2.2.2.2) p.1 p.2)/\y.2.2.1.map (·.2)=(List.range y.1).map fn) (λy E=>(18,iN y.1)::E) (G:=[bl b2 jz 219,bl b1 [C,.int .i64 e] 81,[],[]]) (λy G=>bl b3 (ma y.2.1) 219::y.2.2.2.1::y.2.2.2.2::G) (λy=>g.length-y.1) (0,sZ,[],[],[]) ⟨Nat.zero_le _,OS.nil,λp hp=>(by cases hp),rfl⟩ kE.c.c.c.c.c (aQ [0,2,2,0,0,0,0]) ?_
 rintro⟨i,vo,M,U,v⟩ ⟨hi,w,K,x⟩
 simp only at hi w K x⊢
 have io:=w.ap
 have d6:M.length=i:=by have:=congrArg List.length x;simpa using this
 refine .sr<|.q .lss<|.zs<|.cond rfl (λI=>?_) λI=>?_
 have a4:i<g.length:=cb I
 obtain⟨n,L⟩:=bL a4
 refine .kn<|.seq<|.block<|.sr<|.mo rfl<|.az rfl<|.cL [6,8] mixed<|.tO 0 rfl (.fieldAddr rfl)<|.tO 1 rfl (.bZ rfl)<|.tO 2 rfl (.aM rfl)<|.tO 3 rfl .move<|.sT 4 rfl<|.cO ((a7 i n L).weaken cZ) (λu a9 d=>?_)
 obtain⟨cs,rfl,J⟩:=d
 have c8:ca cs:=⟨J.cT⟩
 obtain⟨x1,x2,x3,x4,x5,x6,rfl⟩:=QH J.nJ
 refine .nil<|Next.sub<|.sT 5 rfl ?_
 refine .ej (λd4=>?_)
 refine .nil<|Next.sub<|.sT 6 rfl<|.append w (RS.lits (xs:=[(([x1,x2,x3,x4,x5,x6],fn i):JV)]) rfl (by simp[jU]) (by simpa[jU]using c8.h)) (by simp only[List.length_singleton];omega) (λv5 T5 a8=>?_)
 have i5:=a8.ap
 refine .nil<|Next.mod rfl<|.tK 7 rfl (.gz rfl)<|.sT 8 rfl<|.dZ rfl rfl<|.nil<|Next.mod rfl<|RA.nil (by kernel_rfl)<|aV<|av<|.region<|.ia (i+1) .add<|.mo rfl<|.nil ?_
 ·exact aW (i+1,v5,M++[([x1,x2,x3,x4,x5,x6],fn i)],T5,a9++v) ⟨a4,a8,λp hp=>by
   rcases List.mem_append.1 hp with hp|hp
   ·exact(K p hp).mono λb o r=>iM r
   ·rw[List.mem_singleton]at hp
    subst hp
    exact J.mono λb o r=>jO r,by simp only;rw[List.map_append,x,List.range_succ,List.map_append];rfl⟩ (by simp only;omega) kE.c.c.c.c.c ((aQ [2,2,1,1,1,1,1,1]).trans (bf.fq (by simp[take,bJ,dc,ma])))
 have c0:i=g.length:=by have:=bA I;omega
 subst c0
 refine .exit<|bm<|bs<|bo<|av<|.sr ?_
 refine .bX (λF=>?_)
 refine .z<|.fa rfl<|.lo rfl ?_
 refine .bx 0 s f (λe6=>?_)
 refine .q (.aM rfl)<|.aY (Al k [.bool m,t,D,B,iN A] (ie:=⟨λu d=>c9.h u (by simp only[aD.enc];simp only[List.mem_cons,List.not_mem_nil,or_false]at d⊢;simp[d])⟩) rfl s1 s2 s3 _) (λu d=>?_)
 subst d
 refine .aY (wX (nC k) _) (λu d=>?_)
 subst d
 refine .call [0,5,5] (nI F 0 (sZ) (sZ) [] [] [] [] OS.nil OS.nil (by simp) u6 (jt (nC k)) (eG (nC k)) rfl _) (λu H' d=>?_)
 obtain⟨d2,d0,b6,b0,rfl,Z,V⟩:=d
 have e0:=Z.ap
 have d7:=V.ap
 conv=>arg 8;simp only[rest,bJ,List.cons_append,List.nil_append]
 refine .z<|.fa rfl<|.lo rfl ?_
 refine .bx 0 s f (λe7=>?_)
 refine .fa rfl<|.lo rfl ?_
 refine .q .cR ?_
 refine .call [0,0,0] (nI F 5 d2 d0 _ _ b6 b0 Z V (by simp) u4 (jb m) (sx m) rfl _) (λu H' d=>?_)
 obtain⟨d3,d1,b7,b4,rfl,a0,W⟩:=d
 have e1:=a0.ap
 have d8:=W.ap
 conv=>arg 8;simp only[rest,bJ,List.cons_append,List.nil_append]
 refine .z<|.q (.aM rfl)<|.call [0,0,0] (nI F 5 d3 d1 _ _ b7 b4 a0 W (by simp) u5 (ma vo) (iJ (M.map (·.2))) rfl _) (λu H' d=>?_)
 obtain⟨e9,e8,S,Q,rfl,a1,Y⟩:=d
 have e2:=a1.ap
 have d9:=Y.ap
 conv=>arg 8;simp only[rest,bJ,List.cons_append,List.nil_append]
 refine .z<|.fa rfl<|.q (.loadT rfl)<|.bP rfl rfl<|.zn ?_
 refine .ret (bp _ (.one (.fB rfl rfl)) (bf.one [1,1,2,2] _) ?_)
 ·refine⟨_,rfl,_,rfl,?_⟩
  have a3:=uZ (R:=sg (S++(Q++(U++v)))) (a1.rs λp hp=>by simp[sg,hp]) (Y.rs λp hp=>by simp[sg,hp]) λp hp=>by
   simp only[List.nil_append,List.cons_append,List.mem_cons,List.not_mem_nil,or_false]at hp
   rcases hp with rfl|rfl|rfl
   ·exact qG _ _
   ·exact Nz _ _
   ·exact uY (w.rs λp hp=>by simp[sg,hp]) λp hp=>(K p hp).mono λb o r=>by
     have:(b,o)∈v:=r
     simp[sg,this]
  rw[c1]
  simp only[List.nil_append,List.cons_append,List.map_cons,List.map_nil,x]at a3
  exact a3.mono λb o r=>by
   have:(b,o)∈S++(Q++(U++v)):=r
   simpa[sg,take,bJ]using this
theorem Rv{α β:Type}{f:α->β}{a b c:β}{l:List α}(e:[a,b,c]=l.map f):∃x y z,l=[x,y,z]:=by
 cases l with
 |nil=>simp at e
 |cons x l=>cases l with
  |nil=>simp at e
  |cons y l=>cases l with
   |nil=>simp at e
   |cons z l=>cases l with
    |nil=>exact⟨x,y,z,rfl⟩
    |cons w l=>simp at e
theorem ot(R:aB):Spec prog 50 [] R [] λu H'=>u=.bool true/\H'=[]:=by
 refine Spec.body Tryz.func50 rfl Tryz.results50 Tryz.ntmps50 rfl<|.sr<|.ag rfl<|.z<|.q .cR<|.q .cR ?_
 refine .ej (λm=>?_)
 refine .q .cR ?_
 refine .cO (RK _ 0 [(⟨⟨⟨#[100]⟩,⟨#[120]⟩,⟨#[97]⟩⟩,false,sZ,[],sZ,[],sZ,[],0⟩:aD)] _ ⟨(OS.lits (E:=95) (b:=m) rfl (by simp[aD.enc]) (by simp[aD.enc,ap])).rs λp a=>.inr (by
  rw[List.mem_singleton]at a
  subst a
  exact List.mem_cons_self),λp a=>by
  rw[List.mem_singleton]at a
  subst a
  exact⟨RS.fk,RS.fk,NN.nil⟩,λp a=>by
  rw[List.mem_singleton]at a
  subst a
  unfold oK
  decide,λp a=>by
  simp only[List.getElem?_cons_zero,Option.some.injEq]at a
  subst a
  exact⟨rfl,by simp,by simp,λq B=>(by cases B)⟩,λp a n A=>by
  rw[List.mem_singleton]at a
  subst a
  cases A⟩) (λu k C=>?_)
 obtain⟨M,rfl,s⟩:=C
 obtain⟨D,o,F,I,K,Z,l,U,rfl,w,d,y,v⟩:=s.open
 injection w with e1 e2 e3 e4 e5 e6
 subst e1;subst e2;subst e3;subst e4
 have T:=d.ap
 have S:=y.ap
 obtain⟨f,G,H,rfl⟩:=Rv e5
 have r:f.2=eG ⟨#[100,58,120,35,97]⟩:=by
  simp only[List.map_cons,List.cons.injEq]at e5
  rw[<-e5.1]
  rfl
 have e:=v f (by simp)
 rw[r]at e
 obtain⟨Y,j⟩:=f
 simp only at e
 obtain⟨D,o,F,I,h,g,W,V,rfl,x,Q,O,N⟩:=e.open
 injection x with e1 e2 e3 e4 e5 e6
 subst e1;subst e2;subst e3;subst e4
 have i:[((([.int .i64 3,.bool false,.int .i64 0,.string ⟨#[100,58,120,35,97]⟩,h,g],j):List Value×J)),G,H][0]? =some ([.int .i64 3,.bool false,.int .i64 0,.string ⟨#[100,58,120,35,97]⟩,h,g],j):=rfl
 have X:PS k (ei K (0*6)) [.int .i64 3,.bool false,.int .i64 0,.string ⟨#[100,58,120,35,97]⟩,h,g]:=⟨d.pc i⟩
 refine .bX (λL=>?_)
 refine .bP rfl rfl<|.z<|.fa rfl<|.lo rfl<|.q (.bH d)<|.q .bQ<|.mo rfl<|.split (t:=11) rfl (λc=>?_) (λc=>?_)
 refine .gT c<|.fa rfl<|.gT c<|.lo rfl<|.gT c<|.q (.bx 0 d i rfl rfl rfl)<|.gT c<|.fa rfl<|.gT c<|.lo rfl<|.gT c<|.q .dP<|.q (.aT c)<|.az rfl<|.ret (aP rfl ?_)
 ·exact⟨rfl,rfl⟩
 ·simp at c
end Go.Proofs.YtdljmchhecoakaaGreat

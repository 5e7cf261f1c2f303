/- What the law 'MemoChecks' uses. No condition. -/
import Derived.Test.YtdljmchhecoakaaGreatKMemoChecksF
import Derived.Test.YtdljmchhecoakaaGreatKMemoChecksI
import Derived.Test.YtdljmchhecoakaaGreatKMemoChecksL
import Derived.Test.YtdljmchhecoakaaGreatKMemoChecksN
import Derived.Test.YtdljmchhecoakaaGreatKMemoChecksO
import Derived.Test.YtdljmchhecoakaaGreatKMemoChecksP
namespace Go.Proofs.YtdljmchhecoakaaGreat
set_option linter.defProp false
def agh:=@if_neg
def agi:=@if_pos
def agj:=@List.getElem?_map
def agk:=@List.getD_eq_getElem?_getD
def agl:=@List.length_map
def agm:=@List.mem_map
def agn:=@Nat.zero_le
def ago:=@List.drop_zero
def agp:=@List.drop_succ_cons
def agq:=@List.take_succ_cons
def agr:=@List.take_zero
def ags:=@List.nil_append
def agt:=@Nat.le_trans
def agu:=@List.append_nil
def agv:=@List.cons_append
def agw:=@Option.map_some
def agx:=@List.getD_cons_zero
def agy:=@List.getD_cons_succ
def agz:=@List.length_singleton
def agA:=@List.length_filter_le
def agB:=@List.flatMap_append
def agC:=@List.append_assoc
def agD:=@List.map_congr_left
def agE:=@List.length_take
def agF:=@List.eq_nil_of_length_eq_zero
open Tryz
set_option linter.unusedVariables false
set_option linter.unusedSimpArgs false
set_option maxRecDepth 4000
theorem B6{l:List ByteArray}{s:ByteArray}:(l.any λx=>decide (x=s))=decide (s∈l):=by
 rw[Bool.eq_iff_iff,List.any_eq_true,decide_eq_true_eq]
 constructor
 ·rintro⟨x,a,h⟩
  exact cL h▸a
 ·exact λh=>⟨s,h,decide_eq_true rfl⟩
theorem wY{w:List Bool}{k j:Nat}(h:j<w.length):(w++List.replicate k false)[j]? =some (w.getD j false):=by
 rw[List.getElem?_append_left h,agk,bk h]
 rfl
theorem NT{p:bQ}{us:ByteArray}{vf:Nat->Bool}{w:List Bool}{n:Nd}(c:p.nodes[w.length]? =some n)(d:(tree isWord p.nodes (w.length+1)).isSome=true)(f:∀e,e<w.length->w.getD e false=eg p us vf (e+1)):
  eg p us vf (w.length+1)=(if n.kind=1 then decide (us∈p.iC)||(p.leads.getD w.length []).any vf
   else if n.kind=2\/n.kind=3 then(p.leads.getD w.length []).any vf
   else if n.kind=4 then w.getD n.a.toNat false||w.getD n.b.toNat false
   else if n.kind=5 then w.getD n.a.toNat false&&w.getD n.b.toNat false
   else if n.kind=6 then w.getD n.a.toNat false&& !w.getD n.b.toNat false
   else false):=by
 have h:=Pn (t:=none) c d f w.length (by rw[Av];omega)
 rw[<-h]
 unfold pI
 rw[rO,agh (by omega),agi rfl,B6]
theorem Nz{p:List Nd}{i:Nat}{n:Nd}(l:p[i]? =some n)(f:(tree isWord p (i+1)).isSome=true):n.kind=1\/n.kind=2\/n.kind=3\/((n.kind=4\/n.kind=5\/n.kind=6)/\0<=n.a/\n.a.toNat<i/\0<=n.b/\n.b.toNat<i):=by
 obtain⟨r,o⟩:=Option.isSome_iff_exists.1 f
 by_cases e:n.op=true
 ·obtain⟨b,x,y,c,g,d,q,s,_⟩:=nI l e o
  obtain⟨t,_,u,_⟩:=iY _ _ c
  obtain⟨v,_,w,_⟩:=iY _ _ d
  unfold Nd.op at e
  simp only[Bool.or_eq_true,beq_iff_eq]at e
  right;right;right
  refine⟨by omega,by omega,by omega,by omega,by omega⟩
 ·have m:n.op=false:=by simpa using e
  rw[lp l m]at f
  have j:n.leaf isWord=true:=by
   cases h:n.leaf isWord with
   |true=>rfl
   |false=>rw[h]at f;cases f
  unfold Nd.leaf at j
  simp only[Bool.and_eq_true]at j
  by_cases c:n.kind=1
  ·exact .inl c
  ·by_cases g:n.kind=2
   ·exact .inr (.inl g)
   ·by_cases d:n.kind=3
    ·exact .inr (.inr (.inl d))
    ·exfalso
     have k:=j.2
     rw[agh c,agh g,agh d]at k
     cases k
theorem Qt(sb:Nat)(vp:Value)(e:Nat)(us:ByteArray)(vv vb vw vq:Value) [ip:One vp] [iv:One vv] [iq:One vq](p:aY)(v:List Bool)(R:aA)(hp:p.is R)(hv:RS R 1 ee vv v)(pc:PC R (pT sb) [vp,iN e,.string us,vv,vb,vw,vq])
  (c3:p.ll.length=p.nodes.length)(c5:p.nodes.length<=1000000)(F:∀q∈p.ll,∀j∈q.2,j<v.length)(N:∀i,i<p.nodes.length->(tree isWord p.nodes (i+1)).isSome=true):
  Spec prog 94 [pT sb,.agg p.enc.toArray] R [] λu H'=>u=.bool (eg p.plain us (λj=>v.getD j false) p.nodes.length)/\H'=[]:=by
 have e0:cM p.enc:=⟨hp.dl⟩
 obtain⟨Z,W,U,d,S,a0,Q,ll,nm⟩:=p
 have a4:RS R 5 Nd.enc U d:=hp.n
 have c9:RS R 1 jW S a0:=hp.u
 have b0:RS R 1 eD Q ll:=hp.l.rs
 have O:=hp.l.all
 simp only at c3 c5 F N O
 have d9:=a4.le
 obtain⟨vf,J⟩:∃vf:Nat->Bool,vf=λj=>v.getD j false:=⟨_,rfl⟩
 rw[<-J]
 have I:=λ(w:List Bool) (n:Nd) (Y:d[w.length]? =some n) h2 h3=>NT (p:=aY.plain ⟨Z,W,U,d,S,a0,Q,ll,nm⟩) (us:=us) (vf:=vf) (w:=w) (n:=n) Y h2 h3
 have c4:eg (aY.plain ⟨Z,W,U,d,S,a0,Q,ll,nm⟩) us vf 0=false:=by rw[eg]
 have c7:(aY.plain ⟨Z,W,U,d,S,a0,Q,ll,nm⟩).nodes=d:=rfl
 have c8:(aY.plain ⟨Z,W,U,d,S,a0,Q,ll,nm⟩).iC=a0:=rfl
 have c6:∀i q,ll[i]? =some q->(aY.plain ⟨Z,W,U,d,S,a0,Q,ll,nm⟩).leads.getD i []=q.2:=λi q hq=>by
  show((ll.map (·.2)).getD i [])=q.2
  rw[agk,agj,hq];rfl
 generalize aY.plain ⟨Z,W,U,d,S,a0,Q,ll,nm⟩=pl at *
 subst c8
 rw[c7]at I
 refine Spec.body func94 rfl results94 ntmps94 rfl ?_
 refine .sr ?_
 refine .cg rfl (λb3=>?_)
 refine .ag rfl<|.z<|.fa rfl<|.lo rfl<|.q (.bK a4) ?_
 refine .makeSlice (enc:=ee) d.length false rfl rfl (by decide) (by simp[ee,ay]) rfl rfl (by omega) (by omega) (λa5 b5 b6=>?_)
 refine .ag rfl<|.zs<|.sr<|.fa rfl<|.lo rfl<|.q (.bK a4) ?_
 refine .mo rfl<|.zn<|.block ?_
 refine .cX [(0,_),(3,_),(5,_),(13,_),(14,_)] (X:=Nat×List Bool×av) (λy=>y.1<=d.length/\y.2.1.length=y.1/\OS 4 1 ee (.slice (some ⟨a5,0,none⟩) d.length d.length) (y.2.1++List.replicate (d.length-y.1) false) y.2.2/\∀e,e<y.2.1.length->y.2.1.getD e false=eg pl us vf (e+1)) (λy E=>(15,iN y.1)::E) (λy G=>y.2.2::G) (λy=>d.length-y.1) (0,[],b5) ⟨agn _,rfl,by simp only[ags,Nat.sub_zero];exact b6,λe he=>absurd he (by simp)⟩ kE.c.c.c.c.c.c rH ?_
 rintro⟨i,w,T⟩ ⟨hi,C,f,M⟩
 simp only at hi C f M⊢
 refine .sr<|.q .lss<|.zs ?_
 refine .cond rfl (λY=>?_) λY=>?_
 have a3:i<d.length:=cK Y
 obtain⟨n,hn⟩:=ca a3
 obtain⟨⟨vr,a2⟩,a1⟩:∃q,ll[i]? =some q:=⟨_,bk (by omega)⟩
 have b4:=aR a1
 have hr:RS R 1 dv vr a2:=O _ b4
 have H:=F _ b4
 simp only at H
 obtain⟨k,hk⟩:∃k,d.length-i=k+1:=⟨d.length-i-1,by omega⟩
 have c1:d.length-(i+1)=k:=by omega
 rw[hk]at f
 have f1:PC R (eO Q (i*1)) (eD (vr,a2)):=b0.pc a1
 have b1:=Nz hn (N i a3)
 have m:=I w n (by rw[C];exact hn) (by rw[C];exact N i a3) M
 rw[C,c6 i _ a1]at m
 simp only at m
 have r:(w++List.replicate (k+1) false)[i]? =some false:=by
  rw[List.getElem?_append_right (by omega),C,Nat.sub_self];rfl
 have D:∀j∈a2,∀V,(∀b o,R b o->V b o)->Spec prog 152 ([pT sb]++[iN j]) V [] λu H'=>u=.bool (vf j)/\H'=[]:=λj hj V hR=>by
  obtain⟨b,hb⟩:∃b,v[j]? =some b:=⟨_,bk (H j hj)⟩
  have b9:vf j=b:=by rw[J];simp only;rw[agk,hb];rfl
  rw[b9]
  exact Qj sb vp e us vv vb vw vq v j b hb V (hv.mono hR) (pc.mono hR)
 refine .kn<|.seq<|.block<|.sr<|.mo rfl ?_
 refine .bF i a4 hn (λe3=>?_)
 refine .q (.aL rfl) ?_
 refine .cq (λb7=>?_)
 refine .ag rfl<|.bZ rfl rfl<|.z<|.fa rfl<|.lo rfl<|.zn ?_
 refine bu.dc [(0,_),(3,_),(5,_),(13,_),(14,_),(15,_)] kE.c.c.c.c.c.c (X:=av) (λT=>OS 4 1 ee (.slice (some ⟨a5,0,none⟩) d.length d.length) ((w++[eg pl us vf (i+1)])++List.replicate k false) T) (λ_ E=>E) (λT=>[T,bl b3 (aY.enc ⟨Z,W,U,d,S,pl.iC,Q,ll,nm⟩) 95]) ?_ ?_
 refine .block<|.sr<|.q .cr<|.az rfl ?_
 refine .cond rfl (λh2=>?_) λh2=>?_
 have a8:n.kind=1:=by simpa using h2
 rw[agi a8]at m
 refine .dz [20] mixed ?_
 refine .tO 0 rfl .move<|.tO 1 rfl .move<|.tO 2 rfl (.fieldAddr rfl)<|.tO 3 rfl (.cI rfl)<|.tO 4 rfl .move<|.tO 5 rfl (.nilCheck rfl)<|.tO 6 rfl (.fieldAddr rfl)<|.tO 7 rfl (.cI rfl) ?_
 refine .sT 8 rfl ?_
 refine .aQ (PV S pl.iC us _ c9.rx) (λu hu=>?_)
 subst hu
 refine .nil (Next.sub ?_)
 refine .tO 9 rfl .move ?_
 refine RA.split (t:=33) rfl (λh=>?_) (λh=>?_)
 refine .ff 10 rfl rfl h rfl (by kernel_rfl) ?_
 refine .ff 11 rfl rfl h rfl (by kernel_rfl) ?_
 refine .ff 12 rfl rfl h rfl (by kernel_rfl) ?_
 refine .ff 13 rfl rfl h rfl (by kernel_rfl) ?_
 refine .ff 14 rfl rfl h rfl (by kernel_rfl) ?_
 refine .ff 15 rfl rfl h rfl (by kernel_rfl) ?_
 refine .ff 16 rfl rfl h rfl (by kernel_rfl) ?_
 refine .sT 17 rfl ?_
 refine .gF h ?_
 refine .nil (Next.sub ?_)
 refine .tO 18 rfl (.aU h) ?_
 refine RA.bh 19 rfl i f r rfl rfl rfl (by kernel_rfl) (λd2=>?_)
 refine .sT 20 rfl ?_
 refine .gk i f r _ (λs g=>?_)
 rw[jK C]at g
 refine .nil (Next.mod rfl ?_)
 refine RA.nil (by kernel_rfl) ?_
 refine ba ?_
 exact aD s (by
  clear I D J M O F H N
  rw[m]
  first
   |exact g
   |(simp_all;done)) kE.c.c.c.c.c.c (aK [1,1])
 refine .bC 10 rfl rfl h (.fieldAddr rfl) (by kernel_rfl) ?_
 refine .bC 11 rfl rfl h (.cI rfl) (by kernel_rfl) ?_
 refine .bC 12 rfl rfl h .move (by kernel_rfl) ?_
 refine .bC 13 rfl rfl h (.bF i b0 a1 rfl rfl rfl) (by kernel_rfl) ?_
 refine .bC 14 rfl rfl h (.cI rfl) (by kernel_rfl) ?_
 refine .bC 15 rfl rfl h .move (by kernel_rfl) ?_
 refine .bC 16 rfl rfl h .makeFunc (by kernel_rfl) ?_
 refine .sT 17 rfl ?_
 refine .gT h ?_
 refine .aQ (LIM.xp 152 [pT sb] vf vr a2 _ hr.rx λj hj V hR=>D j hj V λb o hb=>hR b o (.inl hb)) (λu hu=>?_)
 subst hu
 refine .nil (Next.sub ?_)
 refine .tO 18 rfl (.aN h) ?_
 refine RA.bh 19 rfl i f r rfl rfl rfl (by kernel_rfl) (λd2=>?_)
 refine .sT 20 rfl ?_
 refine .gk i f r _ (λs g=>?_)
 rw[jK C]at g
 refine .nil (Next.mod rfl ?_)
 refine RA.nil (by kernel_rfl) ?_
 refine ba ?_
 exact aD s (by
  clear I D J M O F H N
  rw[m]
  first
   |exact g
   |(simp_all;done)) kE.c.c.c.c.c.c (aK [1,1])
 have a8:n.kind≠1:=by simpa using h2
 rw[agh a8]at m
 refine .seq<|.sr<|.q .cr<|.az rfl ?_
 refine bu.dc [(0,_),(3,_),(5,_),(6,_),(7,_),(13,_),(14,_),(15,_),(21,_)] kE.c.c.c.c.c.c.c.c.c (X:=Unit) (λ_=>True) (λ_ E=>(44,.bool (decide (n.kind=2\/n.kind=3)))::E) (λ_=>[bl b7 n.enc 199,T,bl b3 (aY.enc ⟨Z,W,U,d,S,pl.iC,Q,ll,nm⟩) 95]) ?_ ?_
 refine .cond rfl (λh3=>?_) λh3=>?_
 refine .skip ?_
 ·exact aD () trivial (kE.c.c.c.c.c.c.c.c.c.cj rfl (by clear m I D F H J b1;grind)) rH
 refine .region<|.q .cr<|.ag rfl<|.nil ?_
 ·exact aD () trivial (kE.c.c.c.c.c.c.c.c.c.cj rfl (by clear m I D F H J b1;grind)) rH
 intro x hx
 refine au ?_
 refine .cond rfl (λh4=>?_) λh4=>?_
 have a9:n.kind=2\/n.kind=3:=cL h4
 rw[agi a9]at m
 refine .region<|.mo rfl<|.mo rfl<|.fa rfl<|.lo rfl<|.mo rfl ?_
 refine .bF i b0 a1 (λe4=>?_)
 refine .lo rfl<|.mo rfl<|.q .makeFunc ?_
 refine .aQ (LIM.xp 152 [pT sb] vf vr a2 _ hr.rx λj hj V hR=>D j hj V λb o hb=>hR b o (.inl hb)) (λu hu=>?_)
 subst hu
 refine .bh i f r (λe5=>?_)
 refine .gk i f r _ (λs g=>?_)
 rw[jK C]at g
 refine .nil<|ba ?_
 exact aD s (by
  clear I D J M O F H N
  rw[m]
  first
   |exact g
   |(simp_all;done)) kE.c.c.c.c.c.c (aK [1,1])
 have a9:¬(n.kind=2\/n.kind=3):=bI h4
 rw[agh a9]at m
 have b8:0<=n.a/\n.a.toNat<i/\0<=n.b/\n.b.toNat<i:=by omega
 obtain⟨d5,d6,d7,d8⟩:=b8
 have a6:=wY (w:=w) (k:=k+1) (j:=n.a.toNat) (by omega)
 have a7:=wY (w:=w) (k:=k+1) (j:=n.b.toNat) (by omega)
 refine .sr<|.q .cr<|.az rfl ?_
 refine .cond rfl (λh5=>?_) λh5=>?_
 refine .region<|.mo rfl<|.mo rfl<|.mo rfl<|.fa rfl<|.lo rfl ?_
 refine .bh n.a.toNat f a6 (λe6=>?_) rfl rfl (by omega)
 refine .lo rfl<|.mo rfl ?_
 refine .split (t:=67) rfl (λK=>?_) (λK=>?_)
 refine .gF K<|.gF K<|.gF K<|.gF K<|.gF K<|.q (.aU K) ?_
 refine .bh i f r (λd3=>?_)
 refine .gk i f r _ (λs g=>?_)
 rw[jK C]at g
 refine .nil<|ba ?_
 exact aD s (by
  clear I D J M O F H N
  rw[m]
  first
   |exact g
   |(simp_all;done)) kE.c.c.c.c.c.c (aK [1,1])
 refine .gT K<|.mo rfl<|.gT K<|.fa rfl<|.gT K<|.lo rfl<|.gT K ?_
 refine .bh n.b.toNat f a7 (λe7=>?_) rfl rfl (by omega)
 refine .gT K<|.lo rfl<|.q (.aN K) ?_
 refine .bh i f r (λd3=>?_)
 refine .gk i f r _ (λs g=>?_)
 rw[jK C]at g
 refine .nil<|ba ?_
 exact aD s (by
  clear I D J M O F H N
  rw[m]
  first
   |exact g
   |(simp_all;done)) kE.c.c.c.c.c.c (aK [1,1])
 refine .sr<|.q .cr<|.az rfl ?_
 refine .cond rfl (λh6=>?_) λh6=>?_
 refine .region<|.mo rfl<|.mo rfl<|.mo rfl<|.fa rfl<|.lo rfl ?_
 refine .bh n.a.toNat f a6 (λe8=>?_) rfl rfl (by omega)
 refine .lo rfl<|.mo rfl ?_
 refine .split (t:=84) rfl (λL=>?_) (λL=>?_)
 refine .gT L<|.mo rfl<|.gT L<|.fa rfl<|.gT L<|.lo rfl<|.gT L ?_
 refine .bh n.b.toNat f a7 (λe9=>?_) rfl rfl (by omega)
 refine .gT L<|.lo rfl<|.q (.aU L) ?_
 refine .bh i f r (λd4=>?_)
 refine .gk i f r _ (λs g=>?_)
 rw[jK C]at g
 refine .nil<|ba ?_
 exact aD s (by
  clear I D J M O F H N
  rw[m]
  first
   |exact g
   |(simp_all;done)) kE.c.c.c.c.c.c (aK [1,1])
 refine .gF L<|.gF L<|.gF L<|.gF L<|.gF L<|.q (.aN L) ?_
 refine .bh i f r (λd4=>?_)
 refine .gk i f r _ (λs g=>?_)
 rw[jK C]at g
 refine .nil<|ba ?_
 exact aD s (by
  clear I D J M O F H N
  rw[m]
  first
   |exact g
   |(simp_all;done)) kE.c.c.c.c.c.c (aK [1,1])
 refine .sr<|.q .cr<|.az rfl ?_
 refine .cond rfl (λh7=>?_) λh7=>?_
 refine .region<|.mo rfl<|.mo rfl<|.mo rfl<|.fa rfl<|.lo rfl ?_
 refine .bh n.a.toNat f a6 (λf0=>?_) rfl rfl (by omega)
 refine .lo rfl<|.mo rfl ?_
 refine .split (t:=101) rfl (λB=>?_) (λB=>?_)
 refine .gT B<|.mo rfl<|.gT B<|.fa rfl<|.gT B<|.lo rfl<|.gT B ?_
 refine .bh n.b.toNat f a7 (λe1=>?_) rfl rfl (by omega)
 refine .gT B<|.lo rfl<|.gT B<|.q .not<|.q (.aU B) ?_
 refine .bh i f r (λd1=>?_)
 refine .gk i f r _ (λs g=>?_)
 rw[jK C]at g
 refine .nil<|ba ?_
 exact aD s (by
  clear I D J M O F H N
  rw[m]
  first
   |exact g
   |(simp_all;done)) kE.c.c.c.c.c.c (aK [1,1])
 refine .gF B<|.gF B<|.gF B<|.gF B<|.gF B<|.gF B<|.q (.aN B) ?_
 refine .bh i f r (λd1=>?_)
 refine .gk i f r _ (λs g=>?_)
 rw[jK C]at g
 refine .nil<|ba ?_
 exact aD s (by
  clear I D J M O F H N
  rw[m]
  first
   |exact g
   |(simp_all;done)) kE.c.c.c.c.c.c (aK [1,1])
 ·exfalso
  clear m I D F H J
  simp_all
 intro x hx
 have d0:OS 4 1 ee (.slice (some ⟨a5,0,none⟩) d.length d.length) ((w++[eg pl us vf (i+1)])++List.replicate k false) x:=hx
 refine ba<|au<|.region ?_
 refine .ia (i+1) .add ?_
 refine .mo rfl<|.nil ?_
 ·exact bp (i+1,w++[eg pl us vf (i+1)],x) ⟨a3,by simp[C],by simp only;rw[c1];exact d0,λe he=>by
   simp only at he⊢
   rw[List.length_append,agz]at he
   rw[rO]
   split
   ·exact M e (by assumption)
   ·rw[agi (by omega),show e=i by omega]⟩ (by simp only;omega) kE.c.c.c.c.c.c rH
 have c0:i=d.length:=by have:=bI Y;omega
 subst c0
 rw[Nat.sub_self]at f
 simp only[List.replicate_zero,agu]at f
 refine .exit<|bD<|bG<|bE<|au<|.sr<|.mo rfl<|.q (.eR f) ?_
 refine .q .gtr<|.mo rfl ?_
 refine .split (t:=114) rfl (λA=>?_) (λA=>?_)
 have b2:0<d.length:=by have:=cL A;omega
 have c2:w[d.length-1]? =some (eg pl us vf d.length):=by
  have Y:=M (d.length-1) (by omega)
  rw[agk,bk (by omega),Option.getD_some,show d.length-1+1=d.length by omega]at Y
  rw[bk (by omega),Y]
 refine .gT A<|.mo rfl<|.gT A<|.mo rfl<|.gT A<|.q (.eR f) ?_
 refine .gT A ?_
 refine .q (.i64 (((d.length-1:Nat)):Int) .sub ⟨by omega,by omega,by omega⟩) ?_
 refine .gT A ?_
 refine .bh (d.length-1) f c2 (λe2=>?_)
 refine .gT A<|.lo rfl<|.q (.aU A) ?_
 refine .az rfl ?_
 refine .ret (aP rfl ?_)
 ·exact⟨rfl,rfl⟩
 have b2:d.length=0:=by have:=bI A;omega
 refine .gF A<|.gF A<|.gF A<|.gF A<|.gF A<|.gF A<|.q (.aN A) ?_
 refine .az rfl ?_
 refine .ret (aP rfl ?_)
 ·exact⟨by rw[b2,c4],rfl⟩
def kQ(ps:List bQ):List Bool:=ps.map (·.found)
def qi(ps:List bQ)(i:Nat):List Bool:=(kQ ps).take i++List.replicate (ps.length-i) false
theorem z9{ps:List bQ}{i:Nat}(h:i<=ps.length):(qi ps i).length=ps.length:=by unfold qi kQ;simp;omega
theorem Aa{ps:List bQ}{i:Nat}{p:bQ}(h:ps[i]? =some p):qi ps (i+1)=(qi ps i).set i p.found:=by
 have c:=(List.getElem?_eq_some_iff.1 h).1
 obtain⟨k,b⟩:∃k,ps.length-i=k+1:=⟨ps.length-i-1,by omega⟩
 have a:(kQ ps)[i]? =some p.found:=by unfold kQ;rw[agj,h];rfl
 unfold qi
 rw[b,jK (by unfold kQ;simp;omega),eo a,show ps.length-(i+1)=k by omega]
theorem OD{ps:List bQ}{i:Nat}{p:bQ}(h:ps[i]? =some p)(a:p.found=false):qi ps (i+1)=qi ps i:=by
 have b:=(List.getElem?_eq_some_iff.1 h).1
 rw[Aa h,a]
 refine tE ?_ (by rw[z9 (by omega)];exact b)
 unfold qi
 rw[agk,List.getElem?_append_right (by simp[kQ];omega),List.getElem?_replicate]
 split<;>rfl
theorem OC(ps:List bQ):qi ps ps.length=kQ ps:=by
 unfold qi kQ
 rw[List.take_of_length_le (by simp),Nat.sub_self,List.replicate_zero,agu]
theorem Ab(ps:List bQ):qi ps 0=List.replicate ps.length false:=by unfold qi;simp
theorem OI(ps:List bQ):QW ps (qi ps 0) []:=⟨by
 have h:items ps (qi ps 0)=[]:=by
  unfold items
  rw[List.map_eq_nil_iff]
  cases hq:jq (qi ps 0)with
  |nil=>rfl
  |cons x l=>
   have:=fP.1 (show x∈jq (qi ps 0) by rw[hq];exact List.mem_cons_self)
   rw[Ab,yD]at this
   cases this
 rw[h],λk b a=>absurd a (by simp)⟩
theorem Ce(ps:List bQ)(i:Nat)(a:List Nat)(j:Nat):(gK ps i a j).length<=i+1:=by
 have b:(lW ps i j).length<=i:=by
  unfold lW
  exact agt (agA _ _) (by simp)
 unfold gK
 rw[List.length_append]
 split
 ·rw[agz];omega
 ·rw[List.length_nil];omega
theorem As{a:List iD}{n:Nat}{f:Nat->List Nat}(h:a.map (·.1.2)=(List.range n).map f){k:Nat}(e:k<n):∃v T,a[k]? =some ((v,f k),T):=by
 have b:=congrArg (λl=>l[k]?) h
 simp only[agj,List.getElem?_range e,agw]at b
 obtain⟨⟨⟨v,r⟩,T⟩,d,c⟩:=Option.map_eq_some_iff.1 b
 simp only at c
 subst c
 exact⟨v,T,d⟩
theorem Ph{a:List iD}{n:Nat}{f g:Nat->List Nat}(h:a.map (·.1.2)=(List.range n).map f){k:Nat}{v:Value}{r:List Nat}{T:av}(b:∀j,j<n->g j=if j=k then r else f j)(c:k<n):(a.set k ((v,r),T)).map (·.1.2)=(List.range n).map g:=by
 rw[List.map_set,h]
 refine List.ext_getElem? λj=>?_
 rw[List.getElem?_set]
 rcases Nat.lt_or_ge j n with hj|hj
 ·rw[agj,agj,List.getElem?_range hj,agw,agw,b j hj]
  by_cases e:k=j
  ·subst e;simp[c]
  ·rw[agh e,agh λh=>e h.symm]
 ·rw[agh (by omega),List.getElem?_eq_none (by simpa using hj),List.getElem?_eq_none (by simpa using hj)]
theorem Ch(ps:List bQ):(λj=>gK ps 0 [] j)=λ_=>[]:=by
 funext j
 unfold gK lW
 simp
theorem Cb(ps:List bQ):(λj=>gK ps ps.length [] j)=fG ps:=by
 funext j
 unfold gK
 rw[B2]
 simp
theorem Mi(n:Nat):((List.replicate n ((((sZ,[]),[]):iD))).flatMap (·.2))=[]:=by
 rw[List.flatMap_eq_nil_iff]
 intro x a
 rw[(List.mem_replicate.1 a).2]
theorem Qp(s:Value)(e:Nat)(us:ByteArray)(ps:List aY)(R:aA)(Q:RS R 8 aY.enc s ps)(c2:∀p∈ps,p.is R)(h0:ps.length<=2000000)(f9:∀p∈ps,p.ll.length<=1000000)(f8:∀p∈ps,∀q∈p.ll,q.2.length<=1000000/\∀j∈q.2,j<ps.length):
  Spec prog 91 [.agg [s,iN e].toArray,.string us] R [] λu H'=>∃sb vv vb vw L LL Ta Tw Tv To,H'=[Ta,Tw,Tv,To,LL.flatMap (·.2)]/\u=pT sb/\One vv/\One vb/\One vw/\QI sb s e us vv vb vw L Ta/\QW (ps.map aY.plain) (kQ (ps.map aY.plain)) L/\OS 4 1 ee vw (kQ (ps.map aY.plain)) Tw/\OS 4 1 ee vv (List.replicate ps.length false) Tv/\oK vb LL To/\LL.map (·.1.2)=(List.range ps.length).map (fG (ps.map aY.plain)):=by
 have i0:=Q.ay
 have g9:=Q.le
 have g3:∀p∈ps,∀u∈p.enc,ay u=true:=λp K=>(c2 p K).dl
 have d1:∀(i:Nat) (p:aY),ps[i]? =some p->(ps.map aY.plain)[i]? =some p.plain:=λi p K=>by rw[agj,K];rfl
 obtain⟨P,Y⟩:∃P,P=ps.map aY.plain:=⟨_,rfl⟩
 have a3:P.length=ps.length:=by rw[Y,agl]
 rw[<-Y]
 rw[<-Y]at d1
 refine Spec.body func91 rfl results91 ntmps91 rfl ?_
 refine .sr ?_
 refine .cg rfl (λM=>?_)
 refine .ag rfl<|.z<|.fa rfl<|.lo rfl<|.q (.bK Q) ?_
 refine .ag rfl<|.zs ?_
 refine bu.dc [(2,_)] kE.c (X:=(Nat×Nat×Nat×Nat)×(av×av×av)) (λy=>OS 4 1 ee (.slice (some ⟨y.1.2.1,0,none⟩) ps.length ps.length) (List.replicate ps.length false) y.2.1/\OS 182 1 eD (.slice (some ⟨y.1.2.2.1,0,none⟩) ps.length ps.length) (List.replicate ps.length ((sZ,[]):fR)) y.2.2.1/\OS 4 1 ee (.slice (some ⟨y.1.2.2.2,0,none⟩) ps.length ps.length) (List.replicate ps.length false) y.2.2.2) (λy E=>(6,.pointer (some ⟨y.1.1,0,none⟩))::E) (λy=>[y.2.2.1,[],iW y.1.1 s e us (.slice (some ⟨y.1.2.1,0,none⟩) ps.length ps.length) (.slice (some ⟨y.1.2.2.1,0,none⟩) ps.length ps.length) (.slice (some ⟨y.1.2.2.2,0,none⟩) ps.length ps.length) (sZ),y.2.2.2,y.2.1,bl M [s,iN e] 81]) ?_ ?_
 refine .dz [] mixed ?_
 refine .tO 0 rfl (.aL rfl)<|.tO 1 rfl .move<|.tO 2 rfl .move<|.tO 4 rfl .move<|.tO 6 rfl .move ?_
 refine RA.QA 3 5 7 rfl rfl rfl (by kernel_rfl) rfl ?_ ?_ ?_
 refine .makeSlice (enc:=ee) ps.length false rfl rfl (by decide) (by simp[ee,ay]) rfl rfl (by omega) (by omega) (λB Tv n=>?_)
 refine .nil (Next.sub ?_)
 refine RA.lN 5 7 rfl rfl (by kernel_rfl) rfl ?_ ?_
 refine .makeSlice (enc:=eD) ps.length ((sZ,[]):fR) rfl rfl (by decide) (by simp[eD,ay]) rfl rfl (by omega) (by omega) (λA w f=>?_)
 refine .nil (Next.sub ?_)
 refine .sT 7 rfl ?_
 refine .makeSlice (enc:=ee) ps.length false rfl rfl (by decide) (by simp[ee,ay]) rfl rfl (by omega) (by omega) (λC Tw g=>?_)
 refine .nil (Next.sub ?_)
 refine .tO 8 rfl .dw ?_
 refine .sT 9 rfl ?_
 refine .cg rfl (λF=>?_)
 refine .nil (Next.sub ?_)
 refine .tO 10 rfl .assign ?_
 refine RA.nil (by kernel_rfl) ?_
 ·exact aD ((F,B,A,C),(Tv,w,Tw)) ⟨n,f,g⟩ kE.c.c (bz.ir.trans (by
   first
    |exact(aK [3,0,0,0,0,0])
    |exact(aK [3,0,0,1,0,0])
    |exact(aK [2,0,0,0,0,0])
    |exact(aK [2,0,0,1,0,0])
    |exact(aK [4,0,0,0,0,0])
    |exact(aK [4,0,0,1,0,0])))
 refine .makeSlice (enc:=ee) ps.length false rfl rfl (by decide) (by simp[ee,ay]) rfl rfl (by omega) (by omega) (λC Tw g=>?_)
 refine .nil (Next.sub ?_)
 refine .sT 5 rfl ?_
 refine .makeSlice (enc:=eD) ps.length ((sZ,[]):fR) rfl rfl (by decide) (by simp[eD,ay]) rfl rfl (by omega) (by omega) (λA w f=>?_)
 refine .nil (Next.sub ?_)
 refine .tO 8 rfl .dw ?_
 refine .sT 9 rfl ?_
 refine .cg rfl (λF=>?_)
 refine .nil (Next.sub ?_)
 refine .tO 10 rfl .assign ?_
 refine RA.nil (by kernel_rfl) ?_
 ·exact aD ((F,B,A,C),(Tv,w,Tw)) ⟨n,f,g⟩ kE.c.c (bz.ir.trans (by
   first
    |exact(aK [3,0,0,0,0,0])
    |exact(aK [3,0,0,1,0,0])
    |exact(aK [2,0,0,0,0,0])
    |exact(aK [2,0,0,1,0,0])
    |exact(aK [4,0,0,0,0,0])
    |exact(aK [4,0,0,1,0,0])))
 refine .makeSlice (enc:=eD) ps.length ((sZ,[]):fR) rfl rfl (by decide) (by simp[eD,ay]) rfl rfl (by omega) (by omega) (λA w f=>?_)
 refine .nil (Next.sub ?_)
 refine RA.lN 3 7 rfl rfl (by kernel_rfl) rfl ?_ ?_
 refine .makeSlice (enc:=ee) ps.length false rfl rfl (by decide) (by simp[ee,ay]) rfl rfl (by omega) (by omega) (λB Tv n=>?_)
 refine .nil (Next.sub ?_)
 refine .sT 7 rfl ?_
 refine .makeSlice (enc:=ee) ps.length false rfl rfl (by decide) (by simp[ee,ay]) rfl rfl (by omega) (by omega) (λC Tw g=>?_)
 refine .nil (Next.sub ?_)
 refine .tO 8 rfl .dw ?_
 refine .sT 9 rfl ?_
 refine .cg rfl (λF=>?_)
 refine .nil (Next.sub ?_)
 refine .tO 10 rfl .assign ?_
 refine RA.nil (by kernel_rfl) ?_
 ·exact aD ((F,B,A,C),(Tv,w,Tw)) ⟨n,f,g⟩ kE.c.c (bz.ir.trans (by
   first
    |exact(aK [3,0,0,0,0,0])
    |exact(aK [3,0,0,1,0,0])
    |exact(aK [2,0,0,0,0,0])
    |exact(aK [2,0,0,1,0,0])
    |exact(aK [4,0,0,0,0,0])
    |exact(aK [4,0,0,1,0,0])))
 refine .makeSlice (enc:=ee) ps.length false rfl rfl (by decide) (by simp[ee,ay]) rfl rfl (by omega) (by omega) (λC Tw g=>?_)
 refine .nil (Next.sub ?_)
 refine .sT 3 rfl ?_
 refine .makeSlice (enc:=ee) ps.length false rfl rfl (by decide) (by simp[ee,ay]) rfl rfl (by omega) (by omega) (λB Tv n=>?_)
 refine .nil (Next.sub ?_)
 refine .tO 8 rfl .dw ?_
 refine .sT 9 rfl ?_
 refine .cg rfl (λF=>?_)
 refine .nil (Next.sub ?_)
 refine .tO 10 rfl .assign ?_
 refine RA.nil (by kernel_rfl) ?_
 ·exact aD ((F,B,A,C),(Tv,w,Tw)) ⟨n,f,g⟩ kE.c.c (bz.ir.trans (by
   first
    |exact(aK [3,0,0,0,0,0])
    |exact(aK [3,0,0,1,0,0])
    |exact(aK [2,0,0,0,0,0])
    |exact(aK [2,0,0,1,0,0])
    |exact(aK [4,0,0,0,0,0])
    |exact(aK [4,0,0,1,0,0])))
 refine .makeSlice (enc:=ee) ps.length false rfl rfl (by decide) (by simp[ee,ay]) rfl rfl (by omega) (by omega) (λC Tw g=>?_)
 refine .nil (Next.sub ?_)
 refine RA.lN 3 5 rfl rfl (by kernel_rfl) rfl ?_ ?_
 refine .makeSlice (enc:=ee) ps.length false rfl rfl (by decide) (by simp[ee,ay]) rfl rfl (by omega) (by omega) (λB Tv n=>?_)
 refine .nil (Next.sub ?_)
 refine .sT 5 rfl ?_
 refine .makeSlice (enc:=eD) ps.length ((sZ,[]):fR) rfl rfl (by decide) (by simp[eD,ay]) rfl rfl (by omega) (by omega) (λA w f=>?_)
 refine .nil (Next.sub ?_)
 refine .tO 8 rfl .dw ?_
 refine .sT 9 rfl ?_
 refine .cg rfl (λF=>?_)
 refine .nil (Next.sub ?_)
 refine .tO 10 rfl .assign ?_
 refine RA.nil (by kernel_rfl) ?_
 ·exact aD ((F,B,A,C),(Tv,w,Tw)) ⟨n,f,g⟩ kE.c.c (bz.ir.trans (by
   first
    |exact(aK [3,0,0,0,0,0])
    |exact(aK [3,0,0,1,0,0])
    |exact(aK [2,0,0,0,0,0])
    |exact(aK [2,0,0,1,0,0])
    |exact(aK [4,0,0,0,0,0])
    |exact(aK [4,0,0,1,0,0])))
 refine .makeSlice (enc:=eD) ps.length ((sZ,[]):fR) rfl rfl (by decide) (by simp[eD,ay]) rfl rfl (by omega) (by omega) (λA w f=>?_)
 refine .nil (Next.sub ?_)
 refine .sT 3 rfl ?_
 refine .makeSlice (enc:=ee) ps.length false rfl rfl (by decide) (by simp[ee,ay]) rfl rfl (by omega) (by omega) (λB Tv n=>?_)
 refine .nil (Next.sub ?_)
 refine .tO 8 rfl .dw ?_
 refine .sT 9 rfl ?_
 refine .cg rfl (λF=>?_)
 refine .nil (Next.sub ?_)
 refine .tO 10 rfl .assign ?_
 refine RA.nil (by kernel_rfl) ?_
 ·exact aD ((F,B,A,C),(Tv,w,Tw)) ⟨n,f,g⟩ kE.c.c (bz.ir.trans (by
   first
    |exact(aK [3,0,0,0,0,0])
    |exact(aK [3,0,0,1,0,0])
    |exact(aK [2,0,0,0,0,0])
    |exact(aK [2,0,0,1,0,0])
    |exact(aK [4,0,0,0,0,0])
    |exact(aK [4,0,0,1,0,0])))
 intro y hy
 obtain⟨⟨sb,B,A,C⟩,⟨Tv,w,Tw⟩⟩:=y
 obtain⟨n,f,g⟩:=hy
 simp only at n f g⊢
 obtain⟨vv,d9⟩:∃v,v=Value.slice (some ⟨B,0,none⟩) ps.length ps.length:=⟨_,rfl⟩
 obtain⟨vb,d8⟩:∃v,v=Value.slice (some ⟨A,0,none⟩) ps.length ps.length:=⟨_,rfl⟩
 obtain⟨vw,e0⟩:∃v,v=Value.slice (some ⟨C,0,none⟩) ps.length ps.length:=⟨_,rfl⟩
 rw[<-d9]at n⊢
 rw[<-d8]at f⊢
 rw[<-e0]at g⊢
 clear d9 d8 e0
 have i1:=n.ay
 have i2:=f.ay
 have i3:=g.ay
 refine au<|.seq<|.sr<|.fa rfl<|.lo rfl<|.q (.bK Q) ?_
 refine .mo rfl<|.zn<|.block ?_
 refine .cX [(6,_),(28,_),(29,_)] (X:=Nat×List dH×List iD×(av×av×av)) (λy=>y.1<=ps.length/\QI sb s e us vv vb vw y.2.1 y.2.2.2.1/\QW P (qi P y.1) y.2.1/\OS 4 1 ee vw (qi P y.1) y.2.2.2.2.1/\oK vb y.2.2.1 y.2.2.2.2.2/\y.2.2.1.map (·.1.2)=(List.range ps.length).map λj=>gK P y.1 [] j) (λy E=>(30,iN y.1)::E) (λy G=>y.2.2.2.2.2::y.2.2.1.flatMap (·.2)::y.2.2.2.1::y.2.2.2.2.1::G) (λy=>ps.length-y.1) (0,[],List.replicate ps.length (((sZ,[]),[]):iD),(iW sb s e us vv vb vw (sZ),Tw,w)) ⟨agn _,⟨_,[],(agu _).symm,OS.nil,by simp⟩,OI P,by simp only;rw[Ab,a3];exact g,⟨by simp only[List.map_replicate];exact f,λq hq=>by rw[(List.mem_replicate.1 hq).2];exact OS.nil⟩,by simp only;rw[Ch];simp[List.map_const']⟩ kE.c.c.c.c (bz.fH (by simp only[Mi];exact .refl _)) ?_
 rintro⟨i,L,LL,⟨Ta,Tw,To⟩⟩ ⟨hi,O,Z,g,D,k⟩
 simp only at hi O Z g D k⊢
 refine .sr<|.q .lss<|.zs ?_
 refine .cond rfl (λh1=>?_) λh1=>?_
 have a4:i<ps.length:=cK h1
 obtain⟨p,K⟩:=ca a4
 have b5:=aR K
 have b4:=c2 p b5
 have a9:=d1 i p K
 have c4:=f8 p b5
 have g0:=f9 p b5
 have h8:cM p.enc:=⟨b4.dl⟩
 have f4:p.plain.leads.flatten=p.ll.flatMap (·.2):=by unfold aY.plain;simp[List.flatMap_def]
 have f5:p.plain.found=p.found:=rfl
 have b0:=Cc a9
 have a5:=Aa a9
 have a6:=OD a9
 rw[f4]at b0
 rw[f5]at a5 a6
 generalize p.plain=pp at *
 obtain⟨k0,I,vn,a0,vu,a1,U,ll,nm⟩:=p
 have c9:RS R 1 eD U ll:=b4.l.rs
 have c8:=b4.l.all
 simp only at b0 a5 a6 c4 g0 c8
 obtain⟨vq,Tq,c1,e9,e7⟩:=O
 have O:QI sb s e us vv vb vw L Ta:=⟨vq,Tq,c1,e9,e7⟩
 have j0:PS Ta (pT sb) [s,iN e,.string us,vv,vb,vw,vq]:=PS.of (E:=206) (fr:=(0,0)) (by rw[c1];simp)
 refine .kn<|.seq<|.block<|.sr<|.mo rfl ?_
 refine .bF i Q K (λi4=>?_)
 refine .q (.aL rfl) ?_
 refine .cq (λV=>?_)
 refine .ag rfl<|.bZ rfl rfl<|.zs<|.sr<|.fa rfl<|.lo rfl<|.q (.bK c9) ?_
 refine .mo rfl<|.zn<|.block ?_
 refine .cX [(6,_),(7,_),(8,_),(28,_),(29,_),(30,_),(36,_),(37,_)] (X:=Nat×List iD×av) (λy=>y.1<=ll.length/\oK vb y.2.1 y.2.2/\y.2.1.map (·.1.2)=(List.range ps.length).map λj=>gK P i ((ll.take y.1).flatMap (·.2)) j) (λy E=>(38,iN y.1)::E) (λy _=>[bl V (aY.enc ⟨k0,I,vn,a0,vu,a1,U,ll,nm⟩) 95,y.2.2,y.2.1.flatMap (·.2),Ta,Tw,Tv,bl M [s,iN e] 81]) (λy=>ll.length-y.1) (0,LL,To) ⟨agn _,D,by simpa using k⟩ kE.c.c.c.c.c.c.c.c.c rH (G:=[]) ?_
 rintro⟨m,LL,To⟩ ⟨hm,D,k⟩
 simp only at hm D k⊢
 refine .sr<|.q .lss<|.zs ?_
 refine .cond rfl (λh2=>?_) λh2=>?_
 have d0:m<ll.length:=cK h2
 obtain⟨⟨vr,H⟩,b6⟩:=ca d0
 have d3:=aR b6
 have hr:RS R 1 dv vr H:=c8 _ d3
 obtain⟨g5,c6⟩:=c4 _ d3
 simp only at g5 c6
 have g6:(ll.take (m+1)).flatMap (·.2)=(ll.take m).flatMap (·.2)++H:=by rw[eo b6,agB];simp
 generalize (ll.take m).flatMap (·.2)=seen0 at *
 refine .kn<|.seq<|.block<|.sr ?_
 refine .bF m c9 b6 (λi5=>?_)
 refine .lo rfl<|.ag rfl<|.z<|.mo rfl<|.q (.bK hr) ?_
 refine .mo rfl<|.zn<|.block ?_
 refine .cX [(6,_),(7,_),(8,_),(28,_),(29,_),(30,_),(36,_),(37,_),(38,_),(42,_),(43,_)] (X:=Nat×List iD×av) (λy=>y.1<=H.length/\oK vb y.2.1 y.2.2/\y.2.1.map (·.1.2)=(List.range ps.length).map λj=>gK P i (seen0++H.take y.1) j) (λy E=>(44,iN y.1)::E) (λy _=>[bl V (aY.enc ⟨k0,I,vn,a0,vu,a1,U,ll,nm⟩) 95,y.2.2,y.2.1.flatMap (·.2),Ta,Tw,Tv,bl M [s,iN e] 81]) (λy=>H.length-y.1) (0,LL,To) ⟨agn _,D,by simpa using k⟩ kE.c.c.c.c.c.c.c.c.c.c.c.c rH (G:=[]) ?_
 rintro⟨j,LL,To⟩ ⟨hj,D,k⟩
 simp only at hj D k⊢
 refine .sr<|.q .lss<|.zs ?_
 refine .cond rfl (λW=>?_) λW=>?_
 have c7:j<H.length:=cK W
 obtain⟨d,a7⟩:=ca c7
 have d6:d<ps.length:=c6 d (aR a7)
 have g2:seen0++H.take (j+1)=(seen0++H.take j)++[d]:=by rw[eo a7,agC]
 generalize seen0++H.take j=seen at *
 obtain⟨vk,Tk,hk⟩:=As k d6
 have J:=Cd P i seen d
 have d5:=λj=>Cg P i seen d j
 have f2:=Ce P i seen d
 obtain⟨r,d2⟩:∃r,r=gK P i seen d:=⟨_,rfl⟩
 rw[<-d2]at hk J f2
 obtain⟨f,a2⟩:=D
 have N:=a2 _ (aR hk)
 simp only at N
 have S:(LL.map (·.1))[d]? =some (vk,r):=by rw[agj,hk];rfl
 have i8:PS To (eO vb (d*1)) (eD (vk,r)):=⟨f.pc S⟩
 have j1:PC R (eO vr (j*1)) (dv d):=hr.pc a7
 obtain⟨L1,L2,a8,g8,d4⟩:=zk hk
 have h6:=N.le
 refine .kn<|.seq<|.block<|.sr ?_
 refine .bF j hr a7 (λi6=>?_)
 refine .lo rfl<|.ag rfl<|.z<|.mo rfl ?_
 refine .nc rfl<|.fa rfl<|.lo rfl<|.mo rfl<|.q (.bF d f.sg S rfl rfl rfl) ?_
 refine .lo rfl<|.q (.bK N.sg) ?_
 refine .ag rfl<|.zs ?_
 refine bu.dc [(6,_),(7,_),(8,_),(12,_),(28,_),(29,_),(30,_),(36,_),(37,_),(38,_),(42,_),(43,_),(44,_)] kE.c.c.c.c.c.c.c.c.c.c.c.c.c (X:=Unit) (λ_=>True) (λ_ E=>(72,.bool (!decide (d∈seen)))::E) (λ_=>[bl V (aY.enc ⟨k0,I,vn,a0,vu,a1,U,ll,nm⟩) 95,To,LL.flatMap (·.2),Ta,Tw,Tv,bl M [s,iN e] 81]) ?_ ?_
 refine .region<|.mo rfl<|.q .cr<|.mo rfl ?_
 refine .split (t:=58) rfl (λa=>?_) (λa=>?_)
 have g4:r=[]:=by
  have h9:=cL a
  exact agF (by omega)
 have b1:(!decide (d∈seen))=true:=by
  rw[g4]at J
  simp only[List.getLast?_nil]at J
  have:¬d∈seen:=λh=>by have:=J.2 h;cases this
  simp[this]
 rw[b1]
 refine .gF a<|.gF a<|.gF a<|.gF a<|.gF a<|.gF a<|.gF a<|.gF a<|.gF a<|.gF a<|.gF a<|.gF a<|.gF a<|.q (.aU a) ?_
 refine .nil ?_
 ·exact aD () trivial kE.c.c.c.c.c.c.c.c.c.c.c.c.c.c rH
 have h7:0<r.length:=by
  have h9:=bI a
  omega
 obtain⟨x,T⟩:∃x,r[r.length-1]? =some x:=⟨_,bk (by omega)⟩
 have i9:PS (LL.flatMap (·.2)) (eO vk ((r.length-1)*1)) (dv x):=⟨(N.pc T).mono λb o hb=>List.mem_flatMap.2 ⟨_,aR hk,hb⟩⟩
 have b1:(!decide (d∈seen))=((x:Int) !=(i:Nat)):=by
  rw[List.getLast?_eq_getElem?,T]at J
  by_cases h:d∈seen
  ·have h2:=J.2 h
   injection h2 with h2
   simp[h,h2]
  ·have h2:¬x=i:=λe=>h (J.1 (by rw[e]))
   have W:¬((x:Int)=(i:Int)):=by omega
   rw[bne_iff_ne.2 W]
   simp[h]
 rw[b1]
 refine .gT a<|.mo rfl<|.gT a<|.nc rfl<|.gT a<|.fa rfl<|.gT a<|.lo rfl<|.gT a<|.mo rfl<|.gT a<|.q (.bF d f.sg S rfl rfl rfl) ?_
 refine .gT a<|.lo rfl<|.gT a<|.mo rfl<|.gT a ?_
 refine .ia (r.length-1) .sub ?_
 refine .gT a<|.q (.bF (r.length-1) N.sg T rfl rfl rfl) ?_
 refine .gT a<|.lo rfl<|.gT a<|.mo rfl<|.gT a<|.q .de<|.q (.aN a) ?_
 refine .nil ?_
 ·exact aD () trivial kE.c.c.c.c.c.c.c.c.c.c.c.c.c.c rH
 intro y hy
 refine au ?_
 refine bu.dc [(6,_),(7,_),(8,_),(28,_),(29,_),(30,_),(36,_),(37,_),(38,_),(42,_),(43,_),(44,_)] kE.c.c.c.c.c.c.c.c.c.c.c.c (X:=List iD×av) (λy=>oK vb y.1 y.2/\y.1.map (·.1.2)=(List.range ps.length).map λj=>gK P i (seen++[d]) j) (λ_ E=>E) (λy=>[bl V (aY.enc ⟨k0,I,vn,a0,vu,a1,U,ll,nm⟩) 95,y.2,y.1.flatMap (·.2),Ta,Tw,Tv,bl M [s,iN e] 81]) ?_ ?_
 refine .cond rfl (λh4=>?_) λh4=>?_
 have b3:¬d∈seen:=by simpa using h4
 refine bu.le (dS.refl _) (bz.fH (H':=[bl V (aY.enc ⟨k0,I,vn,a0,vu,a1,U,ll,nm⟩) 95,To,Tk,L1.flatMap (·.2)++L2.flatMap (·.2),Ta,Tw,Tv,bl M [s,iN e] 81]) (by
  rw[a8]
  simp only[agB,List.flatMap_cons,List.flatten_cons,List.flatten_nil,agu]
  refine .append_left _ (.append_left _ ?_)
  simp only[<-agC]
  refine .append_right _ (.append_right _ (.append_right _ (.append_right _ (.append_right _ ?_))))
  exact List.perm_append_comm)) ?_
 refine .sK [1,1] [14,16] mixed ?_
 conv=>arg 3;simp only[take,rest,bN,agx,agy]
 conv=>arg 5;simp only[take,rest,bN,agx,agy]
 conv=>arg 9;simp only[take,rest,bN,agx,agy]
 refine .tK 0 rfl .move ?_
 refine .tK 1 rfl (.ml rfl) ?_
 refine .tK 2 rfl (.kr rfl) ?_
 refine .tK 3 rfl (.cI rfl)<|.tK 4 rfl .move<|.tO 5 rfl .move<|.tO 6 rfl (.nilCheck rfl)<|.tO 7 rfl (.fieldAddr rfl)<|.tO 8 rfl (.cI rfl)<|.tO 9 rfl .move ?_
 refine .tO 10 rfl (.bF d f.sg S rfl rfl rfl) ?_
 refine .tO 11 rfl (.cI rfl)<|.tO 12 rfl .move ?_
 refine .sT 13 rfl ?_
 refine .jB (λg7=>?_)
 refine .nil (Next.sub ?_)
 refine .sT 14 rfl ?_
 refine .append N (RS.lits (xs:=[i]) rfl (by simp[dv]) (by simp[dv,ay])) (by simp only[agz];omega) (λv5 T5 d7=>?_)
 obtain⟨e1,c5,rfl,_⟩:=d7.shape
 refine .nil (Next.mod rfl ?_)
 refine RA.bh 15 rfl d f S rfl rfl rfl (by kernel_rfl) (λi7=>?_)
 refine .sT 16 rfl ?_
 refine .gk d f S ((.slice e1 (r++[i]).length c5,r++[i]):fR) (λTn e8=>?_)
 refine .nil (Next.mod rfl ?_)
 refine RA.nil (by kernel_rfl) ?_
 ·exact aD (LL.set d ((.slice e1 (r++[i]).length c5,r++[i]),T5),Tn) ⟨⟨by simp only;rw[List.map_set];exact e8,λq hq=>by
    simp only at hq
    rw[d4]at hq
    rcases List.mem_append.1 hq with hq|hq
    ·exact a2 q (by rw[a8];exact List.mem_append_left _ hq)
    ·rcases List.mem_cons.1 hq with rfl|hq
     ·exact d7
     ·exact a2 q (by rw[a8];exact List.mem_append_right _ (List.mem_cons_of_mem _ hq))⟩,by
    simp only
    refine Ph k (λx T=>?_) d6
    rw[d5,d2]
    by_cases e:x=d
    ·subst e;rw[agi ⟨rfl,b3⟩,agi rfl]
    ·rw[agh λh=>e h.1,agh e]⟩ kE.c.c.c.c.c.c.c.c.c.c.c.c (by
    simp only
    rw[d4]
    refine(aK [3,1,1,1,1,1,1,1]).trans (bz.fH ?_)
    simp only[take,rest,bN,agx,agy,agB,List.flatMap_cons,List.flatten_cons,List.flatten_nil,agu,agv,ags]
    refine .cons _ (.append_left _ ?_)
    simp only[<-agC]
    refine .append_right _ (.append_right _ (.append_right _ (.append_right _ (.append_right _ ?_))))
    exact List.perm_append_comm)
 have b3:d∈seen:=by simpa using h4
 refine .skip ?_
 ·exact aD (LL,To) ⟨⟨f,a2⟩,by
    simp only
    rw[k]
    refine agD λx _=>?_
    rw[d5,agh λh=>h.2 b3]⟩ kE.c.c.c.c.c.c.c.c.c.c.c.c rH
 intro x T
 obtain⟨e3,e5⟩:=x
 obtain⟨c0,b7⟩:=T
 simp only at c0 b7⊢
 rw[<-g2]at b7
 refine ba<|au<|.region ?_
 refine .ia (j+1) .add ?_
 refine .mo rfl<|.nil ?_
 ·exact bp (j+1,e3,e5) ⟨c7,c0,b7⟩ (by simp only;omega) kE.c.c.c.c.c.c.c.c.c.c.c.c rH
 have f7:H.length<=j:=by have:=bI W;omega
 rw[dZ f7, <-g6]at k
 refine .exit<|bD<|bG<|bE<|ba<|au<|.region ?_
 refine .ia (m+1) .add ?_
 refine .mo rfl<|.nil ?_
 ·exact bp (m+1,LL,To) ⟨d0,D,k⟩ (by simp only;omega) kE.c.c.c.c.c.c.c.c.c rH
 have g1:ll.length<=m:=by have:=bI h2;omega
 rw[dZ g1]at k
 have k:LL.map (·.1.2)=(List.range ps.length).map λj=>gK P (i+1) [] j:=by rw[k];exact agD λx _=>b0 x
 refine .exit<|bD<|bG<|bE<|au<|.sr<|.fa rfl<|.lo rfl<|.zn ?_
 refine .cond rfl (λh5=>?_) λh5=>?_
 have f6:I=true:=h5
 subst f6
 refine .region<|.mo rfl<|.mo rfl ?_
 refine .call [3,3] (AW sb s e us vv vb vw L Ta Tw O ps _ Q.rx g3 (qi P i) g (by rw[z9 (by omega),a3]) (Y▸Z) i a4 (by omega)) (λu H' hu=>?_)
 obtain⟨e4,e6,e2,rfl,f1,f0,b9⟩:=hu
 rw[<-Y]at b9
 conv=>arg 8;simp only[rest,bN,agv,ags]
 refine .nil<|ba<|au<|.region ?_
 refine .ia (i+1) .add ?_
 refine .mo rfl<|.nil ?_
 ·exact bp (i+1,e2,LL,(e4,e6,To)) ⟨a4,f1,by simp only;rw[a5];exact b9,by simp only;rw[a5];exact f0,D,k⟩ (by simp only;omega) kE.c.c.c.c (aK [3,3,0,0,1,1])
 have f3:I=false:=h5
 subst f3
 refine .skip<|ba<|au<|.region ?_
 refine .ia (i+1) .add ?_
 refine .mo rfl<|.nil ?_
 ·exact bp (i+1,L,LL,(Ta,Tw,To)) ⟨a4,O,by simp only;rw[a6 rfl];exact Z,by simp only;rw[a6 rfl];exact g,D,k⟩ (by simp only;omega) kE.c.c.c.c (aK [1,1,1,1,1,1])
 have c3:i=ps.length:=by have:=bI h1;omega
 rw[c3, <-a3,OC]at Z g
 have k:LL.map (·.1.2)=(List.range ps.length).map (fG P):=by
  rw[k,c3]
  refine agD λx _=>?_
  rw[<-a3]
  exact congrFun (Cb P) x
 refine .exit<|bD<|bG<|bE<|au<|.sr<|.mo rfl<|.az rfl ?_
 refine .ret (br _ (.one (.tmp rfl)) (aK [2,2,2,0,0]) ?_)
 ·exact⟨sb,vv,vb,vw,L,LL,Ta,Tw,Tv,To,rfl,rfl,i1,i2,i3,O,Z,g,n,D,k⟩
structure nQ(ps:List aY)(us:ByteArray):Prop where
 ok:kM (ps.map aY.plain) us
 tr:∀p∈ps,∀i,i<p.nodes.length->(tree isWord p.nodes (i+1)).isSome=true
 nl:∀p∈ps,p.nodes.length<=1000000
 rl:∀p∈ps,∀q∈p.ll,q.2.length<=1000000
 n:ps.length<=2000000
 ed:ol (ps.map aY.plain)<=1000000000
theorem nQ.ll{ps:List aY}{us:ByteArray}(h:nQ ps us):∀p∈ps,p.ll.length=p.nodes.length:=λp c=>by
 have:=h.ok.ln p.plain (agm.2 ⟨p,c,rfl⟩)
 have a:p.plain.leads.length=p.ll.length:=by unfold aY.plain;simp
 have b:p.plain.nodes=p.nodes:=rfl
 rw[a,b]at this
 exact this
theorem nQ.jl{ps:List aY}{us:ByteArray}(h:nQ ps us):∀p∈ps,∀q∈p.ll,∀j∈q.2,j<ps.length:=λp b q c j a=>by
 have:=h.ok.lt p.plain (agm.2 ⟨p,b,rfl⟩) j (List.mem_flatten.2 ⟨q.2,agm.2 ⟨q,c,rfl⟩,a⟩)
 rwa [agl]at this
def fZ(b:Int)(K:Nat)(v:List Bool):List Bool×Nat×Int:=
 if b<1 then([],0,2)else if b<K then([],b.toNat+1,16)else(v,K,0)
theorem N0(l:List Bool):dQ l<=l.length:=List.countP_le_length
theorem ep.more{ps:List bQ}{us:ByteArray}{K k:Nat}{s t:QS}(h:ep ps us K s)(a:jo s.2)(b:ep ps us k t)(d:¬jo t.2):k<K:=by
 rcases Nat.lt_trichotomy k K with h1|h1|h1
 ·exact h1
 ·subst h1
  rw[h.dN b]at a
  exact absurd a d
 ·obtain⟨u,i,f,c⟩:=b.vh h1
  have e:=h.dN f
  subst e
  have:=c.1
  rw[a i]at this
  cases this
theorem Rf(f:Value)(e:Nat)(us:ByteArray)(ps:List aY)(R:aA)(a8:RS R 8 aY.enc f ps)(b8:∀p∈ps,p.is R)(D:nQ ps us)(b:Int)(M:b<=9223372036854775807)(K:Nat)(s:QS)(hK:ep (ps.map aY.plain) us K s)(hs:jo s.2):
  Spec prog 42 [.agg [f,iN e].toArray,.string us,.int .i64 b] R [] λu H'=>∃T,H'=[T]/\∃vo,u=.tuple [vo,.int .i64 ((fZ b K s.1).2.1:Nat),.int .i64 (fZ b K s.1).2.2].toArray/\OS 4 1 ee vo (fZ b K s.1).1 T:=by
 have k7:=a8.ay
 have e8:∀p∈ps,∀u∈p.enc,ay u=true:=λp d=>(b8 p d).dl
 have e2:=D.n
 have e3:=D.ll
 have e0:=D.jl
 have e4:=D.nl
 have j3:=D.tr
 have e7:∀(i:Nat) (p:aY),ps[i]? =some p->(ps.map aY.plain)[i]? =some p.plain:=λi p d=>by rw[agj,d];rfl
 have e5:=Qp f e us ps
 have j6:=AW
 have g8:=D.ed
 have a0:=D.ok
 have I:(ps.map aY.plain).length=ps.length:=agl _
 have d3:∀i,∀k∈fG (ps.map aY.plain) i,k<ps.length:=λi k hk=>by
  have:=(a0.rz hk).1
  rwa [I]at this
 have d4:∀i,(fG (ps.map aY.plain) i).length<=ps.length:=λi=>by
  unfold fG
  refine agt (agA _ _) ?_
  rw[List.length_range,I]
  exact Nat.le_refl _
 have c0:=λk t (h:ep (ps.map aY.plain) us k t)=>(h.inv a0).lH a0
 have d8:=λk t (h:ep (ps.map aY.plain) us k t)=>h.inv a0
 have h8:jm (ps.map aY.plain)<=2000000:=by
  unfold jm
  refine agt (N0 _) ?_
  rw[agl,I]
  exact e2
 have d6:∀(i:Nat) (p:aY) (vf:Nat->Bool),ps[i]? =some p->(im (ps.map aY.plain) us).ex i vf=eg p.plain us vf p.nodes.length:=λi p vf d=>by
  show(match (ps.map aY.plain)[i]? with|none=>false|some p=>eg p us vf p.nodes.length)=_
  rw[e7 i p d];rfl
 obtain⟨P,hP⟩:∃P,P=ps.map aY.plain:=⟨_,rfl⟩
 rw[<-hP]at hK e7 g8 a0 d3 d4 c0 d8 h8 e5 I d6
 have k3:(List.replicate P.length false,kQ P)=(List.replicate P.length false,P.map (·.found)):=rfl
 refine Spec.body func42 rfl results42 ntmps42 rfl<|.sr ?_
 refine .cg rfl (λb3=>?_)
 refine .ag rfl<|.ag rfl<|.ag rfl<|.zs<|.sr<|.mo rfl<|.q .lss<|.zn<|.cond rfl (λh1=>?_) λh1=>?_
 have N:b<1:=cL h1
 refine .sr<|.ag rfl<|.ag rfl<|.az rfl<|.ret (aJ (br _ (.three (.tmp rfl) (.tmp rfl) (.tmp rfl)) (bz.ir.trans (aK [0])) ?_))
 ·exact⟨[],rfl,sZ,by unfold fZ;rw[agi N];rfl,by unfold fZ;rw[agi N];exact OS.nil⟩
 have N:¬b<1:=bI h1
 refine .kn<|.sr<|.q (.aL rfl)<|.mo rfl<|.call [] (e5 _ a8.rx (λp d=>(b8 p d).mono λb o M=>.inl M) e2 (λp d=>by rw[e3 p d];exact e4 p d) (λp d q hq=>⟨D.rl p d q hq,e0 p d q hq⟩)) (λu H' B=>?_)
 obtain⟨w,g,r,l,L,LL,O,Tw,Tv,To,rfl,rfl,i1,i2,i3,Q,J,a3,A,c9,j0⟩:=B
 conv=>arg 8;simp only[rest,bN,agv,ags]
 refine .ag rfl<|.z<|.ag rfl<|.zs<|.block<|.cX [(2,_),(3,_),(9,_)] (X:=Nat×(List Bool×List Bool)×List dH×(av×av×av)) (λy=>ep P us y.1 y.2.1/\(y.1:Int)<=b/\QI w f e us g r l y.2.2.1 y.2.2.2.1/\QW P y.2.1.2 y.2.2.1/\OS 4 1 ee l y.2.1.2 y.2.2.2.2.1/\OS 4 1 ee g y.2.1.1 y.2.2.2.2.2) (λy E=>(10,iN y.1)::E) (λy G=>y.2.2.2.1::y.2.2.2.2.1::y.2.2.2.2.2::G) (λy=>jm P+ol P-y.1) (0,(List.replicate P.length false,kQ P),L,(O,Tw,Tv)) ⟨.start,by simp only;omega,Q,J,a3,by simp only;rw[I];exact A⟩ kE.c.c.c.c rH ?_
 rintro⟨k,⟨v,q⟩,L,⟨O,Tw,Tv⟩⟩ ⟨W,h0,Q,J,a3,A⟩
 simp only at W h0 Q J a3 A⊢
 have k2:=c0 _ _ W
 have d9:=d8 _ _ W
 have f1:v.length=ps.length:=by rw[<-I];exact d9.l1
 have i9:q.length=ps.length:=by rw[<-I];exact d9.l2
 obtain⟨vq,Tq,b7,b2,g2⟩:=Q
 have Q:QI w f e us g r l L O:=⟨vq,Tq,b7,b2,g2⟩
 have i5:=b2.ay
 have l6:PS O (pT w) [f,iN e,.string us,g,r,l,vq]:=PS.of (E:=206) (fr:=(0,0)) (by rw[b7];simp)
 have j1:RS (sg O) 2 dH.enc vq L:=b2.rs λp d=>by rw[b7];exact List.mem_append_right _ d
 refine .seq<|.sr<|.mo rfl<|.nc rfl<|.fa rfl<|.lo rfl<|.aQ (AU vq L _ j1.oA) (λu B=>?_)
 subst B
 refine .q .gtr<|.zn<|.cond rfl (λh2=>?_) λh2=>?_
 have g1:0<L.length:=cK h2
 obtain⟨x,hx⟩:=ca g1
 obtain⟨h9,_,k5⟩:=yL J.p J.h hx
 have k1:k<K:=hK.more hs W λh=>by have:=h9.1;rw[h x.2]at this;cases this
 have j9:=c0 _ _ hK
 refine .kn<|.block<|.seq<|.sr<|.mo rfl<|.mo rfl<|.q .cr<|.zn<|.cond rfl (λh3=>?_) λh3=>?_
 have e1:(k:Int)=b:=by simpa using h3
 refine .sr<|.mo rfl<|.ia (k+1) .add<|.ag rfl<|.ag rfl<|.az rfl<|.ret (aJ (bA (cW (bA (aJ (br _ (.three (.tmp rfl) (.tmp rfl) (.tmp rfl)) (bz.ir.trans (aK [0])) ?_))))))
 ·have d2:b<(K:Int):=by omega
  exact⟨[],rfl,sZ,by unfold fZ;rw[agh N,agi d2];simp only;rw[<-e1];rfl,by unfold fZ;rw[agh N,agi d2];exact OS.nil⟩
 have e1:(k:Int)≠b:=by simpa using h3
 refine .kn<|.sr<|.mo rfl<|.ia (k+1) .add<|.ag rfl<|.z<|.mo rfl<|.call [0,0] (Qq w f e us g r l L O Tw Q _ P q a3 J x hx) (λu H' B=>?_)
 obtain⟨Y,b0,a9,rfl,rfl,a5,b5,b6,e6,j7⟩:=B
 obtain⟨xa,i⟩:=x
 simp only at e6 j7 b5 b6
 conv=>arg 8;simp only[rest,bN,agv,ags]
 have d7:i<ps.length:=by omega
 obtain⟨bi,a7⟩:∃b,v[i]? =some b:=⟨_,bk (by omega)⟩
 have j4:v.getD i false=bi:=by rw[agk,a7];rfl
 obtain⟨p,d⟩:=ca d7
 have V:=aR d
 have k6:cM p.enc:=⟨e8 p V⟩
 have g9:=d6 i p (λj=>v.getD j false) d
 obtain⟨c3,f4,d0,c6,g3⟩:=a5
 have a5:QI w f e us g r l a9 Y:=⟨c3,f4,d0,c6,g3⟩
 have i6:=c6.ay
 have j8:PS Y (pT w) [f,iN e,.string us,g,r,l,c3]:=PS.of (E:=206) (fr:=(0,0)) (by rw[d0];simp)
 have F:=ep.step W e6
 have i4:sG P us (v,q) i=if v.getD i false|| !(im P us).ex i (λj=>v.getD j false)then(v,q.set i false)else(v.set i true,(fG P i).foldl (gH (v.set i true)) (q.set i false)):=rfl
 rw[i4,j4,g9]at F
 refine .ag rfl<|.zs<|.seq ?_
 refine bu.dc [(2,_),(3,_),(9,_),(10,_),(11,_)] kE.c.c.c.c.c (X:=Unit) (λ_=>True) (λ_ E=>(50,.bool (bi|| !eg p.plain us (λj=>v.getD j false) p.nodes.length))::E) (λ_=>[Y,b0,Tv,To,LL.flatMap (·.2),bl b3 [f,iN e] 81]) ?_ ?_
 refine .region<|.mo rfl<|.nc rfl<|.fa rfl<|.lo rfl<|.mo rfl ?_
 refine .bh i A a7 (λk8=>?_)
 refine .lo rfl<|.mo rfl<|.split (t:=41) rfl (λa=>?_) (λa=>?_)
 refine .gF a<|.gF a<|.gF a<|.gF a<|.gF a<|.gF a<|.gF a<|.gF a<|.q (.aU a)<|.nil ?_
 ·exact aD () trivial (kE.c.c.c.c.c.cj rfl (by rw[a];rfl)) rH
 refine .gT a<|.mo rfl<|.gT a<|.fa rfl<|.gT a<|.lo rfl<|.gT a<|.mo rfl<|.gT a ?_
 refine .bF i a8 d (λk9=>?_)
 refine .gT a<|.q (.aL rfl)<|.gT a<|.aQ (Qt w f e us g r l c3 p v _ ((b8 p V).mono λb o M=>.inl M) (A.sg.oA) (j8.h.mono λb o M=>.inr (by simp[sg]at M;simp[M])) (e3 p V) (e4 p V) (λq hq j hj=>by rw[f1];exact e0 p V q hq j hj) (j3 p V)) (λu B=>?_)
 subst B
 refine .gT a<|.q .not<|.q (.aN a)<|.nil ?_
 ·exact aD () trivial (kE.c.c.c.c.c.cj rfl (by rw[a];rfl)) rH
 intro y hy
 refine au<|.cond rfl (λh4=>?_) λh4=>?_
 rw[h4]at F
 simp only[if_true]at F
 refine .exit<|bD<|bE ?_
 ·exact bp (k+1,(v,q.set i false),a9,(Y,b0,Tv)) ⟨F,by simp only;omega,a5,b6,b5,A⟩ (by simp only;omega) kE.c.c.c.c rH
 rw[h4]at F
 simp only[Bool.false_eq_true,if_false]at F
 obtain⟨vk,Tk,hk⟩:=As j0 d7
 have c5:=c9.1
 have a2:=c9.2 _ (aR hk)
 simp only at a2
 have i7:One vk:=a2.ay
 have e9:(LL.map (·.1))[i]? =some (vk,fG P i):=by rw[agj,hk];rfl
 have l4:PS To (eO r (i*1)) (eD (vk,fG P i)):=⟨c5.pc e9⟩
 have g7:=d3 i
 have k0:=d4 i
 generalize fG P i=row at *
 obtain⟨C,c2⟩:∃C,C=v.set i true:=⟨_,rfl⟩
 rw[<-c2]at F
 have k4:C.length=ps.length:=by rw[c2,List.length_set];exact f1
 have f0:RS (sg (LL.flatMap (·.2))) 1 dv vk row:=a2.rs λp d=>List.mem_flatMap.2 ⟨_,aR hk,d⟩
 refine .kn<|.sr<|.mo rfl<|.nc rfl<|.fa rfl<|.lo rfl<|.mo rfl ?_
 refine .bh i A a7 (λl0=>?_)
 refine .gk i A a7 true (λf6 b4=>?_)
 rw[<-c2]at b4
 refine .z<|.mo rfl<|.nc rfl<|.fa rfl<|.lo rfl<|.mo rfl<|.q (.bF i c5.sg e9 rfl rfl rfl)<|.lo rfl<|.q (.bK a2.sg)<|.mo rfl<|.zn<|.block<|.cX [(2,_),(3,_),(9,_),(10,_),(63,_),(64,_)] (X:=Nat×List Bool×List dH×(av×av)) (λy=>y.1<=row.length/\y.2.1=(row.take y.1).foldl (gH C) (q.set i false)/\QI w f e us g r l y.2.2.1 y.2.2.2.1/\QW P y.2.1 y.2.2.1/\OS 4 1 ee l y.2.1 y.2.2.2.2) (λy E=>(65,iN y.1)::E) (λy G=>y.2.2.2.1::y.2.2.2.2::G) (λy=>row.length-y.1) (0,q.set i false,a9,(Y,b0)) ⟨agn _,rfl,a5,b6,b5⟩ kE.c.c.c.c.c.c.c rH ?_
 rintro⟨m,H,L3,⟨Z,b1⟩⟩ ⟨hm,a1,S,a6,a4⟩
 simp only at hm a1 S a6 a4⊢
 have i0:H.length=ps.length:=by rw[a1,wh,List.length_set];exact i9
 obtain⟨f2,f5,d1,c7,g4⟩:=S
 have S:QI w f e us g r l L3 Z:=⟨f2,f5,d1,c7,g4⟩
 have i8:=c7.ay
 have l7:PS Z (pT w) [f,iN e,.string us,g,r,l,f2]:=PS.of (E:=206) (fr:=(0,0)) (by rw[d1];simp)
 refine .sr<|.q .lss<|.zs<|.cond rfl (λh5=>?_) λh5=>?_
 have c1:m<row.length:=cK h5
 obtain⟨t,ht⟩:=ca c1
 have j2:t<ps.length:=g7 t (aR ht)
 have l5:PS (LL.flatMap (·.2)) (eO vk (m*1)) (dv t):=⟨f0.pc ht⟩
 obtain⟨bt,d5⟩:∃b,C[t]? =some b:=⟨_,bk (by omega)⟩
 have j5:C.getD t false=bt:=by rw[agk,d5];rfl
 have U:(row.take (m+1)).foldl (gH C) (q.set i false)=if bt then H else H.set t true:=by
  rw[eo ht,List.foldl_append, <-a1]
  show gH C H t=_
  unfold gH
  rw[j5]
 refine .kn<|.seq<|.block<|.sr<|.q (.bF m f0 ht rfl rfl rfl)<|.lo rfl<|.ag rfl<|.z<|.mo rfl<|.nc rfl<|.fa rfl<|.lo rfl<|.mo rfl ?_
 refine .bh t b4 d5 (λl3=>?_)
 refine .lo rfl<|.q .not<|.zn<|.cond rfl (λh6=>?_) λh6=>?_
 have b9:bt=false:=by simpa using h6
 rw[b9]at U
 simp only[Bool.false_eq_true,if_false]at U
 refine .region<|.mo rfl<|.mo rfl<|.call [0,0] (j6 w f e us g r l L3 Z b1 S ps _ a8.rx e8 H a4 i0 (hP▸a6) t j2 (by omega)) (λu H' B=>?_)
 obtain⟨f3,f7,L4,rfl,g6,g5,c8⟩:=B
 rw[<-hP]at c8
 conv=>arg 8;simp only[rest,bN,agv,ags]
 refine .nil<|ba<|au<|.region<|.ia (m+1) .add<|.mo rfl<|.nil ?_
 ·exact bp (m+1,H.set t true,L4,(f3,f7)) ⟨c1,U.symm,g6,c8,g5⟩ (by simp only;omega) kE.c.c.c.c.c.c.c rH
 have b9:bt=true:=by simpa using h6
 rw[b9]at U
 simp only[if_true]at U
 refine .skip<|ba<|au<|.region<|.ia (m+1) .add<|.mo rfl<|.nil ?_
 ·exact bp (m+1,H,L3,(Z,b1)) ⟨c1,U.symm,S,a6,a4⟩ (by simp only;omega) kE.c.c.c.c.c.c.c rH
 have h7:row.length<=m:=by have:=bI h5;omega
 rw[dZ h7]at a1
 refine .exit<|bD<|bG<|bE<|ba ?_
 ·exact bp (k+1,(C,H),L3,(Z,b1,f6)) ⟨by rw[a1];exact F,by simp only;omega,S,a6,a4,b4⟩ (by simp only;omega) kE.c.c.c.c rH
 have g0:L=[]:=agF (by have:=bI h2;omega)
 obtain⟨f8,f9⟩:=hK.last hs W (MN J.p g0)
 have c4:¬b<(K:Int):=by omega
 refine .exit<|bD<|bG<|bE<|au<|.sr<|.mo rfl<|.nc rfl<|.fa rfl<|.lo rfl<|.mo rfl<|.ag rfl<|.ag rfl<|.az rfl<|.ret (br _ (.three (.tmp rfl) (.tmp rfl) (.tmp rfl)) (aK [2]) ?_)
 ·exact⟨Tv,rfl,g,by unfold fZ;rw[agh N,agh c4,f8],by unfold fZ;rw[agh N,agh c4,f9];exact A⟩
def aY.zero(k:aW):aY:=⟨k,false,sZ,[],sZ,[],sZ,[],0⟩
def dm(S:cE)(L:List bf)(rev:Int)(k:aW):List Sub:=if scan S rev then(L.filter λy=>y.there rev&&decide (y.t.di=k)).map (·.t.sub)else []
structure WS(R:aA)(cp:Cf)(c:bO)(hb g x:Nat)(S:cE)(num:List Nat)(L:List bf):Prop where
 ci:c.is R
 pl:c.plain=cp
 h:∃vl e,HV R hb vl [e] 0/\e.rev=0/\e.c.plain=cp/\e.ll.map (·.2)=rows cp.aV num
 s:∃ps vf vr Mf Mr,SV R g S ps vf vr Mf Mr
 d:∃vL,DV R x S vL L
 rl:RL S L
 nH:eH S
 len:S.rows.length<=512
 m:kk isWord dd cp num
 nm:(cp.numbers isWord dd).2=rows cp.aV num
 mv:cp.aV.length<=5/\∀y∈cp.aV,y.bS.length<=6
theorem xk(c:Cf):(jT c).aV.length<=5/\∀y∈(jT c).aV,y.bS.length<=6:=by
 unfold jT
 refine⟨by simp only[agl,agE];omega,λy a=>?_⟩
 simp only at a
 obtain⟨s,_,rfl⟩:=agm.1 a
 unfold rK
 simp only[agl,agE]
 omega
section
variable{R:aA}{cp:Cf}{c:bO}{hb g x:Nat}{S:cE}{num:List Nat}{L:List bf}
theorem WS.ll(h:WS R cp c hb g x S num L):L.length<=512:=by rw[h.rl.pm.length_eq];exact h.len
theorem A7(S:cE)(L:List bf)(rev:Int):∃M:List (aW×Sub),M.length<=L.length/\(∀y∈M,∃r∈L,y=(r.t.di,r.t.sub))/\fJ M=dm S L rev:=by
 refine⟨if scan S rev then(L.filter λy=>y.there rev).map λy=>(y.t.di,y.t.sub)else [],?_,?_,?_⟩
 ·split
  ·rw[agl];exact agA _ _
  ·simp
 ·intro y b
  split at b
  ·obtain⟨r,c,rfl⟩:=agm.1 b
   exact⟨r,(List.mem_filter.1 c).1,rfl⟩
  ·cases b
 ·funext k
  unfold fJ dm
  split
  ·rw[List.filter_map,List.map_map,List.filter_filter]
   have:(λa:bf=>((λx:aW×Sub=>decide (x.1=k))∘λy:bf=>(y.t.di,y.t.sub)) a&&a.there rev)=λy:bf=>y.there rev&&decide (y.t.di=k):=by
    funext y
    simp[Bool.and_comm]
   rw[this]
   rfl
  ·rfl
theorem A6{rev:Int}{k:aW}{s:Sub}(h:s∈dm S L rev k):∃r∈L,s=r.t.sub:=by
 unfold dm at h
 split at h
 ·obtain⟨r,a,rfl⟩:=agm.1 h
  exact⟨r,(List.mem_filter.1 a).1,rfl⟩
 ·cases h
theorem WS.qC(h:WS R cp c hb g x S num L)(rev:Int)(k:aW)(i:Nat)(a:∀j,j<i->j<(opened cp num (dm S L rev) k j).1.length):(opened cp num (dm S L rev) k i).1.length+(opened cp num (dm S L rev) k i).2<=1048576:=by
 obtain⟨M,b,_,d⟩:=A7 S L rev
 rw[<-d]at a⊢
 obtain⟨E,e,_⟩:=h.m.ex
 exact Bh e h.m.right h.m.dN h.mv.2 (agt b (agt h.ll (by decide))) k i a
theorem WS.fin(h:WS R cp c hb g x S num L)(rev:Int)(k:aW):∃N,fK cp num (dm S L rev) k N:=by
 have d:∀k,∀s∈dm S L rev k,s∈L.map (·.t.sub):=λk s b=>by
  obtain⟨r,a,rfl⟩:=A6 b
  exact agm.2 ⟨r,a,rfl⟩
 exact fK.ex λi=>zR (Ah d) AF i
theorem WS.jV(h:WS R cp c hb g x S num L)(rev:Int)(D:0<=rev)(k:aW)(b:Int)(w:b<=9223372036854775807){N:Nat}(r:fK cp num (dm S L rev) k N):
  Spec prog 34 [pT hb,pT g,.int .u64 rev,.agg [.string k.os,.string k.oi].toArray,.string k.rel,.int .i64 b] R [] (pY R (jV cp num (dm S L rev) k b (scan S rev) N)):=by
 obtain⟨J,e,u,y,z,f⟩:=h.h
 obtain⟨H,I,K,E,F,t⟩:=h.s
 have v:hZ [e] rev=some e:=by
  unfold hZ
  have:hl [e] rev 1=some 0:=by
   simp only[hl,List.getElem?_cons_zero,y]
   simp[D]
  rw[show([e]:List cZ).length=1 from rfl,this]
  rfl
 have A:=h.qC rev k
 subst z
 exact xA u t h.rl (agt h.len (by decide)) rev e v num h.m f (by simp) (λa j=>by
  rw[List.mem_singleton]at j
  subst j
  have G:a.ll.length=a.c.plain.aV.length:=by rw[<-mR a.c.plain.aV num, <-f,agl]
  refine⟨by have:=h.mv.1;omega,λq B=>?_⟩
  have C:q.2∈rows a.c.plain.aV num:=by rw[<-f];exact agm.2 ⟨q,B,rfl⟩
  obtain⟨i,d,o⟩:=List.mem_iff_getElem.1 C
  rw[mR]at d
  have l:=pH (n:=num) (bk d)
  rw[bk (by rw[mR];exact d),o]at l
  have p:=Option.some.inj l
  rw[p,agE]
  have:=h.mv.2 _ (List.getElem_mem d)
  omega) k b w (dm S L rev) rfl A N r
end
theorem CF{W:ByteArray->Bool}{l:List Nd}(h:fT W l≠0):∀i,i<l.length->(tree W l (i+1)).isSome=true:=λi d=>by
 unfold fT at h
 cases ht:tree W l l.length with
 |none=>rw[ht]at h;exact absurd rfl h
 |some p=>
  obtain⟨b,x⟩:=p
  rw[ht]at h
  simp only at h
  have c:b=0:=by
   by_cases a:b=0
   ·exact a
   ·rw[agh a]at h;exact absurd rfl h
  subst c
  exact(iY _ _ ht).2.2.2 i (agn _) d
theorem N7{W:ByteArray->Bool}{F:ByteArray->ByteArray->Bool}{c:Cf}{num:List Nat}{k:aW}(d:c.right W F=true):∀i,i<(one c num k).nodes.length->(tree W (one c num k).nodes (i+1)).isSome=true:=by
 unfold one
 split
 ·intro i a;exact absurd a (by simp)
 ·rename_i i a
  simp only[agk,agj]
  cases hy:c.all[i]? with
  |none=>intro i a;exact absurd a (by simp)
  |some y=>
   have b:=(ou d y (aR hy)).1
   unfold nD at b
   simp only[Bool.and_eq_true,bne_iff_ne,ne_eq]at b
   simp only[agw,Option.getD_some]
   exact CF b.1.2
theorem CI{P:Program}{f:FuncId}{c:List Value}{R a:aA}{H:aM}{out:List bQ×Nat×Int}(h:Spec P f c a H (pY R out)):Spec P f c a H λu H'=>∃T,H'=[T]/\∃vp ps,u=.tuple [.agg [vp,iN out.2.1].toArray,.int .i64 out.2.2].toArray/\RS (λb o=>R b o\/(b,o)∈T) 8 aY.enc vp ps/\(∀p∈ps,aY.is (λb o=>R b o\/(b,o)∈T) p)/\ps.map aY.plain=out.1:=h.mono λu H' g=>by
 obtain⟨vp,ps,T,d,e⟩:=g
 exact⟨T,d,vp,ps,e⟩
def oR(us:ByteArray)(D:List bQ×Nat×Int)(b:Int)(K:Nat)(v:List Bool):Bool×Int:=
 if iG us=false then(false,9)else if D.2.2≠0 then(false,D.2.2)
 else if(fZ b K v).2.2≠0 then(false,(fZ b K v).2.2)else((fZ b K v).1.getD 0 false,0)
theorem xz{c:Cf}{num:List Nat}{sub:aW->List Sub}{k:aW}{b:Int}{can:Bool}{N:Nat}(h:(jV c num sub k b can N).2.2=0):(jV c num sub k b can N).1=(opened c num sub k N).1/\(jV c num sub k b can N).2.1=(opened c num sub k N).2/\1<=b:=by
 unfold jV at h⊢
 split
 ·rename_i a;rw[agi a]at h;cases h
 ·rename_i a
  rw[agh a]at h
  split
  ·rename_i d;rw[agi d]at h;cases h
  ·rename_i d
   rw[agh d]at h
   split
   ·exact⟨rfl,rfl,by omega⟩
   ·rename_i e;rw[agh e]at h;cases h
theorem Oe(c:Cf)(num:List Nat)(sub:aW->List Sub)(k:aW)(N:Nat):0<(opened c num sub k N).1.length:=by
 have:=(uZ (c:=c) (num:=num) (sub:=sub) (k:=k) (agn N)).1
 have a:(opened c num sub k 0).1.length=1:=by simp[opened]
 omega
theorem Ql{ps:List bQ}{us:ByteArray}{K:Nat}{s:QS}(ok:kM ps us)(e:ep ps us K s){b:Int}(a:(fZ b K s.1).2.2=0):(fZ b K s.1).1=s.1/\(fZ b K s.1).1.length=ps.length:=by
 have f:=(e.inv ok).l1
 unfold fZ at a⊢
 split
 ·rename_i c;rw[agi c]at a;cases a
 ·rename_i c
  rw[agh c]at a
  split
  ·rename_i d;rw[agi d]at a;cases a
  ·exact⟨rfl,f⟩
theorem Q5{H:Type}{enc:TypeId×Value->H}{W:World}{f:Nat}{cs:List Value}{x:DataW H×List MemPlace}(h:DataW.trod enc prog W 0 (λ_=>true) true f 249 cs=some x):∃t:Ty,cs=t.enc/\t.fits:=by
 obtain⟨c,d⟩:=kd underlying249 h
 have j:prog.cellsOf 249=2:=by kernel_rfl
 rw[j]at c
 have e:prog.cellsOf 9=1:=by kernel_rfl
 match cs,c with
 |[a0,a1],_=>
  obtain⟨p,r,a⟩:∃n y,DataW.trod enc prog W 0 (λ_=>true) true n 9 (([a0,a1].drop 0).take (prog.cellsOf 9))=some y:=d 0 _ rfl
  obtain⟨q,s,b⟩:∃n y,DataW.trod enc prog W 0 (λ_=>true) true n 9 (([a0,a1].drop 1).take (prog.cellsOf 9))=some y:=d 1 _ rfl
  simp only[e,ago,agp,agq,agr]at a b
  obtain⟨m,g,k⟩:=jL a
  obtain⟨o,i,l⟩:=jL b
  cases g;cases i
  exact⟨⟨m,o⟩,rfl,k,l⟩
theorem NB{H:Type}{enc:TypeId×Value->H}{W:World}{f:Nat}{cs:List Value}{x:DataW H×List MemPlace}(h:DataW.trod enc prog W 0 (λ_=>true) true f 199 cs=some x):∃t:Nd,cs=t.enc/\t.fits:=by
 obtain⟨i,a⟩:=kd underlying199 h
 have s:prog.cellsOf 199=5:=by kernel_rfl
 rw[s]at i
 have j:prog.cellsOf 3=1:=by kernel_rfl
 have l:prog.cellsOf 9=1:=by kernel_rfl
 match cs,i with
 |[a0,a1,a2,a3,a4],_=>
  obtain⟨D,J,b⟩:∃n y,DataW.trod enc prog W 0 (λ_=>true) true n 3 (([a0,a1,a2,a3,a4].drop 0).take (prog.cellsOf 3))=some y:=a 0 _ rfl
  obtain⟨E,K,c⟩:∃n y,DataW.trod enc prog W 0 (λ_=>true) true n 9 (([a0,a1,a2,a3,a4].drop 1).take (prog.cellsOf 9))=some y:=a 1 _ rfl
  obtain⟨F,L,d⟩:∃n y,DataW.trod enc prog W 0 (λ_=>true) true n 9 (([a0,a1,a2,a3,a4].drop 2).take (prog.cellsOf 9))=some y:=a 2 _ rfl
  obtain⟨G,M,e⟩:∃n y,DataW.trod enc prog W 0 (λ_=>true) true n 3 (([a0,a1,a2,a3,a4].drop 3).take (prog.cellsOf 3))=some y:=a 3 _ rfl
  obtain⟨I,N,g⟩:∃n y,DataW.trod enc prog W 0 (λ_=>true) true n 3 (([a0,a1,a2,a3,a4].drop 4).take (prog.cellsOf 3))=some y:=a 4 _ rfl
  simp only[j,l,ago,agp,agq,agr]at b c d e g
  obtain⟨A,m⟩:=rQ (k:=.i64) b
  obtain⟨w,o,u⟩:=jL c
  obtain⟨z,p,v⟩:=jL d
  obtain⟨B,q⟩:=rQ (k:=.i64) e
  obtain⟨C,r⟩:=rQ (k:=.i64) g
  cases m;cases o;cases p;cases q;cases r
  exact⟨⟨A,w,z,B,C⟩,rfl,u,v⟩
theorem PO{H:Type}{enc:TypeId×Value->H}{W:World}{f:Nat}{cs:List Value}{x:DataW H×List MemPlace}(h:DataW.trod enc prog W 0 (λ_=>true) true f 169 cs=some x):∃t:Sc,cs=t.enc/\t.fits:=by
 obtain⟨e,a⟩:=kd underlying169 h
 have m:prog.cellsOf 169=4:=by kernel_rfl
 rw[m]at e
 have i:prog.cellsOf 9=1:=by kernel_rfl
 have g:prog.cellsOf 44=2:=by kernel_rfl
 match cs,e with
 |[a0,a1,a2,a3],_=>
  obtain⟨z,C,b⟩:∃n y,DataW.trod enc prog W 0 (λ_=>true) true n 9 (([a0,a1,a2,a3].drop 0).take (prog.cellsOf 9))=some y:=a 0 _ rfl
  obtain⟨A,D,c⟩:∃n y,DataW.trod enc prog W 0 (λ_=>true) true n 44 (([a0,a1,a2,a3].drop 1).take (prog.cellsOf 44))=some y:=a 1 _ rfl
  obtain⟨B,E,d⟩:∃n y,DataW.trod enc prog W 0 (λ_=>true) true n 9 (([a0,a1,a2,a3].drop 3).take (prog.cellsOf 9))=some y:=a 2 _ rfl
  simp only[i,g,ago,agp,agq,agr]at b c d
  obtain⟨s,j,o⟩:=jL b
  obtain⟨u,v,k,p,q⟩:=qR c
  obtain⟨w,l,r⟩:=jL d
  cases j;cases k;cases l
  exact⟨⟨s,u,v,w⟩,rfl,o,p,q,r⟩
theorem Q6{H:Type}{enc:TypeId×Value->H}{W:World}{f:Nat}{cs:List Value}{x:DataW H×List MemPlace}(h:DataW.trod enc prog W 0 (λ_=>true) true f 165 cs=some x):∃v l,cs=[v]/\RS (Rw W) 2 Ty.enc v l/\∀t∈l,t.fits:=
 RS.mO (D:=λt:Ty=>t.fits) (sz:=2) (en:=Ty.enc) underlying165 (by kernel_rfl) (by omega) h λn cs x b=>by
  obtain⟨t,rfl,a⟩:=Q5 b
  exact⟨rfl,(Ty.one t).h,t,rfl,a⟩
theorem NG{H:Type}{enc:TypeId×Value->H}{W:World}{f:Nat}{cs:List Value}{x:DataW H×List MemPlace}(h:DataW.trod enc prog W 0 (λ_=>true) true f 90 cs=some x):∃v l,cs=[v]/\RS (Rw W) 5 Nd.enc v l/\∀t∈l,t.fits:=
 RS.mO (D:=λt:Nd=>t.fits) (sz:=5) (en:=Nd.enc) underlying90 (by kernel_rfl) (by omega) h λn cs x b=>by
  obtain⟨t,rfl,a⟩:=NB b
  exact⟨rfl,(Nd.one t).h,t,rfl,a⟩
theorem PW{H:Type}{enc:TypeId×Value->H}{W:World}{f:Nat}{cs:List Value}{x:DataW H×List MemPlace}(h:DataW.trod enc prog W 0 (λ_=>true) true f 23 cs=some x):∃v l,cs=[v]/\RS (Rw W) 4 Sc.enc v l/\∀t∈l,t.fits:=
 RS.mO (D:=λt:Sc=>t.fits) (sz:=4) (en:=Sc.enc) underlying23 (by kernel_rfl) (by omega) h λn cs x b=>by
  obtain⟨t,rfl,a⟩:=PO b
  exact⟨rfl,(Sc.one t).h,t,rfl,a⟩
theorem O6{H:Type}{enc:TypeId×Value->H}{W:World}{f:Nat}{cs:List Value}{x:DataW H×List MemPlace}(h:DataW.trod enc prog W 0 (λ_=>true) true f 167 cs=some x):∃t:cm,cs=t.enc/\t.is (Rw W):=by
 obtain⟨e,a⟩:=kd underlying167 h
 have q:prog.cellsOf 167=3:=by kernel_rfl
 rw[q]at e
 have i:prog.cellsOf 9=1:=by kernel_rfl
 have j:prog.cellsOf 90=1:=by kernel_rfl
 have g:prog.cellsOf 165=1:=by kernel_rfl
 match cs,e with
 |[a0,a1,a2],_=>
  obtain⟨A,F,b⟩:∃n y,DataW.trod enc prog W 0 (λ_=>true) true n 9 (([a0,a1,a2].drop 0).take (prog.cellsOf 9))=some y:=a 0 _ rfl
  obtain⟨B,G,c⟩:∃n y,DataW.trod enc prog W 0 (λ_=>true) true n 165 (([a0,a1,a2].drop 1).take (prog.cellsOf 165))=some y:=a 1 _ rfl
  obtain⟨C,I,d⟩:∃n y,DataW.trod enc prog W 0 (λ_=>true) true n 90 (([a0,a1,a2].drop 2).take (prog.cellsOf 90))=some y:=a 2 _ rfl
  simp only[i,j,g,ago,agp,agq,agr]at b c d
  obtain⟨z,k,r⟩:=jL b
  obtain⟨D,s,l,v,o⟩:=Q6 c
  obtain⟨E,u,m,w,p⟩:=NG d
  cases k;cases l;cases m
  exact⟨⟨_,_,⟨z,s,u⟩⟩,rfl,r,v,w,o,p⟩
theorem O8{H:Type}{enc:TypeId×Value->H}{W:World}{f:Nat}{cs:List Value}{x:DataW H×List MemPlace}(h:DataW.trod enc prog W 0 (λ_=>true) true f 162 cs=some x):∃v l,cs=[v]/\RS (Rw W) 3 cm.enc v l/\∀t∈l,t.is (Rw W):=
 RS.mO (D:=λt:cm=>t.is (Rw W)) (sz:=3) (en:=cm.enc) underlying162 (by kernel_rfl) (by omega) h λn cs x b=>by
  obtain⟨t,rfl,a⟩:=O6 b
  exact⟨rfl,a.dl,t,rfl,a⟩
theorem Qv{H:Type}{enc:TypeId×Value->H}{W:World}{f:Nat}{cs:List Value}{x:DataW H×List MemPlace}(h:DataW.trod enc prog W 0 (λ_=>true) true f 164 cs=some x):∃t:cF,cs=t.enc/\t.is (Rw W):=by
 obtain⟨c,d⟩:=kd underlying164 h
 have l:prog.cellsOf 164=2:=by kernel_rfl
 rw[l]at c
 have g:prog.cellsOf 9=1:=by kernel_rfl
 have e:prog.cellsOf 162=1:=by kernel_rfl
 match cs,c with
 |[a0,a1],_=>
  obtain⟨r,v,a⟩:∃n y,DataW.trod enc prog W 0 (λ_=>true) true n 9 (([a0,a1].drop 0).take (prog.cellsOf 9))=some y:=d 0 _ rfl
  obtain⟨s,w,b⟩:∃n y,DataW.trod enc prog W 0 (λ_=>true) true n 162 (([a0,a1].drop 1).take (prog.cellsOf 162))=some y:=d 1 _ rfl
  simp only[g,e,ago,agp,agq,agr]at a b
  obtain⟨q,i,m⟩:=jL a
  obtain⟨u,o,j,p,k⟩:=O8 b
  cases i;cases j
  exact⟨⟨q,_,o⟩,rfl,m,p,k⟩
theorem Qw{H:Type}{enc:TypeId×Value->H}{W:World}{f:Nat}{cs:List Value}{x:DataW H×List MemPlace}(h:DataW.trod enc prog W 0 (λ_=>true) true f 22 cs=some x):∃v l,cs=[v]/\RS (Rw W) 2 cF.enc v l/\∀t∈l,t.is (Rw W):=
 RS.mO (D:=λt:cF=>t.is (Rw W)) (sz:=2) (en:=cF.enc) underlying22 (by kernel_rfl) (by omega) h λn cs x b=>by
  obtain⟨t,rfl,a⟩:=Qv b
  exact⟨rfl,a.dl,t,rfl,a⟩
theorem xl{H:Type}{enc:TypeId×Value->H}{W:World}{f:Nat}{cs:List Value}{x:DataW H×List MemPlace}(h:DataW.trod enc prog W 0 (λ_=>true) true f 25 cs=some x):∃c:bO,cs=c.enc/\c.is (Rw W):=by
 obtain⟨d,e⟩:=kd underlying25 h
 have o:prog.cellsOf 25=2:=by kernel_rfl
 rw[o]at d
 have g:prog.cellsOf 22=1:=by kernel_rfl
 have i:prog.cellsOf 23=1:=by kernel_rfl
 match cs,d with
 |[a0,a1],_=>
  obtain⟨t,z,a⟩:∃n y,DataW.trod enc prog W 0 (λ_=>true) true n 22 (([a0,a1].drop 0).take (prog.cellsOf 22))=some y:=e 0 _ rfl
  obtain⟨u,A,b⟩:∃n y,DataW.trod enc prog W 0 (λ_=>true) true n 23 (([a0,a1].drop 1).take (prog.cellsOf 23))=some y:=e 1 _ rfl
  simp only[g,i,ago,agp,agq,agr]at a b
  obtain⟨v,p,j,r,l⟩:=Qw a
  obtain⟨w,q,k,s,m⟩:=PW b
  cases j;cases k
  exact⟨⟨_,_,p,q⟩,rfl,r,s,l,m⟩
theorem Rj{H:Type}{enc:TypeId×Value->H}{W:World}{f:Nat}{cs:List Value}{x:DataW H×List MemPlace}(h:DataW.trod enc prog W 0 (λ_=>true) true f 28 cs=some x):∃w:kl,cs=w.enc/\w.is (Rw W):=by
 obtain⟨e,g⟩:=kd underlying28 h
 have a:prog.cellsOf 28=3:=by kernel_rfl
 rw[a]at e
 have i:prog.cellsOf 25=2:=by kernel_rfl
 have j:prog.cellsOf 26=1:=by kernel_rfl
 match cs,e with
 |[a0,a1,a2],_=>
  obtain⟨q,t,b⟩:∃n y,DataW.trod enc prog W 0 (λ_=>true) true n 25 (([a0,a1,a2].drop 0).take (prog.cellsOf 25))=some y:=g 0 _ rfl
  obtain⟨r,u,d⟩:∃n y,DataW.trod enc prog W 0 (λ_=>true) true n 26 (([a0,a1,a2].drop 2).take (prog.cellsOf 26))=some y:=g 1 _ rfl
  simp only[i,j,ago,agp,agq,agr]at b d
  obtain⟨c,k,a⟩:=xl b
  obtain⟨s,o,l,p,m⟩:=PP d
  cases k;cases l
  exact⟨⟨c,_,o⟩,rfl,a,p,m⟩
end Go.Proofs.YtdljmchhecoakaaGreat

/- What the law 'ExpA' uses. No condition. -/
import Derived.Carry
import Derived.ChangeShapes
import Derived.Test.YtdljmchhecoakaaGreatKExpAI
import Derived.Test.YtdljmchhecoakaaGreatKExpAJ
import Derived.Test.YtdljmchhecoakaaGreatKExpAL
import Derived.Test.YtdljmchhecoakaaGreatKExpAQ
import Derived.Test.YtdljmchhecoakaaGreatKExpAR
import Derived.Test.YtdljmchhecoakaaGreatKExpAS
namespace Go.Proofs.YtdljmchhecoakaaGreat
set_option linter.unusedVariables false
set_option linter.unusedSimpArgs false
set_option maxRecDepth 4000
theorem pU{R:aB}{H:aR}{A B:ay}(h:∀p:nO,p∈A\/p∈B->p∈H.flatten){b:Nat}{o:Obj}(hb:(R b o\/(b,o)∈A)\/(b,o)∈B):Rx R H b o:=by
 rcases hb with(hb|hb)|hb
 ·exact .inl hb
 ·exact .inr (h _ (.inl hb))
 ·exact .inr (h _ (.inr hb))
section
variable{R:aB}{cp:Cf}{c:bN}{hb g x:Nat}{S:cW}{num:List Nat}{L:List bC}
theorem WS.scan(h:WS R cp c hb g x S num L):Go.Proofs.YtdljmchhecoakaaGreat.scan S S.head=true:=by
 unfold Go.Proofs.YtdljmchhecoakaaGreat.scan
 simp[h.rh.h1]
theorem WS.full(h:WS R cp c hb g x S num L){k:bc}{N:Nat}(a:eW cp num (da S L S.head) k N)(b:Int):Go.Proofs.YtdljmchhecoakaaGreat.gW cp num (da S L S.head) k b (Go.Proofs.YtdljmchhecoakaaGreat.scan S S.head) N=if b<1 then([],0,2)else if(((opened cp num (da S L S.head) k N).1.length+(opened cp num (da S L S.head) k N).2:Nat):Int)<=b then((opened cp num (da S L S.head) k N).1,(opened cp num (da S L S.head) k N).2,0)else([],0,16):=by
 unfold Go.Proofs.YtdljmchhecoakaaGreat.gW
 rw[h.scan]
 rfl
theorem WS.max(h:WS R cp c hb g x S num L){k:bc}{N:Nat}(a:eW cp num (da S L S.head) k N):Go.Proofs.YtdljmchhecoakaaGreat.gW cp num (da S L S.head) k 1048576 (Go.Proofs.YtdljmchhecoakaaGreat.scan S S.head) N=((opened cp num (da S L S.head) k N).1,(opened cp num (da S L S.head) k N).2,0):=by
 have:=h.kz S.head k N a.2
 rw[h.full a,if_neg (by omega),if_pos (by omega)]
theorem WS.uP(h:WS R cp c hb g x S num L):0<=S.head:=Int.le_trans h.rh.h0 h.rh.h1
end
theorem zk{b:Nat}:∀(l:List Sp),(∀y∈l,y.bR.length<=b)->(l.flatMap λs=>s.bR.map λr=>(s.name,r)).length<=l.length*b
 |[],_=>by simp
 |s::l,h=>by
  have c:=zk l λy a=>h y (List.mem_cons_of_mem _ a)
  have d:=h s List.mem_cons_self
  rw[List.flatMap_cons,List.length_append,List.length_map,List.length_cons,Nat.add_mul]
  omega
structure xm(op:List bM)(oe:Nat)(us:ByteArray)(K:Nat)(s:QS):Prop where
 n:ja s.2
 run:dV op us K s
 lo:iL op<=K
 hi:K<=iL op+oe
 nf:iL op<=op.length
 ln:s.1.length=op.length
 ok:∀ps:List aD,ps.map aD.plain=op->mz ps us/\(∀p∈ps,p.found=true->0<p.nodes.length)/\(∀p∈ps,p.number<=1000000)/\dV (ps.map aD.plain) us K s/\nq (eK (ps.map aD.plain) us) (fT ps)=s.1/\
  ∀(i:Nat) (p:aD),ps[i]? =some p->s.1.getD i false=(p.found&&dh p.plain us (λj=>s.1.getD j false) p.nodes.length)
section
variable{R:aB}{cp:Cf}{c:bN}{hb g x:Nat}{S:cW}{num:List Nat}{L:List bC}
theorem WS.QU(h:WS R cp c hb g x S num L){rev:Int}{k:bc}{N:Nat}(n:eW cp num (da S L rev) k N)(us:ByteArray):∃K s,xm (opened cp num (da S L rev) k N).1 (opened cp num (da S L rev) k N).2 us K s:=by
 have z:=h.m.ps n us
 have w:=n.gr
 obtain⟨K,s,q,B⟩:=dV.ends z
 obtain⟨F,G,O,H,I⟩:=q.end_ z B
 have T:=n.yx
 refine⟨K,s,B,q,G,by omega,?_,F,λu e=>?_⟩
 ·unfold iL dO
  refine Nat.le_trans List.countP_le_length ?_
  simp
 ·have t:∀p∈u,p.plain∈(opened cp num (da S L rev) k N).1:=λp a=>by rw[<-e];exact List.mem_map.2 ⟨p,a,rfl⟩
  have M:∀p∈u,p.number<=cp.all.length:=λp a=>by
   obtain⟨i,d,D⟩:=List.mem_iff_getElem.1 (t p a)
   have b:=h.m.kZ n us i d
   have j:(eK (opened cp num (da S L rev) k N).1 us).num i=p.number:=by
    show(((opened cp num (da S L rev) k N).1[i]?).map (·.number)).getD 0=_
    rw[aX d,D];rfl
   omega
  have Q:cp.all.length<=30:=by
   have:=zk cp.bg h.nJ.2
   have b:=h.nJ.1
   have j:cp.all.length=(cp.bg.flatMap λs=>s.bR.map λr=>(s.name,r)).length:=rfl
   omega
  refine⟨h.ri n e us,λp a J=>?_,λp a=>by have:=M p a;omega,by rw[e];exact q,?_,λi p a=>?_⟩
  ·have b:p.found=(one cp num p.k).found:=(w.one p.plain (t p a)).1
   have j:p.nodes=(one cp num p.k).nodes:=(w.one p.plain (t p a)).2.1
   rw[j]
   rw[J]at b
   unfold one at b⊢
   split
   ·rename_i l;rw[l]at b;cases b
   ·rename_i i l
    obtain⟨y,C,_⟩:=nE l
    simp only[List.getD_eq_getElem?_getD,List.getElem?_map,C,Option.map_some,Option.getD_some]
    have o:=(mP h.m.right y (aO C)).1
    unfold ml at o
    simp only[Bool.and_eq_true,bne_iff_ne,ne_eq]at o
    refine Nat.pos_of_ne_zero λE=>o.1.2 ?_
    rw[List.eq_nil_of_length_eq_zero E]
    unfold fC
    cases ht:tree isWord [] ([]:List Nd).length with
    |none=>rfl
    |some r=>have:=(iB _ _ ht).1;simp at this
  ·rw[e]
   refine(I _ λi d=>?_).symm
   rw[<-e,List.length_map]at d
   obtain⟨p,a⟩:=bL d
   unfold fV
   rw[<-e,List.getElem?_map,a]
   exact(Ag u 0).2 p (aO a)
  ·have d:i<(opened cp num (da S L rev) k N).1.length:=by rw[<-e,List.length_map];exact(List.getElem?_eq_some_iff.1 a).1
   have A:(opened cp num (da S L rev) k N).1[i]? =some p.plain:=by rw[<-e,List.getElem?_map,a];rfl
   have b:=H i d
   have j:(eK (opened cp num (da S L rev) k N).1 us).f i=p.found:=by
    show(((opened cp num (da S L rev) k N).1[i]?).map (·.found)).getD false=_
    rw[A];rfl
   have l:∀v,(eK (opened cp num (da S L rev) k N).1 us).ex i v=dh p.plain us v p.nodes.length:=λv=>by
    unfold eK
    simp only[A]
    rfl
   rw[j,l]at b
   exact b
end
open Tryz (prog)
theorem NV(a b:ByteArray):br eO a b=dR a b:=by
 unfold br
 rw[Bool.eq_iff_iff,mQ,decide_eq_true_eq]
theorem Np(v:Value)(l:List ByteArray)(T:ay)(R:aB)(h:OS 9 1 cg v l T)(s:ByteArray)(hl:l.length<=1000000000):
    Spec prog 104 [v,.string s] R [T] λu H'=>∃T',H'=[T']/\OS 9 1 cg u (fF l s) T':=by
  have iv:=h.ap
  refine Spec.body Tryz.func104 rfl Tryz.results104 Tryz.ntmps104 rfl ?_
  refine .sr<|.ag rfl<|.z<|.ag rfl<|.z<|.ag rfl<|.zs<|.sr<|.az rfl<|.block ?_
  refine .cz [(0,_),(1,_)] (X:=Nat×Value×ay) (λy=>y.1<=l.length/\s∉l.take y.1/\OS 9 1 cg y.2.1 (iY dR s (l.take y.1)) y.2.2) (λy E=>(7,iN y.1)::(6,.bool ((l.take y.1).any (dR s)))::(5,y.2.1)::E) (λy G=>y.2.2::G) (λy=>l.length-y.1) (0,sZ,[]) ⟨Nat.zero_le _,by simp,OS.nil⟩ kE.c.c.c.c.c bf.eL ?_
  rintro⟨i,J,r⟩ ⟨U,j,d⟩
  simp only at U j d⊢
  have io:=d.ap
  have S:(iY dR s (l.take i)).length<=l.length+1:=Nat.le_trans sf (by rw[List.length_take];omega)
  refine .seq<|.sr<|.mo rfl<|.mo rfl<|.q (.dK h) ?_
  refine .q .lss<|.zn ?_
  refine .cond rfl (λw=>?_) λw=>?_
  have N:i<l.length:=cb w
  obtain⟨x,g⟩:=bL N
  have K:=zu (lt:=dR) (p:=s) g
  refine .kn<|.seq<|.block<|.seq<|.sr<|.mo rfl<|.mo rfl ?_
  refine .aL i h g (λa3=>?_)
  refine .lo rfl<|.mo rfl<|.q .dP<|.zn ?_
  refine .cond rfl (λA=>?_) λA=>?_
  have H:x=s:=bS A
  have W:fF l s=l:=by unfold fF;rw[if_pos (H▸aO g)]
  refine .sr<|.mo rfl<|.az rfl ?_
  refine .ret (aH (bh (aH (cB (bh (aH (bp _ (.one (.tmp rfl)) (aQ [1]) ?_)))))))
  ·exact⟨_,rfl,by rw[W];exact h⟩
  have H:¬x=s:=bA A
  have Y:s∉l.take (i+1):=by
    rw[List.take_add_one,g]
    simp only[Option.toList_some,List.mem_append,List.mem_singleton,not_or]
    exact⟨j,λe=>H e.symm⟩
  refine .kn<|.seq ?_
  refine bz.cS [(0,_),(1,_),(7,_)] kE.c.c.c (X:=Value×ay) (λz=>OS 9 1 cg z.1 (lY dR s (l.take i) x) z.2) (λz E=>(5,z.1)::(6,.bool ((l.take (i+1)).any (dR s)))::E) (λz=>[z.2,T]) ?_ ?_
  refine .sr<|.mo rfl<|.q .not<|.mo rfl ?_
  refine .split (t:=23) rfl (λa=>?_) (λa=>?_)
  refine .gT a<|.mo rfl<|.gT a<|.mo rfl<|.gT a<|.mo rfl<|.gT a ?_
  refine .aL i h g (λa4=>?_)
  refine .gT a<|.lo rfl<|.gT a<|.q .vj<|.q (.aT a) ?_
  refine .zn ?_
  refine .cond rfl (λm=>?_) λm=>?_
  first|have F:=zv g a m|skip
  refine .sr<|.mo rfl<|.mo rfl ?_
  refine .gM (λa0=>?_)
  refine .append d (RS.lits (xs:=[s]) rfl (by simp[cg]) (by simp[cg,ap])) (by simp only[List.length_singleton];omega) (λI o C=>?_)
  refine .az rfl<|.region<|.ag rfl<|.nil ?_
  ·first
      |(obtain⟨f,b⟩:=F
        exact aF (I,o) (by simp only;rw[f];exact C) (by simp only;rw[b];exact kE.c.c.c.c.c) (aQ [1,1]))
      |(obtain⟨f,b⟩:=k
        exact aF (J,r) (by simp only;rw[f];simpa using d) (by simp only;rw[b];exact kE.c.c.c.c.c) rH)
  first|have k:=pC (p:=s) g (.inr m)|skip
  refine .skip ?_
  ·first
      |(obtain⟨f,b⟩:=F
        exact aF (I,o) (by simp only;rw[f];exact C) (by simp only;rw[b];exact kE.c.c.c.c.c) (aQ [1,1]))
      |(obtain⟨f,b⟩:=k
        exact aF (J,r) (by simp only;rw[f];simpa using d) (by simp only;rw[b];exact kE.c.c.c.c.c) rH)
  have k:=pC (p:=s) g (.inl a)
  refine .gF a<|.gF a<|.gF a<|.gF a<|.gF a<|.gF a<|.q (.aS a) ?_
  refine .zn<|.cP ?_
  first|have k:=pC (p:=s) g (.inr m)|skip
  refine .skip ?_
  ·first
      |(obtain⟨f,b⟩:=F
        exact aF (I,o) (by simp only;rw[f];exact C) (by simp only;rw[b];exact kE.c.c.c.c.c) (aQ [1,1]))
      |(obtain⟨f,b⟩:=k
        exact aF (J,r) (by simp only;rw[f];simpa using d) (by simp only;rw[b];exact kE.c.c.c.c.c) rH)
  intro y Z
  obtain⟨vm,Q⟩:=y
  have L:OS 9 1 cg vm (lY dR s (l.take i) x) Q:=Z
  have i6:=L.ap
  simp only
  refine av<|.region<|.mo rfl<|.mo rfl<|.mo rfl ?_
  refine .aL i h g (λa5=>?_)
  refine .lo rfl ?_
  refine .gM (λa1=>?_)
  refine .append L (RS.lits (xs:=[x]) rfl (by simp[cg]) (by simp[cg,ap])) (by have:=sf (lt:=dR) (p:=s) (X:=l.take (i+1));rw[<-K,List.length_take]at this;simp at this⊢;omega) (λv7 O M=>?_)
  rw[K]at M
  refine .ag rfl<|.nil<|aV<|av<|.region<|.mo rfl ?_
  refine .ia (i+1) .add ?_
  refine .ag rfl<|.nil ?_
  ·exact aW (i+1,v7,O) ⟨N,Y,M⟩ (by simp only;omega) kE.c.c.c.c.c (aQ [1,1])
  have V:i=l.length:=by have:=bA w;omega
  subst V
  rw[List.take_length]at j d S
  rw[List.take_length]
  refine .exit<|bm<|bs<|bo<|av<|.seq<|.sr<|.mo rfl<|.q .not<|.zn ?_
  refine .cond rfl (λB=>?_) λB=>?_
  refine .region<|.mo rfl<|.mo rfl ?_
  refine .gM (λa2=>?_)
  refine .append d (RS.lits (xs:=[s]) rfl (by simp[cg]) (by simp[cg,ap])) (by simp only[List.length_singleton];omega) (λv8 T8 D=>?_)
  refine .ag rfl<|.z<|.mo rfl<|.az rfl ?_
  refine .ret (bp _ (.one (.tmp rfl)) (aQ [1]) ?_)
  ·refine⟨_,rfl,?_⟩
   have n:l.any (dR s)=false:=by simpa using B
   unfold fF
   rw[if_neg j,zq n]
   unfold iY at D
   rw[if_neg (by rw[n];simp)]at D
   exact D
  refine .kn<|.sr<|.mo rfl<|.az rfl ?_
  refine .ret (bp _ (.one (.tmp rfl)) (aQ [0]) ?_)
  ·refine⟨_,rfl,?_⟩
   have n:l.any (dR s)=true:=by simpa using B
   unfold fF
   rw[if_neg j]
   unfold iY at d
   rw[if_pos n]at d
   exact d
def fN(ps:List aD):List ByteArray:=ps.flatMap (·.eR)
theorem Am{ps:List aD}{i:Nat}{p:aD}(h:ps[i]? =some p):fN (ps.take (i+1))=fN (ps.take i)++p.eR:=by
 unfold fN
 rw[dG h,List.flatMap_append];simp
theorem N5{ps:List aD}(h:∀p∈ps,p.eR.length<=512):(fN ps).length<=ps.length*512:=by
 induction ps with
 |nil=>simp[fN]
 |cons p ps ih=>
  have a:=ih λq b=>h q (List.mem_cons_of_mem _ b)
  have c:=h p List.mem_cons_self
  unfold fN at a⊢
  rw[List.flatMap_cons,List.length_append,List.length_cons,Nat.add_mul]
  omega
theorem An{ps:List aD}{i:Nat}:(fN (ps.take i)).length<=(fN ps).length:=by
 unfold fN
 conv=>rhs;rw[<-List.take_append_drop i ps]
 rw[List.flatMap_append,List.length_append];omega
structure na(ps:List aD)(K:ByteArray->Nat)(s:ByteArray->QS):Prop where
 ri:∀us,mz ps us
 run:∀us,dV (ps.map aD.plain) us (K us) (s us)
 none:∀us,ja (s us).2
 ln:∀us,(s us).1.length=ps.length
 us:∀p∈ps,p.eR.length<=512
 Dn:∀us,nq (eK (ps.map aD.plain) us) (fT ps)=(s us).1
 fd:∀p∈ps,p.found=true->0<p.nodes.length
 nb:∀p∈ps,p.number<=1000000
 n:ps.length<=1048576
def fG(s:ByteArray->QS)(us:ByteArray):Bool:=(s us).1.getD 0 false
theorem na.named{ps:List aD}{K:ByteArray->Nat}{s:ByteArray->QS}(h:na ps K s):(fN ps).length<=1000000000/\ps.length<=1900000:=by
 have a:=N5 h.us
 have b:=h.n
 exact⟨by omega,by omega⟩
theorem B0(vp:Value)(e:Nat)(ps:List aD)(R:aB)(v:RS R 8 aD.enc vp ps)(a2:∀p∈ps,p.is R)(K:ByteArray->Nat)(s:ByteArray->QS)(h:na ps K s)(b:Int)(a8:b<=9223372036854775807):
  Spec prog 51 [.agg [vp,iN e].toArray,.int .i64 b] R [] λu H'=>∃T,H'=[T]/\∃(vo:Value) (l:List ByteArray) (er:Int),u=.tuple [vo,.int .i64 er].toArray/\OS 9 1 cg vo l T/\
   ((b<1/\l=[]/\er=2)\/(1<=b/\l=[]/\er=16/\∃us∈fN ps,b<K us)\/(1<=b/\er=0/\(∀us∈fN ps,K us<=b)/\l=((fN ps).filter (fG s)).foldl fF [])):=by
 have d8:=v.ap
 have d1:=v.le
 obtain⟨b4,d3⟩:=h.named
 have c1:=λi=>An (ps:=ps) (i:=i)
 refine Spec.body Tryz.func51 rfl Tryz.results51 Tryz.ntmps51 rfl ?_
 refine .sr ?_
 refine .bY rfl (λb2=>?_)
 refine .ag rfl<|.ag rfl<|.zs<|.sr<|.mo rfl<|.q .lss<|.zn ?_
 refine .cond rfl (λk=>?_) λk=>?_
 refine .sr<|.ag rfl<|.az rfl ?_
 refine .ret (aH (bp _ (.two (.tmp rfl) (.tmp rfl)) (bf.eL.trans (aQ [0])) ?_))
 ·exact⟨_,rfl,_,[],_,rfl,OS.nil,.inl ⟨by simpa using k,rfl,rfl⟩⟩
 have c7:¬b<1:=by simpa using k
 refine .kn<|.sr<|.ag rfl<|.ag rfl<|.zs<|.sr<|.fa rfl<|.lo rfl<|.q (.bH v) ?_
 refine .mo rfl<|.zn<|.block ?_
 refine .cz [(1,_),(2,_),(7,_),(18,_),(19,_)] (X:=Nat×Value×ay) (λy=>y.1<=ps.length/\OS 9 1 cg y.2.1 (fN (ps.take y.1)) y.2.2) (λy E=>(20,iN y.1)::(6,y.2.1)::E) (λy G=>y.2.2::G) (λy=>ps.length-y.1) (0,sZ,[]) ⟨Nat.zero_le _,OS.nil⟩ kE.c.c.c.c.c.c.c bf.eL ?_
 rintro⟨i,vo,To⟩ ⟨hi,r⟩
 simp only at hi r⊢
 have io:=r.ap
 have d5:=c1 i
 refine .sr<|.q .lss<|.zs ?_
 refine .cond rfl (λJ=>?_) λJ=>?_
 have d:i<ps.length:=cb J
 obtain⟨p,f⟩:=bL d
 have t:=a2 p (aO f)
 have d7:ca p.enc:=⟨t.cT⟩
 have c4:=h.us p (aO f)
 have a6:=Am f
 have n1:=t.n.ap
 have n2:=t.u.ap
 have n3:=t.l.rs.ap
 obtain⟨k0,fo,vn,e0,vu,c5,vl,ll,nm⟩:=p
 have u0:RS R 1 cg vu c5:=t.u
 simp only at c4 a6
 refine .kn<|.seq<|.block<|.sr ?_
 refine .bx i v f (λe1=>?_)
 refine .q (.aM rfl) ?_
 refine .bX (λb9=>?_)
 refine .bP rfl rfl<|.zn<|.region<|.mo rfl<|.fa rfl<|.lo rfl ?_
 refine .append r u0.rx (by omega) (λv5 T5 Y=>?_)
 have i5:=Y.ap
 rw[<-a6]at Y
 refine .ag rfl<|.nil<|aV<|av<|.region ?_
 refine .ia (i+1) .add ?_
 refine .mo rfl<|.nil ?_
 ·exact aW (i+1,v5,T5) ⟨d,Y⟩ (by simp only;omega) kE.c.c.c.c.c.c.c (aQ [1,1])
 rw[dw (gd J)]at r
 refine .exit<|bm<|bs<|bo<|av<|.sr<|.mo rfl ?_
 refine .dg (SST.tx (c:=eO) (ok:=λ_=>True) vo (fN ps) To _ r b4 rfl (λ_ _=>trivial) nG.so) (λu T3 V=>?_)
 obtain⟨rfl,H,a7,S,c3⟩:=V
 have d6:=S.length_eq
 have c0:=c3.ordered.imp λ{a b} a1=>by rw[NV]at a1;exact a1
 have c8:=yi H
 have a5:∀x,x∈fM H↔x∈fN ps:=λx=>by rw[rP,S.mem_iff]
 have b1:=Rt (fG s) S c0
 refine .zs<|.sr<|.mo rfl ?_
 refine .dg (Df vo H T3 _ a7 (by omega)) (λu T4 O=>?_)
 have i4:=O.ap
 rw[<-b1]
 generalize c9:fM H=cs at *
 refine .q (.dK O) ?_
 refine .mo rfl<|.zn<|.block ?_
 refine .cz [(1,_),(2,_),(32,_),(33,_)] (X:=Nat×Value×ay) (λy=>y.1<=cs.length/\(∀us∈cs.take y.1,(K us:Int)<=b)/\OS 9 1 cg y.2.1 ((cs.take y.1).filter (fG s)) y.2.2) (λy E=>(34,iN y.1)::(7,y.2.1)::E) (λy G=>y.2.2::G) (λy=>cs.length-y.1) (0,sZ,[]) ⟨Nat.zero_le _,by simp,OS.nil⟩ kE.c.c.c.c.c.c bf.eL ?_
 rintro⟨j,vq,Tq⟩ ⟨hj,w,g⟩
 simp only at hj w g⊢
 have iq:=g.ap
 have d0:((cs.take j).filter (fG s)).length<=cs.length:=Nat.le_trans (List.length_filter_le _ _) (by rw[List.length_take];omega)
 refine .sr<|.q .lss<|.zs ?_
 refine .cond rfl (λL=>?_) λL=>?_
 have d:j<cs.length:=cb L
 obtain⟨us,W⟩:=bL d
 have Q:=(a5 us).1 (aO W)
 have U:cs.take (j+1)=cs.take j++[us]:=by rw[List.take_add_one,W];rfl
 have b8:=h.ri us
 have b7:=h.run us
 have b5:=h.none us
 have d2:=h.ln us
 obtain⟨p0,b6⟩:∃p,p∈ps:=by
  unfold fN at Q
  obtain⟨p,f,_⟩:=List.mem_flatMap.1 Q
  exact⟨p,f⟩
 have d4:=List.length_pos_of_mem b6
 refine .kn<|.seq<|.block<|.sr ?_
 refine .aL j O W (λe2=>?_)
 refine .lo rfl<|.ag rfl<|.z<|.q (.aM rfl)<|.mo rfl<|.mo rfl ?_
 refine .cO (B2 vp e us ps _ v.rx (λp f=>(a2 p f).mono λb o hb=>.inl hb) b8 b a8 (K us) (s us) b7 b5) (λu T5 V=>?_)
 obtain⟨vr,rfl,B⟩:=V
 have d9:=B.ap
 refine .mo rfl<|.q .extract<|.q .extract<|.q .extract<|.ag rfl<|.ag rfl<|.ag rfl<|.zs<|.sr<|.mo rfl<|.q .et<|.zn ?_
 refine .cond rfl (λM=>?_) λM=>?_
 have D:(eP b (K us) (s us).1).2.2≠0:=by simpa using M
 have a0:(eP b (K us) (s us).1).2.2=16/\b<K us:=by
  unfold eP at D⊢
  rw[if_neg (by omega)]at D⊢
  split
  ·rename_i m;exact⟨rfl,m⟩
  ·rename_i m;rw[if_neg m]at D;exact absurd rfl D
 refine .sr<|.mo rfl<|.ag rfl<|.az rfl ?_
 refine .ret (aH (bh (aH (cB (bh (aH (bp _ (.two (.tmp rfl) (.tmp rfl)) (bf.eL.trans (aQ [0])) ?_)))))))
 ·exact⟨_,rfl,_,[],_,rfl,OS.nil,.inr (.inl ⟨by simpa using k,rfl,a0.1,us,Q,a0.2⟩)⟩
 have Z:(eP b (K us) (s us).1).2.2=0:=by simpa using M
 have a9:¬b<K us:=λm=>by
  unfold eP at Z
  rw[if_neg (by omega),if_pos m]at Z
  cases Z
 have c2:eP b (K us) (s us).1=((s us).1,K us,0):=by
  unfold eP
  rw[if_neg (by omega),if_neg a9]
 rw[c2]at B
 simp only at B
 obtain⟨I,a3⟩:∃I,(s us).1[0]? =some I:=⟨_,aX (by omega)⟩
 have a4:fG s us=I:=by unfold fG;rw[List.getD_eq_getElem?_getD,a3];rfl
 have A:∀x∈cs.take (j+1),(K x:Int)<=b:=λx hx=>by
  rw[U,List.mem_append,List.mem_singleton]at hx
  rcases hx with hx|rfl
  ·exact w x hx
  ·omega
 refine .kn<|.sr<|.mo rfl ?_
 refine .aL 0 B a3 (λe3=>?_)
 refine .lo rfl<|.zn ?_
 refine .cond rfl (λN=>?_) λN=>?_
 have C:(cs.take (j+1)).filter (fG s)=(cs.take j).filter (fG s)++[us]:=by rw[U,List.filter_append];simp[a4,N]
 refine .region<|.mo rfl<|.mo rfl ?_
 refine .gM (λc6=>?_)
 refine .append g (RS.lits (xs:=[us]) rfl (by simp[cg]) (by simp[cg,ap])) (by simp only[List.length_singleton];omega) (λv7 T7 F=>?_)
 have i7:=F.ap
 rw[<-C]at F
 refine .ag rfl<|.nil<|aV<|av<|.region ?_
 refine .ia (j+1) .add ?_
 refine .mo rfl<|.nil ?_
 ·first
   |exact aW (j+1,v7,T7) ⟨d,A,F⟩ (by simp only;omega) kE.c.c.c.c.c.c (aQ [2,2,2])
   |exact aW (j+1,vq,Tq) ⟨d,A,by simp only;rw[C];exact g⟩ (by simp only;omega) kE.c.c.c.c.c.c (aQ [1,1,1])
 have C:(cs.take (j+1)).filter (fG s)=(cs.take j).filter (fG s):=by rw[U,List.filter_append];simp[a4,N]
 refine .skip<|aV<|av<|.region ?_
 refine .ia (j+1) .add ?_
 refine .mo rfl<|.nil ?_
 ·first
   |exact aW (j+1,v7,T7) ⟨d,A,F⟩ (by simp only;omega) kE.c.c.c.c.c.c (aQ [2,2,2])
   |exact aW (j+1,vq,Tq) ⟨d,A,by simp only;rw[C];exact g⟩ (by simp only;omega) kE.c.c.c.c.c.c (aQ [1,1,1])
 have b3:j=cs.length:=by have:=bA L;omega
 subst b3
 rw[List.take_length]at w g
 refine .exit<|bm<|bs<|bo<|av<|.sr<|.mo rfl<|.ag rfl<|.az rfl ?_
 refine .ret (bp _ (.two (.tmp rfl) (.tmp rfl)) (aQ [0]) ?_)
 ·exact⟨_,rfl,_,_,_,rfl,g,.inr (.inr ⟨by simpa using k,rfl,λx hx=>w x ((a5 x).2 hx),rfl⟩)⟩
theorem P9(M:Value)(e:Nat)(ps:List aD)(R:aB)(m:RS R 8 aD.enc M ps)(O:∀p∈ps,p.is R)(K:ByteArray->Nat)(s:ByteArray->QS)(h:na ps K s):
  Spec prog 53 [.agg [M,iN e].toArray] R [] λu H'=>∃T,H'=[T]/\OS 9 1 cg u (((fN ps).filter (fG s)).foldl fF []) T:=by
 have b2:=m.ap
 have a4:=m.le
 obtain⟨a6,a7⟩:=h.named
 have W:=λi=>An (ps:=ps) (i:=i)
 refine Spec.body Tryz.func53 rfl Tryz.results53 Tryz.ntmps53 rfl ?_
 refine .sr ?_
 refine .bY rfl (λb1=>?_)
 refine .ag rfl<|.z<|.ag rfl<|.zs<|.sr<|.az rfl<|.block ?_
 refine .cz [(1,_)] (X:=Nat×Value×ay) (λy=>y.1<=ps.length/\OS 9 1 cg y.2.1 (((fN (ps.take y.1)).filter (fG s)).foldl fF []) y.2.2) (λy E=>(4,iN y.1)::(3,y.2.1)::E) (λy G=>y.2.2::G) (λy=>ps.length-y.1) (0,sZ,[]) ⟨Nat.zero_le _,OS.nil⟩ kE.c.c.c bf.eL ?_
 rintro⟨i,vo,To⟩ ⟨hi,r⟩
 simp only at hi r⊢
 have io:=r.ap
 have a8:=W i
 have V:=W (i+1)
 refine .seq<|.sr<|.mo rfl<|.fa rfl<|.lo rfl<|.q (.bH m) ?_
 refine .q .lss<|.zn ?_
 refine .cond rfl (λF=>?_) λF=>?_
 have U:i<ps.length:=cb F
 obtain⟨p,k⟩:=bL U
 have v:=O p (aO k)
 have a9:ca p.enc:=⟨v.cT⟩
 have a3:=h.us p (aO k)
 have L:=Am k
 have n1:=v.n.ap
 have n2:=v.u.ap
 have n3:=v.l.rs.ap
 rw[L,List.length_append]at V
 obtain⟨k0,fo,vn,b4,vu,d,vl,ll,nm⟩:=p
 have u0:RS R 1 cg vu d:=v.u
 simp only at a3 L V
 generalize fN (ps.take i)=A at *
 refine .kn<|.seq<|.block<|.sr<|.az rfl<|.block ?_
 refine .cz [(1,_),(4,_)] (X:=Nat×Value×ay) (λy=>y.1<=d.length/\OS 9 1 cg y.2.1 (((A++d.take y.1).filter (fG s)).foldl fF []) y.2.2) (λy E=>(5,iN y.1)::(3,y.2.1)::E) (λy G=>y.2.2::G) (λy=>d.length-y.1) (0,vo,To) ⟨Nat.zero_le _,by simpa using r⟩ kE.c.c.c.c rH ?_
 rintro⟨j,C,w⟩ ⟨hj,g⟩
 simp only at hj g⊢
 have iq:=g.ap
 have a1:(((A++d.take j).filter (fG s)).foldl fF []).length<=1000000000:=by
  have h8:=BQ (b:=(A++d.take j).filter (fG s)) (a:=[])
  have h9:=List.length_filter_le (fG s) (A++d.take j)
  rw[List.length_append,List.length_take]at h9
  simp only[List.length_nil]at h8
  omega
 refine .seq<|.sr<|.mo rfl<|.fa rfl<|.lo rfl<|.mo rfl ?_
 refine .bx i m k (λb5=>?_)
 refine .fa rfl<|.lo rfl<|.q (.bH u0) ?_
 refine .q .lss<|.zn ?_
 refine .cond rfl (λH=>?_) λH=>?_
 have t:j<d.length:=cb H
 obtain⟨f,Z⟩:=bL t
 have Y:d.take (j+1)=d.take j++[f]:=by rw[List.take_add_one,Z];rfl
 have a2:=h.ri f
 have a5:=h.ln f
 have a0:=h.Dn f
 obtain⟨D,Q⟩:∃D,(s f).1[0]? =some D:=⟨_,aX (by omega)⟩
 have S:fG s f=D:=by unfold fG;rw[List.getD_eq_getElem?_getD,Q];rfl
 refine .kn<|.seq<|.block<|.sr<|.fa rfl<|.lo rfl<|.mo rfl ?_
 refine .bx i m k (λb6=>?_)
 refine .fa rfl<|.lo rfl<|.mo rfl ?_
 refine .bx j u0 Z (λb7=>?_)
 refine .lo rfl<|.ag rfl<|.z<|.q (.aM rfl)<|.mo rfl ?_
 refine .cO (Qa M e f ps _ m.rx (λp k=>(O p k).mono λb o hb=>.inl hb) a2 h.fd h.nb) (λu T5 J=>?_)
 rw[a0]at J
 have b3:=J.ap
 refine .aL 0 J Q (λb8=>?_)
 refine .lo rfl<|.zn ?_
 refine .cond rfl (λI=>?_) λI=>?_
 have x:((A++d.take (j+1)).filter (fG s)).foldl fF []=fF (((A++d.take j).filter (fG s)).foldl fF []) f:=by
  rw[Y, <-List.append_assoc,List.filter_append,List.foldl_append];simp[S,I]
 refine .region<|.mo rfl<|.mo rfl ?_
 refine .dg (Np C _ w _ g f a1) (λu N B=>?_)
 have i7:=B.ap
 rw[<-x]at B
 refine .ag rfl<|.nil<|aV<|av<|.region<|.mo rfl ?_
 refine .ia (j+1) .add ?_
 refine .ag rfl<|.nil ?_
 ·first
   |exact aW (j+1,u,N) ⟨t,B⟩ (by simp only;omega) kE.c.c.c.c (aQ [1,1])
   |exact aW (j+1,C,w) ⟨t,by simp only;rw[x];exact g⟩ (by simp only;omega) kE.c.c.c.c (aQ [1,1])
 have x:((A++d.take (j+1)).filter (fG s)).foldl fF []=((A++d.take j).filter (fG s)).foldl fF []:=by
  rw[Y, <-List.append_assoc,List.filter_append,List.foldl_append];simp[S,I]
 refine .skip<|aV<|av<|.region<|.mo rfl ?_
 refine .ia (j+1) .add ?_
 refine .ag rfl<|.nil ?_
 ·first
   |exact aW (j+1,u,N) ⟨t,B⟩ (by simp only;omega) kE.c.c.c.c (aQ [1,1])
   |exact aW (j+1,C,w) ⟨t,by simp only;rw[x];exact g⟩ (by simp only;omega) kE.c.c.c.c (aQ [1,1])
 rw[dw (gd H), <-L]at g
 refine .exit<|bm<|bs<|bo<|aV<|av<|.region<|.mo rfl ?_
 refine .ia (i+1) .add ?_
 refine .ag rfl<|.nil ?_
 ·exact aW (i+1,C,w) ⟨U,g⟩ (by simp only;omega) kE.c.c.c rH
 rw[dw (gd F)]at r
 refine .exit<|bm<|bs<|bo<|av<|.sr<|.mo rfl<|.az rfl ?_
 refine .ret (bp _ (.one (.tmp rfl)) (aQ [0]) ?_)
 ·exact⟨_,rfl,r⟩
section
variable{R:aB}{cp:Cf}{c:bN}{hb g x:Nat}{S:cW}{num:List Nat}{L:List bC}
theorem WS.RZ(h:WS R cp c hb g x S num L){rev:Int}{k:bc}{N:Nat}(d:eW cp num (da S L rev) k N){p:bM}(f:p∈(opened cp num (da S L rev) k N).1):p.eR.length<=512:=by
 obtain⟨i,a,e⟩:=List.mem_iff_getElem.1 f
 have b:=(d.gr.op i p a (by rw[aX a,e])).2
 rw[b]
 split
 ·unfold gS
  rw[List.length_map]
  refine Nat.le_trans (List.length_filter_le _ _) ?_
  unfold fitting
  refine Nat.le_trans (List.length_filter_le _ _) ?_
  unfold da
  split
  ·rw[List.length_map]
   exact Nat.le_trans (List.length_filter_le _ _) h.ll
  ·simp
 ·simp
theorem WS.B1(h:WS R cp c hb g x S num L){rev:Int}{k:bc}{N:Nat}(d:eW cp num (da S L rev) k N):∃(K:ByteArray->Nat) (s:ByteArray->QS),(∀us,xm (opened cp num (da S L rev) k N).1 (opened cp num (da S L rev) k N).2 us (K us) (s us))/\
  ∀ps:List aD,ps.map aD.plain=(opened cp num (da S L rev) k N).1->na ps K s:=by
 have b:=λus=>h.QU d us
 refine⟨λus=>(b us).choose,λus=>(b us).choose_spec.choose,λus=>(b us).choose_spec.choose_spec,λps e=>?_⟩
 have a:=λus=>(b us).choose_spec.choose_spec
 have m:=h.kz rev k N d.2
 have i:(opened cp num (da S L rev) k N).1.length=ps.length:=by rw[<-e,List.length_map]
 obtain⟨_,f,j,_,_,_⟩:=(a ⟨#[]⟩).ok ps e
 exact⟨λus=>((a us).ok ps e).1,λus=>((a us).ok ps e).2.2.2.1,λus=>(a us).n,λus=>by rw[(a us).ln,i],λp l=>h.RZ d (p:=p.plain) (by rw[<-e];exact List.mem_map.2 ⟨p,l,rfl⟩),λus=>((a us).ok ps e).2.2.2.2.1,f,j,by omega⟩
end
theorem vF(ps:List aD):fN ps=(ps.map aD.plain).flatMap (·.eR):=by
 unfold fN
 rw[List.flatMap_map];rfl
theorem DA(w:kR)(R:aB)(h:w.is R)(k:bc)(b:Int)(c1:b<=9223372036854775807):
  Spec prog 10 [.agg w.enc.toArray,.agg [.string k.os,.string k.oi].toArray,.string k.rel,.int .i64 b] R [] λv H'=>v=.bool true/\H'=[]:=by
 have c3:=Aa w R h
 have i1:One w.c.vs:=RS.ap h.c.ss
 have i2:One w.c.vc:=RS.ap h.c.sc
 have i3:=h.rs.ap
 have iw:ca w.enc:=⟨λu e=>by
  simp only[kR.enc,List.mem_cons,List.not_mem_nil,or_false]at e
  rcases e with rfl|rfl|rfl
  ·exact i1.h
  ·exact i2.h
  ·exact i3.h⟩
 refine Spec.body Tryz.func10 rfl Tryz.results10 Tryz.ntmps10 rfl ?_
 refine .sr ?_
 refine .bY rfl (λb4=>?_)
 refine .bY rfl (λb5=>?_)
 refine .ag rfl<|.z<|.q (.aM rfl) ?_
 refine .cO (c3.weaken cZ) (λu Q e=>?_)
 obtain⟨c,p1,p2,p3,ok,rfl,d6,d7,d8,hc,c8,d1,hW⟩:=e
 have d3:One c.vs:=RS.ap hc.ss
 have d4:One c.vc:=RS.ap hc.sc
 have d5:ca c.enc:=⟨hc.cT⟩
 refine .mo rfl<|.q .extract<|.q .extract<|.q .extract<|.q .extract<|.q .extract ?_
 refine .bX (λb0=>?_)
 refine .ag rfl<|.ag rfl<|.bP rfl rfl<|.ag rfl<|.ag rfl<|.zs<|.sr<|.mo rfl<|.q .not<|.zn ?_
 refine .cond rfl (λh1=>?_) λh1=>?_
 refine .sr ?_
 refine .aY (ot _) (λu e=>?_)
 subst e
 refine .az rfl ?_
 refine .ret (aH (bp _ (.one (.tmp rfl)) (bf.none _) ?_))
 ·exact⟨rfl,rfl⟩
 have c5:ok=true:=by simpa using h1
 subst c5
 obtain⟨a,g,x,S,c6,L,rfl,rfl,rfl,B⟩:=hW rfl
 obtain⟨N,Z⟩:=B.fin S.head k
 have c2:=B.kz S.head k N Z.2
 have a9:=B.max Z
 have a4:=B.gW S.head B.uP k 1048576 (by omega) Z
 rw[a9]at a4
 have a3:=λR' b8=>(B.mono (R':=R') b8).Pd S.head k 1048576 Z
 rw[a9]at a3
 obtain⟨vL,b1⟩:=B.d
 have b6:=b1.pc
 have e0:One vL:=b1.rs.ap
 obtain⟨K,s,a6,a7⟩:=B.B1 Z
 generalize opened (iG w.c.plain) c6 (da S L S.head) k N=OP at *
 obtain⟨op,V⟩:=OP
 simp only at c2 a9 a4 a3 a6 a7
 refine .kn<|.seq ?_
 refine bz.cS [(2,_),(3,_),(5,_),(11,_),(12,_)] kE.c.c.c.c.c (X:=Value×List aD×ay×Nat) (λy=>RS (λb o=>(R b o\/(b,o)∈Q)\/(b,o)∈y.2.2.1) 8 aD.enc y.1 y.2.1/\(∀p∈y.2.1,aD.is (λb o=>(R b o\/(b,o)∈Q)\/(b,o)∈y.2.2.1) p)/\y.2.1.map aD.plain=op) (λy E=>(14,.pointer (some ⟨y.2.2.2,0,none⟩))::(15,.int .i64 0)::E) (λy=>[[(y.2.2.2,.cells [y.1,iN V].toArray 81 (0,0))],y.2.2.1,bl b0 c.enc 25,Q,bl b5 [.string k.os,.string k.oi] 44,bl b4 w.enc 28]) ?_ ?_
 refine .cL [13] mixed ?_
 refine .tO 0 rfl .move<|.tO 1 rfl .move<|.tO 2 rfl .move ?_
 refine .tO 3 rfl (.lI rfl) ?_
 refine .tO 4 rfl (.gz rfl) ?_
 refine .fw 5 rfl (.bZ (rc:=⟨(b6.add 1).mono λb o a=>a.elim .inl λa=>.inr (by simp[a])⟩) rfl) (by kernel_rfl) ?_
 refine .tO 6 rfl (.aM rfl)<|.tO 7 rfl .move ?_
 refine RA.kL 8 12 rfl rfl (by kernel_rfl) rfl ?_ ?_
 refine .cO ((ob a4).weaken λb o a=>a.elim .inl λa=>.inr (by simp[a])) (λu G e=>?_)
 obtain⟨F,A,rfl,j,C,r⟩:=e
 have b2:=j.ap
 refine .nil (Next.sub ?_)
 refine .tO 9 rfl .move<|.tO 10 rfl .extract<|.tK 11 rfl .extract ?_
 refine .sT 12 rfl ?_
 refine .bX (λH=>?_)
 refine .nil (Next.sub ?_)
 refine .sT 13 rfl ?_
 refine .bP rfl rfl ?_
 refine .nil (Next.mod rfl ?_)
 refine .tK 14 rfl .assign ?_
 refine RA.nil (by kernel_rfl) ?_
 ·first
   |exact aF (F,A,G,H) ⟨j,C,r⟩ kE.c.c.c.c.c.c.c rH
   |exact aF (F,A,G,H) ⟨j,C,r⟩ kE.c.c.c.c.c.c.c (aQ [1,0,0,0,0,0])
 refine .bX (λH=>?_)
 refine .nil (Next.sub ?_)
 refine .sT 8 rfl ?_
 refine .cO ((ob a4).weaken λb o a=>a.elim .inl λa=>.inr (by simp[a])) (λu G e=>?_)
 obtain⟨F,A,rfl,j,C,r⟩:=e
 have b2:=j.ap
 refine .nil (Next.sub ?_)
 refine .tO 9 rfl .move<|.tO 10 rfl .extract<|.tK 11 rfl .extract ?_
 refine .sT 13 rfl ?_
 refine .bP rfl rfl ?_
 refine .nil (Next.mod rfl ?_)
 refine .tK 14 rfl .assign ?_
 refine RA.nil (by kernel_rfl) ?_
 ·first
   |exact aF (F,A,G,H) ⟨j,C,r⟩ kE.c.c.c.c.c.c.c rH
   |exact aF (F,A,G,H) ⟨j,C,r⟩ kE.c.c.c.c.c.c.c (aQ [1,0,0,0,0,0])
 intro y hy
 obtain⟨F,A,G,H⟩:=y
 obtain⟨j,C,r⟩:=hy
 simp only at j C r⊢
 have b2:=j.ap
 have hX:=a7 A r
 refine av<|.seq ?_
 refine bz.cS [(3,_),(14,_),(15,_)] kE.c.c.c (X:=Value×List aD×ay×Nat) (λy=>RS (λb o=>(R b o\/(b,o)∈Q)\/(b,o)∈y.2.2.1) 8 aD.enc y.1 y.2.1/\(∀p∈y.2.1,aD.is (λb o=>(R b o\/(b,o)∈Q)\/(b,o)∈y.2.2.1) p)/\y.2.1.map aD.plain=op) (λy E=>(16,.pointer (some ⟨y.2.2.2,0,none⟩))::(17,.int .i64 0)::E) (λy=>[[(y.2.2.2,.cells [y.1,iN V].toArray 86 (0,0))],y.2.2.1,bl H [F,iN V] 81,G,bl b0 c.enc 25,Q,bl b5 [.string k.os,.string k.oi] 44,bl b4 w.enc 28]) ?_ ?_
 refine .cL [13] mixed ?_
 refine .tO 0 rfl (.aM rfl)<|.tO 1 rfl .move<|.tO 2 rfl .move ?_
 refine .tO 3 rfl (.lI rfl) ?_
 refine .tO 4 rfl (.gz rfl) ?_
 refine .fw 5 rfl (.bZ (rc:=⟨(b6.add 1).mono λb o a=>a.elim .inl λa=>.inr (by simp[a])⟩) rfl) (by kernel_rfl) ?_
 refine .tO 6 rfl (.aM rfl)<|.tO 7 rfl .move ?_
 refine RA.kL 8 12 rfl rfl (by kernel_rfl) rfl ?_ ?_
 refine .cO ((ob (a3 _ λb o a=>a)).weaken λb o a=>a.elim .inl λa=>.inr (by simp[a])) (λu O e=>?_)
 obtain⟨M,m,rfl,f,D,n⟩:=e
 have b3:=f.ap
 refine .nil (Next.sub ?_)
 refine .tO 9 rfl .move<|.tO 10 rfl .extract<|.tK 11 rfl .extract ?_
 refine .sT 12 rfl ?_
 refine .bX (λT=>?_)
 refine .nil (Next.sub ?_)
 refine .sT 13 rfl ?_
 refine .bP rfl rfl ?_
 refine .nil (Next.mod rfl ?_)
 refine .tK 14 rfl .assign ?_
 refine RA.nil (by kernel_rfl) ?_
 ·first
   |exact aF (M,m,O,T) ⟨f,D,n⟩ kE.c.c.c.c.c rH
   |exact aF (M,m,O,T) ⟨f,D,n⟩ kE.c.c.c.c.c (aQ [1,0,0,0,0,0,0,0])
 refine .bX (λT=>?_)
 refine .nil (Next.sub ?_)
 refine .sT 8 rfl ?_
 refine .cO ((ob (a3 _ λb o a=>a)).weaken λb o a=>a.elim .inl λa=>.inr (by simp[a])) (λu O e=>?_)
 obtain⟨M,m,rfl,f,D,n⟩:=e
 have b3:=f.ap
 refine .nil (Next.sub ?_)
 refine .tO 9 rfl .move<|.tO 10 rfl .extract<|.tK 11 rfl .extract ?_
 refine .sT 13 rfl ?_
 refine .bP rfl rfl ?_
 refine .nil (Next.mod rfl ?_)
 refine .tK 14 rfl .assign ?_
 refine RA.nil (by kernel_rfl) ?_
 ·first
   |exact aF (M,m,O,T) ⟨f,D,n⟩ kE.c.c.c.c.c rH
   |exact aF (M,m,O,T) ⟨f,D,n⟩ kE.c.c.c.c.c (aQ [1,0,0,0,0,0,0,0])
 intro y hy
 obtain⟨M,m,O,T⟩:=y
 obtain⟨f,D,n⟩:=hy
 simp only at f D n⊢
 have b3:=f.ap
 have b9:=a7 m n
 have c4:fN m=fN A:=by rw[vF,vF,r,n]
 have d2:m.length=op.length:=by rw[<-n,List.length_map]
 refine av<|.seq<|.sr<|.mo rfl<|.q .et<|.mo rfl ?_
 refine .split (t:=57) rfl (λY=>?_) (λY=>?_)
 ·simp at Y
 refine .gT Y<|.mo rfl<|.gT Y<|.q .et<|.q (.aS Y) ?_
 refine .zn ?_
 refine .cond rfl (λh2=>?_) λh2=>?_
 ·simp at h2
 refine .kn<|.sr<|.q (.aM rfl)<|.mo rfl ?_
 refine .cO (B0 F V A _ (j.mono λb o a=>pU (by simp only[List.flatten_cons,List.mem_append];grind) a) (λp hp=>(C p hp).mono λb o a=>pU (by simp only[List.flatten_cons,List.mem_append];grind) a) K s hX b c1) (λu T8 e=>?_)
 obtain⟨vo,l,er,rfl,hO,a8⟩:=e
 have e1:=hO.ap
 refine .mo rfl<|.q .extract<|.q .extract<|.ag rfl<|.ag rfl<|.zs<|.sr<|.mo rfl<|.q .lss<|.zn ?_
 refine .cond rfl (λh3=>?_) λh3=>?_
 have c0:b<1:=by simpa using h3
 obtain⟨rfl,rfl⟩:l=[]/\er=2:=by
  rcases a8 with⟨_,h8,J⟩|⟨J,_⟩|⟨J,_⟩
  ·exact⟨h8,J⟩
  ·omega
  ·omega
 refine .sr<|.mo rfl<|.q .bQ<|.mo rfl ?_
 refine .split (t:=71) rfl (λU=>?_) (λU=>?_)
 refine .gT U<|.mo rfl<|.gT U<|.q (.dK hO) ?_
 refine .gT U<|.q .bQ<|.q (.aT U) ?_
 refine .mo rfl ?_
 refine .split (t:=76) rfl (λa0=>?_) (λa0=>?_)
 refine .gT a0 ?_
 refine .aY (ot _) (λu e=>?_)
 subst e
 refine .q (.aT a0) ?_
 refine .az rfl ?_
 refine .ret (aH (bp _ (.one (.tmp rfl)) (bf.none _) ?_))
 ·exact⟨rfl,rfl⟩
 ·simp at a0
 ·simp at U
 have c0:¬b<1:=by simpa using h3
 refine .kn<|.seq<|.sr<|.mo rfl<|.q .bQ<|.zn ?_
 refine .cond rfl (λh4=>?_) λh4=>?_
 have b7:er=16:=by simpa using h4
 obtain⟨rfl,rfl,W,hK⟩:l=[]/\er=16/\∃W,b<K W:=by
  rcases a8 with⟨J,_⟩|⟨_,h7,h8,W,_,hK⟩|⟨_,J,_⟩
  ·omega
  ·exact⟨h7,h8,W,hK⟩
  ·omega
 have c9:=(a6 W).hi
 have d0:=(a6 W).nf
 refine .sr<|.mo rfl<|.q (.dK hO) ?_
 refine .q .bQ<|.mo rfl ?_
 refine .split (t:=84) rfl (λi=>?_) (λi=>?_)
 refine .gT i<|.mo rfl<|.gT i<|.fa rfl<|.gT i<|.lo rfl<|.gT i<|.q (.bH f) ?_
 refine .gT i<|.fa rfl<|.gT i<|.lo rfl<|.gT i ?_
 refine .ia (m.length+V) .add ?_
 refine .gT i<|.q .lss<|.q (.aT i) ?_
 refine .mo rfl ?_
 refine .split (t:=94) rfl (λa1=>?_) (λa1=>?_)
 refine .gT a1 ?_
 refine .aY (ot _) (λu e=>?_)
 subst e
 refine .q (.aT a1) ?_
 refine .az rfl ?_
 refine .ret (aH (bp _ (.one (.tmp rfl)) (bf.none _) ?_))
 ·exact⟨rfl,rfl⟩
 ·have:=bA a1;omega
 ·simp at i
 have b7:¬er=16:=by simpa using h4
 rcases a8 with⟨J,_⟩|⟨_,_,J,_⟩|⟨_,rfl,hK,rfl⟩
 ·omega
 ·omega
 refine .kn<|.sr<|.mo rfl<|.q .bQ<|.mo rfl ?_
 refine .split (t:=99) rfl (λI=>?_) (λI=>?_)
 refine .gT I<|.mo rfl<|.gT I<|.q (.aM rfl)<|.gT I ?_
 refine .cO (P9 M V m _ (f.mono λb o a=>pU (by simp only[List.flatten_cons,List.mem_append];grind) a) (λp hp=>(D p hp).mono λb o a=>pU (by simp only[List.flatten_cons,List.mem_append];grind) a) K s b9) (λu c7 a5=>?_)
 rw[c4]at a5
 have d9:=a5.ap
 refine .gT I ?_
 refine .aY (Qf _ _ _ _ _ hO.rx a5.rx) (λu e=>?_)
 subst e
 refine .q (.aT I) ?_
 refine .mo rfl ?_
 refine .split (t:=105) rfl (λa2=>?_) (λa2=>?_)
 refine .gT a2 ?_
 refine .aY (ot _) (λu e=>?_)
 subst e
 refine .q (.aT a2) ?_
 refine .az rfl ?_
 refine .ret (bp _ (.one (.tmp rfl)) (bf.none _) ?_)
 ·exact⟨rfl,rfl⟩
 ·simp at a2
 ·simp at I
theorem Om{p:bM}{us:ByteArray}{v:Nat->Bool}(g:us∉p.eR)(h:∀j,v j=false)(m:Nat):dh p us v m=false:=by
 induction m using Nat.strongRecOn with
 |_ m ih=>
  match m,ih with
  |0,_=>rw[dh]
  |e+1,ih=>
   rw[dh]
   split
   ·rfl
   ·rename_i n k
    split
    ·split
     ·rename_i i
      have c:=ih (n.a.toNat+1) (by omega)
      have d:=ih (n.b.toNat+1) (by omega)
      rw[c,d]
      split
      ·rfl
      ·split<;>rfl
     ·rfl
    ·rw[Bool.or_eq_false_iff,Bool.and_eq_false_iff]
     refine⟨.inr (List.any_eq_false.2 λs f=>?_),List.any_eq_false.2 λj _=>by rw[h j];simp⟩
     rw[decide_eq_true_eq]
     exact λe=>g (e▸f)
theorem dV.named{ps:List bM}{us:ByteArray}(a:∀p∈ps,us∉p.eR):∀{k:Nat} {s:QS},dV ps us k s->∀j,s.1.getD j false=false
 |0,_,.start=>λj=>by
  rw[List.getD_eq_getElem?_getD,List.getElem?_replicate]
  split<;>rfl
 |k+1,_,.step (s:=s) (i:=i) h hn=>by
  have b:=dV.named a h
  have c:(eK ps us).ex i (λj=>s.1.getD j false)=false:=by
   unfold eK
   simp only
   cases hp:ps[i]? with
   |none=>rfl
   |some p=>exact Om (a p (aO hp)) b _
  unfold qT
  rw[c]
  simp only[Bool.not_false,Bool.or_true,if_true]
  exact b
theorem na.out{ps:List aD}{K:ByteArray->Nat}{s:ByteArray->QS}(h:na ps K s){us:ByteArray}(a:fG s us=true):us∈fN ps:=by
 refine Classical.byContradiction λd=>?_
 have b:=(h.run us).named (λp e c=>d (by rw[vF];exact List.mem_flatMap.2 ⟨p,e,c⟩)) 0
 unfold fG at a
 rw[b]at a
 cases a
theorem RF{ps:List aD}{K:ByteArray->Nat}{s:ByteArray->QS}(h:na ps K s)(us:ByteArray):decide (us∈((fN ps).filter (fG s)).foldl fF [])=fG s us:=by
 rw[Bool.eq_iff_iff,decide_eq_true_eq,vA,List.mem_filter]
 exact⟨λh=>h.elim (λh=>(by cases h)) λh=>h.2,λa=>.inr ⟨h.out a,a⟩⟩
theorem RG{l:List ByteArray}{i:Nat}{x us:ByteArray}(h:l[i]? =some x):decide (us∈l.take (i+1))=(decide (us∈l.take i)||decide (x=us)):=by
 rw[List.take_add_one,h,Bool.eq_iff_iff,decide_eq_true_eq,Bool.or_eq_true,decide_eq_true_eq,decide_eq_true_eq,List.mem_append]
 simp only[Option.toList_some,List.mem_singleton]
 exact or_congr Iff.rfl ⟨Eq.symm,Eq.symm⟩
theorem Dz(w:kR)(R:aB)(h:w.is R)(k:bc)(us:ByteArray)(a3:us.size<=9223372036854775807):
  Spec prog 11 [.agg w.enc.toArray,.agg [.string k.os,.string k.oi].toArray,.string k.rel,.string us] R [] λv H'=>v=.bool true/\H'=[]:=by
 have b3:=Aa w R h
 have i1:One w.c.vs:=RS.ap h.c.ss
 have i2:One w.c.vc:=RS.ap h.c.sc
 have i3:=h.rs.ap
 have iw:ca w.enc:=⟨λu e=>by
  simp only[kR.enc,List.mem_cons,List.not_mem_nil,or_false]at e
  rcases e with rfl|rfl|rfl
  ·exact i1.h
  ·exact i2.h
  ·exact i3.h⟩
 refine Spec.body Tryz.func11 rfl Tryz.results11 Tryz.ntmps11 rfl ?_
 refine .sr ?_
 refine .bY rfl (λb4=>?_)
 refine .bY rfl (λb5=>?_)
 refine .ag rfl<|.z<|.q (.aM rfl) ?_
 refine .cO (b3.weaken cZ) (λu Z e=>?_)
 obtain⟨c,p1,p2,p3,ok,rfl,c5,c6,c7,hc,b9,c1,hW⟩:=e
 have c2:One c.vs:=RS.ap hc.ss
 have c3:One c.vc:=RS.ap hc.sc
 have c4:ca c.enc:=⟨hc.cT⟩
 refine .mo rfl<|.q .extract<|.q .extract<|.q .extract<|.q .extract<|.q .extract ?_
 refine .bX (λa7=>?_)
 refine .ag rfl<|.ag rfl<|.bP rfl rfl<|.ag rfl<|.ag rfl<|.zs<|.sr<|.mo rfl<|.q .not<|.mo rfl ?_
 refine .split (t:=32) rfl (λm=>?_) (λm=>?_)
 refine .gF m<|.gF m<|.gF m<|.q (.aT m) ?_
 refine .zn<|.iH<|.sr ?_
 refine .aY (ot _) (λu e=>?_)
 subst e
 refine .az rfl ?_
 refine .ret (aH (bp _ (.one (.tmp rfl)) (bf.none _) ?_))
 ·exact⟨rfl,rfl⟩
 refine .gT m<|.mo rfl<|.gT m ?_
 refine .aY (wz us a3 _) (λu e=>?_)
 subst e
 refine .gT m<|.q .not<|.q (.aS m) ?_
 refine .zn ?_
 refine .cond rfl (λh1=>?_) λh1=>?_
 refine .sr ?_
 refine .aY (ot _) (λu e=>?_)
 subst e
 refine .az rfl ?_
 refine .ret (aH (bp _ (.one (.tmp rfl)) (bf.none _) ?_))
 ·exact⟨rfl,rfl⟩
 have b6:ok=true:=by simpa using m
 subst b6
 have b0:gH us=true:=by simpa using h1
 obtain⟨a,g,x,S,b8,L,rfl,rfl,rfl,r⟩:=hW rfl
 obtain⟨N,O⟩:=r.fin S.head k
 have b2:=r.kz S.head k N O.2
 have a0:=r.max O
 have Y:=r.gW S.head r.uP k 1048576 (by omega) O
 rw[a0]at Y
 obtain⟨vL,a1⟩:=r.d
 have a5:=a1.pc
 have c8:One vL:=a1.rs.ap
 obtain⟨K,s,D,a2⟩:=r.B1 O
 have V:=QN (R':=R) r S.head r.uP k us a3 1048576 (by omega) O (D us).run (D us).n
 rw[a0]at V
 generalize opened (iG w.c.plain) b8 (da S L S.head) k N=OP at *
 obtain⟨op,oe⟩:=OP
 simp only at b2 a0 Y D a2 V
 have a9:po us (op,oe,0) 1048576 (K us) (s us).1=(fG s us,0):=by
  have h6:=(D us).hi
  have h7:=(D us).nf
  have h8:eP 1048576 (K us) (s us).1=((s us).1,K us,0):=by
   unfold eP
   rw[if_neg (by omega),if_neg (by omega)]
  unfold po
  rw[if_neg (by rw[b0];simp),if_neg (by simp),h8,if_neg (by simp)]
  rfl
 rw[a9]at V
 refine .kn<|.seq ?_
 refine bz.cS [(2,_),(3,_),(5,_),(9,_),(10,_),(12,_)] kE.c.c.c.c.c.c (X:=Value×List aD×ay×Nat) (λy=>RS (λb o=>(R b o\/(b,o)∈Z)\/(b,o)∈y.2.2.1) 8 aD.enc y.1 y.2.1/\(∀p∈y.2.1,aD.is (λb o=>(R b o\/(b,o)∈Z)\/(b,o)∈y.2.2.1) p)/\y.2.1.map aD.plain=op) (λy E=>(14,.pointer (some ⟨y.2.2.2,0,none⟩))::(15,.int .i64 0)::E) (λy=>[[(y.2.2.2,.cells [y.1,iN oe].toArray 81 (0,0))],y.2.2.1,bl a7 c.enc 25,Z,bl b5 [.string k.os,.string k.oi] 44,bl b4 w.enc 28]) ?_ ?_
 refine .cL [13] mixed ?_
 refine .tO 0 rfl .move<|.tO 1 rfl .move<|.tO 2 rfl .move ?_
 refine .tO 3 rfl (.lI rfl) ?_
 refine .tO 4 rfl (.gz rfl) ?_
 refine .fw 5 rfl (.bZ (rc:=⟨(a5.add 1).mono λb o a=>a.elim .inl λa=>.inr (by simp[a])⟩) rfl) (by kernel_rfl) ?_
 refine .tO 6 rfl (.aM rfl)<|.tO 7 rfl .move ?_
 refine RA.kL 8 12 rfl rfl (by kernel_rfl) rfl ?_ ?_
 refine .cO ((ob Y).weaken λb o a=>a.elim .inl λa=>.inr (by simp[a])) (λu H e=>?_)
 obtain⟨F,A,rfl,j,B,C⟩:=e
 have a4:=j.ap
 refine .nil (Next.sub ?_)
 refine .tO 9 rfl .move<|.tO 10 rfl .extract<|.tK 11 rfl .extract ?_
 refine .sT 12 rfl ?_
 refine .bX (λI=>?_)
 refine .nil (Next.sub ?_)
 refine .sT 13 rfl ?_
 refine .bP rfl rfl ?_
 refine .nil (Next.mod rfl ?_)
 refine .tK 14 rfl .assign ?_
 refine RA.nil (by kernel_rfl) ?_
 ·first
   |exact aF (F,A,H,I) ⟨j,B,C⟩ kE.c.c.c.c.c.c.c.c rH
   |exact aF (F,A,H,I) ⟨j,B,C⟩ kE.c.c.c.c.c.c.c.c (aQ [1,0,0,0,0,0])
 refine .bX (λI=>?_)
 refine .nil (Next.sub ?_)
 refine .sT 8 rfl ?_
 refine .cO ((ob Y).weaken λb o a=>a.elim .inl λa=>.inr (by simp[a])) (λu H e=>?_)
 obtain⟨F,A,rfl,j,B,C⟩:=e
 have a4:=j.ap
 refine .nil (Next.sub ?_)
 refine .tO 9 rfl .move<|.tO 10 rfl .extract<|.tK 11 rfl .extract ?_
 refine .sT 13 rfl ?_
 refine .bP rfl rfl ?_
 refine .nil (Next.mod rfl ?_)
 refine .tK 14 rfl .assign ?_
 refine RA.nil (by kernel_rfl) ?_
 ·first
   |exact aF (F,A,H,I) ⟨j,B,C⟩ kE.c.c.c.c.c.c.c.c rH
   |exact aF (F,A,H,I) ⟨j,B,C⟩ kE.c.c.c.c.c.c.c.c (aQ [1,0,0,0,0,0])
 intro y hy
 obtain⟨F,A,H,I⟩:=y
 obtain⟨j,B,C⟩:=hy
 simp only at j B C⊢
 have a4:=j.ap
 have hX:=a2 A C
 refine av<|.sr<|.q (.aM rfl) ?_
 refine .cO (B0 F oe A _ (j.mono λb o a=>pU (by simp only[List.flatten_cons,List.mem_append];grind) a) (λp hp=>(B p hp).mono λb o a=>pU (by simp only[List.flatten_cons,List.mem_append];grind) a) K s hX 1048576 (by omega)) (λu T5 e=>?_)
 obtain⟨vo,l,er,rfl,U,a8⟩:=e
 have c9:=U.ap
 rcases a8 with⟨h9,_⟩|⟨_,_,_,a6,_,h9⟩|⟨_,rfl,_,rfl⟩
 ·omega
 ·exfalso
  have h6:=(D a6).hi
  have h7:=(D a6).nf
  omega
 have b7:=RF hX us
 generalize ((fN A).filter (fG s)).foldl fF []=l at *
 have c0:=U.sg.le
 refine .mo rfl<|.q .extract<|.q .extract<|.ag rfl<|.ag rfl<|.zs<|.cL [] mixed ?_
 refine .tO 0 rfl .move<|.tO 1 rfl .move<|.tO 2 rfl .move ?_
 refine .tO 3 rfl (.lI rfl) ?_
 refine .tO 4 rfl (.gz rfl) ?_
 refine .fw 5 rfl (.bZ (rc:=⟨(a5.add 1).mono λb o a=>a.elim .inl λa=>.inr (by simp[a])⟩) rfl) (by kernel_rfl) ?_
 refine .tO 6 rfl (.aM rfl)<|.tO 7 rfl .move<|.tO 8 rfl .move ?_
 refine .sT 9 rfl ?_
 refine .aY (V.weaken λb o a=>a.elim .inl λa=>.inr (by simp[a])) (λu e=>?_)
 subst e
 refine .nil (Next.sub ?_)
 refine .tO 10 rfl .move<|.tO 11 rfl .extract<|.tO 12 rfl .extract<|.tO 13 rfl .assign<|.tO 14 rfl .assign ?_
 refine RA.nil (by kernel_rfl) ?_
 refine av<|.seq<|.sr<|.mo rfl<|.q .et<|.mo rfl ?_
 refine .split (t:=70) rfl (λJ=>?_) (λJ=>?_)
 ·simp at J
 refine .gT J<|.mo rfl<|.gT J<|.q .et<|.q (.aS J) ?_
 refine .mo rfl ?_
 refine .split (t:=74) rfl (λM=>?_) (λM=>?_)
 ·simp at M
 refine .gT M<|.mo rfl<|.gT M<|.q .et<|.q (.aS M) ?_
 refine .zn ?_
 refine .cond rfl (λh2=>?_) λh2=>?_
 ·simp at h2
 refine .kn<|.sr<|.ag rfl<|.zs<|.sr<|.az rfl<|.block ?_
 refine .cz [(3,_),(16,_),(18,_)] (X:=Nat) (λi=>i<=l.length) (λi E=>(21,iN i)::(20,.bool (decide (us∈l.take i)))::E) (λ_ G=>G) (λi=>l.length-i) 0 (Nat.zero_le _) kE.c.c.c.c.c rH ?_
 rintro i hi
 refine .seq<|.sr<|.mo rfl<|.mo rfl<|.q (.dK U) ?_
 refine .q .lss<|.zn ?_
 refine .cond rfl (λh3=>?_) λh3=>?_
 have Q:i<l.length:=cb h3
 obtain⟨z,hz⟩:=bL Q
 have W:=RG (us:=us) hz
 refine .kn<|.seq<|.block<|.region<|.mo rfl<|.mo rfl ?_
 refine .split (t:=85) rfl (λf=>?_) (λf=>?_)
 refine .gF f<|.gF f<|.gF f<|.gF f<|.gF f<|.gF f<|.q (.aT f) ?_
 refine .ag rfl<|.nil<|aV<|av<|.region<|.mo rfl ?_
 refine .ia (i+1) .add ?_
 refine .ag rfl<|.nil ?_
 ·first
   |exact aW (i+1) Q (by omega) (by rw[W];simp only[f,Bool.true_or];exact kE.c.c.c.c.c) rH
   |exact aW (i+1) Q (by omega) (by rw[W];simp only[f,Bool.false_or];exact kE.c.c.c.c.c) rH
 refine .gT f<|.mo rfl<|.gT f<|.mo rfl<|.gT f ?_
 refine .aL i U hz (λd0=>?_)
 refine .gT f<|.lo rfl<|.gT f<|.mo rfl<|.gT f<|.q .dP<|.q (.aS f) ?_
 refine .ag rfl<|.nil<|aV<|av<|.region<|.mo rfl ?_
 refine .ia (i+1) .add ?_
 refine .ag rfl<|.nil ?_
 ·first
   |exact aW (i+1) Q (by omega) (by rw[W];simp only[f,Bool.true_or];exact kE.c.c.c.c.c) rH
   |exact aW (i+1) Q (by omega) (by rw[W];simp only[f,Bool.false_or];exact kE.c.c.c.c.c) rH
 have b1:i=l.length:=by have:=bA h3;omega
 subst b1
 rw[List.take_length,b7]
 refine .exit<|bm<|bs<|bo<|av<|.sr<|.mo rfl<|.mo rfl<|.q .Dx<|.mo rfl ?_
 refine .split (t:=96) rfl (λT=>?_) (λT=>?_)
 refine .gT T ?_
 refine .aY (ot _) (λu e=>?_)
 subst e
 refine .q (.aT T) ?_
 refine .az rfl ?_
 refine .ret (bp _ (.one (.tmp rfl)) (bf.none _) ?_)
 ·exact⟨rfl,rfl⟩
 ·simp at T
end Go.Proofs.YtdljmchhecoakaaGreat

/- What the law 'LookupFinds' uses. No condition. -/
import Derived.Carry
import Derived.ChangeShapes
import Derived.Test.YtdljmchhecoakaaGreatKLookupFindsI
import Derived.Test.YtdljmchhecoakaaGreatKLookupFindsJ
import Derived.Test.YtdljmchhecoakaaGreatKLookupFindsL
import Derived.Test.YtdljmchhecoakaaGreatKLookupFindsQ
import Derived.Test.YtdljmchhecoakaaGreatKLookupFindsR
import Derived.Test.YtdljmchhecoakaaGreatKLookupFindsS
import Derived.Test.YtdljmchhecoakaaGreatKLookupFindsT
namespace Go.Proofs.YtdljmchhecoakaaGreat
set_option linter.defProp false
def ahf:=@if_neg
def ahg:=@if_pos
def ahh:=@List.filter_append
def ahi:=@List.length_map
def ahj:=@List.mem_singleton
def ahk:=@List.mem_map
def ahl:=@List.length_take
def ahm:=@List.length_singleton
def ahn:=@List.take_length
def aho:=@Bool.and_eq_true
def ahp:=@Nat.zero_le
def ahq:=@Nat.le_trans
def ahr:=@List.take_add_one
def ahs:=@List.length_filter_le
def aht:=@decide_eq_true_eq
def ahu:=@List.map_append
def ahv:=@List.all_eq_true
def ahw:=@List.getD_eq_getElem?_getD
def ahx:=@List.foldl_append
def ahy:=@List.getElem?_map
set_option linter.unusedVariables false
set_option linter.unusedSimpArgs false
set_option maxRecDepth 8000
structure uH(t:ByteArray)(L:List eY)(C:List Sp):Prop where
 sz:t.size<=16384
 pl:Pl t
 lx:rA t=some L
 ok:∀x∈L,gp x
 len:L.length<=1000000
 cf:lj isWord (L.length+1) [] (L,false)=(C,([],false))
 jG:(⟨C,[]⟩:Cf).jG isWord=false
 num:((⟨C,[]⟩:Cf).numbers isWord dh).1=0
 ik:C.length<=1000/\∀y∈C,y.bR.length<=1000
def lz(t:ByteArray):List eY:=(rA t).getD []
def gE(t:ByteArray):List Sp:=(lj isWord ((lz t).length+1) [] (lz t,false)).1
theorem uH.of{t:ByteArray}(b:t.size<=16384)(c:(List.range t.size).all (λk=>decide (fh t k≠34)&&decide (fh t k≠47)&&decide (fh t k≠45))=true)(d:(rA t).isSome=true)(e:(lz t).all (λx=>decide (gp x))=true)(f:(lz t).length<=1000000)
  (g:(lj isWord ((lz t).length+1) [] (lz t,false)).2.1.isEmpty=true)(h:(lj isWord ((lz t).length+1) [] (lz t,false)).2.2=false)(i:(⟨gE t,[]⟩:Cf).jG isWord=false)(j:((⟨gE t,[]⟩:Cf).numbers isWord dh).1=0)(a:(decide ((gE t).length<=1000)&&(gE t).all λy=>decide (y.bR.length<=1000))=true):uH t (lz t) (gE t):=by
 refine⟨b,λk m=>?_,?_,λx o=>bT (ahv.1 e x o),f,?_,i,j,?_⟩
 ·have:=ahv.1 c k (List.mem_range.2 m)
  simp only[aho,aht]at this
  exact⟨this.1.1,this.1.2,this.2⟩
 ·obtain⟨l,n⟩:=Option.isSome_iff_exists.1 d
  unfold lz
  rw[n];rfl
 ·refine Prod.ext rfl (Prod.ext ?_ h)
  exact List.isEmpty_iff.1 g
 ·simp only[aho,aht]at a
  exact⟨a.1,λy p=>bT (ahv.1 a.2 y p)⟩
theorem OI{e:ep}{num:List Nat}(f:e.ll.map (·.2)=rows e.c.plain.bj num)(d:e.c.plain.bj.length<=1000/\∀y∈e.c.plain.bj,y.bR.length<=1000):e.ll.length<=1000000/\∀q∈e.ll,q.2.length<=1000000:=by
 have l:e.ll.length=e.c.plain.bj.length:=by rw[<-ni e.c.plain.bj num, <-f,ahi]
 refine⟨by have:=d.1;omega,λq j=>?_⟩
 have k:q.2∈rows e.c.plain.bj num:=by rw[<-f];exact ahk.2 ⟨q,j,rfl⟩
 obtain⟨i,a,g⟩:=List.mem_iff_getElem.1 k
 rw[ni]at a
 have b:=oV (n:=num) (aZ a)
 rw[aZ (by rw[ni];exact a),g]at b
 have h:=Option.some.inj b
 rw[h,ahl]
 have:=d.2 _ (List.getElem_mem a)
 omega
open Tryz
theorem O1{n r:Value}{rev:Int}{k:bf}{b:Int}{R:ay}{D:List bO×Nat×Int}(i1:One n)(i2:One r)(G:Spec prog 34 [n,r,.int .u64 rev,.agg [.string k.os,.string k.oi].toArray,.string k.rel,.int .i64 b] R [] (lD R D))(us:ByteArray)(L:us.size<=9223372036854775807)(E:b<=9223372036854775807)
  (J:D.2.2=0->∀ps:List aH,ps.map aH.plain=D.1->lG ps us/\0<ps.length){K:Nat}{s:QS}(d:D.2.2=0->dR D.1 us K s)(I:iM s.2):
  Spec prog 26 [n,r,.int .u64 rev,.agg [.string k.os,.string k.oi].toArray,.string k.rel,.string us,.int .i64 b] R [] λu H'=>u=.tuple [.bool (jR us D b K s.1).1,.int .i64 (jR us D b K s.1).2].toArray/\H'=[]:=by
 have a:jR us D b K s.1=if dY us=false then(false,9)else if D.2.2≠0 then(false,D.2.2)
  else if(eG b K s.1).2.2≠0 then(false,(eG b K s.1).2.2)else((eG b K s.1).1.getD 0 false,0):=rfl
 generalize jR us D b K s.1=out at *
 refine Spec.body func26 rfl results26 ntmps26 rfl ?_
 refine .sr ?_
 refine .cb rfl (λQ=>?_)
 refine .ag rfl<|.ag rfl<|.zs<|.sr<|.mo rfl ?_
 refine .aX ((rq us L R).weaken cM) (λu e=>?_)
 subst e
 refine .q .not<|.zn ?_
 refine .cond rfl (λg=>?_) λg=>?_
 have j:dY us=false:=by simpa using g
 rw[ahg j]at a
 subst a
 refine .sr<|.ag rfl<|.az rfl ?_
 refine .ret (aJ (aY _ (.two (.tmp rfl) (.tmp rfl)) (.none _) ?_))
 ·exact⟨rfl,rfl⟩
 have j:¬dY us=false:=by simpa using g
 rw[ahf j]at a
 refine .kn<|.sr<|.mo rfl<|.mo rfl<|.mo rfl<|.q (.aM rfl)<|.mo rfl<|.mo rfl ?_
 refine .cX ((qT G).weaken cM) (λu N e=>?_)
 obtain⟨M,ps,rfl,w,C,v⟩:=e
 have V:=w.aE
 refine .mo rfl<|.q .extract<|.q .extract ?_
 refine .bX (λS=>?_)
 refine .bN rfl rfl<|.ag rfl<|.zs<|.sr<|.mo rfl<|.q .eh<|.zn ?_
 refine .cond rfl (λh=>?_) λh=>?_
 have l:D.2.2≠0:=by simpa using h
 rw[ahg l]at a
 subst a
 refine .sr<|.mo rfl<|.ag rfl<|.az rfl ?_
 refine .ret (aJ (aY _ (.two (.tmp rfl) (.tmp rfl)) (.none _) ?_))
 ·exact⟨rfl,rfl⟩
 have m:D.2.2=0:=by simpa using h
 rw[ahf (by rw[m];simp)]at a
 obtain⟨y,T⟩:=J m ps v
 have d:=d m
 rw[<-v]at d
 have x:=λA=>Cr y.ok d (b:=b) A
 rw[ahi]at x
 refine .kn<|.sr<|.q (.aM rfl)<|.mo rfl<|.mo rfl ?_
 refine .cX (CX M _ us ps _ (w.mono λb o c=>c.elim .inl λc=>.inr (by simp[c])) (λp H=>(C p H).mono λb o c=>c.elim .inl λc=>.inr (by simp[c])) y b E K s d I) (λu O e=>?_)
 obtain⟨X,rfl,B⟩:=e
 refine .mo rfl<|.q .extract<|.q .extract<|.q .extract<|.ag rfl<|.ag rfl<|.ag rfl<|.zs<|.sr<|.mo rfl<|.q .eh<|.zn ?_
 refine .cond rfl (λi=>?_) λi=>?_
 have l:(eG b K s.1).2.2≠0:=by simpa using i
 rw[ahg l]at a
 subst a
 refine .sr<|.mo rfl<|.ag rfl<|.az rfl ?_
 refine .ret (aJ (aY _ (.two (.tmp rfl) (.tmp rfl)) (.none _) ?_))
 ·exact⟨rfl,rfl⟩
 have z:(eG b K s.1).2.2=0:=by simpa using i
 rw[ahf (by rw[z];simp)]at a
 obtain⟨_,U⟩:=x z
 obtain⟨f,t⟩:∃f,(eG b K s.1).1[0]? =some f:=⟨_,aZ (by omega)⟩
 have F:(eG b K s.1).1.getD 0 false=f:=by rw[ahw,t];rfl
 rw[F]at a
 subst a
 refine .kn<|.sr<|.mo rfl ?_
 refine .aK 0 B t (λW=>?_)
 refine .lo rfl<|.ag rfl<|.az rfl ?_
 refine .ret (aY _ (.two (.tmp rfl) (.tmp rfl)) (.none _) ?_)
 ·exact⟨rfl,rfl⟩
def t21:ByteArray:=⟨#[110,97,109,101,115,112,97,99,101,32,100,32,123,32,114,101,108,97,116,105,111,110,32,97,58,32,117,115,101,114,59,32,125]⟩
theorem TU:uH t21 (lz t21) (gE t21):=.of (by decide+kernel) (by decide+kernel) (by decide+kernel) (by decide+kernel) (by decide+kernel) (by decide+kernel) (by decide+kernel) (by decide+kernel) (by decide+kernel) (by decide+kernel)
def iH:bf:=⟨⟨#[100]⟩,⟨#[120]⟩,⟨#[97]⟩⟩
def lM:ByteArray:=⟨#[98,111,98]⟩
def uy:aB:=⟨⟨#[100]⟩,⟨#[120]⟩,⟨#[97]⟩,⟨#[98,111,98]⟩,⟨#[]⟩,⟨#[]⟩,⟨#[]⟩⟩
def oq:cT:=⟨[⟨uy,1,0⟩],1,0⟩
def iQ(k:bf):List Sub:=if scan oq 1 then(oq.rows.filter λy=>y.there 1&&decide (y.t.cQ=k)).map (·.t.sub)else []
theorem Uw:iR ⟨[],0,0⟩ [] [] [⟨true,uy⟩]=oq:=by kernel_rfl
theorem qd(num:List Nat):opened ⟨gE t21,[]⟩ num iQ iH 1=([⟨iH,true,[⟨1,⟨#[]⟩,⟨#[]⟩,0,0⟩],num.getD 0 0,[lM],[[]]⟩],0):=by kernel_rfl
theorem Qu(num:List Nat):(opened ⟨gE t21,[]⟩ num iQ iH 0).1.length=1:=by simp[opened]
theorem yW(num:List Nat):eN ⟨gE t21,[]⟩ num iQ iH 1:=⟨by rw[qd];exact Nat.le_refl _,λj a=>by
 obtain rfl:j=0:=by omega
 rw[Qu];decide⟩
theorem yL(num:List Nat):et ⟨gE t21,[]⟩ num iQ iH 9 true 1=((opened ⟨gE t21,[]⟩ num iQ iH 1).1,0,0):=by
 unfold et
 rw[qd]
 rfl
def s9(us:ByteArray):Bool:=decide (us=lM)
theorem D7{num:List Nat}{us:ByteArray}(k:dY us=true){K:Nat}{s:QS}(ok:ka (opened ⟨gE t21,[]⟩ num iQ iH 1).1 us)(i:dR (opened ⟨gE t21,[]⟩ num iQ iH 1).1 us K s)(l:iM s.2):jR us (et ⟨gE t21,[]⟩ num iQ iH 9 true 1) 9 K s.1=(s9 us,0):=by
 obtain⟨c,m,a,b,_⟩:=i.end_ ok l
 rw[qd]at c a b
 simp only at c a b
 have o:K<=1:=a
 have d:=b 0 (by simp)
 have e:(eF [(⟨iH,true,[⟨1,⟨#[]⟩,⟨#[]⟩,0,0⟩],num.getD 0 0,[lM],[[]]⟩:bO)] us).ex 0 (λj=>s.1.getD j false)=s9 us:=by
  show di (⟨iH,true,[⟨1,⟨#[]⟩,⟨#[]⟩,0,0⟩],num.getD 0 0,[lM],[[]]⟩:bO) us (λj=>s.1.getD j false) 1=_
  rw[A5 (n:=⟨1,⟨#[]⟩,⟨#[]⟩,0,0⟩) rfl (.inl rfl),ahg rfl]
  unfold s9
  simp
 have g:(eF [(⟨iH,true,[⟨1,⟨#[]⟩,⟨#[]⟩,0,0⟩],num.getD 0 0,[lM],[[]]⟩:bO)] us).f 0=true:=rfl
 rw[e,g,Bool.true_and]at d
 have h:eG 9 K s.1=(s.1,K,0):=by
  unfold eG
  rw[ahf (by decide),ahf (by omega)]
 unfold jR
 rw[yL,h,k,ahf (by simp)]
 simp only
 rw[ahf (by simp),ahf (by simp),d]
theorem wS{us:ByteArray}{num:List Nat}(a:kz isWord dh ⟨gE t21,[]⟩ num):ka (opened ⟨gE t21,[]⟩ num iQ iH 1).1 us:=a.ps (yW num) us
theorem SW{us:ByteArray}{num:List Nat}(h:kz isWord dh ⟨gE t21,[]⟩ num)(ps:List aH)(e:ps.map aH.plain=(opened ⟨gE t21,[]⟩ num iQ iH 1).1):lG ps us/\0<ps.length:=by
 have c:=wS (us:=us) h
 rw[<-e]at c
 have a:=e
 rw[qd]at a
 simp only at a
 refine⟨?_,by have:=congrArg List.length a;simp at this;omega⟩
 obtain⟨p,rfl⟩:∃p,ps=[p]:=List.length_eq_one_iff.1 (by have:=congrArg List.length a;simpa using this)
 simp only[List.map_cons,List.map_nil,List.cons.injEq,and_true]at a
 obtain⟨m,l,t,n,u,r,s,k,o⟩:=p
 unfold aH.plain at a
 simp only[bO.mk.injEq]at a
 obtain⟨_,_,rfl,_,_,g⟩:=a
 refine⟨c,λp b=>?_,λp b=>?_,λp b q j=>?_,by simp,?_⟩
 ·rw[ahj]at b
  subst b
  intro i f
  have f:i<1:=f
  obtain rfl:i=0:=by omega
  simp only
  decide+kernel
 ·rw[ahj]at b
  subst b
  simp
 ·rw[ahj]at b
  subst b
  have d:q.2∈k.map (·.2):=ahk.2 ⟨q,j,rfl⟩
  rw[g,ahj]at d
  rw[d]
  simp
 ·rw[e,qd]
  exact ahp _
section
variable{R:ay}{cp:Cf}{c:bL}{hb g x:Nat}{S:cT}{num:List Nat}{L:List bB}
theorem WS.scan(h:WS R cp c hb g x S num L):Go.Proofs.YtdljmchhecoakaaGreat.scan S S.head=true:=by
 unfold Go.Proofs.YtdljmchhecoakaaGreat.scan
 simp[h.Cq.h1]
theorem WS.full(h:WS R cp c hb g x S num L){k:bf}{N:Nat}(a:eN cp num (cH S L S.head) k N)(b:Int):Go.Proofs.YtdljmchhecoakaaGreat.et cp num (cH S L S.head) k b (Go.Proofs.YtdljmchhecoakaaGreat.scan S S.head) N=if b<1 then([],0,2)else if(((opened cp num (cH S L S.head) k N).1.length+(opened cp num (cH S L S.head) k N).2:Nat):Int)<=b then((opened cp num (cH S L S.head) k N).1,(opened cp num (cH S L S.head) k N).2,0)else([],0,16):=by
 unfold Go.Proofs.YtdljmchhecoakaaGreat.et
 rw[h.scan]
 rfl
theorem WS.max(h:WS R cp c hb g x S num L){k:bf}{N:Nat}(a:eN cp num (cH S L S.head) k N):Go.Proofs.YtdljmchhecoakaaGreat.et cp num (cH S L S.head) k 1048576 (Go.Proofs.YtdljmchhecoakaaGreat.scan S S.head) N=((opened cp num (cH S L S.head) k N).1,(opened cp num (cH S L S.head) k N).2,0):=by
 have:=h.lh S.head k N a.2
 rw[h.full a,ahf (by omega),ahg (by omega)]
end
theorem zU{b:Nat}:∀(l:List Sp),(∀y∈l,y.bR.length<=b)->(l.flatMap λs=>s.bR.map λr=>(s.name,r)).length<=l.length*b
 |[],_=>by simp
 |s::l,h=>by
  have c:=zU l λy a=>h y (List.mem_cons_of_mem _ a)
  have d:=h s List.mem_cons_self
  rw[List.flatMap_cons,List.length_append,ahi,List.length_cons,Nat.add_mul]
  omega
structure sC(op:List bO)(oe:Nat)(us:ByteArray)(K:Nat)(s:QS):Prop where
 n:iM s.2
 run:dR op us K s
 lo:ja op<=K
 hi:K<=ja op+oe
 nf:ja op<=op.length
 ln:s.1.length=op.length
 ok:∀ps:List aH,ps.map aH.plain=op->lG ps us/\(∀p∈ps,p.found=true->0<p.nodes.length)/\(∀p∈ps,p.number<=1000000)/\dR (ps.map aH.plain) us K s/\nH (eF (ps.map aH.plain) us) (fZ ps)=s.1/\
  ∀(i:Nat) (p:aH),ps[i]? =some p->s.1.getD i false=(p.found&&di p.plain us (λj=>s.1.getD j false) p.nodes.length)
section
variable{R:ay}{cp:Cf}{c:bL}{hb g x:Nat}{S:cT}{num:List Nat}{L:List bB}
theorem WS.SZ(h:WS R cp c hb g x S num L){rev:Int}{k:bf}{N:Nat}(n:eN cp num (cH S L rev) k N)(us:ByteArray):∃K s,sC (opened cp num (cH S L rev) k N).1 (opened cp num (cH S L rev) k N).2 us K s:=by
 have z:=h.m.ps n us
 have w:=n.gr
 obtain⟨K,s,q,B⟩:=dR.ends z
 obtain⟨F,G,O,H,I⟩:=q.end_ z B
 have T:=n.yV
 refine⟨K,s,B,q,G,by omega,?_,F,λu e=>?_⟩
 ·unfold ja dQ
  refine ahq List.countP_le_length ?_
  simp
 ·have t:∀p∈u,p.plain∈(opened cp num (cH S L rev) k N).1:=λp a=>by rw[<-e];exact ahk.2 ⟨p,a,rfl⟩
  have M:∀p∈u,p.number<=cp.all.length:=λp a=>by
   obtain⟨i,d,D⟩:=List.mem_iff_getElem.1 (t p a)
   have b:=h.m.li n us i d
   have j:(eF (opened cp num (cH S L rev) k N).1 us).num i=p.number:=by
    show(((opened cp num (cH S L rev) k N).1[i]?).map (·.number)).getD 0=_
    rw[aZ d,D];rfl
   omega
  have Q:cp.all.length<=30:=by
   have:=zU cp.bj h.oY.2
   have b:=h.oY.1
   have j:cp.all.length=(cp.bj.flatMap λs=>s.bR.map λr=>(s.name,r)).length:=rfl
   omega
  refine⟨h.xm n e us,λp a J=>?_,λp a=>by have:=M p a;omega,by rw[e];exact q,?_,λi p a=>?_⟩
  ·have b:p.found=(one cp num p.k).found:=(w.one p.plain (t p a)).1
   have j:p.nodes=(one cp num p.k).nodes:=(w.one p.plain (t p a)).2.1
   rw[j]
   rw[J]at b
   unfold one at b⊢
   split
   ·rename_i l;rw[l]at b;cases b
   ·rename_i i l
    obtain⟨y,C,_⟩:=ng l
    simp only[ahw,ahy,C,Option.map_some,Option.getD_some]
    have o:=(nT h.m.right y (ba C)).1
    unfold na at o
    simp only[aho,bne_iff_ne,ne_eq]at o
    refine Nat.pos_of_ne_zero λE=>o.1.2 ?_
    rw[List.eq_nil_of_length_eq_zero E]
    unfold fY
    cases ht:tree isWord [] ([]:List Nd).length with
    |none=>rfl
    |some r=>have:=(jc _ _ ht).1;simp at this
  ·rw[e]
   refine(I _ λi d=>?_).symm
   rw[<-e,ahi]at d
   obtain⟨p,a⟩:=bQ d
   unfold gb
   rw[<-e,ahy,a]
   exact(AT u 0).2 p (ba a)
  ·have d:i<(opened cp num (cH S L rev) k N).1.length:=by rw[<-e,ahi];exact(List.getElem?_eq_some_iff.1 a).1
   have A:(opened cp num (cH S L rev) k N).1[i]? =some p.plain:=by rw[<-e,ahy,a];rfl
   have b:=H i d
   have j:(eF (opened cp num (cH S L rev) k N).1 us).f i=p.found:=by
    show(((opened cp num (cH S L rev) k N).1[i]?).map (·.found)).getD false=_
    rw[A];rfl
   have l:∀v,(eF (opened cp num (cH S L rev) k N).1 us).ex i v=di p.plain us v p.nodes.length:=λv=>by
    unfold eF
    simp only[A]
    rfl
   rw[j,l]at b
   exact b
end
theorem PJ(a b:ByteArray):bs eV a b=dU a b:=by
 unfold bs
 rw[Bool.eq_iff_iff,nj,aht]
theorem O7(v:Value)(l:List ByteArray)(T:aw)(R:ay)(h:OS 9 1 cr v l T)(s:ByteArray)(hl:l.length<=1000000000):
    Spec prog 104 [v,.string s] R [T] λu H'=>∃T',H'=[T']/\OS 9 1 cr u (fz l s) T':=by
  refine Spec.body func104 rfl results104 ntmps104 rfl ?_
  refine .sr<|.ag rfl<|.z<|.ag rfl<|.z<|.ag rfl<|.zs<|.sr<|.az rfl<|.block ?_
  refine .cy [(0,_),(1,_)] (X:=Nat×Value×aw) (λy=>y.1<=l.length/\s∉l.take y.1/\OS 9 1 cr y.2.1 (jq dU s (l.take y.1)) y.2.2) (λy E=>(7,iN y.1)::(6,.bool ((l.take y.1).any (dU s)))::(5,y.2.1)::E) (λy G=>y.2.2::G) (λy=>l.length-y.1) (0,sZ,[]) ⟨ahp _,by simp,OS.nil⟩ kE.c.c.c.c.c bk.eC ?_
  rintro⟨i,J,r⟩ ⟨U,j,f⟩
  simp only at U j f⊢
  have S:(jq dU s (l.take i)).length<=l.length+1:=ahq s5 (by rw[ahl];omega)
  refine .seq<|.sr<|.mo rfl<|.mo rfl<|.q (.dG h) ?_
  refine .q .lss<|.zn ?_
  refine .cond rfl (λw=>?_) λw=>?_
  have M:i<l.length:=cg w
  obtain⟨x,g⟩:=bQ M
  have K:=z6 (lt:=dU) (p:=s) g
  refine .kn<|.seq<|.block<|.seq<|.sr<|.mo rfl<|.mo rfl ?_
  refine .aK i h g (λa3=>?_)
  refine .lo rfl<|.mo rfl<|.q .dF<|.zn ?_
  refine .cond rfl (λA=>?_) λA=>?_
  have H:x=s:=bT A
  have W:fz l s=l:=by unfold fz;rw[ahg (H▸ba g)]
  refine .sr<|.mo rfl<|.az rfl ?_
  refine .ret (aJ (bw (aJ (cG (bw (aJ (aY _ (.one (.tmp rfl)) (aN [1]) ?_)))))))
  ·exact⟨_,rfl,by rw[W];exact h⟩
  have H:¬x=s:=bA A
  have Y:s∉l.take (i+1):=by
    rw[ahr,g]
    simp only[Option.toList_some,List.mem_append,ahj,not_or]
    exact⟨j,λe=>H e.symm⟩
  refine .kn<|.seq ?_
  refine bz.cO [(0,_),(1,_),(7,_)] kE.c.c.c (X:=Value×aw) (λz=>OS 9 1 cr z.1 (mq dU s (l.take i) x) z.2) (λz E=>(5,z.1)::(6,.bool ((l.take (i+1)).any (dU s)))::E) (λz=>[z.2,T]) ?_ ?_
  refine .sr<|.mo rfl<|.q .not<|.mo rfl ?_
  refine .split (t:=23) rfl (λa=>?_) (λa=>?_)
  refine .gT a<|.mo rfl<|.gT a<|.mo rfl<|.gT a<|.mo rfl<|.gT a ?_
  refine .aK i h g (λa4=>?_)
  refine .gT a<|.lo rfl<|.gT a<|.q .we<|.q (.aT a) ?_
  refine .zn ?_
  refine .cond rfl (λm=>?_) λm=>?_
  first|have F:=z7 g a m|skip
  refine .sr<|.mo rfl<|.mo rfl ?_
  refine .gL (λa0=>?_)
  refine .append f (RS.lits (xs:=[s]) rfl (by simp[cr]) (by simp[cr,aE])) (by simp only[ahm];omega) (λI o C=>?_)
  refine .az rfl<|.region<|.ag rfl<|.nil ?_
  ·first
      |(obtain⟨d,b⟩:=F
        exact aF (I,o) (by simp only;rw[d];exact C) (by simp only;rw[b];exact kE.c.c.c.c.c) (aN [1,1]))
      |(obtain⟨d,b⟩:=k
        exact aF (J,r) (by simp only;rw[d];simpa using f) (by simp only;rw[b];exact kE.c.c.c.c.c) rH)
  first|have k:=pW (p:=s) g (.inr m)|skip
  refine .skip ?_
  ·first
      |(obtain⟨d,b⟩:=F
        exact aF (I,o) (by simp only;rw[d];exact C) (by simp only;rw[b];exact kE.c.c.c.c.c) (aN [1,1]))
      |(obtain⟨d,b⟩:=k
        exact aF (J,r) (by simp only;rw[d];simpa using f) (by simp only;rw[b];exact kE.c.c.c.c.c) rH)
  have k:=pW (p:=s) g (.inl a)
  refine .gF a<|.gF a<|.gF a<|.gF a<|.gF a<|.gF a<|.q (.aQ a) ?_
  refine .zn<|.cU ?_
  first|have k:=pW (p:=s) g (.inr m)|skip
  refine .skip ?_
  ·first
      |(obtain⟨d,b⟩:=F
        exact aF (I,o) (by simp only;rw[d];exact C) (by simp only;rw[b];exact kE.c.c.c.c.c) (aN [1,1]))
      |(obtain⟨d,b⟩:=k
        exact aF (J,r) (by simp only;rw[d];simpa using f) (by simp only;rw[b];exact kE.c.c.c.c.c) rH)
  intro y Z
  obtain⟨vm,O⟩:=y
  have Q:OS 9 1 cr vm (mq dU s (l.take i) x) O:=Z
  simp only
  refine au<|.region<|.mo rfl<|.mo rfl<|.mo rfl ?_
  refine .aK i h g (λa5=>?_)
  refine .lo rfl ?_
  refine .gL (λa1=>?_)
  refine .append Q (RS.lits (xs:=[x]) rfl (by simp[cr]) (by simp[cr,aE])) (by have:=s5 (lt:=dU) (p:=s) (X:=l.take (i+1));rw[<-K,ahl]at this;simp at this⊢;omega) (λv7 N L=>?_)
  rw[K]at L
  refine .ag rfl<|.nil<|aS<|au<|.region<|.mo rfl ?_
  refine .ia (i+1) .add ?_
  refine .ag rfl<|.nil ?_
  ·exact bd (i+1,v7,N) ⟨M,Y,L⟩ (by simp only;omega) kE.c.c.c.c.c (aN [1,1])
  have V:i=l.length:=by have:=bA w;omega
  subst V
  rw[ahn]at j f S
  rw[ahn]
  refine .exit<|bo<|bq<|bp<|au<|.seq<|.sr<|.mo rfl<|.q .not<|.zn ?_
  refine .cond rfl (λB=>?_) λB=>?_
  refine .region<|.mo rfl<|.mo rfl ?_
  refine .gL (λa2=>?_)
  refine .append f (RS.lits (xs:=[s]) rfl (by simp[cr]) (by simp[cr,aE])) (by simp only[ahm];omega) (λv8 T8 D=>?_)
  refine .ag rfl<|.z<|.mo rfl<|.az rfl ?_
  refine .ret (aY _ (.one (.tmp rfl)) (aN [1]) ?_)
  ·refine⟨_,rfl,?_⟩
   have n:l.any (dU s)=false:=by simpa using B
   unfold fz
   rw[ahf j,zZ n]
   unfold jq at D
   rw[ahf (by rw[n];simp)]at D
   exact D
  refine .kn<|.sr<|.mo rfl<|.az rfl ?_
  refine .ret (aY _ (.one (.tmp rfl)) (aN [0]) ?_)
  ·refine⟨_,rfl,?_⟩
   have n:l.any (dU s)=true:=by simpa using B
   unfold fz
   rw[ahf j]
   unfold jq at f
   rw[ahg n]at f
   exact f
def oM(ps:List aH):List ByteArray:=ps.flatMap (·.fG)
theorem P2{ps:List aH}(h:∀p∈ps,p.fG.length<=512):(oM ps).length<=ps.length*512:=by
 induction ps with
 |nil=>simp[oM]
 |cons p ps ih=>
  have a:=ih λq b=>h q (List.mem_cons_of_mem _ b)
  have c:=h p List.mem_cons_self
  unfold oM at a⊢
  rw[List.flatMap_cons,List.length_append,List.length_cons,Nat.add_mul]
  omega
structure sD(ps:List aH)(K:ByteArray->Nat)(s:ByteArray->QS):Prop where
 xm:∀us,lG ps us
 run:∀us,dR (ps.map aH.plain) us (K us) (s us)
 none:∀us,iM (s us).2
 ln:∀us,(s us).1.length=ps.length
 us:∀p∈ps,p.fG.length<=512
 UH:∀us,nH (eF (ps.map aH.plain) us) (fZ ps)=(s us).1
 fd:∀p∈ps,p.found=true->0<p.nodes.length
 nb:∀p∈ps,p.number<=1000000
 n:ps.length<=1048576
def CW(s:ByteArray->QS)(us:ByteArray):Bool:=(s us).1.getD 0 false
theorem sD.named{ps:List aH}{K:ByteArray->Nat}{s:ByteArray->QS}(h:sD ps K s):(oM ps).length<=1000000000/\ps.length<=1900000:=by
 have a:=P2 h.us
 have b:=h.n
 exact⟨by omega,by omega⟩
theorem P1(ps:List aH):oM ps=(ps.map aH.plain).flatMap (·.fG):=by
 unfold oM
 rw[List.flatMap_map];rfl
theorem Qj{p:bO}{us:ByteArray}{v:Nat->Bool}(g:us∉p.fG)(h:∀j,v j=false)(m:Nat):di p us v m=false:=by
 induction m using Nat.strongRecOn with
 |_ m ih=>
  match m,ih with
  |0,_=>rw[di]
  |e+1,ih=>
   rw[di]
   split
   ·rfl
   ·rename_i n k
    split
    ·split
     ·rename_i i
      have c:=ih (n.a.toNat+1) (by omega)
      have d:=ih (n.b.toNat+1) (by omega)
      rw[c,d]
      split
      ·rfl
      ·split<;>rfl
     ·rfl
    ·rw[Bool.or_eq_false_iff,Bool.and_eq_false_iff]
     refine⟨.inr (List.any_eq_false.2 λs f=>?_),List.any_eq_false.2 λj _=>by rw[h j];simp⟩
     rw[aht]
     exact λe=>g (e▸f)
theorem dR.named{ps:List bO}{us:ByteArray}(a:∀p∈ps,us∉p.fG):∀{k:Nat} {s:QS},dR ps us k s->∀j,s.1.getD j false=false
 |0,_,.start=>λj=>by
  rw[ahw,List.getElem?_replicate]
  split<;>rfl
 |k+1,_,.step (s:=s) (i:=i) h hn=>by
  have b:=dR.named a h
  have c:(eF ps us).ex i (λj=>s.1.getD j false)=false:=by
   unfold eF
   simp only
   cases hp:ps[i]? with
   |none=>rfl
   |some p=>exact Qj (a p (ba hp)) b _
  unfold rS
  rw[c]
  simp only[Bool.not_false,Bool.or_true,if_true]
  exact b
theorem sD.out{ps:List aH}{K:ByteArray->Nat}{s:ByteArray->QS}(h:sD ps K s){us:ByteArray}(a:CW s us=true):us∈oM ps:=by
 refine Classical.byContradiction λd=>?_
 have b:=(h.run us).named (λp e c=>d (by rw[P1];exact List.mem_flatMap.2 ⟨p,e,c⟩)) 0
 unfold CW at a
 rw[b]at a
 cases a
theorem TW{a b:List ByteArray}(h:∀s,s∈a↔s∈b):a.foldl fz []=b.foldl fz []:=
 xC (qD List.Pairwise.nil) (qD List.Pairwise.nil) λs=>by rw[pZ,pZ,h]
theorem Em{xs ys:List ByteArray}(c:∀s,s∈ys↔s∈xs)(d:ys.Pairwise λa b=>dU b a=false):gw ys=xs.foldl fz []:=
 xC (yF ys d) (qD List.Pairwise.nil) λs=>by rw[uX,pZ,c];simp
def gN(L:List bB)(rev:Int)(name:ByteArray):List ByteArray:=((L.filter λx=>x.there rev&&decide (x.t.os=name)).map (·.t.oi)).foldl fz []
theorem Pz{L M:List bB}(h:L.Perm M)(rev:Int)(name:ByteArray):gN L rev name=gN M rev name:=
 TW λs=>((h.filter _).map _).mem_iff
theorem Py{L:List bB}{rev:Int}{name s:ByteArray}:s∈gN L rev name↔∃x∈L,x.there rev=true/\x.t.os=name/\x.t.oi=s:=by
 unfold gN
 rw[pZ]
 simp only[List.not_mem_nil,false_or,ahk,List.mem_filter,aho,aht]
 exact⟨λ⟨x,⟨a,b,c⟩,d⟩=>⟨x,a,b,c,d⟩,λ⟨x,a,b,c,d⟩=>⟨x,⟨a,b,c⟩,d⟩⟩
theorem AI{L:List bB}{rev:Int}{name:ByteArray}:(gN L rev name).length<=L.length:=by
 unfold gN
 refine ahq xy ?_
 rw[ahi]
 have:=ahs (λx:bB=>x.there rev&&decide (x.t.os=name)) L
 simp only[List.length_nil];omega
def vG(name:ByteArray):aB:=⟨name,⟨#[]⟩,⟨#[]⟩,⟨#[]⟩,⟨#[]⟩,⟨#[]⟩,⟨#[]⟩⟩
theorem OV{name:ByteArray}{t:aB}(h:t.os=name):iS (vG name) t=true:=by
 unfold iS vG
 simp[h]
def kL(name:ByteArray)(t:aB):Bool:=decide (t.os=name)
theorem Ah{R:ay}{g:Nat}{S:cT}{ps:List RB}{vf vr:Value}{M:List (bf×(Value×aw))}{N:List (Sub×(Value×aw))}(h:SV R g S ps vf vr M N)(F:S.rows.length<=4096)(rev:Int)(D:scan S rev=true)(name:ByteArray):
  Spec prog 106 [pT g,.int .u64 rev,.string name] R [] λu H'=>∃T,H'=[T]/\OS 9 1 cr u (gN S.rows rev name) T:=by
 refine Spec.body func106 rfl results106 ntmps106 rfl ?_
 refine .sr<|.ag rfl<|.z<|.ag rfl<|.z<|.mo rfl<|.mo rfl ?_
 refine .q .cL ?_
 refine .mo rfl ?_
 refine .cX ((BG h F (vG name) rev).weaken cM) (λu T2 p=>?_)
 obtain⟨w,d,rfl,m,I⟩:=p
 have iw:=m.aE
 have a6:d.length<=4096:=by
  rw[I.1.length_eq,ahg D]
  unfold qx
  rw[ahi]
  exact ahq (ahs _ _) F
 have a0:∀s,s∈(d.filter (kL name)).map (·.oi)↔s∈gN S.rows rev name:=λs=>by
  rw[Py]
  simp only[ahk,List.mem_filter,I.1.mem_iff,ahg D]
  unfold qx
  simp only[ahk,List.mem_filter,aho]
  unfold kL
  constructor
  ·rintro⟨t,⟨⟨x,⟨e,f,_⟩,rfl⟩,U⟩,rfl⟩
   exact⟨x,e,f,by simpa using U,rfl⟩
  ·rintro⟨x,e,f,B,rfl⟩
   exact⟨x.t,⟨⟨x,⟨e,f,OV B⟩,rfl⟩,by simpa using B⟩,rfl⟩
 refine .mo rfl<|.q .extract<|.q .extract<|.ag rfl<|.ag rfl<|.zs<|.sr<|.mo rfl<|.q (.dG m) ?_
 refine .mo rfl<|.zn<|.block ?_
 refine .cy [(2,_),(20,_),(21,_)] (X:=Nat×Value×aw) (λy=>y.1<=d.length/\OS 9 1 cr y.2.1 (((d.take y.1).filter (kL name)).map (·.oi)) y.2.2) (λy E=>(22,iN y.1)::(7,y.2.1)::E) (λy G=>y.2.2::G) (λy=>d.length-y.1) (0,sZ,[]) ⟨ahp _,OS.nil⟩ kE.c.c.c.c.c bk.eC ?_
 rintro⟨i,v,A⟩ ⟨Y,j⟩
 simp only at Y j⊢
 have io:=j.aE
 have a1:(((d.take i).filter (kL name)).map (·.oi)).length<=4096:=by
  rw[ahi]
  have:=ahs (kL name) (d.take i)
  rw[ahl]at this
  omega
 refine .sr<|.q .lss<|.zs ?_
 refine .cond rfl (λe=>?_) λe=>?_
 have o:i<d.length:=cg e
 obtain⟨t,J⟩:=bQ o
 have K:d.take (i+1)=d.take i++[t]:=by rw[ahr,J];rfl
 refine .kn<|.seq<|.block<|.sr ?_
 refine .aK i m J (λa8=>?_)
 refine .q (.aM rfl) ?_
 refine .bX (λa4=>?_)
 refine .bN rfl rfl<|.z<|.fa rfl<|.fa rfl<|.lo rfl<|.mo rfl<|.q .dF<|.zn ?_
 refine .cond rfl (λf=>?_) λf=>?_
 have n:((d.take (i+1)).filter (kL name)).map (·.oi)=((d.take i).filter (kL name)).map (·.oi)++[t.oi]:=by
  have k:kL name t=true:=by unfold kL;exact f
  rw[K,ahh,ahu];simp[k]
 refine .region<|.mo rfl<|.fa rfl<|.fa rfl<|.lo rfl ?_
 refine .gL (λa5=>?_)
 refine .append j (RS.lits (xs:=[t.oi]) rfl (by simp[cr]) (by simp[cr,aE])) (by simp only[ahm];omega) (λv7 Q r=>?_)
 have i7:=r.aE
 rw[<-n]at r
 refine .ag rfl<|.nil<|aS<|au<|.region ?_
 refine .ia (i+1) .add ?_
 refine .mo rfl<|.nil ?_
 ·exact bd (i+1,v7,Q) ⟨o,r⟩ (by simp only;omega) kE.c.c.c.c.c (aN [2,2])
 have n:((d.take (i+1)).filter (kL name)).map (·.oi)=((d.take i).filter (kL name)).map (·.oi):=by
  have k:kL name t=false:=by unfold kL;exact f
  rw[K,ahh,ahu];simp[k]
 refine .skip<|aS<|au<|.region ?_
 refine .ia (i+1) .add ?_
 refine .mo rfl<|.nil ?_
 ·exact bd (i+1,v,A) ⟨o,by simp only;rw[n];exact j⟩ (by simp only;omega) kE.c.c.c.c.c (aN [1,1])
 have Z:i=d.length:=by have:=bA e;omega
 subst Z
 rw[ahn]at j a1
 refine .exit<|bo<|bq<|bp<|au<|.sr<|.mo rfl ?_
 refine .cA (SST.um (c:=eV) (ok:=λ_=>True) v _ A _ j (by omega) rfl (λ_ _=>trivial) nV.so) (λu O p=>?_)
 obtain⟨rfl,L,V,H,a3⟩:=p
 have a7:=H.length_eq
 have a2:=a3.ordered.imp λ{a b} C=>by rw[PJ]at C;exact C
 have W:gw L=gN S.rows rev name:=by
  rw[Em (xs:=gN S.rows rev name) (λs=>H.mem_iff.trans (a0 s)) a2]
  exact xC (qD List.Pairwise.nil) (by unfold gN;exact qD List.Pairwise.nil) λs=>by rw[pZ];simp
 refine .z<|.mo rfl ?_
 refine .cA (Eh v L O _ V (by omega)) (λu T4 l=>?_)
 have i4:=l.aE
 rw[W]at l
 refine .az rfl ?_
 refine .ret (aY _ (.one (.tmp rfl)) (aN [0]) ?_)
 ·exact⟨_,rfl,l⟩
theorem Pr{e f:Value}{rev b:Int}{R:ay}{D:List bO×Nat×Int} [i1:One e] [i2:One f](h:Spec prog 34 [e,f,.int .u64 rev,.agg [.string ⟨#[]⟩,.string ⟨#[]⟩].toArray,.string ⟨#[]⟩,.int .i64 b] R [] (lD R D))(us:ByteArray)(j:us.size<=9223372036854775807):
  Spec prog 105 [e,f,.int .u64 rev,.string us,.int .i64 b] R [] λu H'=>u=.int .i64 (if dY us=false then 9 else D.2.2)/\H'=[]:=by
 refine Spec.body func105 rfl results105 ntmps105 rfl ?_
 refine .sr<|.ag rfl<|.zs<|.sr<|.mo rfl ?_
 refine .aX ((rq us j R).weaken cM) (λu d=>?_)
 subst d
 refine .q .not<|.zn ?_
 refine .cond rfl (λc=>?_) λc=>?_
 have a:dY us=false:=by simpa using c
 refine .sr<|.az rfl ?_
 refine .ret (aJ (aY _ (.one (.tmp rfl)) (bk.none _) ?_))
 ·exact⟨by rw[ahg a],rfl⟩
 have a:¬dY us=false:=by simpa using c
 refine .kn<|.seq<|.sr<|.mo rfl<|.mo rfl<|.mo rfl ?_
 refine .q .cL ?_
 refine .mo rfl ?_
 refine .cX ((qT h).weaken cM) (λu l d=>?_)
 obtain⟨s,r,rfl,i,n,o⟩:=d
 have p:=i.aE
 refine .mo rfl<|.q .extract<|.q .extract ?_
 refine .bX (λm=>?_)
 refine .bN rfl rfl<|.ag rfl<|.z<|.mo rfl<|.q .eh<|.zn ?_
 refine .cond rfl (λg=>?_) λg=>?_
 refine .sr<|.mo rfl<|.az rfl ?_
 refine .ret (aJ (aY _ (.one (.tmp rfl)) (bk.none _) ?_))
 ·exact⟨by rw[ahf a],rfl⟩
 have k:D.2.2=0:=by simpa using g
 refine .kn<|.sr<|.az rfl ?_
 refine .ret (aY _ (.one (.tmp rfl)) (bk.none _) ?_)
 ·exact⟨by rw[ahf a,k],rfl⟩
theorem Bd{n h:Value}{rev b:Int}{R:ay}{D:List bO×Nat×Int} [i1:One n] [i2:One h](M:Spec prog 34 [n,h,.int .u64 rev,.agg [.string ⟨#[]⟩,.string ⟨#[]⟩].toArray,.string ⟨#[]⟩,.int .i64 b] R [] (lD R D))(us name J:ByteArray)(g:us.size<=9223372036854775807)
  (ids:List ByteArray)(a0:ids.length<=1000000)(w:dY us=true->D.2.2=0->Spec prog 106 [h,.int .u64 rev,.string name] R [] λu H'=>∃T,H'=[T]/\OS 9 1 cr u ids T)
  (V:ByteArray->Bool×Int)(e:dY us=true->D.2.2=0->∀id∈ids,Spec prog 26 [n,h,.int .u64 rev,.agg [.string name,.string id].toArray,.string J,.string us,.int .i64 b] R [] λu H'=>u=.tuple [.bool (V id).1,.int .i64 (V id).2].toArray/\H'=[]):
  Spec prog 55 [n,h,.int .u64 rev,.string name,.string J,.string us,.int .i64 b] R [] λu H'=>∃T,H'=[T]/\∃(vo:Value) (l:List ByteArray) (er:Int),u=.tuple [vo,.int .i64 er].toArray/\OS 9 1 cr vo l T/\
   ((dY us=false/\l=[]/\er=9)\/(dY us=true/\D.2.2≠0/\l=[]/\er=D.2.2)\/(dY us=true/\D.2.2=0/\l=[]/\∃id∈ids,(V id).2≠0/\er=(V id).2)\/(dY us=true/\D.2.2=0/\er=0/\(∀id∈ids,(V id).2=0)/\l=ids.filter λid=>(V id).1)):=by
 refine Spec.body func55 rfl results55 ntmps55 rfl ?_
 refine .sr<|.ag rfl<|.ag rfl<|.zs<|.sr<|.mo rfl<|.mo rfl<|.mo rfl<|.mo rfl<|.mo rfl ?_
 refine .aX ((Pr M us g).weaken cM) (λu C=>?_)
 subst C
 refine .ag rfl<|.z<|.mo rfl<|.q .eh<|.zn ?_
 refine .cond rfl (λo=>?_) λo=>?_
 have m:(if dY us=false then 9 else D.2.2)≠0:=by simpa using o
 refine .sr<|.mo rfl<|.ag rfl<|.az rfl ?_
 refine .ret (aJ (aY _ (.two (.tmp rfl) (.tmp rfl)) (bk.eC.trans (aN [0])) ?_))
 ·refine⟨_,rfl,_,[],_,rfl,OS.nil,?_⟩
  cases hi:dY us with
  |false=>left;simp
  |true=>right;left;rw[hi]at m;exact⟨rfl,by simpa using m,rfl,by simp⟩
 have a:(if dY us=false then 9 else D.2.2)=0:=by simpa using o
 have f:dY us=true:=by
  cases hi:dY us with
  |true=>rfl
  |false=>rw[ahg hi]at a;cases a
 rw[ahf (by rw[f];simp)]at a
 have w:=w f a
 have e:=e f a
 refine .kn<|.sr<|.ag rfl<|.zs<|.sr<|.mo rfl<|.mo rfl<|.mo rfl ?_
 refine .cX (w.weaken cM) (λu W t=>?_)
 have i5:=t.aE
 refine .q (.dG t) ?_
 refine .mo rfl<|.zn<|.block ?_
 refine .cy [(0,_),(1,_),(2,_),(3,_),(4,_),(5,_),(6,_),(34,_),(35,_)] (X:=Nat×Value×aw) (λy=>y.1<=ids.length/\(∀id∈ids.take y.1,(V id).2=0)/\OS 9 1 cr y.2.1 ((ids.take y.1).filter λid=>(V id).1) y.2.2) (λy E=>(36,iN y.1)::(17,y.2.1)::E) (λy G=>y.2.2::G) (λy=>ids.length-y.1) (0,sZ,[]) ⟨ahp _,by simp,OS.nil⟩ kE.c.c.c.c.c.c.c.c.c.c.c bk.eC ?_
 rintro⟨j,U,L⟩ ⟨N,i,d⟩
 simp only at N i d⊢
 have iq:=d.aE
 have Z:((ids.take j).filter λid=>(V id).1).length<=ids.length:=ahq (ahs _ _) (by rw[ahl];omega)
 refine .sr<|.q .lss<|.zs ?_
 refine .cond rfl (λp=>?_) λp=>?_
 have A:j<ids.length:=cg p
 obtain⟨id,g⟩:=bQ A
 have I:=ba g
 have B:ids.take (j+1)=ids.take j++[id]:=by rw[ahr,g];rfl
 have e:=e id I
 generalize k:V id=vd at *
 refine .kn<|.seq<|.block<|.sr ?_
 refine .aK j t g (λa1=>?_)
 refine .lo rfl<|.ag rfl<|.z<|.mo rfl<|.mo rfl<|.mo rfl<|.mo rfl<|.mo rfl ?_
 refine .q .cL ?_
 refine .mo rfl<|.mo rfl<|.mo rfl ?_
 refine .aX (e.weaken cM) (λu C=>?_)
 subst C
 refine .mo rfl<|.q .extract<|.q .extract<|.ag rfl<|.ag rfl<|.zs<|.sr<|.mo rfl<|.q .eh<|.zn ?_
 refine .cond rfl (λr=>?_) λr=>?_
 have m:vd.2≠0:=by simpa using r
 refine .sr<|.mo rfl<|.ag rfl<|.az rfl ?_
 refine .ret (aJ (bw (aJ (cG (bw (aJ (aY _ (.two (.tmp rfl) (.tmp rfl)) (bk.eC.trans (aN [0])) ?_)))))))
 ·exact⟨_,rfl,_,[],_,rfl,OS.nil,.inr (.inr (.inl ⟨f,a,rfl,id,I,by rw[k];exact⟨m,rfl⟩⟩))⟩
 have Q:vd.2=0:=by simpa using r
 have H:∀x∈ids.take (j+1),(V x).2=0:=λx hx=>by
  rw[B,List.mem_append,ahj]at hx
  rcases hx with hx|rfl
  ·exact i x hx
  ·rw[k];exact Q
 refine .kn<|.sr<|.mo rfl<|.zn ?_
 refine .cond rfl (λs=>?_) λs=>?_
 have v:((ids.take (j+1)).filter λid=>(V id).1)=((ids.take j).filter λid=>(V id).1)++[id]:=by rw[B,ahh];simp[k,s]
 refine .region<|.mo rfl<|.mo rfl ?_
 refine .gL (λY=>?_)
 refine .append d (RS.lits (xs:=[id]) rfl (by simp[cr]) (by simp[cr,aE])) (by simp only[ahm];omega) (λS K F=>?_)
 have i7:=F.aE
 rw[<-v]at F
 refine .ag rfl<|.nil<|aS<|au<|.region ?_
 refine .ia (j+1) .add ?_
 refine .mo rfl<|.nil ?_
 ·exact bd (j+1,S,K) ⟨A,H,F⟩ (by simp only;omega) kE.c.c.c.c.c.c.c.c.c.c.c (aN [1,1])
 have v:((ids.take (j+1)).filter λid=>(V id).1)=((ids.take j).filter λid=>(V id).1):=by rw[B,ahh];simp[k,s]
 refine .skip<|aS<|au<|.region ?_
 refine .ia (j+1) .add ?_
 refine .mo rfl<|.nil ?_
 ·exact bd (j+1,U,L) ⟨A,H,by simp only;rw[v];exact d⟩ (by simp only;omega) kE.c.c.c.c.c.c.c.c.c.c.c rH
 have O:j=ids.length:=by have:=bA p;omega
 subst O
 rw[ahn]at i d
 refine .exit<|bo<|bq<|bp<|au<|.sr<|.mo rfl<|.ag rfl<|.az rfl ?_
 refine .ret (aY _ (.two (.tmp rfl) (.tmp rfl)) (aN [0]) ?_)
 ·exact⟨_,rfl,_,_,_,rfl,d,.inr (.inr (.inr ⟨f,a,rfl,i,rfl⟩))⟩
section
variable{R:ay}{cp:Cf}{c:bL}{hb g x:Nat}{S:cT}{num:List Nat}{L:List bB}
theorem WS.all(h:WS R cp c hb g x S num L)(rev:Int)(us:ByteArray):∃(N:bf->Nat) (K:bf->Nat) (s:bf->QS),∀k,eN cp num (cH S L rev) k (N k)/\sC (opened cp num (cH S L rev) k (N k)).1 (opened cp num (cH S L rev) k (N k)).2 us (K k) (s k):=by
 have a:=λk=>h.SZ (h.fin rev k).choose_spec us
 exact⟨λk=>(h.fin rev k).choose,λk=>(a k).choose,λk=>(a k).choose_spec.choose,λk=>⟨(h.fin rev k).choose_spec,(a k).choose_spec.choose_spec⟩⟩
end
def vA(S:cT)(us:ByteArray)(b rev:Int):Int:=if dY us=false then 9 else if b<1 then 2 else if scan S rev=false then 12 else 0
theorem Q6{R:ay}{x:Nat}{S:cT}{k:Value}{L:List bB}(h:DV R x S k L)(us:ByteArray)(j:us.size<=9223372036854775807)(b rev:Int):
  Spec prog 56 [pT x,.int .u64 rev,.string us,.int .i64 b] R [] λu H'=>u=.int .i64 (vA S us b rev)/\H'=[]:=by
 unfold vA
 refine Spec.body func56 rfl results56 ntmps56 rfl ?_
 refine .sr<|.ag rfl<|.zs<|.sr<|.mo rfl ?_
 refine .aX (wW us j _) (λu i=>?_)
 subst i
 refine .q .not<|.zn ?_
 refine .cond rfl (λd=>?_) λd=>?_
 have a:dY us=false:=by simpa using d
 refine .sr<|.az rfl ?_
 refine .ret (aJ (aY _ (.one (.tmp rfl)) (bk.none _) ?_))
 ·exact⟨by rw[ahg a],rfl⟩
 have a:¬dY us=false:=by simpa using d
 refine .kn<|.seq<|.sr<|.mo rfl<|.q .lss<|.zn ?_
 refine .cond rfl (λe=>?_) λe=>?_
 have c:b<1:=bT e
 refine .sr<|.az rfl ?_
 refine .ret (aJ (aY _ (.one (.tmp rfl)) (bk.none _) ?_))
 ·exact⟨by rw[ahf a,ahg c],rfl⟩
 have c:¬b<1:=bA e
 refine .kn<|.seq<|.sr<|.mo rfl<|.mo rfl ?_
 refine .aX ((h.can rev).weaken cM) (λu i=>?_)
 subst i
 refine .q .not<|.zn ?_
 refine .cond rfl (λf=>?_) λf=>?_
 have g:scan S rev=false:=by simpa using f
 refine .sr<|.az rfl ?_
 refine .ret (aJ (aY _ (.one (.tmp rfl)) (bk.none _) ?_))
 ·exact⟨by rw[ahf a,ahf c,ahg g],rfl⟩
 have g:¬scan S rev=false:=by simpa using f
 refine .kn<|.sr<|.az rfl ?_
 refine .ret (aY _ (.one (.tmp rfl)) (bk.none _) ?_)
 ·exact⟨by rw[ahf a,ahf c,ahf g],rfl⟩
def jF(tot:ByteArray->Nat)(ids:List ByteArray):Nat:=ids.foldl (λm id=>if m<tot id then tot id else m) 0
theorem PV{tot:ByteArray->Nat}{ids:List ByteArray}{j:Nat}{id:ByteArray}(h:ids[j]? =some id):jF tot (ids.take (j+1))=if jF tot (ids.take j)<tot id then tot id else jF tot (ids.take j):=by
 unfold jF
 rw[ahr,h]
 simp only[Option.toList_some,ahx,List.foldl_cons,List.foldl_nil]
theorem AU{tot:ByteArray->Nat}{b:Nat}:∀(ids:List ByteArray) (a:Nat),ids.foldl (λm id=>if m<tot id then tot id else m) a<=b↔a<=b/\∀id∈ids,tot id<=b
 |[],a=>by simp
 |x::l,a=>by
  rw[List.foldl_cons,AU l]
  simp only[List.mem_cons,forall_eq_or_imp]
  constructor
  ·rintro⟨c,d⟩
   split at c
   ·exact⟨by omega,c,d⟩
   ·exact⟨c,by omega,d⟩
  ·rintro⟨c,d,e⟩
   refine⟨?_,e⟩
   split<;>omega
theorem tv{tot:ByteArray->Nat}{b:Nat}{ids:List ByteArray}:jF tot ids<=b↔∀id∈ids,tot id<=b:=by
 unfold jF
 rw[AU]
 simp
def jt(rev:Int)(name:ByteArray)(x:bB):Bool:=x.there rev&&decide (x.t.os=name)
section
variable{R:ay}{cp:Cf}{c:bL}{hb g x:Nat}{S:cT}{num:List Nat}{L:List bB}
theorem RI(h:WS R cp c hb g x S num L)(rev:Int)(c5:scan S rev=true)(name e us:ByteArray)(N K:bf->Nat)(s:bf->QS)
  (hA:∀k,eN cp num (cH S L rev) k (N k)/\sC (opened cp num (cH S L rev) k (N k)).1 (opened cp num (cH S L rev) k (N k)).2 us (K k) (s k)):
  Spec prog 57 [.agg c.enc.toArray,pT x,.int .u64 rev,.string name,.string e,.string us] R [] λu H'=>∃T,H'=[T]/\∃vo,u=.tuple [vo,.int .i64 (jF (λid=>(opened cp num (cH S L rev) ⟨name,id,e⟩ (N ⟨name,id,e⟩)).1.length+(opened cp num (cH S L rev) ⟨name,id,e⟩ (N ⟨name,id,e⟩)).2) (gN L rev name):Nat)].toArray/\
   OS 9 1 cr vo ((gN L rev name).filter λid=>(s ⟨name,id,e⟩).1.getD 0 false) T:=by
 have hc:=h.ci
 have e7:One c.vs:=RS.aE hc.ss
 have e8:One c.vc:=RS.aE hc.sc
 have e9:cB c.enc:=⟨hc.cV⟩
 obtain⟨vL,b1⟩:=h.d
 have f5:=b1.pc
 have W:=b1.rs
 have f0:One vL:=W.aE
 have e0:=h.ll
 have c7:=AI (L:=L) (rev:=rev) (name:=name)
 have b9:=λid (R':ay) a5=>(h.mono (R':=R') a5).Q8 rev ⟨name,id,e⟩ 1099511627776 (hA ⟨name,id,e⟩).1
 have Z:=λid=>h.lh rev ⟨name,id,e⟩ (N ⟨name,id,e⟩) (hA ⟨name,id,e⟩).1.2
 have b3:∀id,et cp num (cH S L rev) ⟨name,id,e⟩ 1099511627776 (scan S rev) (N ⟨name,id,e⟩)=((opened cp num (cH S L rev) ⟨name,id,e⟩ (N ⟨name,id,e⟩)).1,(opened cp num (cH S L rev) ⟨name,id,e⟩ (N ⟨name,id,e⟩)).2,0):=λid=>by
  have:=Z id
  unfold Go.Proofs.YtdljmchhecoakaaGreat.et
  rw[ahf (by omega),ahf (by rw[c5];simp),ahg (by omega)]
 obtain⟨r,a3⟩:∃r:ByteArray->List bO×Nat,∀id,r id=opened cp num (cH S L rev) ⟨name,id,e⟩ (N ⟨name,id,e⟩):=⟨_,λid=>rfl⟩
 have c4:∀id,sC (r id).1 (r id).2 us (K ⟨name,id,e⟩) (s ⟨name,id,e⟩):=λid=>by rw[a3];exact(hA _).2
 have d3:∀id (R':ay),(∀b o,R b o->R' b o)->Spec prog 35 [.agg c.enc.toArray,pT x,.int .u64 rev,.agg [.string name,.string id].toArray,.string e,.int .i64 1099511627776] R' [] (lD R' ((r id).1,(r id).2,0)):=λid R' a5=>by
  have A:=b9 id R' a5
  rw[b3 id]at A
  rw[a3];exact A
 have b8:=λid=>Bk cp num (cH S L rev) ⟨name,id,e⟩ (N ⟨name,id,e⟩)
 simp only[<-a3]at Z b8⊢
 clear b9 b3 a3 hA
 obtain⟨l,a6⟩:∃l,l=gN L rev name:=⟨_,rfl⟩
 have c6:((L.filter (jt rev name)).map (·.t.oi)).foldl fz []=l:=by rw[a6];rfl
 rw[<-a6]at c7⊢
 clear a6
 obtain⟨tot,a9⟩:∃tot:ByteArray->Nat,tot=λid=>(r id).1.length+(r id).2:=⟨_,rfl⟩
 have a8:∀id,tot id=(r id).1.length+(r id).2:=λid=>by rw[a9]
 rw[<-a9]
 clear a9
 have e2:jF tot l<=1048576:=tv.2 λid _=>by rw[a8];exact Z id
 have d1:∀j,jF tot (l.take j)<=1048576:=λj=>tv.2 λid _=>by rw[a8];exact Z id
 refine Spec.body func57 rfl results57 ntmps57 rfl ?_
 refine .sr ?_
 refine .cb rfl (λb6=>?_)
 refine .ag rfl<|.ag rfl<|.z<|.ag rfl<|.ag rfl<|.zs<|.sr<|.az rfl<|.block ?_
 refine .cy [(1,_),(2,_),(3,_),(4,_),(5,_),(6,_),(15,_)] (X:=Nat×Value×aw) (λy=>y.1<=L.length/\OS 9 1 cr y.2.1 ((((L.take y.1).filter (jt rev name)).map (·.t.oi)).foldl fz []) y.2.2) (λy E=>(16,iN y.1)::(14,y.2.1)::E) (λy G=>y.2.2::G) (λy=>L.length-y.1) (0,sZ,[]) ⟨ahp _,OS.nil⟩ kE.c.c.c.c.c.c.c.c.c bk.eC ?_
 rintro⟨i,va,Ta⟩ ⟨hi,B⟩
 simp only at hi B⊢
 have ia:=B.aE
 have e4:((((L.take i).filter (jt rev name)).map (·.t.oi)).foldl fz []).length<=512:=by
  have h8:=xy (b:=((L.take i).filter (jt rev name)).map (·.t.oi)) (a:=[])
  have A:=ahs (jt rev name) (L.take i)
  rw[ahl]at A
  simp only[List.length_nil,ahi]at h8
  omega
 refine .seq<|.sr<|.mo rfl<|.mo rfl<|.nc rfl<|.fa rfl<|.lo rfl<|.q (.bI W) ?_
 refine .q .lss<|.zn ?_
 refine .cond rfl (λh1=>?_) λh1=>?_
 have C:i<L.length:=cg h1
 obtain⟨t,ht⟩:=bQ C
 have F:L.take (i+1)=L.take i++[t]:=by rw[ahr,ht];rfl
 refine .kn<|.seq<|.block<|.sr<|.mo rfl<|.nc rfl<|.fa rfl<|.lo rfl<|.mo rfl ?_
 refine .bC i W ht (λf1=>?_)
 refine .q (.aM rfl)<|.mo rfl ?_
 refine .aX (BY t rev _) (λu hu=>?_)
 subst hu
 refine .mo rfl ?_
 refine .split (t:=39) rfl (λf=>?_) (λf=>?_)
 refine .gT f<|.mo rfl<|.gT f<|.nc rfl<|.gT f<|.fa rfl<|.gT f<|.lo rfl<|.gT f<|.mo rfl<|.gT f ?_
 refine .bC i W ht (λf2=>?_)
 refine .gT f<|.fa rfl<|.gT f<|.fa rfl<|.gT f<|.fa rfl<|.gT f<|.lo rfl<|.gT f<|.mo rfl<|.gT f<|.q .dF<|.q (.aT f) ?_
 refine .zn ?_
 refine .cond rfl (λh2=>?_) λh2=>?_
 have m:(((L.take (i+1)).filter (jt rev name)).map (·.t.oi)).foldl fz []=fz ((((L.take i).filter (jt rev name)).map (·.t.oi)).foldl fz []) t.t.oi:=by
  have A:jt rev name t=true:=by unfold jt;simp_all
  rw[F,ahh,ahu,ahx];simp[A]
 refine .region<|.mo rfl<|.mo rfl<|.nc rfl<|.fa rfl<|.lo rfl<|.mo rfl ?_
 refine .bC i W ht (λf3=>?_)
 refine .fa rfl<|.fa rfl<|.fa rfl<|.lo rfl ?_
 refine .cA (O7 va _ Ta _ B t.t.oi (by omega)) (λu V v=>?_)
 have i7:=v.aE
 rw[<-m]at v
 refine .ag rfl<|.nil<|aS<|au<|.region<|.mo rfl ?_
 refine .ia (i+1) .add ?_
 refine .ag rfl<|.nil ?_
 ·exact bd (i+1,u,V) ⟨C,v⟩ (by simp only;omega) kE.c.c.c.c.c.c.c.c.c rH
 have m:(((L.take (i+1)).filter (jt rev name)).map (·.t.oi)).foldl fz []=(((L.take i).filter (jt rev name)).map (·.t.oi)).foldl fz []:=by
  have A:jt rev name t=false:=by unfold jt;simp_all
  rw[F,ahh,ahu,ahx];simp[A]
 refine .skip<|aS<|au<|.region<|.mo rfl ?_
 refine .ia (i+1) .add ?_
 refine .ag rfl<|.nil ?_
 ·exact bd (i+1,va,Ta) ⟨C,by simp only;rw[m];exact B⟩ (by simp only;omega) kE.c.c.c.c.c.c.c.c.c rH
 refine .gF f<|.gF f<|.gF f<|.gF f<|.gF f<|.gF f<|.gF f<|.gF f<|.gF f<|.gF f<|.gF f<|.gF f<|.q (.aQ f) ?_
 refine .zn<|.cU ?_
 have m:(((L.take (i+1)).filter (jt rev name)).map (·.t.oi)).foldl fz []=(((L.take i).filter (jt rev name)).map (·.t.oi)).foldl fz []:=by
  have A:jt rev name t=false:=by unfold jt;simp_all
  rw[F,ahh,ahu,ahx];simp[A]
 refine .skip<|aS<|au<|.region<|.mo rfl ?_
 refine .ia (i+1) .add ?_
 refine .ag rfl<|.nil ?_
 ·exact bd (i+1,va,Ta) ⟨C,by simp only;rw[m];exact B⟩ (by simp only;omega) kE.c.c.c.c.c.c.c.c.c rH
 have c8:i=L.length:=by have:=bA h1;omega
 subst c8
 rw[ahn,c6]at B
 refine .exit<|bo<|bq<|bp<|au<|.sr<|.ag rfl<|.zs<|.sr<|.az rfl<|.block ?_
 refine .cy [(1,_),(2,_),(3,_),(4,_),(5,_),(6,_),(14,_)] (X:=Nat×Value×aw) (λy=>y.1<=l.length/\OS 9 1 cr y.2.1 ((l.take y.1).filter λid=>(s ⟨name,id,e⟩).1.getD 0 false) y.2.2) (λy E=>(18,iN y.1)::(17,.int .i64 (jF tot (l.take y.1):Nat))::(15,y.2.1)::E) (λy G=>y.2.2::G) (λy=>l.length-y.1) (0,sZ,[]) ⟨ahp _,OS.nil⟩ kE.c.c.c.c.c.c.c.c.c.c bk.eC ?_
 rintro⟨j,vq,Tq⟩ ⟨hj,D⟩
 simp only at hj D⊢
 have iq:=D.aE
 have d9:((l.take j).filter λid=>(s ⟨name,id,e⟩).1.getD 0 false).length<=l.length:=ahq (ahs _ _) (by rw[ahl];omega)
 have e3:=d1 j
 refine .seq<|.sr<|.mo rfl<|.mo rfl<|.q (.dG B) ?_
 refine .q .lss<|.zn ?_
 refine .cond rfl (λh3=>?_) λh3=>?_
 have C:j<l.length:=cg h3
 obtain⟨id,Y⟩:=bQ C
 have F:l.take (j+1)=l.take j++[id]:=by rw[ahr,Y];rfl
 have b5:=PV (tot:=tot) Y
 have hX:=c4 id
 have d0:=Z id
 have d4:=a8 id
 have a7:=d3 id
 have d2:=b8 id
 generalize r id=op at *
 obtain⟨op,Q⟩:=op
 simp only at hX d0 d4 a7 d2
 refine .kn<|.seq<|.block<|.seq ?_
 refine bz.cO [(1,_),(2,_),(3,_),(4,_),(5,_),(6,_),(14,_),(15,_),(17,_),(18,_)] kE.c.c.c.c.c.c.c.c.c.c (X:=Value×List aH×aw×Nat) (λy=>RS (λb o=>R b o\/(b,o)∈y.2.2.1) 8 aH.enc y.1 y.2.1/\(∀p∈y.2.1,aH.is (λb o=>R b o\/(b,o)∈y.2.2.1) p)/\y.2.1.map aH.plain=op) (λy E=>(19,.pointer (some ⟨y.2.2.2,0,none⟩))::E) (λy=>[[(y.2.2.2,.cells [y.1,iN Q].toArray 86 (0,0))],y.2.2.1,Tq,Ta,bl b6 c.enc 25]) ?_ ?_
 refine .cY [15] mixed ?_
 refine .tO 0 rfl (.aM rfl)<|.tO 1 rfl .move<|.tO 2 rfl .move<|.tO 3 rfl .move<|.tO 4 rfl .move<|.tO 5 rfl .move ?_
 refine RA.aK 6 rfl j B Y rfl rfl rfl (by kernel_rfl) (λf4=>?_)
 refine .tO 7 rfl (.ca rfl) ?_
 refine .tO 8 rfl .cL ?_
 refine .tO 9 rfl .move ?_
 refine RA.jL 10 14 rfl rfl (by kernel_rfl) rfl ?_ ?_
 refine .cX ((qT (a7 R λb o hb=>hb)).weaken cM) (λu a1 hu=>?_)
 obtain⟨U,w,rfl,n,J,O⟩:=hu
 have c1:=n.aE
 refine .nil (Next.sub ?_)
 refine .tO 11 rfl .move<|.tO 12 rfl .extract<|.tK 13 rfl .extract ?_
 refine .sT 14 rfl ?_
 refine .bX (λa2=>?_)
 refine .nil (Next.sub ?_)
 refine .sT 15 rfl ?_
 refine .bN rfl rfl ?_
 refine .nil (Next.mod rfl ?_)
 refine .tK 16 rfl .assign ?_
 refine RA.nil (by kernel_rfl) ?_
 ·exact aF (U,w,a1,a2) ⟨n,J,O⟩ kE.c.c.c.c.c.c.c.c.c.c.c rH
 refine .bX (λa2=>?_)
 refine .nil (Next.sub ?_)
 refine .sT 10 rfl ?_
 refine .cX ((qT (a7 R λb o hb=>hb)).weaken cM) (λu a1 hu=>?_)
 obtain⟨U,w,rfl,n,J,O⟩:=hu
 have c1:=n.aE
 refine .nil (Next.sub ?_)
 refine .tO 11 rfl .move<|.tO 12 rfl .extract<|.tK 13 rfl .extract ?_
 refine .sT 15 rfl ?_
 refine .bN rfl rfl ?_
 refine .nil (Next.mod rfl ?_)
 refine .tK 16 rfl .assign ?_
 refine RA.nil (by kernel_rfl) ?_
 ·exact aF (U,w,a1,a2) ⟨n,J,O⟩ kE.c.c.c.c.c.c.c.c.c.c.c (aN [1,0,0,0,0])
 intro y hy
 obtain⟨U,w,a1,a2⟩:=y
 obtain⟨n,J,O⟩:=hy
 simp only at n J O⊢
 have c1:=n.aE
 have e5:w.length=op.length:=by rw[<-O,ahi]
 obtain⟨c0,b4,b7,e6,b2,_⟩:=hX.ok w O
 have e1:=hX.ln
 obtain⟨b0,M⟩:∃b0,(s ⟨name,id,e⟩).1[0]? =some b0:=⟨_,aZ (by omega)⟩
 have d8:(s ⟨name,id,e⟩).1.getD 0 false=b0:=by rw[ahw,M];rfl
 have a4:((w.length:Nat):Int)+((Q:Nat):Int)=((tot id:Nat):Int):=by omega
 refine au<|.seq<|.sr<|.fa rfl<|.lo rfl<|.q (.bI n) ?_
 refine .fa rfl<|.lo rfl ?_
 refine .ia (w.length+Q) .add ?_
 refine .mo rfl<|.q .gtr<|.zn ?_
 refine .cond rfl (λh4=>?_) λh4=>?_
 have a0:jF tot (l.take (j+1))=tot id:=by
  have:=bT h4
  rw[b5,ahg (by omega)]
 refine .region<|.fa rfl<|.lo rfl<|.q (.bI n) ?_
 refine .fa rfl<|.lo rfl ?_
 refine .ia (w.length+Q) .add ?_
 refine .ag rfl<|.z<|.q (.aM rfl)<|.mo rfl ?_
 refine .cX (B6 U Q us w _ (n.mono λb o hb=>hb.elim .inl λhb=>.inr (by simp[hb])) (λp hp=>(J p hp).mono λb o hb=>hb.elim .inl λhb=>.inr (by simp[hb])) c0 b4 b7) (λu c2 I=>?_)
 rw[b2]at I
 have d5:=I.aE
 refine .aK 0 I M (λd6=>?_)
 refine .lo rfl<|.zn ?_
 refine .cond rfl (λH=>?_) λH=>?_
 have m:((l.take (j+1)).filter λid=>(s ⟨name,id,e⟩).1.getD 0 false)=((l.take j).filter λid=>(s ⟨name,id,e⟩).1.getD 0 false)++[id]:=by rw[F,ahh];simp[M,H]
 refine .region<|.mo rfl<|.mo rfl<|.mo rfl ?_
 refine .aK j B Y (λd7=>?_)
 refine .lo rfl ?_
 refine .gL (λc3=>?_)
 refine .append D (RS.lits (xs:=[id]) rfl (by simp[cr]) (by simp[cr,aE])) (by simp only[ahm];omega) (λv7 V v=>?_)
 have i7:=v.aE
 rw[<-m]at v
 refine .ag rfl<|.nil<|aS<|au<|.region<|.mo rfl ?_
 refine .ia (j+1) .add ?_
 refine .ag rfl<|.nil ?_
 ·exact bd (j+1,v7,V) ⟨C,v⟩ (by simp only;omega) (by rw[a0];first|(rw[<-a4];exact kE.c.c.c.c.c.c.c.c.c.c)|exact kE.c.c.c.c.c.c.c.c.c.c) (aN [4,4,4])
 have m:((l.take (j+1)).filter λid=>(s ⟨name,id,e⟩).1.getD 0 false)=((l.take j).filter λid=>(s ⟨name,id,e⟩).1.getD 0 false):=by rw[F,ahh];simp[M,H]
 refine .skip<|aS<|au<|.region<|.mo rfl ?_
 refine .ia (j+1) .add ?_
 refine .ag rfl<|.nil ?_
 ·exact bd (j+1,vq,Tq) ⟨C,by simp only;rw[m];exact D⟩ (by simp only;omega) (by rw[a0];first|(rw[<-a4];exact kE.c.c.c.c.c.c.c.c.c.c)|exact kE.c.c.c.c.c.c.c.c.c.c) (aN [3,3,3])
 have a0:jF tot (l.take (j+1))=jF tot (l.take j):=by
  have:=bA h4
  rw[b5,ahf (by omega)]
 refine .kn<|.sr<|.q (.aM rfl)<|.mo rfl ?_
 refine .cX (B6 U Q us w _ (n.mono λb o hb=>hb.elim .inl λhb=>.inr (by simp[hb])) (λp hp=>(J p hp).mono λb o hb=>hb.elim .inl λhb=>.inr (by simp[hb])) c0 b4 b7) (λu c2 I=>?_)
 rw[b2]at I
 have d5:=I.aE
 refine .aK 0 I M (λd6=>?_)
 refine .lo rfl<|.zn ?_
 refine .cond rfl (λH=>?_) λH=>?_
 have m:((l.take (j+1)).filter λid=>(s ⟨name,id,e⟩).1.getD 0 false)=((l.take j).filter λid=>(s ⟨name,id,e⟩).1.getD 0 false)++[id]:=by rw[F,ahh];simp[M,H]
 refine .region<|.mo rfl<|.mo rfl<|.mo rfl ?_
 refine .aK j B Y (λd7=>?_)
 refine .lo rfl ?_
 refine .gL (λc3=>?_)
 refine .append D (RS.lits (xs:=[id]) rfl (by simp[cr]) (by simp[cr,aE])) (by simp only[ahm];omega) (λv7 V v=>?_)
 have i7:=v.aE
 rw[<-m]at v
 refine .ag rfl<|.nil<|aS<|au<|.region<|.mo rfl ?_
 refine .ia (j+1) .add ?_
 refine .ag rfl<|.nil ?_
 ·exact bd (j+1,v7,V) ⟨C,v⟩ (by simp only;omega) (by rw[a0];first|(rw[<-a4];exact kE.c.c.c.c.c.c.c.c.c.c)|exact kE.c.c.c.c.c.c.c.c.c.c) (aN [4,4,4])
 have m:((l.take (j+1)).filter λid=>(s ⟨name,id,e⟩).1.getD 0 false)=((l.take j).filter λid=>(s ⟨name,id,e⟩).1.getD 0 false):=by rw[F,ahh];simp[M,H]
 refine .skip<|aS<|au<|.region<|.mo rfl ?_
 refine .ia (j+1) .add ?_
 refine .ag rfl<|.nil ?_
 ·exact bd (j+1,vq,Tq) ⟨C,by simp only;rw[m];exact D⟩ (by simp only;omega) (by rw[a0];first|(rw[<-a4];exact kE.c.c.c.c.c.c.c.c.c.c)|exact kE.c.c.c.c.c.c.c.c.c.c) (aN [3,3,3])
 have c9:j=l.length:=by have:=bA h3;omega
 subst c9
 rw[ahn]at D
 rw[ahn]
 refine .exit<|bo<|bq<|bp<|au<|.sr<|.mo rfl<|.mo rfl<|.ag rfl<|.az rfl ?_
 refine .ret (aY _ (.two (.tmp rfl) (.tmp rfl)) (aN [0]) ?_)
 ·exact⟨_,rfl,_,rfl,D⟩
end
def nL:bf:=⟨⟨#[]⟩,⟨#[]⟩,⟨#[]⟩⟩
section
variable{c:Cf}{num:List Nat}{sub:bf->List Sub}{k:bf}
theorem rJ(a:bW c.all ⟨k.os,k.rel⟩=none):∀i,opened c num sub k i=([⟨k,false,[],0,[],[]⟩],0)
 |0=>by
  rw[opened]
  unfold one
  rw[a]
 |i+1=>by
  rw[opened,rJ a i]
  cases i with
  |zero=>rfl
  |succ i=>rfl
theorem yX(a:bW c.all ⟨k.os,k.rel⟩=none):eN c num sub k 1:=⟨by rw[rJ a];exact Nat.le_refl _,λj b=>by rw[rJ a];exact b⟩
theorem yM(a:bW c.all ⟨k.os,k.rel⟩=none)(b:Int)(can:Bool):(et c num sub k b can 1).2.2=if b<1 then 2 else if can=false then 12 else 0:=by
 unfold et
 rw[rJ a]
 split
 ·rfl
 ·split
  ·rfl
  ·rw[ahg (by simp;omega)]
end
theorem BL{W:ByteArray->Bool}{F:ByteArray->ByteArray->Bool}{c:Cf}(h:c.right W F=true)(e:W ⟨#[]⟩=false):bW c.all ⟨nL.os,nL.rel⟩=none:=by
 cases hf:bW c.all ⟨nL.os,nL.rel⟩with
 |none=>rfl
 |some i=>
  exfalso
  obtain⟨x,a,f⟩:=ng hf
  have g:=ba a
  unfold Cf.right at h
  simp only[aho,ahv]at h
  obtain⟨s,j,a⟩:=List.mem_flatMap.1 g
  obtain⟨r,k,rfl⟩:=ahk.1 a
  have b:=(h.1.1 s j).1
  have d:s.name=⟨#[]⟩:=congrArg Ty.space f
  rw[d,e]at b
  cases b
def uC:ByteArray:=⟨#[120]⟩
theorem O4:gN oq.rows 1 ⟨#[100]⟩=[uC]:=by decide+kernel
theorem ti(R:ay):Spec prog 54 [] R [] λu H'=>u=.bool true/\H'=[]:=by
 have j:=TU
 have S:=j.num
 have c4:=j.ik
 obtain⟨num,c7,s⟩:=Bb S
 have a5:=yW num
 have d0:=qd num
 obtain⟨K1,s1,X,b0⟩:=dR.ends (wS (us:=lM) s)
 have F:=D7 (by decide+kernel) (wS s) X b0
 have d2:=λI e=>SW (us:=lM) s I e
 have G:et ⟨gE t21,[]⟩ num iQ iH 9 true 1=((opened ⟨gE t21,[]⟩ num iQ iH 1).1,0,0):=yL num
 have c6:=λi (h:i<=1)=>tH (c:=⟨gE t21,[]⟩) (num:=num) (sub:=iQ) (k:=iH) h
 have d1:=λR=>QH (R:=R) t21 j.sz j.pl (lz t21) j.lx j.ok j.len (gE t21) j.cf j.jG
 have b7:s9 lM=true:=by decide
 rw[b7]at F
 have A:=BL s.right (by decide)
 generalize gE t21=C at *
 have c1:=yX (num:=num) (sub:=iQ) A
 have a2:=yM (num:=num) (sub:=iQ) A 9 true
 have c8:=rJ (num:=num) (sub:=iQ) A
 obtain⟨D,T⟩:∃D,D=et ⟨C,[]⟩ num iQ iH 9 true 1:=⟨_,rfl⟩
 obtain⟨x,U⟩:∃x,x=et ⟨C,[]⟩ num iQ nL 9 true 1:=⟨_,rfl⟩
 rw[<-T]at F G
 rw[<-U]at a2
 have d3:x.2.2=0:=by rw[a2];rfl
 refine Spec.body func54 rfl results54 ntmps54 rfl ?_
 refine .sr<|.ag rfl<|.z ?_
 refine .cX (d1 _) (λu Tc a=>?_)
 obtain⟨c,rfl,hc,c0⟩:=a
 have e3:cB c.enc:=⟨hc.cV⟩
 refine .mo rfl<|.q .extract<|.q .extract ?_
 refine .bX (λb1=>?_)
 refine .bN rfl rfl<|.ag rfl<|.z ?_
 refine .cX (Ae _) (λu J a=>?_)
 obtain⟨hb,rfl,V⟩:=a
 obtain⟨d6,e0,e1,b4,_⟩:=id V
 have e7:PS J (pT hb) [.bool true,d6,.int .i64 ((0:Nat):Int)]:=PS.of (E:=155) (fr:=(0,0)) (by rw[b4];simp)
 refine .cX (Cp _) (λu y a=>?_)
 obtain⟨g,rfl,Y⟩:=a
 obtain⟨d4,d5,d7,d8,d9,b3⟩:=Y.view (R:=sg y) λp v=>v
 have e6:PS y (pT g) [.bool true,.int .u64 0,.int .u64 0,iN d4.length,d5,d7]:=⟨b3.pc⟩
 refine .ag rfl<|.ag rfl<|.zs<|.sr<|.mo rfl<|.q (.yY rfl rfl) ?_
 refine .mo rfl<|.gt rfl ?_
 refine .mo rfl<|.gt rfl ?_
 refine .q (.yY rfl rfl) ?_
 refine .q .cR<|.mo rfl<|.gt rfl ?_
 refine .mo rfl<|.gt rfl ?_
 refine .q (.aM rfl)<|.gt rfl ?_
 refine .uS (Aa hb [] 0 J V (by simp) 0 c _ (hc.mono λb o hb=>.inr (by have b6:(b,o)∈Tc:=hb;simp[b6]))) (λu K a=>?_)
 rw[c0]at a
 rw[Ac,S]at a
 obtain⟨rfl,b2,_⟩:=a
 obtain⟨e,c3,f,W⟩:=b2 rfl
 rw[List.nil_append]at W
 refine .gt rfl ?_
 refine .q .eh<|.q .cR<|.zn ?_
 refine .cond rfl (λO=>?_) λO=>?_
 ·simp at O
 refine .kn<|.sr<|.mo rfl ?_
 refine .q .cL ?_
 refine .q .cL ?_
 refine .q .cL ?_
 refine .q .cL ?_
 refine .dN (λe2=>?_)
 refine .uS (C7 g ⟨[],0,0⟩ y Y gj.eC (sZ) (sZ) _ [] [] [⟨true,uy⟩] _ RS.gO RS.gO (RS.lits (enc:=cD.enc) (xs:=[⟨true,uy⟩]) rfl (by simp[cD.enc,aB.enc]) (by simp[cD.enc,aB.enc,aE])) (λt H=>(by cases H)) (λt H=>(by cases H)) (λd hd=>by rw[ahj]at hd;subst hd;exact⟨by decide,by decide,by decide,by decide,by decide,by decide,by decide⟩)) (λu M a=>?_)
 obtain⟨rfl,Z⟩:=a
 rw[Uw]at Z
 obtain⟨vl,hV⟩:=W.view (R:=λb o=>(b,o)∈K\/(b,o)∈M) λp v=>.inl v
 obtain⟨e5,vf,vr,Mf,Mr,a0⟩:=Z.view (R:=λb o=>(b,o)∈K\/(b,o)∈M) λp v=>.inr v
 have b5:kA [e] 1=some e:=by
  unfold kA
  have:hl [e] 1 1=some 0:=by
   simp only[hl,List.getElem?_cons_zero,c3]
   simp
  rw[show([e]:List ep).length=1 from rfl,this]
  rfl
 have c2:=hV.all e (by simp)
 have a9:e.ll.map (·.2)=rows e.c.plain.bj num:=by rw[c2.eq,f,c7]
 have a6:=λk c5 hN=>yN hV a0 (L:=oq.rows) ⟨.refl _,List.pairwise_singleton _ _⟩ (by decide) 1 e b5 num (by rw[f];exact s) a9 ⟨by omega,by simp⟩ (λe' N=>by
  rw[ahj]at N
  subst N
  exact OI a9 (by rw[f];exact c4)) k 9 (by omega) iQ rfl c5 1 hN
 have a3:=a6 iH (λi w=>by
   rw[f]at w⊢
   have h2:=wG a5 w
   have Q:=c6 i h2
   rw[d0]at Q
   simp only[ahm]at Q
   omega) (by rw[f];exact a5)
 have a4:=a6 nL (λi w=>by
   rw[f]at w⊢
   rw[c8]
   simp) (by rw[f];exact c1)
 rw[f,show scan oq 1=true by decide, <-T]at a3
 rw[f,show scan oq 1=true by decide, <-U]at a4
 have a1:=O1 ⟨rfl⟩ ⟨rfl⟩ a3 lM (by decide) (by omega) (λ_ I e9=>d2 I (by rw[e9,G])) (λ_=>by rw[G];exact X) b0
 rw[F]at a1
 have a8:=Ah a0 (by decide) 1 (by decide) ⟨#[100]⟩
 rw[O4]at a8
 have c9:=Bd (i1:=⟨rfl⟩) (i2:=⟨rfl⟩) a4 lM ⟨#[100]⟩ ⟨#[97]⟩ (by decide) [uC] (by simp) (λ_ _=>a8) (λ_=>(true,0)) (λ_ _ id a7=>by
  rw[ahj]at a7
  subst a7
  exact a1)
 refine .z<|.mo rfl<|.mo rfl ?_
 refine .cX (c9.weaken λb o hb=>.inr (by rcases hb with hb|hb<;>simp[hb])) (λu T6 a=>?_)
 obtain⟨vo,l,er,rfl,B,b9⟩:=a
 have b8:dY lM=true:=by decide
 rcases b9 with⟨r,_⟩|⟨_,r,_⟩|⟨_,_,_,id,_,r,_⟩|⟨_,_,rfl,_,rfl⟩
 ·rw[b8]at r;cases r
 ·exact absurd d3 r
 ·exact absurd rfl r
 simp only[List.filter_cons_of_pos,List.filter_nil]at B
 refine .mo rfl<|.q .extract<|.q .extract<|.ag rfl<|.ag rfl<|.z<|.mo rfl<|.q .bU<|.mo rfl ?_
 refine .split (t:=40) rfl (λn=>?_) (λn=>?_)
 refine .gT n<|.mo rfl<|.gT n<|.q (.dG B) ?_
 refine .gT n<|.q .bU<|.q (.aT n) ?_
 refine .mo rfl ?_
 refine .split (t:=45) rfl (λm=>?_) (λm=>?_)
 refine .gT m<|.mo rfl<|.gT m ?_
 refine .aK 0 B (show [uC][0]? =some uC from rfl) (λe4=>?_)
 refine .gT m<|.lo rfl<|.gT m<|.q .dF<|.q (.aT m) ?_
 refine .az rfl ?_
 refine .ret (aY _ (.one (.tmp rfl)) (bk.none _) ?_)
 ·exact⟨rfl,rfl⟩
 ·simp at m
 ·simp at n
theorem PD(w:mg)(R:ay)(h:w.is R)(name a X:ByteArray)(rev:Int)(hr:0<=rev)(b:Int)(a7:b<=9223372036854775807):
  Spec prog 12 [.agg w.enc.toArray,.string name,.string a,.string X,.int .u64 rev,.int .i64 b] R [] λv H'=>v=.bool true/\H'=[]:=by
 have c3:=PM w R h
 have i1:One w.c.vs:=RS.aE h.c.ss
 have i2:One w.c.vc:=RS.aE h.c.sc
 have i3:=h.rs.aE
 have iw:cB w.enc:=⟨λu e=>by
  simp only[mg.enc,List.mem_cons,List.not_mem_nil,or_false]at e
  rcases e with rfl|rfl|rfl
  ·exact i1.h
  ·exact i2.h
  ·exact i3.h⟩
 refine Spec.body func12 rfl results12 ntmps12 rfl ?_
 refine .sr ?_
 refine .cb rfl (λb6=>?_)
 refine .ag rfl<|.z<|.q (.aM rfl) ?_
 refine .cX (c3.weaken cM) (λu Tw e=>?_)
 obtain⟨c,p1,p2,p3,ok,rfl,d4,d5,d6,hc,c8,d2,hW⟩:=e
 have d3:cB c.enc:=⟨hc.cV⟩
 refine .mo rfl<|.q .extract<|.q .extract<|.q .extract<|.q .extract<|.q .extract ?_
 refine .bX (λc7=>?_)
 refine .ag rfl<|.ag rfl<|.bN rfl rfl<|.ag rfl<|.ag rfl<|.zs<|.sr<|.mo rfl<|.q .not<|.zn ?_
 refine .cond rfl (λZ=>?_) λZ=>?_
 refine .sr ?_
 refine .aX (ti _) (λu e=>?_)
 subst e
 refine .az rfl ?_
 refine .ret (aJ (aY _ (.one (.tmp rfl)) (bk.none _) ?_))
 ·exact⟨rfl,rfl⟩
 have c5:ok=true:=by simpa using Z
 subst c5
 obtain⟨r,g,x,S,num,L,rfl,rfl,rfl,y⟩:=hW rfl
 obtain⟨i,b4⟩:∃i,i=short X 40:=⟨_,rfl⟩
 have a2:i.size<=9223372036854775807:=by
  have:=Cm (s:=X) (n:=40)
  rw[<-b4]at this
  omega
 obtain⟨N,K,s,E⟩:=y.all rev i
 have a3:=BL y.m.right (by decide)
 have b9:=y.et rev hr nL b a7 (yX a3)
 have a9:=yM (num:=num) (sub:=cH S L rev) a3 b (scan S rev)
 have c6:=λR' a0 J=>RI (y.mono (R':=R') a0) rev J name a i N K s E
 have c2:=λid=>y.lh rev ⟨name,id,a⟩ (N ⟨name,id,a⟩) (E ⟨name,id,a⟩).1.2
 obtain⟨d7,vf,vr,Mf,Mr,b7⟩:=y.s
 obtain⟨vL,b5⟩:=y.d
 have d0:S.rows.length<=512:=y.len
 have c9:=AI (L:=L) (rev:=rev) (name:=name)
 have d1:=y.ll
 have b1:=λJ=>Ah b7 (by omega) rev J name
 rw[<-Pz y.rl.pm]at b1
 have a8:=λid=>SQ (R':=R) y rev hr ⟨name,id,a⟩ i a2 b a7 (E ⟨name,id,a⟩).1 (E ⟨name,id,a⟩).2.run (E ⟨name,id,a⟩).2.n
 have B:1<=b->dY i=true->scan S rev=true->∀id,jR i (et (eR w.c.plain) num (cH S L rev) ⟨name,id,a⟩ b (scan S rev) (N ⟨name,id,a⟩)) b (K ⟨name,id,a⟩) (s ⟨name,id,a⟩).1=if(((opened (eR w.c.plain) num (cH S L rev) ⟨name,id,a⟩ (N ⟨name,id,a⟩)).1.length+(opened (eR w.c.plain) num (cH S L rev) ⟨name,id,a⟩ (N ⟨name,id,a⟩)).2:Nat):Int)<=b then((s ⟨name,id,a⟩).1.getD 0 false,0)else(false,16):=λZ I f id=>by
  have hX:=(E ⟨name,id,a⟩).2
  have C:=hX.hi
  have h7:=hX.nf
  by_cases T:(((opened (eR w.c.plain) num (cH S L rev) ⟨name,id,a⟩ (N ⟨name,id,a⟩)).1.length+(opened (eR w.c.plain) num (cH S L rev) ⟨name,id,a⟩ (N ⟨name,id,a⟩)).2:Nat):Int)<=b
  ·have hd:et (eR w.c.plain) num (cH S L rev) ⟨name,id,a⟩ b (scan S rev) (N ⟨name,id,a⟩)=((opened (eR w.c.plain) num (cH S L rev) ⟨name,id,a⟩ (N ⟨name,id,a⟩)).1,(opened (eR w.c.plain) num (cH S L rev) ⟨name,id,a⟩ (N ⟨name,id,a⟩)).2,0):=by
    unfold et
    rw[ahf (by omega),ahf (by rw[f];simp),ahg T]
   have h8:eG b (K ⟨name,id,a⟩) (s ⟨name,id,a⟩).1=((s ⟨name,id,a⟩).1,K ⟨name,id,a⟩,0):=by
    unfold eG
    rw[ahf (by omega),ahf (by omega)]
   rw[ahg T,hd]
   unfold jR
   rw[ahf (by rw[I];simp),ahf (by simp),h8,ahf (by simp)]
  ·have hd:et (eR w.c.plain) num (cH S L rev) ⟨name,id,a⟩ b (scan S rev) (N ⟨name,id,a⟩)=([],0,16):=by
    unfold et
    rw[ahf (by omega),ahf (by rw[f];simp),ahf T]
   rw[ahf T,hd]
   unfold jR
   rw[ahf (by rw[I];simp),ahg (by simp)]
 generalize a5:(λid=>jR i (et (eR w.c.plain) num (cH S L rev) ⟨name,id,a⟩ b (scan S rev) (N ⟨name,id,a⟩)) b (K ⟨name,id,a⟩) (s ⟨name,id,a⟩).1)=V
 have a6:∀id,jR i (et (eR w.c.plain) num (cH S L rev) ⟨name,id,a⟩ b (scan S rev) (N ⟨name,id,a⟩)) b (K ⟨name,id,a⟩) (s ⟨name,id,a⟩).1=V id:=λid=>by rw[<-a5]
 simp only[a6]at a8 B
 clear a5 a6 E
 generalize hT:(λid=>(opened (eR w.c.plain) num (cH S L rev) ⟨name,id,a⟩ (N ⟨name,id,a⟩)).1.length+(opened (eR w.c.plain) num (cH S L rev) ⟨name,id,a⟩ (N ⟨name,id,a⟩)).2)=tot at *
 have a4:∀id,(opened (eR w.c.plain) num (cH S L rev) ⟨name,id,a⟩ (N ⟨name,id,a⟩)).1.length+(opened (eR w.c.plain) num (cH S L rev) ⟨name,id,a⟩ (N ⟨name,id,a⟩)).2=tot id:=λid=>by rw[<-hT]
 simp only[a4]at B
 clear hT a4 c2
 generalize hD:et (eR w.c.plain) num (cH S L rev) nL b (scan S rev) 1=D at *
 have b3:D.2.2=0->1<=b/\scan S rev=true:=λp=>by
  rw[a9]at p
  split at p
  ·cases p
  ·split at p
   ·cases p
   ·exact⟨by omega,by simp_all⟩
 have c0:vA S i b rev=if dY i=false then 9 else D.2.2:=by rw[a9];rfl
 have c4:=Bd (i1:=⟨rfl⟩) (i2:=⟨rfl⟩) b9 i name a a2 (gN L rev name) (by omega) (λ_ p=>b1 (b3 p).2) V (λ_ _ id _=>a8 id)
 have b0:=λ(R':ay) (a0:∀b o,(R b o\/(b,o)∈Tw)->R' b o)=>Q6 (b5.mono a0) i a2 b rev
 rw[c0]at b0
 refine .kn<|.sr<|.mo rfl ?_
 refine .aX (Cn X 40 _) (λu e=>?_)
 rw[<-b4]at e
 subst e
 refine .ag rfl<|.z<|.mo rfl<|.mo rfl<|.mo rfl<|.mo rfl<|.mo rfl<|.mo rfl<|.mo rfl ?_
 refine .cX (c4.weaken λb o r=>r.elim .inl λr=>.inr (by simp[r])) (λu T5 e=>?_)
 obtain⟨vo,l,Y,rfl,hO,a1⟩:=e
 refine .mo rfl<|.q .extract<|.q .extract<|.ag rfl<|.ag rfl<|.z<|.mo rfl<|.mo rfl<|.mo rfl<|.mo rfl ?_
 refine .aX (b0 _ λb o r=>r.elim .inl λr=>.inr (by simp[r])) (λu e=>?_)
 subst e
 refine .ag rfl<|.zs<|.sr<|.mo rfl<|.q .eh<|.zn ?_
 refine .cond rfl (λI=>?_) λI=>?_
 have W:(if dY i=false then 9 else D.2.2)≠0:=by simpa using I
 obtain⟨rfl,rfl⟩:l=[]/\Y=if dY i=false then 9 else D.2.2:=by
  rcases a1 with⟨f,j,k⟩|⟨f,_,j,k⟩|⟨f,j,_⟩|⟨f,j,_⟩
  ·rw[ahg f];exact⟨j,k⟩
  ·rw[ahf (by rw[f];simp)];exact⟨j,k⟩
  ·rw[ahf (by rw[f];simp)]at W;exact absurd j W
  ·rw[ahf (by rw[f];simp)]at W;exact absurd j W
 refine .sr<|.mo rfl<|.mo rfl<|.q .bU<|.mo rfl ?_
 refine .split (t:=57) rfl (λH=>?_) (λH=>?_)
 refine .gT H<|.mo rfl<|.gT H<|.q (.dG hO) ?_
 refine .gT H<|.q .bU<|.q (.aT H) ?_
 refine .mo rfl ?_
 refine .split (t:=62) rfl (λQ=>?_) (λQ=>?_)
 refine .gT Q ?_
 refine .aX (ti _) (λu e=>?_)
 subst e
 refine .q (.aT Q) ?_
 refine .az rfl ?_
 refine .ret (aJ (aY _ (.one (.tmp rfl)) (bk.none _) ?_))
 ·exact⟨rfl,rfl⟩
 ·simp at Q
 ·simp at H
 have p:(if dY i=false then 9 else D.2.2)=0:=by simpa using I
 have U:dY i=true:=by
  cases A:dY i with
  |true=>rfl
  |false=>rw[ahg A]at p;cases p
 rw[ahf (by rw[U];simp)]at p
 obtain⟨b8,J⟩:=b3 p
 have B:=B b8 U J
 refine .kn<|.sr<|.q (.aM rfl)<|.mo rfl<|.mo rfl<|.mo rfl<|.mo rfl<|.mo rfl ?_
 refine .cX (c6 _ (λb o r=>r.elim .inl λr=>.inr (by simp[r])) J) (λu T9 e=>?_)
 obtain⟨vq,rfl,hQ⟩:=e
 refine .mo rfl<|.q .extract<|.q .extract<|.ag rfl<|.ag rfl<|.zs<|.sr<|.mo rfl<|.mo rfl<|.q .gtr<|.zn ?_
 refine .cond rfl (λf=>?_) λf=>?_
 have c1:b<((jF tot (gN L rev name):Nat):Int):=bT f
 obtain⟨rfl,rfl⟩:l=[]/\Y=16:=by
  rcases a1 with⟨f,_⟩|⟨_,j,_⟩|⟨_,_,j,id,_,k,C⟩|⟨_,_,_,j,_⟩
  ·rw[U]at f;cases f
  ·exact absurd p j
  ·rw[B id]at k C
   split at k
   ·exact absurd rfl k
   ·rename_i h7;rw[ahf h7]at C;exact⟨j,C⟩
  ·exfalso
   have h8:jF tot (gN L rev name)<=b.toNat:=tv.2 λid A=>by
    have k:=j id A
    rw[B id]at k
    split at k
    ·omega
    ·cases k
   omega
 refine .sr<|.mo rfl<|.q .bU<|.mo rfl ?_
 refine .split (t:=80) rfl (λF=>?_) (λF=>?_)
 refine .gT F<|.mo rfl<|.gT F<|.q (.dG hO) ?_
 refine .gT F<|.q .bU<|.q (.aT F) ?_
 refine .mo rfl ?_
 refine .split (t:=85) rfl (λM=>?_) (λM=>?_)
 refine .gT M ?_
 refine .aX (ti _) (λu e=>?_)
 subst e
 refine .q (.aT M) ?_
 refine .az rfl ?_
 refine .ret (aJ (aY _ (.one (.tmp rfl)) (bk.none _) ?_))
 ·exact⟨rfl,rfl⟩
 ·simp at M
 ·simp at F
 have c1:¬b<((jF tot (gN L rev name):Nat):Int):=bA f
 have b2:∀id∈gN L rev name,((tot id:Nat):Int)<=b:=λid A=>by
  have h8:=(tv (tot:=tot) (ids:=gN L rev name) (b:=b.toNat)).1 (by omega) id A
  omega
 obtain⟨rfl,rfl⟩:Y=0/\l=(gN L rev name).filter λid=>(s ⟨name,id,a⟩).1.getD 0 false:=by
  rcases a1 with⟨f,_⟩|⟨_,j,_⟩|⟨_,_,j,id,A,k,C⟩|⟨_,_,k,j,C⟩
  ·rw[U]at f;cases f
  ·exact absurd p j
  ·rw[B id,ahg (b2 id A)]at k;exact absurd rfl k
  ·refine⟨k,?_⟩
   rw[C]
   exact List.filter_congr λid A=>by rw[B id,ahg (b2 id A)]
 refine .kn<|.sr<|.mo rfl<|.q .bU<|.mo rfl ?_
 refine .split (t:=90) rfl (λG=>?_) (λG=>?_)
 refine .gT G<|.mo rfl<|.gT G<|.mo rfl<|.gT G ?_
 refine .aX (Sd _ _ _ _ _ hO.rx hQ.rx) (λu e=>?_)
 subst e
 refine .q (.aT G) ?_
 refine .mo rfl ?_
 refine .split (t:=95) rfl (λO=>?_) (λO=>?_)
 refine .gT O ?_
 refine .aX (ti _) (λu e=>?_)
 subst e
 refine .q (.aT O) ?_
 refine .az rfl ?_
 refine .ret (aY _ (.one (.tmp rfl)) (bk.none _) ?_)
 ·exact⟨rfl,rfl⟩
 ·simp at O
 ·simp at G
section
open Go.ChangeShapes
theorem Uh{H:Type}{enc:TypeId×Value->H}{P:Program}{w:World}{base:Nat}{b:Nat->Bool}{a:Bool}{g i t2 j k l:TypeId}{e:Array Value}{f:List (DataW H)}{ps:List MemPlace}(h:DataW.TrodAll enc P w base b a [g,i,t2,j,k,l] e.toList f ps):
  ∃v0 v1 v2 v3 v4 v5 d0 d1 d2 d3 d4 d5 p0 p1 p2 p3 p4 p5,e= #[v0,v1,v2,v3,v4,v5]/\f=[d0,d1,d2,d3,d4,d5]/\ps=p0++(p1++(p2++(p3++(p4++p5))))/\DataW.Trod enc P w base b a g v0 d0 p0/\DataW.Trod enc P w base b a i v1 d1 p1/\DataW.Trod enc P w base b a t2 v2 d2 p2/\DataW.Trod enc P w base b a j v3 d3 p3/\DataW.Trod enc P w base b a k v4 d4 p4/\DataW.Trod enc P w base b a l v5 d5 p5:=by
 obtain⟨v0,r,d0,c,p0,d,m,rfl,rfl,n,h⟩:=trodAll_cons h
 obtain⟨v1,r,d1,c,p1,d,rfl,rfl,rfl,o,h⟩:=trodAll_cons h
 obtain⟨v2,r,d2,c,p2,d,rfl,rfl,rfl,p,h⟩:=trodAll_cons h
 obtain⟨v3,r,d3,c,p3,d,rfl,rfl,rfl,q,h⟩:=trodAll_cons h
 obtain⟨v4,r,d4,c,p4,d,rfl,rfl,rfl,s,h⟩:=trodAll_cons h
 obtain⟨v5,r,d5,c,p5,d,rfl,rfl,rfl,t,h⟩:=trodAll_cons h
 obtain⟨rfl,rfl,rfl⟩:=trodAll_nil h
 exact⟨v0,v1,v2,v3,v4,v5,d0,d1,d2,d3,d4,d5,p0,p1,p2,p3,p4,p5,by rw[<-Array.toArray_toList (xs:=e),m],rfl,by simp,n,o,p,q,s,t⟩
end
end Go.Proofs.YtdljmchhecoakaaGreat

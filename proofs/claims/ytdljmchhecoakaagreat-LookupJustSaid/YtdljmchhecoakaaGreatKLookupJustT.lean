/- What the law 'LookupJust' uses. No condition. -/
import Derived.Carry
import Derived.ChangeShapes
import Derived.Test.YtdljmchhecoakaaGreatKLookupJustI
import Derived.Test.YtdljmchhecoakaaGreatKLookupJustJ
import Derived.Test.YtdljmchhecoakaaGreatKLookupJustL
import Derived.Test.YtdljmchhecoakaaGreatKLookupJustQ
import Derived.Test.YtdljmchhecoakaaGreatKLookupJustR
import Derived.Test.YtdljmchhecoakaaGreatKLookupJustS
namespace Go.Proofs.YtdljmchhecoakaaGreat
set_option linter.defProp false
def agR:=@if_neg
def agS:=@decide_eq_true_eq
def agT:=@if_pos
def agU:=@List.mem_singleton
def agV:=@List.length_map
def agW:=@Bool.and_eq_true
def agX:=@List.mem_map
def agY:=@List.all_eq_true
def agZ:=@Nat.le_trans
def ag0:=@List.mem_filter
def ag1:=@List.length_filter_le
def ag2:=@List.filter_append
def ag3:=@List.mem_iff_getElem
def ag4:=@List.length_take
def ag5:=@List.getD_eq_getElem?_getD
def ag6:=@List.getElem?_map
def ag7:=@List.take_add_one
def ag8:=@List.length_singleton
def ag9:=@List.take_length
set_option linter.unusedVariables false
set_option linter.unusedSimpArgs false
set_option maxRecDepth 8000
structure tn(t:ByteArray)(L:List eO)(C:List Sp):Prop where
 sz:t.size<=16384
 pl:Pl t
 lx:qt t=some L
 ok:∀x∈L,gh x
 len:L.length<=1000000
 cf:kR isWord (L.length+1) [] (L,false)=(C,([],false))
 jq:(⟨C,[]⟩:Cf).jq isWord=false
 num:((⟨C,[]⟩:Cf).numbers isWord dj).1=0
 iZ:C.length<=1000/\∀y∈C,y.bN.length<=1000
def la(t:ByteArray):List eO:=(qt t).getD []
def gy(t:ByteArray):List Sp:=(kR isWord ((la t).length+1) [] (la t,false)).1
theorem tn.of{t:ByteArray}(b:t.size<=16384)(c:(List.range t.size).all (λk=>decide (eW t k≠34)&&decide (eW t k≠47)&&decide (eW t k≠45))=true)(d:(qt t).isSome=true)(e:(la t).all (λx=>decide (gh x))=true)(f:(la t).length<=1000000)
  (g:(kR isWord ((la t).length+1) [] (la t,false)).2.1.isEmpty=true)(h:(kR isWord ((la t).length+1) [] (la t,false)).2.2=false)(i:(⟨gy t,[]⟩:Cf).jq isWord=false)(j:((⟨gy t,[]⟩:Cf).numbers isWord dj).1=0)(a:(decide ((gy t).length<=1000)&&(gy t).all λy=>decide (y.bN.length<=1000))=true):tn t (la t) (gy t):=by
 refine⟨b,λk m=>?_,?_,λx o=>bX (agY.1 e x o),f,?_,i,j,?_⟩
 ·have:=agY.1 c k (List.mem_range.2 m)
  simp only[agW,agS]at this
  exact⟨this.1.1,this.1.2,this.2⟩
 ·obtain⟨l,n⟩:=Option.isSome_iff_exists.1 d
  unfold la
  rw[n];rfl
 ·refine Prod.ext rfl (Prod.ext ?_ h)
  exact List.isEmpty_iff.1 g
 ·simp only[agW,agS]at a
  exact⟨a.1,λy p=>bX (agY.1 a.2 y p)⟩
theorem Mz{e:ee}{num:List Nat}(f:e.ll.map (·.2)=rows e.c.plain.bg num)(d:e.c.plain.bg.length<=1000/\∀y∈e.c.plain.bg,y.bN.length<=1000):e.ll.length<=1000000/\∀q∈e.ll,q.2.length<=1000000:=by
 have l:e.ll.length=e.c.plain.bg.length:=by rw[<-mO e.c.plain.bg num, <-f,agV]
 refine⟨by have:=d.1;omega,λq j=>?_⟩
 have k:q.2∈rows e.c.plain.bg num:=by rw[<-f];exact agX.2 ⟨q,j,rfl⟩
 obtain⟨i,a,g⟩:=ag3.1 k
 rw[mO]at a
 have b:=po (n:=num) (aV a)
 rw[aV (by rw[mO];exact a),g]at b
 have h:=Option.some.inj b
 rw[h,ag4]
 have:=d.2 _ (List.getElem_mem a)
 omega
open Tryz
theorem MQ{n r:Value}{rev:Int}{k:bc}{b:Int}{R:ay}{D:List bI×Nat×Int}(i1:One n)(i2:One r)(G:Spec prog 34 [n,r,.int .u64 rev,.agg [.string k.os,.string k.oi].toArray,.string k.rel,.int .i64 b] R [] (nG R D))(us:ByteArray)(L:us.size<=9223372036854775807)(E:b<=9223372036854775807)
  (J:D.2.2=0->∀ps:List aZ,ps.map aZ.plain=D.1->lU ps us/\0<ps.length){K:Nat}{s:QS}(d:D.2.2=0->dL D.1 us K s)(I:iA s.2):
  Spec prog 26 [n,r,.int .u64 rev,.agg [.string k.os,.string k.oi].toArray,.string k.rel,.string us,.int .i64 b] R [] λu H'=>u=.tuple [.bool (kJ us D b K s.1).1,.int .i64 (kJ us D b K s.1).2].toArray/\H'=[]:=by
 have a:kJ us D b K s.1=if eG us=false then(false,9)else if D.2.2≠0 then(false,D.2.2)
  else if(ez b K s.1).2.2≠0 then(false,(ez b K s.1).2.2)else((ez b K s.1).1.getD 0 false,0):=rfl
 generalize kJ us D b K s.1=out at *
 refine Spec.body func26 rfl results26 ntmps26 rfl<|.sr ?_
 refine .cx rfl (λQ=>?_)
 refine .ag rfl<|.ag rfl<|.zs<|.sr<|.mo rfl<|.ba ((qn us L R).weaken da) (λu e=>?_)
 subst e
 refine .q .not<|.zn<|.cond rfl (λg=>?_) λg=>?_
 have j:eG us=false:=by simpa using g
 rw[agT j]at a
 subst a
 refine .sr<|.ag rfl<|.az rfl<|.ret (aK (bj _ (.two (.tmp rfl) (.tmp rfl)) (.none _) ?_))
 ·exact⟨rfl,rfl⟩
 have j:¬eG us=false:=by simpa using g
 rw[agR j]at a
 refine .kn<|.sr<|.mo rfl<|.mo rfl<|.mo rfl<|.q (.aT rfl)<|.mo rfl<|.mo rfl<|.dh ((tQ G).weaken da) (λu N e=>?_)
 obtain⟨M,ps,rfl,x,C,w⟩:=e
 have W:=x.aB
 refine .mo rfl<|.q .extract<|.q .extract ?_
 refine .bU (λS=>?_)
 refine .bP rfl rfl<|.ag rfl<|.zs<|.sr<|.mo rfl<|.q .dZ<|.zn<|.cond rfl (λh=>?_) λh=>?_
 have l:D.2.2≠0:=by simpa using h
 rw[agT l]at a
 subst a
 refine .sr<|.mo rfl<|.ag rfl<|.az rfl<|.ret (aK (bj _ (.two (.tmp rfl) (.tmp rfl)) (.none _) ?_))
 ·exact⟨rfl,rfl⟩
 have m:D.2.2=0:=by simpa using h
 rw[agR (by rw[m];simp)]at a
 obtain⟨z,T⟩:=J m ps w
 have d:=d m
 rw[<-w]at d
 have y:=λB=>A6 z.ok d (b:=b) B
 rw[agV]at y
 refine .kn<|.sr<|.q (.aT rfl)<|.mo rfl<|.mo rfl<|.dh (BD M _ us ps _ (x.mono λb o c=>c.elim .inl λc=>.inr (by simp[c])) (λp H=>(C p H).mono λb o c=>c.elim .inl λc=>.inr (by simp[c])) z b E K s d I) (λu O e=>?_)
 obtain⟨Y,rfl,t⟩:=e
 have V:=t.aB
 refine .mo rfl<|.q .extract<|.q .extract<|.q .extract<|.ag rfl<|.ag rfl<|.ag rfl<|.zs<|.sr<|.mo rfl<|.q .dZ<|.zn<|.cond rfl (λi=>?_) λi=>?_
 have l:(ez b K s.1).2.2≠0:=by simpa using i
 rw[agT l]at a
 subst a
 refine .sr<|.mo rfl<|.ag rfl<|.az rfl<|.ret (aK (bj _ (.two (.tmp rfl) (.tmp rfl)) (.none _) ?_))
 ·exact⟨rfl,rfl⟩
 have A:(ez b K s.1).2.2=0:=by simpa using i
 rw[agR (by rw[A];simp)]at a
 obtain⟨_,U⟩:=y A
 obtain⟨f,v⟩:∃f,(ez b K s.1).1[0]? =some f:=⟨_,aV (by omega)⟩
 have F:(ez b K s.1).1.getD 0 false=f:=by rw[ag5,v];rfl
 rw[F]at a
 subst a
 refine .kn<|.sr<|.mo rfl ?_
 refine .aL 0 t v (λX=>?_)
 refine .lo rfl<|.ag rfl<|.az rfl<|.ret (bj _ (.two (.tmp rfl) (.tmp rfl)) (.none _) ?_)
 ·exact⟨rfl,rfl⟩
def t21:ByteArray:=⟨#[110,97,109,101,115,112,97,99,101,32,100,32,123,32,114,101,108,97,116,105,111,110,32,97,58,32,117,115,101,114,59,32,125]⟩
theorem Q9:tn t21 (la t21) (gy t21):=.of (by decide+kernel) (by decide+kernel) (by decide+kernel) (by decide+kernel) (by decide+kernel) (by decide+kernel) (by decide+kernel) (by decide+kernel) (by decide+kernel) (by decide+kernel)
def ib:bc:=⟨⟨#[100]⟩,⟨#[120]⟩,⟨#[97]⟩⟩
def lz:ByteArray:=⟨#[98,111,98]⟩
def s9:aA:=⟨⟨#[100]⟩,⟨#[120]⟩,⟨#[97]⟩,⟨#[98,111,98]⟩,⟨#[]⟩,⟨#[]⟩,⟨#[]⟩⟩
def nM:cX:=⟨[⟨s9,1,0⟩],1,0⟩
def iB(k:bc):List Sub:=if scan nM 1 then(nM.rows.filter λy=>y.there 1&&decide (y.t.db=k)).map (·.t.sub)else []
theorem RH:iC ⟨[],0,0⟩ [] [] [⟨true,s9⟩]=nM:=by kernel_rfl
theorem o6(num:List Nat):opened ⟨gy t21,[]⟩ num iB ib 1=([⟨ib,true,[⟨1,⟨#[]⟩,⟨#[]⟩,0,0⟩],num.getD 0 0,[lz],[[]]⟩],0):=by kernel_rfl
theorem Ov(num:List Nat):(opened ⟨gy t21,[]⟩ num iB ib 0).1.length=1:=by simp[opened]
theorem xL(num:List Nat):eZ ⟨gy t21,[]⟩ num iB ib 1:=⟨by rw[o6];exact Nat.le_refl _,λj a=>by
 obtain rfl:j=0:=by omega
 rw[Ov];decide⟩
theorem xA(num:List Nat):fO ⟨gy t21,[]⟩ num iB ib 9 true 1=((opened ⟨gy t21,[]⟩ num iB ib 1).1,0,0):=by
 unfold fO
 rw[o6]
 rfl
def rR(us:ByteArray):Bool:=decide (us=lz)
theorem CJ{num:List Nat}{us:ByteArray}(k:eG us=true){K:Nat}{s:QS}(ok:jL (opened ⟨gy t21,[]⟩ num iB ib 1).1 us)(i:dL (opened ⟨gy t21,[]⟩ num iB ib 1).1 us K s)(l:iA s.2):kJ us (fO ⟨gy t21,[]⟩ num iB ib 9 true 1) 9 K s.1=(rR us,0):=by
 obtain⟨c,m,a,b,_⟩:=i.end_ ok l
 rw[o6]at c a b
 simp only at c a b
 have o:K<=1:=a
 have d:=b 0 (by simp)
 have e:(fj [(⟨ib,true,[⟨1,⟨#[]⟩,⟨#[]⟩,0,0⟩],num.getD 0 0,[lz],[[]]⟩:bI)] us).ex 0 (λj=>s.1.getD j false)=rR us:=by
  show dt (⟨ib,true,[⟨1,⟨#[]⟩,⟨#[]⟩,0,0⟩],num.getD 0 0,[lz],[[]]⟩:bI) us (λj=>s.1.getD j false) 1=_
  rw[Oh (n:=⟨1,⟨#[]⟩,⟨#[]⟩,0,0⟩) rfl (.inl rfl),agT rfl]
  unfold rR
  simp
 have g:(fj [(⟨ib,true,[⟨1,⟨#[]⟩,⟨#[]⟩,0,0⟩],num.getD 0 0,[lz],[[]]⟩:bI)] us).f 0=true:=rfl
 rw[e,g,Bool.true_and]at d
 have h:ez 9 K s.1=(s.1,K,0):=by
  unfold ez
  rw[agR (by decide),agR (by omega)]
 unfold kJ
 rw[xA,h,k,agR (by simp)]
 simp only
 rw[agR (by simp),agR (by simp),d]
theorem vh{us:ByteArray}{num:List Nat}(a:lp isWord dj ⟨gy t21,[]⟩ num):jL (opened ⟨gy t21,[]⟩ num iB ib 1).1 us:=a.ps (xL num) us
theorem QB{us:ByteArray}{num:List Nat}(h:lp isWord dj ⟨gy t21,[]⟩ num)(ps:List aZ)(e:ps.map aZ.plain=(opened ⟨gy t21,[]⟩ num iB ib 1).1):lU ps us/\0<ps.length:=by
 have c:=vh (us:=us) h
 rw[<-e]at c
 have a:=e
 rw[o6]at a
 simp only at a
 refine⟨?_,by have:=congrArg List.length a;simp at this;omega⟩
 obtain⟨p,rfl⟩:∃p,ps=[p]:=List.length_eq_one_iff.1 (by have:=congrArg List.length a;simpa using this)
 simp only[List.map_cons,List.map_nil,List.cons.injEq,and_true]at a
 obtain⟨m,l,t,n,u,r,s,k,o⟩:=p
 unfold aZ.plain at a
 simp only[bI.mk.injEq]at a
 obtain⟨_,_,rfl,_,_,g⟩:=a
 refine⟨c,λp b=>?_,λp b=>?_,λp b q j=>?_,by simp,?_⟩
 ·rw[agU]at b
  subst b
  intro i f
  have f:i<1:=f
  obtain rfl:i=0:=by omega
  simp only
  decide+kernel
 ·rw[agU]at b
  subst b
  simp
 ·rw[agU]at b
  subst b
  have d:q.2∈k.map (·.2):=agX.2 ⟨q,j,rfl⟩
  rw[g,agU]at d
  rw[d]
  simp
 ·rw[e,o6]
  exact Nat.zero_le _
section
variable{R:ay}{cp:Cf}{c:bJ}{hb g x:Nat}{S:cX}{num:List Nat}{L:List bC}
theorem WS.scan(h:WS R cp c hb g x S num L):Go.Proofs.YtdljmchhecoakaaGreat.scan S S.head=true:=by
 unfold Go.Proofs.YtdljmchhecoakaaGreat.scan
 simp[h.sW.h1]
theorem WS.full(h:WS R cp c hb g x S num L){k:bc}{N:Nat}(a:eZ cp num (dd S L S.head) k N)(b:Int):Go.Proofs.YtdljmchhecoakaaGreat.fO cp num (dd S L S.head) k b (Go.Proofs.YtdljmchhecoakaaGreat.scan S S.head) N=if b<1 then([],0,2)else if(((opened cp num (dd S L S.head) k N).1.length+(opened cp num (dd S L S.head) k N).2:Nat):Int)<=b then((opened cp num (dd S L S.head) k N).1,(opened cp num (dd S L S.head) k N).2,0)else([],0,16):=by
 unfold Go.Proofs.YtdljmchhecoakaaGreat.fO
 rw[h.scan]
 rfl
theorem WS.max(h:WS R cp c hb g x S num L){k:bc}{N:Nat}(a:eZ cp num (dd S L S.head) k N):Go.Proofs.YtdljmchhecoakaaGreat.fO cp num (dd S L S.head) k 1048576 (Go.Proofs.YtdljmchhecoakaaGreat.scan S S.head) N=((opened cp num (dd S L S.head) k N).1,(opened cp num (dd S L S.head) k N).2,0):=by
 have:=h.mc S.head k N a.2
 rw[h.full a,agR (by omega),agT (by omega)]
theorem WS.yQ(h:WS R cp c hb g x S num L):0<=S.head:=Int.le_trans h.sW.h0 h.sW.h1
end
theorem yE{b:Nat}:∀(l:List Sp),(∀y∈l,y.bN.length<=b)->(l.flatMap λs=>s.bN.map λr=>(s.name,r)).length<=l.length*b
 |[],_=>by simp
 |s::l,h=>by
  have c:=yE l λy a=>h y (List.mem_cons_of_mem _ a)
  have d:=h s List.mem_cons_self
  rw[List.flatMap_cons,List.length_append,agV,List.length_cons,Nat.add_mul]
  omega
structure tj(op:List bI)(oe:Nat)(us:ByteArray)(K:Nat)(s:QS):Prop where
 n:iA s.2
 run:dL op us K s
 lo:iL op<=K
 hi:K<=iL op+oe
 nf:iL op<=op.length
 ln:s.1.length=op.length
 ok:∀ps:List aZ,ps.map aZ.plain=op->lU ps us/\(∀p∈ps,p.found=true->0<p.nodes.length)/\(∀p∈ps,p.number<=1000000)/\dL (ps.map aZ.plain) us K s/\p8 (fj (ps.map aZ.plain) us) (zK ps)=s.1/\
  ∀(i:Nat) (p:aZ),ps[i]? =some p->s.1.getD i false=(p.found&&dt p.plain us (λj=>s.1.getD j false) p.nodes.length)
section
variable{R:ay}{cp:Cf}{c:bJ}{hb g x:Nat}{S:cX}{num:List Nat}{L:List bC}
theorem WS.QE(h:WS R cp c hb g x S num L){rev:Int}{k:bc}{N:Nat}(n:eZ cp num (dd S L rev) k N)(us:ByteArray):∃K s,tj (opened cp num (dd S L rev) k N).1 (opened cp num (dd S L rev) k N).2 us K s:=by
 have z:=h.m.ps n us
 have w:=n.gr
 obtain⟨K,s,q,B⟩:=dL.ends z
 obtain⟨F,G,O,H,I⟩:=q.end_ z B
 have T:=n.xK
 refine⟨K,s,B,q,G,by omega,?_,F,λu e=>?_⟩
 ·unfold iL dK
  refine agZ List.countP_le_length ?_
  simp
 ·have t:∀p∈u,p.plain∈(opened cp num (dd S L rev) k N).1:=λp a=>by rw[<-e];exact agX.2 ⟨p,a,rfl⟩
  have M:∀p∈u,p.number<=cp.all.length:=λp a=>by
   obtain⟨i,d,D⟩:=ag3.1 (t p a)
   have b:=h.m.kP n us i d
   have j:(fj (opened cp num (dd S L rev) k N).1 us).num i=p.number:=by
    show(((opened cp num (dd S L rev) k N).1[i]?).map (·.number)).getD 0=_
    rw[aV d,D];rfl
   omega
  have Q:cp.all.length<=30:=by
   have:=yE cp.bg h.pH.2
   have b:=h.pH.1
   have j:cp.all.length=(cp.bg.flatMap λs=>s.bN.map λr=>(s.name,r)).length:=rfl
   omega
  refine⟨h.vS n e us,λp a J=>?_,λp a=>by have:=M p a;omega,by rw[e];exact q,?_,λi p a=>?_⟩
  ·have b:p.found=(one cp num p.k).found:=(w.one p.plain (t p a)).1
   have j:p.nodes=(one cp num p.k).nodes:=(w.one p.plain (t p a)).2.1
   rw[j]
   rw[J]at b
   unfold one at b⊢
   split
   ·rename_i l;rw[l]at b;cases b
   ·rename_i i l
    obtain⟨y,C,_⟩:=mN l
    simp only[ag5,ag6,C,Option.map_some,Option.getD_some]
    have o:=(nu h.m.right y (aW C)).1
    unfold mM at o
    simp only[agW,bne_iff_ne,ne_eq]at o
    refine Nat.pos_of_ne_zero λE=>o.1.2 ?_
    rw[List.eq_nil_of_length_eq_zero E]
    unfold fN
    cases ht:tree isWord [] ([]:List Nd).length with
    |none=>rfl
    |some r=>have:=(iP _ _ ht).1;simp at this
  ·rw[e]
   refine(I _ λi d=>?_).symm
   rw[<-e,agV]at d
   obtain⟨p,a⟩:=bW d
   unfold fQ
   rw[<-e,ag6,a]
   exact(zJ u 0).2 p (aW a)
  ·have d:i<(opened cp num (dd S L rev) k N).1.length:=by rw[<-e,agV];exact(List.getElem?_eq_some_iff.1 a).1
   have A:(opened cp num (dd S L rev) k N).1[i]? =some p.plain:=by rw[<-e,ag6,a];rfl
   have b:=H i d
   have j:(fj (opened cp num (dd S L rev) k N).1 us).f i=p.found:=by
    show(((opened cp num (dd S L rev) k N).1[i]?).map (·.found)).getD false=_
    rw[A];rfl
   have l:∀v,(fj (opened cp num (dd S L rev) k N).1 us).ex i v=dt p.plain us v p.nodes.length:=λv=>by
    unfold fj
    simp only[A]
    rfl
   rw[j,l]at b
   exact b
end
theorem NG(a b:ByteArray):bh eK a b=ey a b:=by
 unfold bh
 rw[Bool.eq_iff_iff,mP,agS]
def n9(ps:List aZ):List ByteArray:=ps.flatMap (·.fU)
theorem NW{ps:List aZ}(h:∀p∈ps,p.fU.length<=512):(n9 ps).length<=ps.length*512:=by
 induction ps with
 |nil=>simp[n9]
 |cons p ps ih=>
  have a:=ih λq b=>h q (List.mem_cons_of_mem _ b)
  have c:=h p List.mem_cons_self
  unfold n9 at a⊢
  rw[List.flatMap_cons,List.length_append,List.length_cons,Nat.add_mul]
  omega
structure ri(ps:List aZ)(K:ByteArray->Nat)(s:ByteArray->QS):Prop where
 vS:∀us,lU ps us
 run:∀us,dL (ps.map aZ.plain) us (K us) (s us)
 none:∀us,iA (s us).2
 ln:∀us,(s us).1.length=ps.length
 us:∀p∈ps,p.fU.length<=512
 RY:∀us,p8 (fj (ps.map aZ.plain) us) (zK ps)=(s us).1
 fd:∀p∈ps,p.found=true->0<p.nodes.length
 nb:∀p∈ps,p.number<=1000000
 n:ps.length<=1048576
def BC(s:ByteArray->QS)(us:ByteArray):Bool:=(s us).1.getD 0 false
theorem ri.named{ps:List aZ}{K:ByteArray->Nat}{s:ByteArray->QS}(h:ri ps K s):(n9 ps).length<=1000000000/\ps.length<=1900000:=by
 have a:=NW h.us
 have b:=h.n
 exact⟨by omega,by omega⟩
theorem NV(ps:List aZ):n9 ps=(ps.map aZ.plain).flatMap (·.fU):=by
 unfold n9
 rw[List.flatMap_map];rfl
theorem Og{p:bI}{us:ByteArray}{v:Nat->Bool}(g:us∉p.fU)(h:∀j,v j=false)(m:Nat):dt p us v m=false:=by
 induction m using Nat.strongRecOn with
 |_ m ih=>
  match m,ih with
  |0,_=>rw[dt]
  |e+1,ih=>
   rw[dt]
   split
   ·rfl
   ·rename_i n k
    split
    ·split
     ·rename_i i
      have c:=ih (n.a.toNat+1) (by omega)
      have d:=ih (n.b.toNat+1) (by omega)
      rw[c,d]
      split
      ·rfl
      ·split<;>rfl
     ·rfl
    ·rw[Bool.or_eq_false_iff,Bool.and_eq_false_iff]
     refine⟨.inr (List.any_eq_false.2 λs f=>?_),List.any_eq_false.2 λj _=>by rw[h j];simp⟩
     rw[agS]
     exact λe=>g (e▸f)
theorem dL.named{ps:List bI}{us:ByteArray}(a:∀p∈ps,us∉p.fU):∀{k:Nat} {s:QS},dL ps us k s->∀j,s.1.getD j false=false
 |0,_,.start=>λj=>by
  rw[ag5,List.getElem?_replicate]
  split<;>rfl
 |k+1,_,.step (s:=s) (i:=i) h hn=>by
  have b:=dL.named a h
  have c:(fj ps us).ex i (λj=>s.1.getD j false)=false:=by
   unfold fj
   simp only
   cases hp:ps[i]? with
   |none=>rfl
   |some p=>exact Og (a p (aW hp)) b _
  unfold qJ
  rw[c]
  simp only[Bool.not_false,Bool.or_true,if_true]
  exact b
theorem ri.out{ps:List aZ}{K:ByteArray->Nat}{s:ByteArray->QS}(h:ri ps K s){us:ByteArray}(a:BC s us=true):us∈n9 ps:=by
 refine Classical.byContradiction λd=>?_
 have b:=(h.run us).named (λp e c=>d (by rw[NV];exact List.mem_flatMap.2 ⟨p,e,c⟩)) 0
 unfold BC at a
 rw[b]at a
 cases a
theorem Rk{l:List ByteArray}{i:Nat}{x us:ByteArray}(h:l[i]? =some x):decide (us∈l.take (i+1))=(decide (us∈l.take i)||decide (x=us)):=by
 rw[ag7,h,Bool.eq_iff_iff,agS,Bool.or_eq_true,agS,agS,List.mem_append]
 simp only[Option.toList_some,agU]
 exact or_congr Iff.rfl ⟨Eq.symm,Eq.symm⟩
theorem Rb{a b:List ByteArray}(h:∀s,s∈a↔s∈b):a.foldl jY []=b.foldl jY []:=
 wi (pR List.Pairwise.nil) (pR List.Pairwise.nil) λs=>by rw[oY,oY,h]
theorem CW{xs ys:List ByteArray}(c:∀s,s∈ys↔s∈xs)(d:ys.Pairwise λa b=>ey b a=false):gk ys=xs.foldl jY []:=
 wi (xu ys d) (pR List.Pairwise.nil) λs=>by rw[tM,oY,c];simp
def jn(L:List bC)(rev:Int)(name:ByteArray):List ByteArray:=((L.filter λx=>x.there rev&&decide (x.t.os=name)).map (·.t.oi)).foldl jY []
theorem Ny{L M:List bC}(h:L.Perm M)(rev:Int)(name:ByteArray):jn L rev name=jn M rev name:=
 Rb λs=>((h.filter _).map _).mem_iff
theorem zw{L:List bC}{rev:Int}{name s:ByteArray}:s∈jn L rev name↔∃x∈L,x.there rev=true/\x.t.os=name/\x.t.oi=s:=by
 unfold jn
 rw[oY]
 simp only[List.not_mem_nil,false_or,agX,ag0,agW,agS]
 exact⟨λ⟨x,⟨a,b,c⟩,d⟩=>⟨x,a,b,c,d⟩,λ⟨x,a,b,c,d⟩=>⟨x,⟨a,b,c⟩,d⟩⟩
theorem Nx{L:List bC}{rev:Int}{name:ByteArray}:(jn L rev name).length<=L.length:=by
 unfold jn
 refine agZ Br ?_
 rw[agV]
 have:=ag1 (λx:bC=>x.there rev&&decide (x.t.os=name)) L
 simp only[List.length_nil];omega
def um(name:ByteArray):aA:=⟨name,⟨#[]⟩,⟨#[]⟩,⟨#[]⟩,⟨#[]⟩,⟨#[]⟩,⟨#[]⟩⟩
theorem ML{name:ByteArray}{t:aA}(h:t.os=name):iD (um name) t=true:=by
 unfold iD um
 simp[h]
def kw(name:ByteArray)(t:aA):Bool:=decide (t.os=name)
theorem yV{R:ay}{g:Nat}{S:cX}{ps:List RB}{vf vr:Value}{M:List (bc×(Value×ax))}{N:List (Sub×(Value×ax))}(h:SV R g S ps vf vr M N)(F:S.rows.length<=4096)(rev:Int)(D:scan S rev=true)(name:ByteArray):
  Spec prog 106 [pT g,.int .u64 rev,.string name] R [] λu H'=>∃T,H'=[T]/\OS 9 1 cG u (jn S.rows rev name) T:=by
 refine Spec.body func106 rfl results106 ntmps106 rfl ?_
 refine .sr<|.ag rfl<|.z<|.ag rfl<|.z<|.mo rfl<|.mo rfl ?_
 refine .q .cR ?_
 refine .mo rfl ?_
 refine .dh ((At h F (um name) rev).weaken da) (λu T2 p=>?_)
 obtain⟨w,d,rfl,m,I⟩:=p
 have iw:=m.aB
 have a6:d.length<=4096:=by
  rw[I.1.length_eq,agT D]
  unfold pK
  rw[agV]
  exact agZ (ag1 _ _) F
 have a0:∀s,s∈(d.filter (kw name)).map (·.oi)↔s∈jn S.rows rev name:=λs=>by
  rw[zw]
  simp only[agX,ag0,I.1.mem_iff,agT D]
  unfold pK
  simp only[agX,ag0,agW]
  unfold kw
  constructor
  ·rintro⟨t,⟨⟨x,⟨e,f,_⟩,rfl⟩,U⟩,rfl⟩
   exact⟨x,e,f,by simpa using U,rfl⟩
  ·rintro⟨x,e,f,B,rfl⟩
   exact⟨x.t,⟨⟨x,⟨e,f,ML B⟩,rfl⟩,by simpa using B⟩,rfl⟩
 refine .mo rfl<|.q .extract<|.q .extract<|.ag rfl<|.ag rfl<|.zs<|.sr<|.mo rfl<|.q (.ep m) ?_
 refine .mo rfl<|.zn<|.block ?_
 refine .cF [(2,_),(20,_),(21,_)] (X:=Nat×Value×ax) (λy=>y.1<=d.length/\OS 9 1 cG y.2.1 (((d.take y.1).filter (kw name)).map (·.oi)) y.2.2) (λy E=>(22,iN y.1)::(7,y.2.1)::E) (λy G=>y.2.2::G) (λy=>d.length-y.1) (0,sZ,[]) ⟨Nat.zero_le _,OS.nil⟩ kE.c.c.c.c.c bz.fH ?_
 rintro⟨i,v,A⟩ ⟨Y,j⟩
 simp only at Y j⊢
 have io:=j.aB
 have a1:(((d.take i).filter (kw name)).map (·.oi)).length<=4096:=by
  rw[agV]
  have:=ag1 (kw name) (d.take i)
  rw[ag4]at this
  omega
 refine .sr<|.q .lss<|.zs ?_
 refine .cond rfl (λe=>?_) λe=>?_
 have o:i<d.length:=cy e
 obtain⟨t,J⟩:=bW o
 have K:d.take (i+1)=d.take i++[t]:=by rw[ag7,J];rfl
 refine .kn<|.seq<|.block<|.sr ?_
 refine .aL i m J (λa8=>?_)
 refine .q (.aT rfl) ?_
 refine .bU (λa4=>?_)
 refine .bP rfl rfl<|.z<|.fa rfl<|.fa rfl<|.lo rfl<|.mo rfl<|.q .eg<|.zn ?_
 refine .cond rfl (λf=>?_) λf=>?_
 have n:((d.take (i+1)).filter (kw name)).map (·.oi)=((d.take i).filter (kw name)).map (·.oi)++[t.oi]:=by
  have k:kw name t=true:=by unfold kw;exact f
  rw[K,ag2,List.map_append];simp[k]
 refine .region<|.mo rfl<|.fa rfl<|.fa rfl<|.lo rfl ?_
 refine .ki (λa5=>?_)
 refine .append j (RS.lits (xs:=[t.oi]) rfl (by simp[cG]) (by simp[cG,aB])) (by simp only[ag8];omega) (λv7 Q r=>?_)
 have i7:=r.aB
 rw[<-n]at r
 refine .ag rfl<|.nil<|aX<|aw<|.region ?_
 refine .ia (i+1) .add ?_
 refine .mo rfl<|.nil ?_
 ·exact bm (i+1,v7,Q) ⟨o,r⟩ (by simp only;omega) kE.c.c.c.c.c (aQ [2,2])
 have n:((d.take (i+1)).filter (kw name)).map (·.oi)=((d.take i).filter (kw name)).map (·.oi):=by
  have k:kw name t=false:=by unfold kw;exact f
  rw[K,ag2,List.map_append];simp[k]
 refine .skip<|aX<|aw<|.region ?_
 refine .ia (i+1) .add ?_
 refine .mo rfl<|.nil ?_
 ·exact bm (i+1,v,A) ⟨o,by simp only;rw[n];exact j⟩ (by simp only;omega) kE.c.c.c.c.c (aQ [1,1])
 have Z:i=d.length:=by have:=bF e;omega
 subst Z
 rw[ag9]at j a1
 refine .exit<|bo<|bs<|bp<|aw<|.sr<|.mo rfl ?_
 refine .cr (SST.sX (c:=eK) (ok:=λ_=>True) v _ A _ j (by omega) rfl (λ_ _=>trivial) ny.so) (λu O p=>?_)
 obtain⟨rfl,L,V,H,a3⟩:=p
 have a7:=H.length_eq
 have a2:=a3.ordered.imp λ{a b} C=>by rw[NG]at C;exact C
 have W:gk L=jn S.rows rev name:=by
  rw[CW (xs:=jn S.rows rev name) (λs=>H.mem_iff.trans (a0 s)) a2]
  exact wi (pR List.Pairwise.nil) (by unfold jn;exact pR List.Pairwise.nil) λs=>by rw[oY];simp
 refine .z<|.mo rfl ?_
 refine .cr (CR v L O _ V (by omega)) (λu T4 l=>?_)
 have i4:=l.aB
 rw[W]at l
 refine .az rfl ?_
 refine .ret (bj _ (.one (.tmp rfl)) (aQ [0]) ?_)
 ·exact⟨_,rfl,l⟩
theorem Nq{f g:Value}{rev b:Int}{R:ay}{D:List bI×Nat×Int} [i1:One f] [i2:One g](h:Spec prog 34 [f,g,.int .u64 rev,.agg [.string ⟨#[]⟩,.string ⟨#[]⟩].toArray,.string ⟨#[]⟩,.int .i64 b] R [] (nG R D))(us:ByteArray)(j:us.size<=9223372036854775807):
  Spec prog 105 [f,g,.int .u64 rev,.string us,.int .i64 b] R [] λu H'=>u=.int .i64 (if eG us=false then 9 else D.2.2)/\H'=[]:=by
 refine Spec.body func105 rfl results105 ntmps105 rfl<|.sr<|.ag rfl<|.zs<|.sr<|.mo rfl<|.ba ((qn us j R).weaken da) (λu e=>?_)
 subst e
 refine .q .not<|.zn<|.cond rfl (λc=>?_) λc=>?_
 have a:eG us=false:=by simpa using c
 refine .sr<|.az rfl<|.ret (aK (bj _ (.one (.tmp rfl)) (bz.none _) ?_))
 ·exact⟨by rw[agT a],rfl⟩
 have a:¬eG us=false:=by simpa using c
 refine .kn<|.seq<|.sr<|.mo rfl<|.mo rfl<|.mo rfl<|.q .cR<|.mo rfl<|.dh ((tQ h).weaken da) (λu l e=>?_)
 obtain⟨t,s,rfl,i,n,o⟩:=e
 have r:=i.aB
 refine .mo rfl<|.q .extract<|.q .extract ?_
 refine .bU (λm=>?_)
 refine .bP rfl rfl<|.ag rfl<|.z<|.mo rfl<|.q .dZ<|.zn<|.cond rfl (λd=>?_) λd=>?_
 have p:D.2.2≠0:=by simpa using d
 refine .sr<|.mo rfl<|.az rfl<|.ret (aK (bj _ (.one (.tmp rfl)) (bz.none _) ?_))
 ·exact⟨by rw[agR a],rfl⟩
 have k:D.2.2=0:=by simpa using d
 refine .kn<|.sr<|.az rfl<|.ret (bj _ (.one (.tmp rfl)) (bz.none _) ?_)
 ·exact⟨by rw[agR a,k],rfl⟩
theorem zY{n h:Value}{rev b:Int}{R:ay}{D:List bI×Nat×Int} [i1:One n] [i2:One h](M:Spec prog 34 [n,h,.int .u64 rev,.agg [.string ⟨#[]⟩,.string ⟨#[]⟩].toArray,.string ⟨#[]⟩,.int .i64 b] R [] (nG R D))(us name J:ByteArray)(g:us.size<=9223372036854775807)
  (ids:List ByteArray)(a0:ids.length<=1000000)(w:eG us=true->D.2.2=0->Spec prog 106 [h,.int .u64 rev,.string name] R [] λu H'=>∃T,H'=[T]/\OS 9 1 cG u ids T)
  (V:ByteArray->Bool×Int)(e:eG us=true->D.2.2=0->∀id∈ids,Spec prog 26 [n,h,.int .u64 rev,.agg [.string name,.string id].toArray,.string J,.string us,.int .i64 b] R [] λu H'=>u=.tuple [.bool (V id).1,.int .i64 (V id).2].toArray/\H'=[]):
  Spec prog 55 [n,h,.int .u64 rev,.string name,.string J,.string us,.int .i64 b] R [] λu H'=>∃T,H'=[T]/\∃(vo:Value) (l:List ByteArray) (er:Int),u=.tuple [vo,.int .i64 er].toArray/\OS 9 1 cG vo l T/\
   ((eG us=false/\l=[]/\er=9)\/(eG us=true/\D.2.2≠0/\l=[]/\er=D.2.2)\/(eG us=true/\D.2.2=0/\l=[]/\∃id∈ids,(V id).2≠0/\er=(V id).2)\/(eG us=true/\D.2.2=0/\er=0/\(∀id∈ids,(V id).2=0)/\l=ids.filter λid=>(V id).1)):=by
 refine Spec.body func55 rfl results55 ntmps55 rfl ?_
 refine .sr<|.ag rfl<|.ag rfl<|.zs<|.sr<|.mo rfl<|.mo rfl<|.mo rfl<|.mo rfl<|.mo rfl ?_
 refine .ba ((Nq M us g).weaken da) (λu C=>?_)
 subst C
 refine .ag rfl<|.z<|.mo rfl<|.q .dZ<|.zn ?_
 refine .cond rfl (λo=>?_) λo=>?_
 have m:(if eG us=false then 9 else D.2.2)≠0:=by simpa using o
 refine .sr<|.mo rfl<|.ag rfl<|.az rfl ?_
 refine .ret (aK (bj _ (.two (.tmp rfl) (.tmp rfl)) (bz.fH.trans (aQ [0])) ?_))
 ·refine⟨_,rfl,_,[],_,rfl,OS.nil,?_⟩
  cases hi:eG us with
  |false=>left;simp
  |true=>right;left;rw[hi]at m;exact⟨rfl,by simpa using m,rfl,by simp⟩
 have a:(if eG us=false then 9 else D.2.2)=0:=by simpa using o
 have f:eG us=true:=by
  cases hi:eG us with
  |true=>rfl
  |false=>rw[agT hi]at a;cases a
 rw[agR (by rw[f];simp)]at a
 have w:=w f a
 have e:=e f a
 refine .kn<|.sr<|.ag rfl<|.zs<|.sr<|.mo rfl<|.mo rfl<|.mo rfl ?_
 refine .dh (w.weaken da) (λu W t=>?_)
 have i5:=t.aB
 refine .q (.ep t) ?_
 refine .mo rfl<|.zn<|.block ?_
 refine .cF [(0,_),(1,_),(2,_),(3,_),(4,_),(5,_),(6,_),(34,_),(35,_)] (X:=Nat×Value×ax) (λy=>y.1<=ids.length/\(∀id∈ids.take y.1,(V id).2=0)/\OS 9 1 cG y.2.1 ((ids.take y.1).filter λid=>(V id).1) y.2.2) (λy E=>(36,iN y.1)::(17,y.2.1)::E) (λy G=>y.2.2::G) (λy=>ids.length-y.1) (0,sZ,[]) ⟨Nat.zero_le _,by simp,OS.nil⟩ kE.c.c.c.c.c.c.c.c.c.c.c bz.fH ?_
 rintro⟨j,U,L⟩ ⟨N,i,d⟩
 simp only at N i d⊢
 have iq:=d.aB
 have Z:((ids.take j).filter λid=>(V id).1).length<=ids.length:=agZ (ag1 _ _) (by rw[ag4];omega)
 refine .sr<|.q .lss<|.zs ?_
 refine .cond rfl (λp=>?_) λp=>?_
 have A:j<ids.length:=cy p
 obtain⟨id,g⟩:=bW A
 have I:=aW g
 have B:ids.take (j+1)=ids.take j++[id]:=by rw[ag7,g];rfl
 have e:=e id I
 generalize k:V id=vd at *
 refine .kn<|.seq<|.block<|.sr ?_
 refine .aL j t g (λa1=>?_)
 refine .lo rfl<|.ag rfl<|.z<|.mo rfl<|.mo rfl<|.mo rfl<|.mo rfl<|.mo rfl ?_
 refine .q .cR ?_
 refine .mo rfl<|.mo rfl<|.mo rfl ?_
 refine .ba (e.weaken da) (λu C=>?_)
 subst C
 refine .mo rfl<|.q .extract<|.q .extract<|.ag rfl<|.ag rfl<|.zs<|.sr<|.mo rfl<|.q .dZ<|.zn ?_
 refine .cond rfl (λr=>?_) λr=>?_
 have m:vd.2≠0:=by simpa using r
 refine .sr<|.mo rfl<|.ag rfl<|.az rfl ?_
 refine .ret (aK (br (aK (cI (br (aK (bj _ (.two (.tmp rfl) (.tmp rfl)) (bz.fH.trans (aQ [0])) ?_)))))))
 ·exact⟨_,rfl,_,[],_,rfl,OS.nil,.inr (.inr (.inl ⟨f,a,rfl,id,I,by rw[k];exact⟨m,rfl⟩⟩))⟩
 have Q:vd.2=0:=by simpa using r
 have H:∀x∈ids.take (j+1),(V x).2=0:=λx hx=>by
  rw[B,List.mem_append,agU]at hx
  rcases hx with hx|rfl
  ·exact i x hx
  ·rw[k];exact Q
 refine .kn<|.sr<|.mo rfl<|.zn ?_
 refine .cond rfl (λs=>?_) λs=>?_
 have v:((ids.take (j+1)).filter λid=>(V id).1)=((ids.take j).filter λid=>(V id).1)++[id]:=by rw[B,ag2];simp[k,s]
 refine .region<|.mo rfl<|.mo rfl ?_
 refine .ki (λY=>?_)
 refine .append d (RS.lits (xs:=[id]) rfl (by simp[cG]) (by simp[cG,aB])) (by simp only[ag8];omega) (λS K F=>?_)
 have i7:=F.aB
 rw[<-v]at F
 refine .ag rfl<|.nil<|aX<|aw<|.region ?_
 refine .ia (j+1) .add ?_
 refine .mo rfl<|.nil ?_
 ·exact bm (j+1,S,K) ⟨A,H,F⟩ (by simp only;omega) kE.c.c.c.c.c.c.c.c.c.c.c (aQ [1,1])
 have v:((ids.take (j+1)).filter λid=>(V id).1)=((ids.take j).filter λid=>(V id).1):=by rw[B,ag2];simp[k,s]
 refine .skip<|aX<|aw<|.region ?_
 refine .ia (j+1) .add ?_
 refine .mo rfl<|.nil ?_
 ·exact bm (j+1,U,L) ⟨A,H,by simp only;rw[v];exact d⟩ (by simp only;omega) kE.c.c.c.c.c.c.c.c.c.c.c rH
 have O:j=ids.length:=by have:=bF p;omega
 subst O
 rw[ag9]at i d
 refine .exit<|bo<|bs<|bp<|aw<|.sr<|.mo rfl<|.ag rfl<|.az rfl ?_
 refine .ret (bj _ (.two (.tmp rfl) (.tmp rfl)) (aQ [0]) ?_)
 ·exact⟨_,rfl,_,_,_,rfl,d,.inr (.inr (.inr ⟨f,a,rfl,i,rfl⟩))⟩
section
variable{R:ay}{cp:Cf}{c:bJ}{hb g x:Nat}{S:cX}{num:List Nat}{L:List bC}
theorem WS.all(h:WS R cp c hb g x S num L)(rev:Int)(us:ByteArray):∃(N:bc->Nat) (K:bc->Nat) (s:bc->QS),∀k,eZ cp num (dd S L rev) k (N k)/\tj (opened cp num (dd S L rev) k (N k)).1 (opened cp num (dd S L rev) k (N k)).2 us (K k) (s k):=by
 have a:=λk=>h.QE (h.fin rev k).choose_spec us
 exact⟨λk=>(h.fin rev k).choose,λk=>(a k).choose,λk=>(a k).choose_spec.choose,λk=>⟨(h.fin rev k).choose_spec,(a k).choose_spec.choose_spec⟩⟩
end
def nh:bc:=⟨⟨#[]⟩,⟨#[]⟩,⟨#[]⟩⟩
section
variable{c:Cf}{num:List Nat}{sub:bc->List Sub}{k:bc}
theorem qA(a:bR c.all ⟨k.os,k.rel⟩=none):∀i,opened c num sub k i=([⟨k,false,[],0,[],[]⟩],0)
 |0=>by
  rw[opened]
  unfold one
  rw[a]
 |i+1=>by
  rw[opened,qA a i]
  cases i with
  |zero=>rfl
  |succ i=>rfl
theorem xM(a:bR c.all ⟨k.os,k.rel⟩=none):eZ c num sub k 1:=⟨by rw[qA a];exact Nat.le_refl _,λj b=>by rw[qA a];exact b⟩
theorem xB(a:bR c.all ⟨k.os,k.rel⟩=none)(b:Int)(can:Bool):(fO c num sub k b can 1).2.2=if b<1 then 2 else if can=false then 12 else 0:=by
 unfold fO
 rw[qA a]
 split
 ·rfl
 ·split
  ·rfl
  ·rw[agT (by simp;omega)]
end
theorem Ay{W:ByteArray->Bool}{F:ByteArray->ByteArray->Bool}{c:Cf}(h:c.right W F=true)(e:W ⟨#[]⟩=false):bR c.all ⟨nh.os,nh.rel⟩=none:=by
 cases hf:bR c.all ⟨nh.os,nh.rel⟩with
 |none=>rfl
 |some i=>
  exfalso
  obtain⟨x,a,f⟩:=mN hf
  have g:=aW a
  unfold Cf.right at h
  simp only[agW,agY]at h
  obtain⟨s,j,a⟩:=List.mem_flatMap.1 g
  obtain⟨r,k,rfl⟩:=agX.1 a
  have b:=(h.1.1 s j).1
  have d:s.name=⟨#[]⟩:=congrArg Ty.space f
  rw[d,e]at b
  cases b
def tf:ByteArray:=⟨#[120]⟩
theorem MX:jn nM.rows 1 ⟨#[100]⟩=[tf]:=by decide+kernel
theorem uI(R:ay):Spec prog 54 [] R [] λu H'=>u=.bool true/\H'=[]:=by
 have j:=Q9
 have T:=j.num
 have c5:=j.iZ
 obtain⟨num,c8,s⟩:=zW T
 have a6:=xL num
 have d1:=o6 num
 obtain⟨K1,s1,Y,b2⟩:=dL.ends (vh (us:=lz) s)
 have G:=CJ (by decide+kernel) (vh s) Y b2
 have d3:=λJ e=>QB (us:=lz) s J e
 have H:fO ⟨gy t21,[]⟩ num iB ib 9 true 1=((opened ⟨gy t21,[]⟩ num iB ib 1).1,0,0):=xA num
 have c7:=λi (h:i<=1)=>sy (c:=⟨gy t21,[]⟩) (num:=num) (sub:=iB) (k:=ib) h
 have d2:=λR=>OL (R:=R) t21 j.sz j.pl (la t21) j.lx j.ok j.len (gy t21) j.cf j.jq
 have b8:rR lz=true:=by decide
 rw[b8]at G
 have F:=Ay s.right (by decide)
 generalize gy t21=C at *
 have c2:=xM (num:=num) (sub:=iB) F
 have a3:=xB (num:=num) (sub:=iB) F 9 true
 have c9:=qA (num:=num) (sub:=iB) F
 obtain⟨D,U⟩:∃D,D=fO ⟨C,[]⟩ num iB ib 9 true 1:=⟨_,rfl⟩
 obtain⟨A,V⟩:∃A,A=fO ⟨C,[]⟩ num iB nh 9 true 1:=⟨_,rfl⟩
 rw[<-U]at G H
 rw[<-V]at a3
 have d4:A.2.2=0:=by rw[a3];rfl
 refine Spec.body func54 rfl results54 ntmps54 rfl<|.sr<|.ag rfl<|.z<|.dh (d2 _) (λu Tc a=>?_)
 obtain⟨c,rfl,x,c1⟩:=a
 have e6:cC c.enc:=⟨x.dg⟩
 have e4:One c.vs:=RS.aB x.ss
 have e5:One c.vc:=RS.aB x.sc
 refine .mo rfl<|.q .extract<|.q .extract ?_
 refine .bU (λb1=>?_)
 refine .bP rfl rfl<|.ag rfl<|.z<|.dh (yS _) (λu K a=>?_)
 obtain⟨hb,rfl,W⟩:=a
 obtain⟨d7,e1,e2,b5,_⟩:=id W
 have f2:PS K (pT hb) [.bool true,d7,.int .i64 ((0:Nat):Int)]:=PS.of (E:=155) (fr:=(0,0)) (by rw[b5];simp)
 refine .dh (A5 _) (λu B a=>?_)
 obtain⟨g,rfl,Z⟩:=a
 obtain⟨d5,d6,d8,d9,e0,b4⟩:=Z.view (R:=sg B) λp v=>v
 have f1:PS B (pT g) [.bool true,.int .u64 0,.int .u64 0,iN d5.length,d6,d8]:=⟨b4.pc⟩
 refine .ag rfl<|.ag rfl<|.zs<|.sr<|.mo rfl<|.q (.xN rfl rfl)<|.mo rfl<|.gt rfl<|.mo rfl<|.gt rfl<|.q (.xN rfl rfl)<|.q .cY<|.mo rfl<|.gt rfl<|.mo rfl<|.gt rfl<|.q (.aT rfl)<|.gt rfl<|.tG (yN hb [] 0 K W (by simp) 0 c _ (x.mono λb o hb=>.inr (by have b7:(b,o)∈Tc:=hb;simp[b7]))) (λu M a=>?_)
 rw[c1]at a
 rw[yP,T]at a
 obtain⟨rfl,b3,_⟩:=a
 obtain⟨e,c4,f,X⟩:=b3 rfl
 rw[List.nil_append]at X
 refine .gt rfl<|.q .dZ<|.q .cY<|.zn<|.cond rfl (λQ=>?_) λQ=>?_
 ·simp at Q
 refine .kn<|.sr<|.mo rfl<|.q .cR<|.q .cR<|.q .cR<|.q .cR ?_
 refine .dY (λe3=>?_)
 refine .tG (BN g ⟨[],0,0⟩ B Z fY.fH (sZ) (sZ) _ [] [] [⟨true,s9⟩] _ RS.jr RS.jr (RS.lits (enc:=cB.enc) (xs:=[⟨true,s9⟩]) rfl (by simp[cB.enc,aA.enc]) (by simp[cB.enc,aA.enc,aB])) (λt I=>(by cases I)) (λt I=>(by cases I)) (λd hd=>by rw[agU]at hd;subst hd;exact⟨by decide,by decide,by decide,by decide,by decide,by decide,by decide⟩)) (λu N a=>?_)
 obtain⟨rfl,a0⟩:=a
 rw[RH]at a0
 obtain⟨vl,hV⟩:=X.view (R:=λb o=>(b,o)∈M\/(b,o)∈N) λp v=>.inl v
 obtain⟨f0,vf,vr,Mf,Mr,a1⟩:=a0.view (R:=λb o=>(b,o)∈M\/(b,o)∈N) λp v=>.inr v
 have b6:kh [e] 1=some e:=by
  unfold kh
  have:hl [e] 1 1=some 0:=by
   simp only[hl,List.getElem?_cons_zero,c4]
   simp
  rw[show([e]:List ee).length=1 from rfl,this]
  rfl
 have c3:=hV.all e (by simp)
 have b0:e.ll.map (·.2)=rows e.c.plain.bg num:=by rw[c3.eq,f,c8]
 have a7:=λk c6 hN=>xC hV a1 (L:=nM.rows) ⟨.refl _,List.pairwise_singleton _ _⟩ (by decide) 1 e b6 num (by rw[f];exact s) b0 ⟨by omega,by simp⟩ (λe' O=>by
  rw[agU]at O
  subst O
  exact Mz b0 (by rw[f];exact c5)) k 9 (by omega) iB rfl c6 1 hN
 have a4:=a7 ib (λi y=>by
   rw[f]at y⊢
   have h2:=z9 a6 y
   have S:=c7 i h2
   rw[d1]at S
   simp only[ag8]at S
   omega) (by rw[f];exact a6)
 have a5:=a7 nh (λi y=>by
   rw[f]at y⊢
   rw[c9]
   simp) (by rw[f];exact c2)
 rw[f,show scan nM 1=true by decide, <-U]at a4
 rw[f,show scan nM 1=true by decide, <-V]at a5
 have a2:=MQ ⟨rfl⟩ ⟨rfl⟩ a4 lz (by decide) (by omega) (λ_ J e9=>d3 J (by rw[e9,H])) (λ_=>by rw[H];exact Y) b2
 rw[G]at a2
 have a9:=yV a1 (by decide) 1 (by decide) ⟨#[100]⟩
 rw[MX]at a9
 have d0:=zY (i1:=⟨rfl⟩) (i2:=⟨rfl⟩) a5 lz ⟨#[100]⟩ ⟨#[97]⟩ (by decide) [tf] (by simp) (λ_ _=>a9) (λ_=>(true,0)) (λ_ _ id a8=>by
  rw[agU]at a8
  subst a8
  exact a2)
 refine .z<|.mo rfl<|.mo rfl<|.dh (d0.weaken λb o hb=>.inr (by rcases hb with hb|hb<;>simp[hb])) (λu T6 a=>?_)
 obtain⟨vo,l,er,rfl,w,c0⟩:=a
 have e7:=w.aB
 have b9:eG lz=true:=by decide
 rcases c0 with⟨r,_⟩|⟨_,r,_⟩|⟨_,_,_,id,_,r,_⟩|⟨_,_,rfl,_,rfl⟩
 ·rw[b9]at r;cases r
 ·exact absurd d4 r
 ·exact absurd rfl r
 simp only[List.filter_cons_of_pos,List.filter_nil]at w
 refine .mo rfl<|.q .extract<|.q .extract<|.ag rfl<|.ag rfl<|.z<|.mo rfl<|.q .bY<|.mo rfl<|.split (t:=40) rfl (λn=>?_) (λn=>?_)
 refine .gT n<|.mo rfl<|.gT n<|.q (.ep w)<|.gT n<|.q .bY<|.q (.aU n)<|.mo rfl<|.split (t:=45) rfl (λm=>?_) (λm=>?_)
 refine .gT m<|.mo rfl<|.gT m ?_
 refine .aL 0 w (show [tf][0]? =some tf from rfl) (λe8=>?_)
 refine .gT m<|.lo rfl<|.gT m<|.q .eg<|.q (.aU m)<|.az rfl<|.ret (bj _ (.one (.tmp rfl)) (bz.none _) ?_)
 ·exact⟨rfl,rfl⟩
 ·simp at m
 ·simp at n
section
variable{R:ay}{cp:Cf}{c:bJ}{hb g x:Nat}{S:cX}{num:List Nat}{L:List bC}
theorem WS.told(h:WS R cp c hb g x S num L){rev:Int}{k:bc}{N:Nat}(w:eZ cp num (dd S L rev) k N){us:ByteArray}{K:Nat}{s:QS}(A:tj (opened cp num (dd S L rev) k N).1 (opened cp num (dd S L rev) k N).2 us K s)(t:s.1.getD 0 false=true):k.oi∈jn L rev k.os:=by
 refine Classical.byContradiction λC=>?_
 have f:∀r,dd S L rev ⟨k.os,k.oi,r⟩=[]:=λr=>by
  unfold dd
  split
  ·rw[List.map_eq_nil_iff,List.filter_eq_nil_iff]
   intro y a b
   rw[agW,agS]at b
   refine C (zw.2 ⟨y,a,b.1,?_,?_⟩)
   ·exact congrArg bc.os b.2
   ·exact congrArg bc.oi b.2
  ·rfl
 have b:oG cp num (dd S L rev) λj=>j.os=k.os/\j.oi=k.oi:=λj B n G y a=>by
  obtain⟨I,H,E⟩:=j
  obtain⟨rfl,rfl⟩:=B
  unfold ei gz fitting at a
  simp only at a
  split at a
  ·rw[f E]at a;cases a
  ·split at a
   ·rw[f]at a;cases a
   ·split at a
    ·rw[agU]at a
     subst a
     exact⟨rfl,rfl⟩
    ·cases a
 have z:=sx b (k:=k) ⟨rfl,rfl⟩ N
 have D:=A.run.named (λp q d=>by
  obtain⟨i,o,e⟩:=ag3.1 q
  have v:=(w.gr.op i p o (by rw[aV o,e])).2
  obtain⟨l,m⟩:=(z.u p q).1
  rw[v]at d
  split at d
  ·unfold ka fitting at d
   obtain⟨⟨J,M,F⟩,_,_,_,_,_⟩:=p
   simp only at l m
   subst l m
   rw[f F]at d
   cases d
  ·cases d) 0
 rw[D]at t
 cases t
end
theorem NC(w:lV)(R:ay)(h:w.is R)(k:bc)(us:ByteArray)(a0:us.size<=9223372036854775807):
  Spec prog 13 [.agg w.enc.toArray,.agg [.string k.os,.string k.oi].toArray,.string k.rel,.string us] R [] λv H'=>v=.bool true/\H'=[]:=by
 have b6:=NJ w R h
 have i1:One w.c.vs:=RS.aB h.c.ss
 have i2:One w.c.vc:=RS.aB h.c.sc
 have i3:=h.rs.aB
 have iw:cC w.enc:=⟨λu f=>by
  simp only[lV.enc,List.mem_cons,List.not_mem_nil,or_false]at f
  rcases f with rfl|rfl|rfl
  ·exact i1.h
  ·exact i2.h
  ·exact i3.h⟩
 refine Spec.body func13 rfl results13 ntmps13 rfl ?_
 refine .sr ?_
 refine .cx rfl (λb4=>?_)
 refine .cx rfl (λb5=>?_)
 refine .ag rfl<|.z<|.q (.aT rfl) ?_
 refine .dh (b6.weaken da) (λu Tw f=>?_)
 obtain⟨c,p1,p2,p3,ok,rfl,d1,d2,d3,U,c2,c7,hW⟩:=f
 have c8:One c.vs:=RS.aB U.ss
 have c9:One c.vc:=RS.aB U.sc
 have d0:cC c.enc:=⟨U.dg⟩
 refine .mo rfl<|.q .extract<|.q .extract<|.q .extract<|.q .extract<|.q .extract ?_
 refine .bU (λa9=>?_)
 refine .ag rfl<|.ag rfl<|.bP rfl rfl<|.ag rfl<|.ag rfl<|.zs<|.sr<|.mo rfl<|.q .not<|.mo rfl ?_
 refine .split (t:=30) rfl (λp=>?_) (λp=>?_)
 refine .gF p<|.gF p<|.gF p<|.q (.aU p) ?_
 refine .zn<|.gM<|.sr ?_
 refine .ba (uI _) (λu f=>?_)
 subst f
 refine .az rfl ?_
 refine .ret (aK (bj _ (.one (.tmp rfl)) (bz.none _) ?_))
 ·exact⟨rfl,rfl⟩
 refine .gT p<|.mo rfl<|.gT p ?_
 refine .ba (vB us a0 _) (λu f=>?_)
 subst f
 refine .gT p<|.q .not<|.q (.aR p) ?_
 refine .zn ?_
 refine .cond rfl (λh1=>?_) λh1=>?_
 refine .sr ?_
 refine .ba (uI _) (λu f=>?_)
 subst f
 refine .az rfl ?_
 refine .ret (aK (bj _ (.one (.tmp rfl)) (bz.none _) ?_))
 ·exact⟨rfl,rfl⟩
 have b8:ok=true:=by simpa using p
 subst b8
 have a4:eG us=true:=by simpa using h1
 obtain⟨e,g,x,S,num,L,rfl,rfl,rfl,j⟩:=hW rfl
 obtain⟨vL,a2⟩:=j.d
 have a8:=a2.pc
 have d4:One vL:=a2.rs.aB
 obtain⟨N,K,s,B⟩:=j.all S.head us
 have V:scan S S.head=true:=by
  unfold scan
  have:=j.sW.h1
  simp[this]
 have a1:=Ay j.m.right (by decide)
 have W:=j.fO S.head j.yQ nh 1048576 (by omega) (xM a1)
 have a3:=xB (num:=num) (sub:=dd S L S.head) a1 1048576 (scan S S.head)
 rw[V,agR (by omega),agR (by simp)]at a3
 obtain⟨d6,vf,vr,Mf,Mr,b0⟩:=j.s
 have c5:S.rows.length<=512:=j.len
 have c3:=Nx (L:=L) (rev:=S.head) (name:=k.os)
 have c6:=j.ll
 have a5:=yV b0 (by omega) S.head V k.os
 rw[<-Ny j.rl.pm]at a5
 have J:=λid=>Qy (R':=R) j S.head j.yQ ⟨k.os,id,k.rel⟩ us a0 1048576 (by omega) (B ⟨k.os,id,k.rel⟩).1 (B ⟨k.os,id,k.rel⟩).2.run (B ⟨k.os,id,k.rel⟩).2.n
 have hV:∀id,kJ us (fO (iH w.c.plain) num (dd S L S.head) ⟨k.os,id,k.rel⟩ 1048576 (scan S S.head) (N ⟨k.os,id,k.rel⟩)) 1048576 (K ⟨k.os,id,k.rel⟩) (s ⟨k.os,id,k.rel⟩).1=((s ⟨k.os,id,k.rel⟩).1.getD 0 false,0):=λid=>by
  have hX:=(B ⟨k.os,id,k.rel⟩).2
  have h6:=hX.hi
  have h7:=hX.nf
  have A:=j.mc S.head ⟨k.os,id,k.rel⟩ (N ⟨k.os,id,k.rel⟩) (B ⟨k.os,id,k.rel⟩).1.2
  have T:ez 1048576 (K ⟨k.os,id,k.rel⟩) (s ⟨k.os,id,k.rel⟩).1=((s ⟨k.os,id,k.rel⟩).1,K ⟨k.os,id,k.rel⟩,0):=by
   unfold ez
   rw[agR (by omega),agR (by omega)]
  rw[j.max (B ⟨k.os,id,k.rel⟩).1]
  unfold kJ
  rw[agR (by rw[a4];simp),agR (by simp),T,agR (by simp)]
 have Z:(s k).1.getD 0 false=true->k.oi∈jn L S.head k.os:=λM=>j.told (B k).1 (B k).2 M
 simp only[hV]at J
 clear hV B
 obtain⟨r,a7⟩:∃r:ByteArray->Bool,∀id,r id=(s ⟨k.os,id,k.rel⟩).1.getD 0 false:=⟨_,λid=>rfl⟩
 have Z:r k.oi=true->k.oi∈jn L S.head k.os:=λM=>Z (by rw[a7]at M;exact M)
 simp only[<-a7]at J
 have hk:bc.mk k.os k.oi k.rel=k:=rfl
 have b2:=J k.oi
 generalize hD:fO (iH w.c.plain) num (dd S L S.head) nh 1048576 true 1=D at *
 rw[V]at W
 rw[hD]at W
 generalize c1:jn L S.head k.os=ids at *
 have b7:=zY (i1:=⟨rfl⟩) (i2:=⟨rfl⟩) W us k.os k.rel a0 ids (by omega) (λ_ _=>a5) (λid=>(r id,0)) (λ_ _ id _=>J id)
 have b9:decide (k.oi∈ids.filter r)=r k.oi:=by
  rw[Bool.eq_iff_iff,agS,ag0]
  exact⟨λh=>h.2,λh=>⟨Z h,h⟩⟩
 refine .kn<|.seq ?_
 refine bx.cZ [(2,_),(3,_),(5,_),(9,_),(10,_),(12,_)] kE.c.c.c.c.c.c (X:=Value×ax) (λy=>OS 9 1 cG y.1 (ids.filter r) y.2) (λy E=>(14,y.1)::(15,.int .i64 0)::E) (λy=>[y.2,bl a9 c.enc 25,Tw,bl b5 [.string k.os,.string k.oi] 44,bl b4 w.enc 28]) ?_ ?_
 refine .cS [] mixed ?_
 refine .tO 0 rfl .move<|.tO 1 rfl .move<|.tO 2 rfl .move ?_
 refine .tO 3 rfl (.lG rfl) ?_
 refine .tO 4 rfl (.fG rfl) ?_
 refine .fM 5 rfl (.cm (rc:=⟨(a8.add 1).mono λb o e=>e.elim .inl λe=>.inr (by simp[e])⟩) rfl) (by kernel_rfl) ?_
 refine .tO 6 rfl (.fieldAddr rfl)<|.tO 7 rfl (.cm rfl)<|.tO 8 rfl .move<|.tO 9 rfl .move ?_
 refine .sT 10 rfl ?_
 refine .dh (b7.weaken λb o e=>e.elim .inl λe=>.inr (by simp[e])) (λu O f=>?_)
 obtain⟨vo,l,er,rfl,C,b1⟩:=f
 have c0:=C.aB
 obtain⟨rfl,rfl⟩:er=0/\l=ids.filter r:=by
  rcases b1 with⟨A,_⟩|⟨_,A,_⟩|⟨_,_,_,id,_,A,_⟩|⟨_,_,T,_,A⟩
  ·rw[a4]at A;cases A
  ·exact absurd a3 A
  ·exact absurd rfl A
  ·exact⟨T,A⟩
 refine .nil (Next.sub ?_)
 refine .tO 11 rfl .move<|.tO 12 rfl .extract<|.tO 13 rfl .extract<|.tO 14 rfl .assign<|.tO 15 rfl .assign ?_
 refine RA.nil (by kernel_rfl) ?_
 ·exact aG (vo,O) C kE.c.c.c.c.c.c.c.c rH
 intro y hy
 obtain⟨vo,O⟩:=y
 have C:OS 9 1 cG vo (ids.filter r) O:=hy
 have c0:=C.aB
 have c4:=C.sg.le
 generalize ids.filter r=l at *
 simp only
 refine aw<|.seq<|.cS [] mixed ?_
 refine .tO 0 rfl .move<|.tO 1 rfl .move<|.tO 2 rfl .move ?_
 refine .tO 3 rfl (.lG rfl) ?_
 refine .tO 4 rfl (.fG rfl) ?_
 refine .fM 5 rfl (.cm (rc:=⟨(a8.add 1).mono λb o e=>e.elim .inl λe=>.inr (by simp[e])⟩) rfl) (by kernel_rfl) ?_
 refine .tO 6 rfl (.aT rfl)<|.tO 7 rfl .move<|.tO 8 rfl .move ?_
 refine .sT 9 rfl ?_
 refine .ba (b2.weaken λb o e=>e.elim .inl λe=>.inr (by simp[e])) (λu f=>?_)
 subst f
 refine .nil (Next.sub ?_)
 refine .tO 10 rfl .move<|.tO 11 rfl .extract<|.tO 12 rfl .extract<|.tO 13 rfl .assign<|.tO 14 rfl .assign ?_
 refine RA.nil (by kernel_rfl) ?_
 refine aw<|.sr<|.ag rfl<|.zs<|.sr<|.az rfl<|.block ?_
 refine .cF [(5,_),(14,_),(15,_),(16,_),(17,_)] (X:=Nat) (λi=>i<=l.length) (λi E=>(19,iN i)::(18,.bool (decide (k.oi∈l.take i)))::E) (λ_ G=>G) (λi=>l.length-i) 0 (Nat.zero_le _) kE.c.c.c.c.c.c.c rH ?_
 rintro i hi
 refine .seq<|.sr<|.mo rfl<|.mo rfl<|.q (.ep C) ?_
 refine .q .lss<|.zn ?_
 refine .cond rfl (λQ=>?_) λQ=>?_
 have Y:i<l.length:=cy Q
 obtain⟨z,hz⟩:=bW Y
 have a6:=Rk (us:=k.oi) hz
 refine .kn<|.seq<|.block ?_
 refine .gd mixed (by kernel_rfl) ?_
 refine .mo rfl<|.mo rfl ?_
 refine .split (t:=70) rfl (λa=>?_) (λa=>?_)
 refine .gF a<|.gF a<|.gF a<|.gF a<|.gF a<|.gF a<|.gF a<|.q (.aU a) ?_
 refine .ag rfl<|.nil<|aX<|aw<|.region<|.mo rfl ?_
 refine .ia (i+1) .add ?_
 refine .ag rfl<|.nil ?_
 ·exact bm (i+1) Y (by omega) (by rw[a6];simp only[a,Bool.true_or];exact kE.c.c.c.c.c.c.c) rH
 refine .gT a<|.mo rfl<|.gT a<|.mo rfl<|.gT a ?_
 refine .aL i C hz (λd5=>?_)
 refine .gT a<|.lo rfl<|.gT a<|.fa rfl<|.gT a<|.lo rfl<|.gT a<|.q .eg<|.q (.aR a) ?_
 refine .ag rfl<|.nil<|aX<|aw<|.region<|.mo rfl ?_
 refine .ia (i+1) .add ?_
 refine .ag rfl<|.nil ?_
 ·exact bm (i+1) Y (by omega) (by rw[a6];simp only[a,Bool.true_or];exact kE.c.c.c.c.c.c.c) rH
 have b3:i=l.length:=by have:=bF Q;omega
 subst b3
 rw[ag9,b9]
 refine .exit<|bo<|bs<|bp<|aw<|.sr<|.mo rfl<|.q .bY<|.mo rfl ?_
 refine .split (t:=81) rfl (λH=>?_) (λH=>?_)
 refine .gT H<|.mo rfl<|.gT H<|.q .bY<|.q (.aU H) ?_
 refine .mo rfl ?_
 refine .split (t:=85) rfl (λF=>?_) (λF=>?_)
 refine .gT F<|.mo rfl<|.gT F<|.mo rfl<|.gT F<|.q .C9<|.q (.aU F) ?_
 refine .mo rfl ?_
 refine .split (t:=90) rfl (λI=>?_) (λI=>?_)
 refine .gT I ?_
 refine .ba (uI _) (λu f=>?_)
 subst f
 refine .q (.aU I) ?_
 refine .az rfl ?_
 refine .ret (bj _ (.one (.tmp rfl)) (bz.none _) ?_)
 ·exact⟨rfl,rfl⟩
 ·simp at I
 ·simp at F
 ·simp at H
end Go.Proofs.YtdljmchhecoakaaGreat

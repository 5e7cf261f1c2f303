/- What the law 'MemoChecks' uses. No condition. -/
import Derived.Carry
import Derived.ChangeShapes
import Derived.Test.YtdljmchhecoakaaGreatKMemoChecksF
import Derived.Test.YtdljmchhecoakaaGreatKMemoChecksI
import Derived.Test.YtdljmchhecoakaaGreatKMemoChecksO
import Derived.Test.YtdljmchhecoakaaGreatKMemoChecksP
import Derived.Test.YtdljmchhecoakaaGreatKMemoChecksQ
namespace Go.Proofs.YtdljmchhecoakaaGreat
set_option linter.defProp false
def agG:=@if_neg
def agH:=@if_pos
def agI:=@List.length_map
def agJ:=@List.mem_append
def agK:=@List.mem_singleton
def agL:=@Nat.le_trans
def agM:=@List.getElem?_map
def agN:=@List.mem_iff_getElem
def agO:=@List.length_filter_le
def agP:=@List.getElem?_append_left
def agQ:=@List.length_append
def agR:=@List.length_singleton
def agS:=@List.not_mem_nil
def agT:=@Bool.and_eq_true
def agU:=@decide_eq_true_eq
set_option linter.unusedVariables false
set_option linter.unusedSimpArgs false
set_option maxRecDepth 8000
theorem L5{e:cZ}{num:List Nat}(f:e.ll.map (·.2)=rows e.c.plain.aV num)(d:e.c.plain.aV.length<=1000/\∀y∈e.c.plain.aV,y.bS.length<=1000):e.ll.length<=1000000/\∀q∈e.ll,q.2.length<=1000000:=by
 have l:e.ll.length=e.c.plain.aV.length:=by rw[<-mR e.c.plain.aV num, <-f,agI]
 refine⟨by have:=d.1;omega,λq j=>?_⟩
 have k:q.2∈rows e.c.plain.aV num:=by rw[<-f];exact List.mem_map.2 ⟨q,j,rfl⟩
 obtain⟨i,a,g⟩:=agN.1 k
 rw[mR]at a
 have b:=pH (n:=num) (bk a)
 rw[bk (by rw[mR];exact a),g]at b
 have h:=Option.some.inj b
 rw[h,List.length_take]
 have:=d.2 _ (List.getElem_mem a)
 omega
open Tryz
theorem Mp{n r:Value}{rev:Int}{k:aW}{b:Int}{R:aA}{D:List bQ×Nat×Int}(i1:One n)(i2:One r)(G:Spec prog 34 [n,r,.int .u64 rev,.agg [.string k.os,.string k.oi].toArray,.string k.rel,.int .i64 b] R [] (pY R D))(us:ByteArray)(L:us.size<=9223372036854775807)(E:b<=9223372036854775807)
  (J:D.2.2=0->∀ps:List aY,ps.map aY.plain=D.1->nQ ps us/\0<ps.length){K:Nat}{s:QS}(d:D.2.2=0->ep D.1 us K s)(I:jo s.2):
  Spec prog 26 [n,r,.int .u64 rev,.agg [.string k.os,.string k.oi].toArray,.string k.rel,.string us,.int .i64 b] R [] λu H'=>u=.tuple [.bool (oR us D b K s.1).1,.int .i64 (oR us D b K s.1).2].toArray/\H'=[]:=by
 have a:oR us D b K s.1=if iG us=false then(false,9)else if D.2.2≠0 then(false,D.2.2)
  else if(fZ b K s.1).2.2≠0 then(false,(fZ b K s.1).2.2)else((fZ b K s.1).1.getD 0 false,0):=rfl
 generalize oR us D b K s.1=out at *
 refine Spec.body func26 rfl results26 ntmps26 rfl<|.sr ?_
 refine .cg rfl (λQ=>?_)
 refine .ag rfl<|.ag rfl<|.zs<|.sr<|.mo rfl<|.aQ ((uv us L R).weaken dt) (λu e=>?_)
 subst e
 refine .q .not<|.zn<|.cond rfl (λg=>?_) λg=>?_
 have j:iG us=false:=by simpa using g
 rw[agH j]at a
 subst a
 refine .sr<|.ag rfl<|.az rfl<|.ret (aJ (br _ (.two (.tmp rfl) (.tmp rfl)) (.none _) ?_))
 ·exact⟨rfl,rfl⟩
 have j:¬iG us=false:=by simpa using g
 rw[agG j]at a
 refine .kn<|.sr<|.mo rfl<|.mo rfl<|.mo rfl<|.q (.aL rfl)<|.mo rfl<|.mo rfl<|.dx ((CI G).weaken dt) (λu N e=>?_)
 obtain⟨M,ps,rfl,x,C,w⟩:=e
 have W:=x.ay
 refine .mo rfl<|.q .extract<|.q .extract ?_
 refine .cq (λS=>?_)
 refine .bZ rfl rfl<|.ag rfl<|.zs<|.sr<|.mo rfl<|.q .de<|.zn<|.cond rfl (λh=>?_) λh=>?_
 have l:D.2.2≠0:=by simpa using h
 rw[agH l]at a
 subst a
 refine .sr<|.mo rfl<|.ag rfl<|.az rfl<|.ret (aJ (br _ (.two (.tmp rfl) (.tmp rfl)) (.none _) ?_))
 ·exact⟨rfl,rfl⟩
 have m:D.2.2=0:=by simpa using h
 rw[agG (by rw[m];simp)]at a
 obtain⟨z,T⟩:=J m ps w
 have d:=d m
 rw[<-w]at d
 have y:=λB=>Ql z.ok d (b:=b) B
 rw[agI]at y
 refine .kn<|.sr<|.q (.aL rfl)<|.mo rfl<|.mo rfl<|.dx (Rf M _ us ps _ (x.mono λb o c=>c.elim .inl λc=>.inr (by simp[c])) (λp H=>(C p H).mono λb o c=>c.elim .inl λc=>.inr (by simp[c])) z b E K s d I) (λu O e=>?_)
 obtain⟨Y,rfl,t⟩:=e
 have V:=t.ay
 refine .mo rfl<|.q .extract<|.q .extract<|.q .extract<|.ag rfl<|.ag rfl<|.ag rfl<|.zs<|.sr<|.mo rfl<|.q .de<|.zn<|.cond rfl (λi=>?_) λi=>?_
 have l:(fZ b K s.1).2.2≠0:=by simpa using i
 rw[agH l]at a
 subst a
 refine .sr<|.mo rfl<|.ag rfl<|.az rfl<|.ret (aJ (br _ (.two (.tmp rfl) (.tmp rfl)) (.none _) ?_))
 ·exact⟨rfl,rfl⟩
 have A:(fZ b K s.1).2.2=0:=by simpa using i
 rw[agG (by rw[A];simp)]at a
 obtain⟨_,U⟩:=y A
 obtain⟨f,v⟩:∃f,(fZ b K s.1).1[0]? =some f:=⟨_,bk (by omega)⟩
 have F:(fZ b K s.1).1.getD 0 false=f:=by rw[List.getD_eq_getElem?_getD,v];rfl
 rw[F]at a
 subst a
 refine .kn<|.sr<|.mo rfl ?_
 refine .bh 0 t v (λX=>?_)
 refine .lo rfl<|.ag rfl<|.az rfl<|.ret (br _ (.two (.tmp rfl) (.tmp rfl)) (.none _) ?_)
 ·exact⟨rfl,rfl⟩
section
variable{R:aA}{cp:Cf}{c:bO}{hb g x:Nat}{S:cE}{num:List Nat}{L:List bf}
theorem WS.scan(h:WS R cp c hb g x S num L):Go.Proofs.YtdljmchhecoakaaGreat.scan S S.head=true:=by
 unfold Go.Proofs.YtdljmchhecoakaaGreat.scan
 simp[h.nH.h1]
theorem WS.full(h:WS R cp c hb g x S num L){k:aW}{N:Nat}(a:fK cp num (dm S L S.head) k N)(b:Int):Go.Proofs.YtdljmchhecoakaaGreat.jV cp num (dm S L S.head) k b (Go.Proofs.YtdljmchhecoakaaGreat.scan S S.head) N=if b<1 then([],0,2)else if(((opened cp num (dm S L S.head) k N).1.length+(opened cp num (dm S L S.head) k N).2:Nat):Int)<=b then((opened cp num (dm S L S.head) k N).1,(opened cp num (dm S L S.head) k N).2,0)else([],0,16):=by
 unfold Go.Proofs.YtdljmchhecoakaaGreat.jV
 rw[h.scan]
 rfl
theorem WS.max(h:WS R cp c hb g x S num L){k:aW}{N:Nat}(a:fK cp num (dm S L S.head) k N):Go.Proofs.YtdljmchhecoakaaGreat.jV cp num (dm S L S.head) k 1048576 (Go.Proofs.YtdljmchhecoakaaGreat.scan S S.head) N=((opened cp num (dm S L S.head) k N).1,(opened cp num (dm S L S.head) k N).2,0):=by
 have:=h.qC S.head k N a.2
 rw[h.full a,agG (by omega),agH (by omega)]
end
structure NF(nf:Cf->List Nat):Prop where
 ok:∀c:Cf,(c.numbers isWord dd).1=0->(c.numbers isWord dd).2=rows c.aV (nf c)/\kk isWord dd c (nf c)
theorem NF.ex:∃nf,NF nf:=by
 have h:∀c:Cf,∃a:List Nat,(c.numbers isWord dd).1=0->(c.numbers isWord dd).2=rows c.aV a/\kk isWord dd c a:=λc=>by
  by_cases b:(c.numbers isWord dd).1=0
  ·obtain⟨a,d,e⟩:=N4 b
   exact⟨a,λ_=>⟨d,e⟩⟩
  ·exact⟨[],λh=>absurd h b⟩
 exact⟨λc=>(h c).choose,⟨λc=>(h c).choose_spec⟩⟩
def ri(c:Cf):Prop:=c.aV.length<=5/\∀y∈c.aV,y.bS.length<=6
structure WP(es:List cZ)(S:cE)(L:List bf):Prop where
 rl:RL S L
 nH:eH S
 len:S.rows.length<=1000
 e0:∃e,es[0]? =some e/\e.rev=0
 mv:∀e∈es,ri e.c.plain
 en:∀e∈es,(e.c.plain.numbers isWord dd).1=0/\e.ll.map (·.2)=(e.c.plain.numbers isWord dd).2
 n:es.length<=16
theorem WP.ll{a:List cZ}{S:cE}{L:List bf}(h:WP a S L):L.length<=1000:=by rw[h.rl.pm.length_eq];exact h.len
theorem yN{a:List cZ}{r:Int}(b:∃e,a[0]? =some e/\e.rev=0)(f:0<=r):∀n,∃i,hl a r (n+1)=some i
 |0=>by
  obtain⟨e,d,g⟩:=b
  refine⟨0,?_⟩
  simp only[hl,d]
  rw[agH (by omega)]
 |n+1=>by
  obtain⟨i,c⟩:=yN b f n
  rw[hl]
  split
  ·split
   ·exact⟨_,rfl⟩
   ·exact⟨i,c⟩
  ·exact⟨i,c⟩
theorem WP.at_{a:List cZ}{S:cE}{L:List bf}(h:WP a S L){r:Int}(j:0<=r):∃en,hZ a r=some en/\en∈a:=by
 obtain⟨e,b,k⟩:=h.e0
 have g:a.length≠0:=λe=>by rw[List.length_eq_zero_iff.1 e]at b;cases b
 obtain⟨m,f⟩:=Nat.exists_eq_succ_of_ne_zero g
 obtain⟨i,d⟩:=yN h.e0 j m
 obtain⟨_,en,c⟩:=oY d
 refine⟨en,?_,aR c⟩
 unfold hZ
 rw[f,d]
 exact c
def lB(nf:Cf->List Nat)(es:List cZ)(S:cE)(L:List bf)(rev:Int)(k:aW)(us:ByteArray)(val:Bool)(tot:Nat):Prop:=
 ∃en N K s,hZ es rev=some en/\fK en.c.plain (nf en.c.plain) (dm S L rev) k N/\ep (opened en.c.plain (nf en.c.plain) (dm S L rev) k N).1 us K s/\jo s.2/\s.1.getD 0 false=val/\tot=(opened en.c.plain (nf en.c.plain) (dm S L rev) k N).1.length+(opened en.c.plain (nf en.c.plain) (dm S L rev) k N).2
theorem lB.dN{c:Cf->List Nat}{a:List cZ}{S:cE}{L:List bf}{rev:Int}{k:aW}{us:ByteArray}{v v':Bool}{t d:Nat}(h:lB c a S L rev k us v t)(l:lB c a S L rev k us v' d):v=v'/\t=d:=by
 obtain⟨x,N,K,s,m,n,o,p,q,r⟩:=h
 obtain⟨y,w,u,z,b,e,f,g,i,j⟩:=l
 rw[m]at b
 obtain rfl:=Option.some.inj b
 obtain rfl:=n.dN e
 obtain⟨rfl,rfl⟩:=o.last p f g
 exact⟨q.symm.trans i,r.trans j.symm⟩
theorem lB.same{d:Cf->List Nat}{b c:List cZ}{S S':cE}{L a:List bf}{rev:Int}{k:aW}{us:ByteArray}{v:Bool}{t:Nat}(h:lB d b S L rev k us v t)(i:hZ c rev=hZ b rev)(j:dm S' a rev=dm S L rev):lB d c S' a rev k us v t:=by
 obtain⟨e,N,K,s,f,g⟩:=h
 exact⟨e,N,K,s,by rw[i];exact f,by rw[j];exact g⟩
theorem uF{cp:Cf}{num:List Nat}(a:kk isWord dd cp num)(g:ri cp){S:cE}{L:List bf}(f:L.length<=1000)(rev:Int)(k:aW)(i:Nat)(b:∀j,j<i->j<(opened cp num (dm S L rev) k j).1.length):(opened cp num (dm S L rev) k i).1.length+(opened cp num (dm S L rev) k i).2<=1048576:=by
 obtain⟨M,c,_,d⟩:=A7 S L rev
 rw[<-d]at b⊢
 obtain⟨E,e,_⟩:=a.ex
 exact Bh e a.right a.dN g.2 (agL c f) k i b
theorem CR{cp:Cf}{num:List Nat}{S:cE}{L:List bf}(rev:Int)(k:aW):∃N,fK cp num (dm S L rev) k N:=by
 have c:∀k,∀s∈dm S L rev k,s∈L.map (·.t.sub):=λk s b=>by
  obtain⟨r,a,rfl⟩:=A6 b
  exact List.mem_map.2 ⟨r,a,rfl⟩
 exact fK.ex λi=>zR (Ah c) AF i
theorem BS(cp:Cf){S:cE}{L:List bf}(b:L.length<=1000)(rev:Int)(k:aW)(n:Nd):(eC cp (dm S L rev) k n).length<=1000:=by
 have a:∀k,(gD cp (dm S L rev) k).length<=1000:=λk=>by
  refine agL (agO _ _) ?_
  unfold fitting
  refine agL (agO _ _) ?_
  unfold dm
  split
  ·rw[agI]
   exact agL (agO _ _) b
  ·simp
 unfold eC
 split
 ·rw[agI];exact a _
 ·split
  ·rw[agI];exact a _
  ·split<;>simp
theorem Qm{cp:Cf}{num:List Nat}(c:kk isWord dd cp num)(D:ri cp){S:cE}{L:List bf}(h:L.length<=1000){rev:Int}{k:aW}{N:Nat}(b:fK cp num (dm S L rev) k N){ps:List aY}(e:ps.map aY.plain=(opened cp num (dm S L rev) k N).1)(us:ByteArray):nQ ps us:=by
 have f:=b.gr
 have z:∀p∈ps,p.plain∈(opened cp num (dm S L rev) k N).1:=λp a=>by rw[<-e];exact List.mem_map.2 ⟨p,a,rfl⟩
 have l:∀p∈ps,p.nodes=(one cp num p.k).nodes:=λp a=>(f.one p.plain (z p a)).2.1
 have G:=uF c D h rev k N b.2
 have w:=b.xH
 have F:(opened cp num (dm S L rev) k N).1.length=ps.length:=by rw[<-e,agI]
 refine⟨by rw[e];exact c.ps b us,λp a=>by rw[l p a];exact N7 c.right,λp a=>by rw[l p a];exact agL (zL c.right) (by decide),λp a q C=>?_,by omega,by rw[e,w];omega⟩
 obtain⟨i,x,o⟩:=agN.1 a
 have B:(opened cp num (dm S L rev) k N).1[i]? =some p.plain:=by rw[<-e,agM,bk x,o];rfl
 obtain⟨⟨r,t⟩,E⟩:=f.op i p.plain (by omega) B
 have s:p.ll.length=p.nodes.length:=by have:(p.ll.map (·.2)).length=p.nodes.length:=r;rwa [agI]at this
 obtain⟨j,g,m⟩:=agN.1 C
 have y:j<p.nodes.length:=by rw[<-s];exact g
 obtain⟨n,A⟩:∃n,p.nodes[j]? =some n:=⟨_,bk y⟩
 have d:=t j n A
 have u:(p.plain.leads.getD j [])=q.2:=by
  show((p.ll.map (·.2)).getD j [])=q.2
  rw[List.getD_eq_getElem?_getD,agM,bk g,m];rfl
 rw[u]at d
 have v:=congrArg List.length d
 rw[agI,agI]at v
 have:=BS cp h (S:=S) rev p.plain.k n
 omega
def kA(us:ByteArray)(b:Int)(can val:Bool)(tot:Nat):Bool×Int:=
 if iG us=false then(false,9)else if b<1 then(false,2)else if can=false then(false,12)else if((tot:Nat):Int)<=b then(val,0)else(false,16)
section
variable{R:aA}{hb g:Nat}{es:List cZ}{S:cE}{L:List bf}{nf:Cf->List Nat}
theorem WP.Q4(h:WP es S L)(i:NF nf){rev:Int}(j:0<=rev)(k:aW)(us:ByteArray):∃val tot,tot<=1048576/\lB nf es S L rev k us val tot:=by
 obtain⟨a,f,d⟩:=h.at_ j
 obtain⟨_,e⟩:=i.ok _ (h.en a d).1
 obtain⟨N,b⟩:=CR (cp:=a.c.plain) (num:=nf a.c.plain) (S:=S) (L:=L) rev k
 obtain⟨K,s,g,l⟩:=ep.ends (e.ps b us)
 exact⟨_,_,uF e (h.mv a d) h.ll rev k N b.2,a,N,K,s,f,b,g,l,rfl,rfl⟩
theorem Nl{vl:Value}{a1:List RB}{vf vr:Value}{E:List (aW×(Value×av))}{F:List (Sub×(Value×av))}(J:HV R hb vl es 0)(H:SV R g S a1 vf vr E F)(h:WP es S L)(B:NF nf){rev:Int}(X:0<=rev){k:aW}{us:ByteArray}{val:Bool}{tot:Nat}(I:lB nf es S L rev k us val tot)(Y:us.size<=9223372036854775807)(b:Int)(z:b<=9223372036854775807):
  Spec prog 26 [pT hb,pT g,.int .u64 rev,.agg [.string k.os,.string k.oi].toArray,.string k.rel,.string us,.int .i64 b] R [] λu H'=>u=.tuple [.bool (kA us b (scan S rev) val tot).1,.int .i64 (kA us b (scan S rev) val tot).2].toArray/\H'=[]:=by
 obtain⟨a,N,K,s,w,j,x,C,rfl,rfl⟩:=I
 obtain⟨a2,v,m⟩:=h.at_ X
 rw[w]at v
 obtain rfl:=Option.some.inj v
 obtain⟨V,l⟩:=B.ok _ (h.en a m).1
 have T:=uF l (h.mv a m) h.ll (S:=S) rev k
 have U:=λe p=>L5 (e:=e) (num:=nf e.c.plain) (by rw[(h.en e p).2,(B.ok _ (h.en e p).1).1]) (by have:=h.mv e p;exact⟨by have:=this.1;omega,λy Z=>by have:=this.2 y Z;omega⟩)
 have O:=xA J H h.rl h.len rev a w (nf a.c.plain) l (by rw[(h.en a m).2,V]) ⟨by omega,by have:=h.n;omega⟩ U k b z (dm S L rev) rfl (λi Q=>T i Q) N j
 have W:=l.ps j us
 obtain⟨e1,e2,e3,e4,e5⟩:=x.end_ W C
 have a3:=j.xH
 have a5:=Oe a.c.plain (nf a.c.plain) (dm S L rev) k N
 have a4:jm (opened a.c.plain (nf a.c.plain) (dm S L rev) k N).1<=(opened a.c.plain (nf a.c.plain) (dm S L rev) k N).1.length:=by
  unfold jm dQ
  refine agL List.countP_le_length ?_
  simp
 have A:=Mp (i1:=⟨rfl⟩) (i2:=⟨rfl⟩) O us Y z (K:=K) (s:=s) (λq ps e=>by
  have a0:=(xz q).1
  rw[a0]at e
  exact⟨Qm l (h.mv a m) h.ll j e us,by have:=congrArg List.length e;rw[agI]at this;omega⟩) (λq=>by rw[(xz q).1];exact x) C
 have M:oR us (jV a.c.plain (nf a.c.plain) (dm S L rev) k b (scan S rev) N) b K s.1=kA us b (scan S rev) (s.1.getD 0 false) ((opened a.c.plain (nf a.c.plain) (dm S L rev) k N).1.length+(opened a.c.plain (nf a.c.plain) (dm S L rev) k N).2):=by
  unfold oR kA
  by_cases f:iG us=false
  ·rw[agH f,agH f]
  rw[agG f,agG f]
  have d:jV a.c.plain (nf a.c.plain) (dm S L rev) k b (scan S rev) N=if b<1 then([],0,2)else if scan S rev=false then([],0,12)
   else if(((opened a.c.plain (nf a.c.plain) (dm S L rev) k N).1.length+(opened a.c.plain (nf a.c.plain) (dm S L rev) k N).2:Nat):Int)<=b then((opened a.c.plain (nf a.c.plain) (dm S L rev) k N).1,(opened a.c.plain (nf a.c.plain) (dm S L rev) k N).2,0)else([],0,16):=rfl
  generalize jV a.c.plain (nf a.c.plain) (dm S L rev) k b (scan S rev) N=D at *
  by_cases o:b<1
  ·rw[agH o]at d⊢;subst d;rw[agH (by simp)]
  rw[agG o]at d⊢
  by_cases r:scan S rev=false
  ·rw[agH r]at d⊢;subst d;rw[agH (by simp)]
  rw[agG r]at d⊢
  by_cases t:(((opened a.c.plain (nf a.c.plain) (dm S L rev) k N).1.length+(opened a.c.plain (nf a.c.plain) (dm S L rev) k N).2:Nat):Int)<=b
  ·rw[agH t]at d⊢
   subst d
   have G:fZ b K s.1=(s.1,K,0):=by
    unfold fZ
    rw[agG o,agG (by omega)]
   rw[agG (by simp),G,agG (by simp)]
  ·rw[agG t]at d⊢;subst d;rw[agH (by simp)]
 rw[M]at A
 exact A
theorem A8(a:RL S L)(rev:Int):dm S L rev=λk=>if scan S rev then((((L.filter λy=>y.there rev).map (·.t)).filter λt=>decide (t.di=k)).map (·.sub))else []:=by
 funext k
 unfold dm
 split
 ·rw[List.filter_map,List.map_map,List.filter_filter]
  congr 1
  exact List.filter_congr λy _=>by simp[Function.comp,Bool.and_comm]
 ·rfl
theorem A2(S:cE)(r:Int):mT S (⟨⟨#[]⟩,⟨#[]⟩,⟨#[]⟩,⟨#[]⟩,⟨#[]⟩,⟨#[]⟩,⟨#[]⟩⟩:aw) r=(S.rows.filter λx=>x.there r).map (·.t):=by
 unfold mT
 congr 1
 exact List.filter_congr λx _=>by
  have:gl (⟨⟨#[]⟩,⟨#[]⟩,⟨#[]⟩,⟨#[]⟩,⟨#[]⟩,⟨#[]⟩,⟨#[]⟩⟩:aw) x.t=true:=by simp[gl]
  rw[this,Bool.and_true]
theorem QD{S:cE}{L a:List bf}(g:eH S)(d:RL S L)(bj no:List aw)(cs:List cz)(b:RL (fy S bj no cs) a){rev:Int}(e:rev<=S.head):dm (fy S bj no cs) a rev=dm S L rev:=by
 have f:(a.filter λy=>y.there rev).map (·.t)=(L.filter λy=>y.there rev).map (·.t):=by
  refine d.at_ ?_ (b.ordered _)
  have c:=(b.pm.filter λy=>y.there rev).map (·.t)
  rw[<-A2,Qz g bj no cs _ e,A2]at c
  exact c
 have h:scan (fy S bj no cs) rev=scan S rev:=by
  unfold fy
  split
  ·unfold scan
   simp only
   have:decide (rev<=S.head+1)=decide (rev<=S.head):=by rw[decide_eq_true e,decide_eq_true (by omega:rev<=S.head+1)]
   rw[this]
  ·rfl
 rw[A8 b,A8 d,h,f]
theorem yM{a:List cZ}{e:cZ}{r:Int}(h:¬e.rev<=r):∀n,n<=a.length->hl (a++[e]) r n=hl a r n
 |0,_=>rfl
 |n+1,hn=>by
  rw[hl,hl,yM h n (by omega),agP (by omega)]
theorem Mz{a:List cZ}{e:cZ}{r:Int}(h:r<e.rev):hl (a++[e]) r (a++[e]).length=hl a r a.length:=by
 rw[agQ,agR,hl,List.getElem?_append_right (Nat.le_refl _)]
 simp only[Nat.sub_self,List.getElem?_cons_zero]
 rw[agG (by omega)]
 exact yM (by omega) _ (Nat.le_refl _)
theorem B0{a:List cZ}{e:cZ}{r:Int}(h:r<e.rev):hZ (a++[e]) r=hZ a r:=by
 unfold hZ
 rw[Mz h]
 cases hh:hl a r a.length with
 |none=>rfl
 |some i=>
  have:=(oY hh).1
  simp only[Option.bind_some]
  rw[agP this]
end
theorem kW(b:Nat)(m:Mem.PM)(T:av)(c:Mem.PM.is b m T)(R:aA)(d:∀p∈T,R p.1 p.2):
  Spec prog 30 [pT b] R [] λv H'=>v=.int .i64 m.dh/\H'=[]:=by
 obtain⟨l,k,g,f,rfl,a,h⟩:=c
 have j:=PC.of (b:=b) (d (b,_) (List.mem_cons_self ..))
 have i:=a.one
 refine Spec.body func30 rfl results30 ntmps30 rfl ?_
 refine .sr<|.ag rfl<|.zs<|.sr<|.mo rfl ?_
 refine .aQ (Mem.qJ b true _ _ _) (λv e=>?_)
 subst e
 refine .q .not<|.zn<|.dA<|.kn<|.sr<|.mo rfl<|.nc rfl<|.fa rfl<|.lo rfl<|.az rfl ?_
 refine .ret (aP rfl ?_)
 ·exact⟨rfl,rfl⟩
def mh(M:Mem.PM)(q:Mem.bJ)(b:Int)(can:Bool):Bool:=(cG q M.kept).isSome&&decide (1<=b)&&can
def mj(M:Mem.PM)(q:Mem.bJ)(b:Int)(can:Bool)(out:Bool×Int):(Bool×Int)×Mem.PM:=
 if mh M q b can=true then(((cG q M.kept).getD false,0),⟨M.size,M.kept,M.dK,M.dh+1⟩)
 else(out,if out.2=0 then M.put q out.1 else M)
section
variable{R:aA}{hb g:Nat}{es:List cZ}{S:cE}{L:List bf}{nf:Cf->List Nat}
theorem Nn{vl:Value}{a3:List RB}{vf vr:Value}{Q:List (aW×(Value×av))}{U:List (Sub×(Value×av))}(O:HV R hb vl es 0)(X:SV R g S a3 vf vr Q U)(h:WP es S L)(rev:Int)(k:aW)(us:ByteArray)(b:Int)(out:Bool×Int)
  (x:Spec prog 26 [pT hb,pT g,.int .u64 rev,.agg [.string k.os,.string k.oi].toArray,.string k.rel,.string us,.int .i64 b] R [] λu H'=>u=.tuple [.bool out.1,.int .i64 out.2].toArray/\H'=[])
  (m:Nat)(M:Mem.PM)(T:av)(J:Mem.PM.is m M T)(B:M.dK.length<=1000000)(hh:0<=M.dh/\M.dh<=1000000):
  Spec prog 25 [pT m,pT hb,pT g,.int .u64 rev,.agg [.string k.os,.string k.oi].toArray,.string k.rel,.string us,.int .i64 b] R [T] λu H'=>∃T',H'=[T']/\u=.tuple [.bool (mj M ⟨rev,fB es 0 rev,k.os,k.oi,k.rel,us⟩ b (scan S rev) out).1.1,.int .i64 (mj M ⟨rev,fB es 0 rev,k.os,k.oi,k.rel,us⟩ b (scan S rev) out).1.2].toArray/\Mem.PM.is m (mj M ⟨rev,fB es 0 rev,k.os,k.oi,k.rel,us⟩ b (scan S rev) out).2 T':=by
 have Z:=O.at_ rev ⟨by omega,by have:=h.n;omega⟩
 have a1:=HV.made O
 have a2:=Ai X (by have:=h.len;omega) ⟨k.os,k.oi,k.rel,⟨#[]⟩,⟨#[]⟩,⟨#[]⟩,⟨#[]⟩⟩ rev
 obtain⟨q,G⟩:∃q:Mem.bJ,q=⟨rev,fB es 0 rev,k.os,k.oi,k.rel,us⟩:=⟨_,rfl⟩
 have A:Value.agg q.enc.toArray=.agg [.int .u64 rev,.int .i64 (fB es 0 rev),.string k.os,.string k.oi,.string k.rel,.string us].toArray:=by rw[G];rfl
 rw[<-G]
 clear G
 obtain⟨i,j⟩:=out
 simp only at x
 have c:mj M q b (scan S rev) (i,j)=if mh M q b (scan S rev)=true then(((cG q M.kept).getD false,0),⟨M.size,M.kept,M.dK,M.dh+1⟩)else((i,j),if j=0 then M.put q i else M):=rfl
 generalize mj M q b (scan S rev) (i,j)=mc at *
 have y:mh M q b (scan S rev)=((cG q M.kept).isSome&&decide (1<=b)&&scan S rev):=rfl
 generalize mh M q b (scan S rev)=kp at *
 have f:=J
 obtain⟨I,H,D,C,Y,N,K⟩:=J
 have i1:=N.one
 have i2:=K.ay
 refine Spec.body func25 rfl results25 ntmps25 rfl ?_
 refine .sr ?_
 refine .cg rfl (λa4=>?_)
 refine .ag rfl<|.ag rfl<|.z<|.mo rfl<|.mo rfl ?_
 refine .dx (Z.weaken dt) (λu Tc a=>?_)
 obtain⟨E,rfl,F,_⟩:=a
 have a9:cM E.enc:=⟨F.dl⟩
 have a7:One E.vs:=RS.ay F.ss
 have a8:One E.vc:=RS.ay F.sc
 refine .mo rfl<|.q .extract<|.q .extract ?_
 refine .cq (λa5=>?_)
 refine .bZ rfl rfl<|.ag rfl<|.z<|.mo rfl<|.mo rfl<|.q (.aL rfl)<|.mo rfl<|.mo rfl ?_
 refine .q .dw ?_
 refine .cq (λa6=>?_)
 refine .bZ rfl rfl<|.z<|.mo rfl<|.q (.aL rfl) ?_
 refine .aQ (show Spec prog 60 [pT m,.agg [.int .u64 rev,.int .i64 (fB es 0 rev),.string k.os,.string k.oi,.string k.rel,.string us].toArray] _ [] _ by rw[<-A];exact Mem.yE m M T f q _ λp hp=>.inr (by simp[hp])) (λu a=>?_)
 subst a
 refine .mo rfl<|.q .extract<|.q .extract<|.ag rfl<|.ag rfl<|.zs<|.sr<|.mo rfl<|.mo rfl ?_
 refine .split (t:=45) rfl (λo=>?_) (λo=>?_)
 refine .gT o<|.mo rfl<|.gT o<|.q .geq<|.q (.aU o) ?_
 refine .mo rfl ?_
 refine .split (t:=49) rfl (λr=>?_) (λr=>?_)
 refine .gT r<|.mo rfl<|.gT r ?_
 refine .aQ (a1.weaken dt) (λu a=>?_)
 subst a
 refine .q (.aU r) ?_
 refine .zn ?_
 refine .cond rfl (λV=>?_) λV=>?_
 refine .sr<|.mo rfl<|.fa rfl<|.lo rfl<|.fa rfl<|.lo rfl<|.mo rfl ?_
 refine .q .dw ?_
 refine .mo rfl ?_
 refine .dx (a2.weaken dt) (λu T5 a=>?_)
 obtain⟨wr,ys,rfl,W,_⟩:=a
 have b0:=W.ay
 refine .mo rfl<|.q .extract<|.q .extract<|.ag rfl<|.ag rfl<|.z<|.mo rfl<|.q .cr<|.zn ?_
 refine .cond rfl (λw=>?_) λw=>?_
 have v:scan S rev=true:=by
  cases v:scan S rev with
  |true=>rfl
  |false=>rw[v]at w;simp at w
 have a0:kp=true:=by rw[y,v];simp_all
 rw[agH a0]at c
 subst c
 refine .sr ?_
 refine .sub (bz.open_ (S:=[bl m [.bool true,.int .i64 M.size,I,H,.int .i64 M.dh] 138,D++C]) 5 (by simp[Y])) ?_
 conv=>arg 8;simp only[bN,List.cons_append,List.nil_append]
 refine .mo rfl<|.nc rfl<|.fa rfl<|.lo rfl ?_
 refine .q (.i64 (M.dh+1:Int) .add ⟨rfl,by omega,by omega⟩) ?_
 refine .nc rfl<|.fa rfl<|.ek rfl rfl<|.z<|.mo rfl<|.ag rfl<|.az rfl ?_
 refine .ret (aJ (br _ (.two (.tmp rfl) (.tmp rfl)) ((aK [0,0]).trans (bz.fH (H':=[(m,.cells [.bool true,.int .i64 M.size,I,H,.int .i64 (M.dh+1)].toArray 138 (0,0))::(D++C)]) (by simp[take,bN,du]))) ?_))
 ·exact⟨_,rfl,rfl,I,H,D,C,rfl,N,K⟩
 have v:scan S rev=false:=by
  cases v:scan S rev with
  |false=>rfl
  |true=>rw[v]at w;simp at w
 have s:kp=false:=by rw[y,v];simp
 rw[s,agG (by simp)]at c
 refine .kn<|.sr<|.mo rfl<|.mo rfl<|.mo rfl<|.q (.aL rfl)<|.mo rfl<|.mo rfl<|.mo rfl ?_
 refine .aQ (x.weaken dt) (λu a=>?_)
 subst a
 refine .mo rfl<|.q .extract<|.q .extract<|.ag rfl<|.ag rfl<|.zs<|.sr<|.mo rfl<|.q .cr<|.zn ?_
 refine .cond rfl (λd=>?_) λd=>?_
 have e:j=0:=by simpa using d
 rw[agH e]at c
 subst c
 refine .region<|.mo rfl<|.q (.aL rfl)<|.mo rfl ?_
 refine .dT (show Spec prog 59 [pT m,.agg [.int .u64 rev,.int .i64 (fB es 0 rev),.string k.os,.string k.oi,.string k.rel,.string us].toArray,.bool i] _ [T] _ by rw[<-A];exact Mem.qO m M T f q i R B) (λu T' a=>?_)
 obtain⟨rfl,l⟩:=a
 refine .z<|.mo rfl<|.mo rfl<|.ag rfl<|.az rfl ?_
 refine .ret (br _ (.two (.tmp rfl) (.tmp rfl)) (aK [5]) ?_)
 ·first
   |exact⟨_,rfl,rfl,l⟩
   |exact⟨_,rfl,rfl,f⟩
 have e:¬j=0:=by simpa using d
 rw[agG e]at c
 subst c
 refine .kn<|.sr<|.mo rfl<|.mo rfl<|.ag rfl<|.az rfl ?_
 refine .ret (br _ (.two (.tmp rfl) (.tmp rfl)) (aK [5]) ?_)
 ·first
   |exact⟨_,rfl,rfl,l⟩
   |exact⟨_,rfl,rfl,f⟩
 have s:kp=false:=by rw[y];grind
 rw[s,agG (by simp)]at c
 refine .kn<|.sr<|.mo rfl<|.mo rfl<|.mo rfl<|.q (.aL rfl)<|.mo rfl<|.mo rfl<|.mo rfl ?_
 refine .aQ (x.weaken dt) (λu a=>?_)
 subst a
 refine .mo rfl<|.q .extract<|.q .extract<|.ag rfl<|.ag rfl<|.zs<|.sr<|.mo rfl<|.q .cr<|.zn ?_
 refine .cond rfl (λd=>?_) λd=>?_
 have e:j=0:=by simpa using d
 rw[agH e]at c
 subst c
 refine .region<|.mo rfl<|.q (.aL rfl)<|.mo rfl ?_
 refine .dT (show Spec prog 59 [pT m,.agg [.int .u64 rev,.int .i64 (fB es 0 rev),.string k.os,.string k.oi,.string k.rel,.string us].toArray,.bool i] _ [T] _ by rw[<-A];exact Mem.qO m M T f q i R B) (λu T' a=>?_)
 obtain⟨rfl,l⟩:=a
 refine .z<|.mo rfl<|.mo rfl<|.ag rfl<|.az rfl ?_
 refine .ret (br _ (.two (.tmp rfl) (.tmp rfl)) (aK [4]) ?_)
 ·first
   |exact⟨_,rfl,rfl,l⟩
   |exact⟨_,rfl,rfl,f⟩
 have e:¬j=0:=by simpa using d
 rw[agG e]at c
 subst c
 refine .kn<|.sr<|.mo rfl<|.mo rfl<|.ag rfl<|.az rfl ?_
 refine .ret (br _ (.two (.tmp rfl) (.tmp rfl)) (aK [4]) ?_)
 ·first
   |exact⟨_,rfl,rfl,l⟩
   |exact⟨_,rfl,rfl,f⟩
 refine .gF r<|.gF r<|.q (.aN r) ?_
 refine .zn<|.dA ?_
 have s:kp=false:=by rw[y];grind
 rw[s,agG (by simp)]at c
 refine .kn<|.sr<|.mo rfl<|.mo rfl<|.mo rfl<|.q (.aL rfl)<|.mo rfl<|.mo rfl<|.mo rfl ?_
 refine .aQ (x.weaken dt) (λu a=>?_)
 subst a
 refine .mo rfl<|.q .extract<|.q .extract<|.ag rfl<|.ag rfl<|.zs<|.sr<|.mo rfl<|.q .cr<|.zn ?_
 refine .cond rfl (λd=>?_) λd=>?_
 have e:j=0:=by simpa using d
 rw[agH e]at c
 subst c
 refine .region<|.mo rfl<|.q (.aL rfl)<|.mo rfl ?_
 refine .dT (show Spec prog 59 [pT m,.agg [.int .u64 rev,.int .i64 (fB es 0 rev),.string k.os,.string k.oi,.string k.rel,.string us].toArray,.bool i] _ [T] _ by rw[<-A];exact Mem.qO m M T f q i R B) (λu T' a=>?_)
 obtain⟨rfl,l⟩:=a
 refine .z<|.mo rfl<|.mo rfl<|.ag rfl<|.az rfl ?_
 refine .ret (br _ (.two (.tmp rfl) (.tmp rfl)) (aK [4]) ?_)
 ·first
   |exact⟨_,rfl,rfl,l⟩
   |exact⟨_,rfl,rfl,f⟩
 have e:¬j=0:=by simpa using d
 rw[agG e]at c
 subst c
 refine .kn<|.sr<|.mo rfl<|.mo rfl<|.ag rfl<|.az rfl ?_
 refine .ret (br _ (.two (.tmp rfl) (.tmp rfl)) (aK [4]) ?_)
 ·first
   |exact⟨_,rfl,rfl,l⟩
   |exact⟨_,rfl,rfl,f⟩
 refine .gF o<|.gF o<|.q (.aN o) ?_
 refine .mo rfl<|.gX<|.gX<|.q .dq<|.zn<|.dA ?_
 have s:kp=false:=by rw[y];grind
 rw[s,agG (by simp)]at c
 refine .kn<|.sr<|.mo rfl<|.mo rfl<|.mo rfl<|.q (.aL rfl)<|.mo rfl<|.mo rfl<|.mo rfl ?_
 refine .aQ (x.weaken dt) (λu a=>?_)
 subst a
 refine .mo rfl<|.q .extract<|.q .extract<|.ag rfl<|.ag rfl<|.zs<|.sr<|.mo rfl<|.q .cr<|.zn ?_
 refine .cond rfl (λd=>?_) λd=>?_
 have e:j=0:=by simpa using d
 rw[agH e]at c
 subst c
 refine .region<|.mo rfl<|.q (.aL rfl)<|.mo rfl ?_
 refine .dT (show Spec prog 59 [pT m,.agg [.int .u64 rev,.int .i64 (fB es 0 rev),.string k.os,.string k.oi,.string k.rel,.string us].toArray,.bool i] _ [T] _ by rw[<-A];exact Mem.qO m M T f q i R B) (λu T' a=>?_)
 obtain⟨rfl,l⟩:=a
 refine .z<|.mo rfl<|.mo rfl<|.ag rfl<|.az rfl ?_
 refine .ret (br _ (.two (.tmp rfl) (.tmp rfl)) (aK [4]) ?_)
 ·first
   |exact⟨_,rfl,rfl,l⟩
   |exact⟨_,rfl,rfl,f⟩
 have e:¬j=0:=by simpa using d
 rw[agG e]at c
 subst c
 refine .kn<|.sr<|.mo rfl<|.mo rfl<|.ag rfl<|.az rfl ?_
 refine .ret (br _ (.two (.tmp rfl) (.tmp rfl)) (aK [4]) ?_)
 ·first
   |exact⟨_,rfl,rfl,l⟩
   |exact⟨_,rfl,rfl,f⟩
end
structure hU where
 k:aW
 us:ByteArray
 rev:Int
 b:Int
 w:Bool
 call:eW
 fg:Bool
 c:bO
 add:Bool
def hU.enc(a:hU):List Value:=[.string a.k.os,.string a.k.oi,.string a.k.rel,.string a.us,.int .u64 a.rev,.int .i64 a.b,.bool a.w]++(a.call.enc++([.bool a.fg]++(a.c.enc++[.bool a.add])))
structure hU.is(R:aA)(a:hU):Prop where
 u:a.us.size<=9223372036854775807
 r0:0<=a.rev
 r1:a.rev<=18446744073709551615
 b1:a.b<=9223372036854775807
 cl:a.call.is R
 c:a.c.is R
theorem hU.is.dl{R:aA}{a:hU}(h:a.is R):cM a.enc:=⟨λu hu=>by
 unfold hU.enc at hu
 rcases agJ.1 hu with hu|hu
 ·simp only[List.mem_cons,agS,or_false]at hu
  rcases hu with rfl|rfl|rfl|rfl|rfl|rfl|rfl<;>rfl
 ·rcases agJ.1 hu with hu|hu
  ·exact h.cl.dl.h u hu
  ·rcases agJ.1 hu with hu|hu
   ·rw[agK]at hu;subst hu;rfl
   ·rcases agJ.1 hu with hu|hu
    ·exact h.c.dl u hu
    ·rw[agK]at hu;subst hu;rfl⟩
theorem BY{H:Type}{enc:TypeId×Value->H}{W:World}{f:Nat}{cs:List Value}{x:DataW H×List MemPlace}(h:DataW.trod enc prog W 0 (λ_=>true) true f 53 cs=some x):∃a:hU,cs=a.enc/\a.is (Rw W):=by
 obtain⟨q,b⟩:=kd underlying53 h
 have U:prog.cellsOf 53=23:=by kernel_rfl
 rw[U]at q
 have z:prog.cellsOf 3=1:=by kernel_rfl
 have A:prog.cellsOf 4=1:=by kernel_rfl
 have E:prog.cellsOf 9=1:=by kernel_rfl
 have w:prog.cellsOf 25=2:=by kernel_rfl
 have B:prog.cellsOf 44=2:=by kernel_rfl
 have C:prog.cellsOf 45=1:=by kernel_rfl
 have D:prog.cellsOf 51=12:=by kernel_rfl
 match cs,q with
 |[a0,a1,a2,a3,a4,a5,a6,a7,a8,a9,a10,a11,a12,a13,a14,a15,a16,a17,a18,a19,a20,a21,a22],_=>
  obtain⟨n0,y0,c⟩:∃n y,DataW.trod enc prog W 0 (λ_=>true) true n 44 (([a0,a1,a2,a3,a4,a5,a6,a7,a8,a9,a10,a11,a12,a13,a14,a15,a16,a17,a18,a19,a20,a21,a22].drop 0).take (prog.cellsOf 44))=some y:=b 0 _ rfl
  obtain⟨n1,y1,d⟩:∃n y,DataW.trod enc prog W 0 (λ_=>true) true n 9 (([a0,a1,a2,a3,a4,a5,a6,a7,a8,a9,a10,a11,a12,a13,a14,a15,a16,a17,a18,a19,a20,a21,a22].drop 2).take (prog.cellsOf 9))=some y:=b 1 _ rfl
  obtain⟨n2,y2,e⟩:∃n y,DataW.trod enc prog W 0 (λ_=>true) true n 9 (([a0,a1,a2,a3,a4,a5,a6,a7,a8,a9,a10,a11,a12,a13,a14,a15,a16,a17,a18,a19,a20,a21,a22].drop 3).take (prog.cellsOf 9))=some y:=b 2 _ rfl
  obtain⟨n3,y3,g⟩:∃n y,DataW.trod enc prog W 0 (λ_=>true) true n 45 (([a0,a1,a2,a3,a4,a5,a6,a7,a8,a9,a10,a11,a12,a13,a14,a15,a16,a17,a18,a19,a20,a21,a22].drop 4).take (prog.cellsOf 45))=some y:=b 3 _ rfl
  obtain⟨n4,y4,i⟩:∃n y,DataW.trod enc prog W 0 (λ_=>true) true n 3 (([a0,a1,a2,a3,a4,a5,a6,a7,a8,a9,a10,a11,a12,a13,a14,a15,a16,a17,a18,a19,a20,a21,a22].drop 5).take (prog.cellsOf 3))=some y:=b 4 _ rfl
  obtain⟨n5,y5,j⟩:∃n y,DataW.trod enc prog W 0 (λ_=>true) true n 4 (([a0,a1,a2,a3,a4,a5,a6,a7,a8,a9,a10,a11,a12,a13,a14,a15,a16,a17,a18,a19,a20,a21,a22].drop 6).take (prog.cellsOf 4))=some y:=b 5 _ rfl
  obtain⟨n6,y6,l⟩:∃n y,DataW.trod enc prog W 0 (λ_=>true) true n 51 (([a0,a1,a2,a3,a4,a5,a6,a7,a8,a9,a10,a11,a12,a13,a14,a15,a16,a17,a18,a19,a20,a21,a22].drop 7).take (prog.cellsOf 51))=some y:=b 6 _ rfl
  obtain⟨n7,y7,m⟩:∃n y,DataW.trod enc prog W 0 (λ_=>true) true n 4 (([a0,a1,a2,a3,a4,a5,a6,a7,a8,a9,a10,a11,a12,a13,a14,a15,a16,a17,a18,a19,a20,a21,a22].drop 19).take (prog.cellsOf 4))=some y:=b 7 _ rfl
  obtain⟨n8,y8,o⟩:∃n y,DataW.trod enc prog W 0 (λ_=>true) true n 25 (([a0,a1,a2,a3,a4,a5,a6,a7,a8,a9,a10,a11,a12,a13,a14,a15,a16,a17,a18,a19,a20,a21,a22].drop 20).take (prog.cellsOf 25))=some y:=b 8 _ rfl
  obtain⟨n9,y9,p⟩:∃n y,DataW.trod enc prog W 0 (λ_=>true) true n 4 (([a0,a1,a2,a3,a4,a5,a6,a7,a8,a9,a10,a11,a12,a13,a14,a15,a16,a17,a18,a19,a20,a21,a22].drop 22).take (prog.cellsOf 4))=some y:=b 9 _ rfl
  simp only[z,A,E,w,B,C,D,List.drop_zero,List.drop_succ_cons,List.take_succ_cons,List.take_zero]at c d e g i j l m o p
  obtain⟨s0,s1,I,l0,l1⟩:=qR c
  obtain⟨s2,J,l2⟩:=jL d
  obtain⟨s3,K,Y⟩:=jL e
  obtain⟨z3,L,Z,r⟩:=Bm g
  obtain⟨z4,M,m4,s⟩:=yP (k:=.i64) i
  obtain⟨t,N⟩:=rB j
  obtain⟨G,O,X⟩:=AD l
  obtain⟨u,Q⟩:=rB m
  obtain⟨F,S,V⟩:=xl o
  obtain⟨v,T⟩:=rB p
  cases I;cases J;cases K;cases L;cases M;cases N;cases Q;cases T
  refine⟨⟨⟨s0,s1,s2⟩,s3,z3,z4,t,G,u,F,v⟩,?_,Y,Z,r,s,X,V⟩
  unfold hU.enc
  rw[<-O, <-S]
  rfl
theorem Ao:∀{rows:List bf},(rows.Pairwise λx y=>x.t=y.t->x.to≠0/\x.to<=y.fr)->(∀x∈rows,x.to=0\/x.fr<x.to)->∃L:List bf,L.Perm rows/\ov L
 |[],_,_=>⟨[],.refl _,List.Pairwise.nil⟩
 |p::rows,h,hk=>by
  have b:=List.pairwise_cons.1 h
  obtain⟨L,c,d⟩:=Ao b.2 λx g=>hk x (List.mem_cons_of_mem _ g)
  refine⟨gN eA p L,qz.trans (c.cons p),uq Ar d λy a=>?_⟩
  have a:=c.mem_iff.1 a
  have f:=b.1 y a
  have i:=hk p List.mem_cons_self
  unfold eA
  by_cases e:p.t=y.t
  ·have j:=f e
   left
   simp only[Bool.or_eq_true,agT,agU]
   exact .inr ⟨e,by omega⟩
  ·rcases v8 e with h6|h6
   ·left;rw[h6];rfl
   ·right;rw[h6];rfl
theorem eH.rl{S:cE}(h:eH S):∃L,RL S L:=by
 obtain⟨L,a,b⟩:=Ao h.pw λx c=>by
  rcases(h.ok x c).2.2.2 with h3|h3
  ·exact .inl h3
  ·exact .inr h3.1
 exact⟨L,a,b⟩
def uA(q:Mem.bJ):aW:=⟨q.space,q.id,q.rel⟩
def gb(nf:Cf->List Nat)(es:List cZ)(S:cE)(z:List (Mem.bJ×Bool)):Prop:=
 ∀p∈z,0<=p.1.rev/\scan S p.1.rev=true/\iG p.1.user=true/\∃L tot,RL S L/\lB nf es S L p.1.rev (uA p.1) p.1.user p.2 tot
theorem vK{S:cE}{r:Int}(h:scan S r=true):r<=S.head:=by
 unfold scan at h
 simp only[agT,agU]at h
 exact h.2
theorem PT{S:cE}{r:Int}(bj no:List aw)(cs:List cz)(h:scan S r=true):scan (fy S bj no cs) r=true:=by
 have a:=vK h
 unfold fy
 split
 ·unfold scan at h⊢
  simp only[agT,agU]at h⊢
  exact⟨h.1,by omega⟩
 ·exact h
theorem gb.write{e:Cf->List Nat}{a:List cZ}{S:cE}{z:List (Mem.bJ×Bool)}(h:gb e a S z)(d:eH S)(bj no:List aw)(cs:List cz):gb e a (fy S bj no cs) z:=λp l=>by
 obtain⟨g,b,i,L,m,j,k⟩:=h p l
 obtain⟨f,c⟩:=(d.write bj no cs).rl
 exact⟨g,PT bj no cs b,i,f,m,c,k.same rfl (QD d j bj no cs c (vK b))⟩
theorem gb.add{c:Cf->List Nat}{a:List cZ}{S:cE}{z:List (Mem.bJ×Bool)}(h:gb c a S z){e:cZ}(l:S.head<e.rev):gb c (a++[e]) S z:=λp j=>by
 obtain⟨d,b,f,L,k,g,i⟩:=h p j
 have:=vK b
 exact⟨d,b,f,L,k,g,i.same (B0 (by omega)) rfl⟩
theorem gb.sub{b:Cf->List Nat}{a:List cZ}{S:cE}{z z':List (Mem.bJ×Bool)}(h:gb b a S z)(d:∀p∈z',p∈z):gb b a S z':=λp c=>h p (d p c)
structure WJ(es:List cZ)(S:cE)(i:Nat):Prop where
 wp:∃L,WP es S L
 len:S.rows.length<=512+32*i
 n:es.length<=1+i
theorem WJ.write{b:List cZ}{S:cE}{i:Nat}(h:WJ b S i)(j:i<14)(bj no:List aw)(cs:List cz):WJ b (fy S bj no cs) (i+1):=by
 obtain⟨L,a⟩:=h.wp
 have e:=Bs a.nH bj no cs
 have f:=h.len
 have g:=h.n
 obtain⟨c,d⟩:=(a.nH.write bj no cs).rl
 exact⟨⟨c,d,a.nH.write bj no cs,by omega,a.e0,a.mv,a.en,a.n⟩,by omega,by omega⟩
theorem WJ.more{a:List cZ}{S:cE}{i:Nat}(h:WJ a S i):WJ a S (i+1):=⟨h.wp,by have:=h.len;omega,by have:=h.n;omega⟩
theorem WJ.add{b:List cZ}{S:cE}{i:Nat}{e:cZ}(h:WJ b S (i+1))(n:b.length<=1+i)(m:i<14)(l:ri e.c.plain)(j:(e.c.plain.numbers isWord dd).1=0/\e.ll.map (·.2)=(e.c.plain.numbers isWord dd).2):WJ (b++[e]) S (i+1):=by
 obtain⟨L,a⟩:=h.wp
 obtain⟨f,d,g⟩:=a.e0
 have k:0<b.length:=(List.getElem?_eq_some_iff.1 d).1
 refine⟨⟨L,a.rl,a.nH,a.len,⟨f,by rw[agP k];exact d,g⟩,λx hx=>?_,λx hx=>?_,by rw[agQ,agR];omega⟩,h.len,by rw[agQ,agR];omega⟩
 ·rcases agJ.1 hx with hx|hx
  ·exact a.mv x hx
  ·rw[agK]at hx;subst hx;exact l
 ·rcases agJ.1 hx with hx|hx
  ·exact a.en x hx
  ·rw[agK]at hx;subst hx;exact j
theorem zY{α β:Type}{z y:List (α×β)}(a:z.map (·.1)=y.map (·.1))(b:z.map (·.2)=y.map (·.2)):z=y:=by
 rw[<-Mem.ti z, <-Mem.ti y,a,b]
theorem tm{n:Nat}{m:Mem.PM}{z:List (Mem.bJ×Bool)}(h:Mem.Inv n m z){q:Mem.bJ}{x:Bool}{e:Mem.cb}(l:q∉z.map (·.1))(c:(Mem.cb.of n z).tq q x e):∃z',Mem.Inv n (m.put q x) z'/\e=Mem.cb.of n z'/\∀p∈z',p∈z\/p=(q,x):=by
 obtain⟨z',f,b⟩:=h.put c
 refine⟨z',f,b,λp d=>?_⟩
 rcases c with⟨i,k,_⟩|⟨_,a⟩
 ·exact absurd (aR k) l
 ·have g:z'=z++[(q,x)]\/z'=(z++[(q,x)]).drop 1:=by
   rw[b]at a
   unfold Mem.cb.of at a
   simp only at a
   split at a
   ·injection a with _ e1 e2
    exact .inr (zY (by rw[e1,List.map_drop];simp) (by rw[e2,List.map_drop];simp))
   ·injection a with _ e1 e2
    exact .inl (zY (by rw[e1];simp) (by rw[e2];simp))
  have j:p∈z++[(q,x)]:=by
   rcases g with rfl|rfl
   ·exact d
   ·exact List.mem_of_mem_drop d
  rcases agJ.1 j with h6|h6
  ·exact .inl h6
  ·exact .inr (agK.1 h6)
theorem BB(m:Mem.PM)(q:Mem.bJ)(x:Bool):(m.put q x).dh=m.dh:=by
 unfold Mem.PM.put
 split
 ·split<;>rfl
 ·rfl
theorem BZ{W:World}{f:Nat}{H:Type}{enc:TypeId×Value->H}{cs:List Value}{x:DataW H×List MemPlace}(h:DataW.trod enc prog W 0 (λ_=>true) true f 29 cs=some x):∃v l,cs=[v]/\RS (Rw W) 23 hU.enc v l/\∀c∈l,hU.is (Rw W) c:=
 RS.mO (D:=λc:hU=>c.is (Rw W)) (sz:=23) (en:=hU.enc) underlying29 (by kernel_rfl) (by omega) h λn cs x b=>by
  obtain⟨c,rfl,a⟩:=BY b
  exact⟨rfl,a.dl.h,c,rfl,a⟩
theorem zt(w:kl)(R:aA)(h:w.is R):Spec prog 14 [.agg w.enc.toArray] R [] λu H'=>∃T,H'=[T]/\∃(c:bO) (p1 p2 p3:Value) (ok:Bool),u=.tuple [p1,p2,.agg c.enc.toArray,p3,.bool ok].toArray/\One p1/\One p2/\One p3/\c.is (λb o=>R b o\/(b,o)∈T)/\
  (ok=true->∃Th Ts Tr hb g e S,T=Th++(Ts++Tr)/\p1=pT hb/\p2=pT g/\cZ.rev e=0/\(cZ.c e).plain=jT w.c.plain/\HI hb [e] 0 Th/\SI g S Ts/\eH S/\S.rows.length<=512):=by
 refine Spec.flat ((Ni w R h).mono λu H' hu=>?_)
 rcases hu with hu|⟨T,c,x,rfl,rfl,f,q,p⟩
 ·obtain⟨a,Th,Ts,d,hb,g,x,e,S,c,rfl,rfl,f,q,p,m,l,i,j,k,r,n⟩:=hu
  refine⟨_,Th++(Ts++(a++d)),rfl,?_,_,rfl,c,_,_,_,true,rfl,⟨rfl⟩,⟨rfl⟩,⟨rfl⟩,f.mono λb o hb=>hb.imp id λhb=>by simp[hb],λ_=>⟨Th,Ts,a++d,hb,g,e,S,rfl,rfl,rfl,m,l,i,j,k,n⟩⟩
  simp only[List.flatten_cons,List.flatten_nil,List.append_nil]
  exact(List.perm_append_comm_assoc a Th (Ts++d)).trans ((List.perm_append_comm_assoc a Ts d).append_left Th)
 ·exact⟨_,T,rfl,by simp,_,rfl,c,_,_,_,false,rfl,⟨rfl⟩,⟨rfl⟩,⟨rfl⟩,f,λh=>by cases h⟩
theorem Nk{n:Nat}{M:Mem.PM}{z:List (Mem.bJ×Bool)}{x:Cf->List Nat}{g:List cZ}{S:cE}{L:List bf}(B:Mem.Inv n M z)(Q:gb x g S z)(w:WP g S L){q:Mem.bJ}{val:Bool}{tot:Nat}(s:lB x g S L q.rev (uA q) q.user val tot)(a0:tot<=1048576)
  {b at_:Int}(T:(∃(l:Nat),at_=l/\(z.map (·.1))[l]? =some q)\/(at_= -1/\q∉z.map (·.1))){out:Bool×Int}(ho:out=kA q.user b (scan S q.rev) val tot){mc:(Bool×Int)×Mem.PM}(t:mc=mj M q b (scan S q.rev) out):
  (0<=at_/\(out.2=0\/out.2=16)->(∃l:Nat,at_=l/\(z.map (·.2))[l]? =some val)/\mc=((val,0),⟨M.size,M.kept,M.dK,M.dh+1⟩)/\(out.2=0->out.1=val))/\
  (¬(0<=at_/\(out.2=0\/out.2=16))->mc.1=out/\mc.2.dh=M.dh/\((out.2=0/\at_<0/\mc.2=M.put q out.1/\q∉z.map (·.1))\/(out.2≠0/\mc.2=M)))/\
  (mc.1.2=0->kA q.user 1048576 (scan S q.rev) val tot=(mc.1.1,0))/\
  (out.2=0->0<=q.rev->∀p,p=(q,out.1)->0<=p.1.rev/\scan S p.1.rev=true/\iG p.1.user=true/\∃L tot,RL S L/\lB x g S L p.1.rev (uA p.1) p.1.user p.2 tot):=by
 have i:out.2=0->iG q.user=true/\1<=b/\scan S q.rev=true/\out=(val,0):=λa=>by
  rw[ho]at a⊢
  unfold kA at a⊢
  split at a
  ·cases a
  rename_i y
  rw[agG y]
  split at a
  ·cases a
  rename_i I
  rw[agG I]
  split at a
  ·cases a
  rename_i A
  rw[agG A]
  split at a
  ·rename_i J
   rw[agH J]
   exact⟨by simpa using y,by omega,by simpa using A,rfl⟩
  ·cases a
 have D:iG q.user=true->scan S q.rev=true->kA q.user 1048576 (scan S q.rev) val tot=(val,0):=λN O=>by
  unfold kA
  rw[agG (by rw[N];simp),agG (by omega),agG (by rw[O];simp),agH (by omega)]
 rcases T with⟨l,rfl,V⟩|⟨rfl,G⟩
 ·obtain⟨p,E,rfl⟩:=agM .. ▸V|>Option.map_eq_some_iff.1
  have F:=aR E
  obtain⟨k1,j,k,L',a1,Z,k5⟩:=Q p F
  obtain rfl:=w.rl.dN Z
  obtain⟨H,_⟩:=s.dN k5
  have h:=B.get p F
  have Y:(z.map (·.2))[l]? =some val:=by rw[agM,E,H];rfl
  have U:(cG p.1 M.kept).getD false=val:=by rw[h,H];rfl
  by_cases C:1<=b
  ·have e:mh M p.1 b (scan S p.1.rev)=true:=by unfold mh;rw[h,j];simp[C]
   have d:mc=((val,0),⟨M.size,M.kept,M.dK,M.dh+1⟩):=by rw[t];unfold mj;rw[agH e,U]
   have X:out.2=0\/out.2=16:=by
    rw[ho]
    unfold kA
    rw[agG (by rw[k];simp),agG (by omega),agG (by rw[j];simp)]
    split
    ·exact .inl rfl
    ·exact .inr rfl
   refine⟨λ_=>⟨⟨l,rfl,Y⟩,d,λa=>by rw[(i a).2.2.2]⟩,λW=>absurd ⟨by omega,X⟩ W,λ_=>by rw[d];exact D k j,λa v p' u=>?_⟩
   subst u
   rw[(i a).2.2.2]
   exact⟨v,j,k,L,tot,w.rl,s⟩
  ·have f:out=(false,2):=by
    rw[ho]
    unfold kA
    rw[agG (by rw[k];simp),agH (by omega)]
   have e:¬mh M p.1 b (scan S p.1.rev)=true:=by unfold mh;simp[C]
   have d:mc=(out,M):=by rw[t];unfold mj;rw[agG e,f,agG (by simp)]
   refine⟨λc=>?_,λ_=>by rw[d];exact⟨rfl,rfl,.inr ⟨by rw[f];simp,rfl⟩⟩,λc=>?_,λa=>?_⟩
   ·rw[f]at c;simp at c
   ·rw[d,f]at c;cases c
   ·rw[f]at a;cases a
 ·have h:cG q M.kept=none:=B.ky q G
  have e:¬mh M q b (scan S q.rev)=true:=by unfold mh;rw[h];simp
  have d:mc=(out,if out.2=0 then M.put q out.1 else M):=by rw[t];unfold mj;rw[agG e]
  refine⟨λc=>absurd c.1 (by omega),λ_=>?_,λc=>?_,λa v p' u=>?_⟩
  ·rw[d]
   by_cases a:out.2=0
   ·rw[agH a]
    exact⟨rfl,BB _ _ _,.inl ⟨a,by omega,rfl,G⟩⟩
   ·rw[agG a]
    exact⟨rfl,rfl,.inr ⟨a,rfl⟩⟩
  ·rw[d]at c⊢
   obtain⟨m,K,o,r⟩:=i c
   rw[D m o,r]
  ·subst u
   obtain⟨m,K,o,r⟩:=i a
   rw[r]
   exact⟨v,o,m,L,tot,w.rl,s⟩
theorem Nr(w:kl)(n:Int)(v:Value)(f:List hU)(R:aA)(h:w.is R)(g:RS R 23 hU.enc v f)(j:n<0\/65536<n):
  Spec prog 3 [.agg w.enc.toArray,.int .i64 n,v] R [] λv H'=>v=.bool true/\H'=[]:=by
 have i:=zt w R h
 have k:One w.c.vs:=RS.ay h.c.ss
 have l:One w.c.vc:=RS.ay h.c.sc
 have m:=h.rs.ay
 have x:=g.ay
 have F:cM w.enc:=⟨λu a=>by
  simp only[kl.enc,List.mem_cons,agS,or_false]at a
  rcases a with rfl|rfl|rfl
  ·exact k.h
  ·exact l.h
  ·exact m.h⟩
 refine Spec.body func3 rfl results3 ntmps3 rfl ?_
 refine .sr ?_
 refine .cg rfl (λp=>?_)
 refine .ag rfl<|.z<|.q (.aL rfl) ?_
 refine .dx (i.weaken dt) (λu o a=>?_)
 obtain⟨c,H,I,J,G,rfl,C,D,E,d,s⟩:=a
 have y:One c.vs:=RS.ay d.ss
 have A:One c.vc:=RS.ay d.sc
 have B:cM c.enc:=⟨d.dl⟩
 refine .mo rfl<|.q .extract<|.q .extract<|.q .extract<|.q .extract<|.q .extract ?_
 refine .cq (λr=>?_)
 refine .ag rfl<|.ag rfl<|.bZ rfl rfl<|.ag rfl<|.ag rfl<|.z<|.mo rfl ?_
 refine .aQ (Mem.NM n _ j) (λu a=>?_)
 subst a
 refine .mo rfl<|.q .extract<|.q .extract<|.ag rfl<|.ag rfl<|.zs<|.sr<|.mo rfl<|.q .not<|.mo rfl ?_
 refine .split (t:=45) rfl (λb=>?_) (λb=>?_)
 refine .gF b<|.gF b<|.q (.aU b) ?_
 refine .zn<|.gL<|.sr ?_
 refine .aQ (Mem.ph _) (λu a=>?_)
 subst a
 refine .az rfl ?_
 refine .ret (aJ (br _ (.one (.tmp rfl)) (bz.none _) ?_))
 ·exact⟨rfl,rfl⟩
 refine .gT b<|.mo rfl<|.gT b<|.q .de<|.q (.aN b) ?_
 refine .zn ?_
 refine .cond rfl (λe=>?_) λe=>?_
 refine .sr ?_
 refine .aQ (Mem.ph _) (λu a=>?_)
 subst a
 refine .az rfl ?_
 refine .ret (aJ (br _ (.one (.tmp rfl)) (bz.none _) ?_))
 ·exact⟨rfl,rfl⟩
 ·simp at e
theorem Ns(w:kl)(n:Nat)(v:Value)(f8:List hU)(R:aA)(h:w.is R)(hS:RS R 23 hU.enc v f8)(hA:∀a∈f8,a.is R)(hn:n<=65536):
  Spec prog 3 [.agg w.enc.toArray,iN n,v] R [] λv H'=>v=.bool true/\H'=[]:=by
 have o6:=zt w R h
 have i1:One w.c.vs:=RS.ay h.c.ss
 have i2:One w.c.vc:=RS.ay h.c.sc
 have i3:=h.rs.ay
 have i4:=hS.ay
 have q7:=hS.le
 have iw:cM w.enc:=⟨λu m=>by
  simp only[kl.enc,List.mem_cons,agS,or_false]at m
  rcases m with rfl|rfl|rfl
  ·exact i1.h
  ·exact i2.h
  ·exact i3.h⟩
 obtain⟨nf,l8⟩:=NF.ex
 refine Spec.body func3 rfl results3 ntmps3 rfl ?_
 refine .sr ?_
 refine .cg rfl (λb3=>?_)
 refine .ag rfl<|.z<|.q (.aL rfl) ?_
 refine .dx (o6.weaken dt) (λu Tw m=>?_)
 obtain⟨c,p1,p2,p3,ok,rfl,s5,s6,s7,hc,hW⟩:=m
 have r2:One c.vs:=RS.ay hc.ss
 have r4:One c.vc:=RS.ay hc.sc
 have s3:cM c.enc:=⟨hc.dl⟩
 refine .mo rfl<|.q .extract<|.q .extract<|.q .extract<|.q .extract<|.q .extract ?_
 refine .cq (λb9=>?_)
 refine .ag rfl<|.ag rfl<|.bZ rfl rfl<|.ag rfl<|.ag rfl<|.z<|.mo rfl ?_
 refine .dx ((Mem.zD n _ hn).mono λv H' ⟨b,T,h1,h2,h3⟩=>(⟨T,h2,b,h1,h3⟩:∃T,H'=[T]/\∃b,v=.tuple [pT b,.int .i64 0].toArray/\Mem.PM.is b ⟨n,[],[],0⟩ T)) (λu m0 m=>?_)
 obtain⟨bm,rfl,o5⟩:=m
 refine .mo rfl<|.q .extract<|.q .extract<|.ag rfl<|.ag rfl<|.zs<|.sr<|.mo rfl<|.q .not<|.mo rfl ?_
 refine .split (t:=45) rfl (λe5=>?_) (λe5=>?_)
 refine .gF e5<|.gF e5<|.q (.aU e5) ?_
 refine .zn<|.gL<|.sr ?_
 refine .aQ (Mem.ph _) (λu m=>?_)
 subst m
 refine .az rfl ?_
 refine .ret (aJ (br _ (.one (.tmp rfl)) (bz.none _) ?_))
 ·exact⟨rfl,rfl⟩
 refine .gT e5<|.mo rfl<|.gT e5<|.q .de<|.q (.aN e5) ?_
 refine .zn ?_
 refine .cond rfl (λh1=>?_) λh1=>?_
 refine .sr ?_
 refine .aQ (Mem.ph _) (λu m=>?_)
 subst m
 refine .az rfl ?_
 refine .ret (aJ (br _ (.one (.tmp rfl)) (bz.none _) ?_))
 ·exact⟨rfl,rfl⟩
 have o7:ok=true:=by simpa using e5
 subst o7
 obtain⟨j4,l1,m1,hb,g,e0,S0,rfl,rfl,rfl,n9,n8,l2,m6,l4,q5⟩:=hW rfl
 refine .kn<|.sr ?_
 refine .sub (bz.open_ (S:=[j4,l1,m1]) 2 (by simp)) ?_
 conv=>arg 8;simp only[bN,List.cons_append,List.nil_append]
 have m9:WJ [e0] S0 0:=by
  obtain⟨p8,j7⟩:=l2.view (R:=sg j4) λp s=>s
  have g4:=j7.all e0 (by simp)
  obtain⟨L,hL⟩:=l4.rl
  exact⟨⟨L,hL,l4,by omega,⟨e0,rfl,n9⟩,λe he=>by rw[agK]at he;subst he;rw[n8];exact xk _,λe he=>by rw[agK]at he;subst he;exact⟨g4.ok,g4.eq⟩,by simp⟩,by omega,by simp⟩
 refine .mo rfl ?_
 refine .dx (Mem.Pc n _ hn) (λu m2 m=>?_)
 obtain⟨bx,rfl,p5⟩:=m
 refine .mo rfl<|.q .extract<|.q .extract<|.ag rfl<|.ag rfl<|.z<|.ag rfl<|.zs<|.sr<|.az rfl<|.block ?_
 refine .cX [(2,_),(7,_),(8,_),(12,_),(14,_)] (X:=Nat×(List cZ×cE)×(Mem.PM×List (Mem.bJ×Bool))×(av×av×av×av)) (λy=>(y.1<=f8.length/\y.1<=14)/\HI hb y.2.1.1 0 y.2.2.2.1/\SI g y.2.1.2 y.2.2.2.2.1/\WJ y.2.1.1 y.2.1.2 y.1/\Mem.Inv n y.2.2.1.1 y.2.2.1.2/\Mem.PM.is bm y.2.2.1.1 y.2.2.2.2.2.1/\Mem.cb.is bx (Mem.cb.of n y.2.2.1.2) y.2.2.2.2.2.2/\gb nf y.2.1.1 y.2.1.2 y.2.2.1.2/\0<=y.2.2.1.1.dh/\y.2.2.1.1.dh<=y.1) (λy E=>(17,iN y.1)::(16,.int .i64 y.2.2.1.1.dh)::E) (G:=[]) (λy _=>[y.2.2.2.2.2.2,y.2.2.2.1,y.2.2.2.2.1,y.2.2.2.2.2.1]) (λy=>f8.length-y.1) (0,([e0],S0),(⟨n,[],[],0⟩,[]),(j4,l1,m0,m2)) ⟨⟨Nat.zero_le _,Nat.zero_le _⟩,l2,m6,m9,Mem.Inv.new n,o5,p5,λp s=>(by cases s),Int.le_refl _,Int.le_refl _⟩ kE.c.c.c.c.c.c.c (aK [0,0,0,1]) ?_
 rintro⟨i,⟨es,S⟩,⟨M,z⟩,⟨Th,Ts,Tm,Tx⟩⟩ ⟨⟨hi,o3⟩,i6,i7,e8,hI,hM,hX,hK,o0,o1⟩
 simp only at hi o3 i6 i7 e8 hI hM hX hK o0 o1⊢
 have q8:z.length<=65536:=by have:=hI.le;omega
 have n0:M.dK.length<=1000000:=by rw[hI.dK,agI];omega
 have o8:(Mem.cb.of n z).qs.length<=1000000:=by simp only[Mem.cb.of,agI];omega
 have n4:(Mem.cb.of n z).bs.length=(Mem.cb.of n z).qs.length:=by simp[Mem.cb.of]
 have j5:eH S:=by obtain⟨L,hw⟩:=e8.wp;exact hw.nH
 refine .seq<|.sr<|.mo rfl<|.mo rfl<|.q (.bK hS) ?_
 refine .q .lss<|.mo rfl ?_
 refine .split (t:=59) rfl (λe6=>?_) (λe6=>?_)
 refine .gT e6<|.mo rfl<|.gT e6<|.q .lss<|.q (.aU e6) ?_
 refine .zn ?_
 refine .cond rfl (λh2=>?_) λh2=>?_
 have o4:i<f8.length:=cL e6|>λh9=>by omega
 have k4:i<14:=cK h2
 obtain⟨a,ha⟩:=ca o4
 have d9:=hA a (aR ha)
 have ia:=d9.dl
 have p6:=d9.cl.dl
 have r5:One a.c.vs:=RS.ay d9.c.ss
 have r6:One a.c.vc:=RS.ay d9.c.sc
 have r1:cM a.c.enc:=⟨d9.c.dl⟩
 have g8:=d9.r0
 have n2:=d9.u
 have l6:=d9.b1
 refine .kn<|.seq<|.block<|.sr<|.mo rfl<|.mo rfl ?_
 refine .bF i hS ha (λt3=>?_)
 refine .q (.aL rfl) ?_
 refine .cq (λd2=>?_)
 refine .bZ rfl rfl<|.zs<|.sr<|.fa rfl<|.lo rfl<|.zn ?_
 refine bu.dc [(2,_),(7,_),(8,_),(12,_),(14,_),(16,_),(17,_),(18,_)] kE.c.c.c.c.c.c.c.c (X:=cE×av) (λy=>SI g y.1 y.2/\WJ es y.1 (i+1)/\gb nf es y.1 z) (λ_ E=>E) (λy=>[bl d2 a.enc 53,Tx,Th,y.2,Tm]) ?_ ?_
 refine .cond rfl (λh3=>?_) λh3=>?_
 refine .sr<|.fa rfl<|.q (.loadT rfl) ?_
 refine .fq (λq3=>?_)
 refine .dx (yi _ [a.call] 1 (by omega) _ R (RS.lits (enc:=eW.enc) (xs:=[a.call]) rfl (by simp[eW.enc,aw.enc]) (by have:=p6.h;simpa using this)) (by simpa using d9.cl)) (λu Tf m=>?_)
 obtain⟨ds,l3,n7,n6⟩:=m
 have s4:=l3.ay
 obtain⟨d,rfl⟩:∃d,ds=[d]:=List.length_eq_one_iff.1 (by rw[n6];rfl)
 obtain⟨e1,_,_,_⟩:=n7 d (by simp)
 have s2:=e1.dl
 obtain⟨dk,wm,l0,wc,df,dr,f1,no,cs⟩:=d
 have t0:One wm:=RS.ay e1.hm
 have t1:One l0:=RS.ay e1.hn
 have t2:One wc:=RS.ay e1.hc
 refine .bh 0 l3 (show [(⟨dk,wm,l0,wc,df,dr,f1,no,cs⟩:eW)][0]? =some _ from rfl) (λt4=>?_)
 refine .q (.aL rfl) ?_
 refine .cq (λq1=>?_)
 refine .bZ rfl rfl<|.zn<|.region<|.mo rfl<|.fa rfl<|.lo rfl<|.fa rfl<|.lo rfl<|.fa rfl<|.lo rfl ?_
 refine .dT (Bt g S Ts i7 j5 wm l0 wc f1 no cs _ e1.hm e1.hn e1.hc e1.fm e1.fn e1.fc) (λu a0 m=>?_)
 obtain⟨rfl,a9⟩:=m
 refine .nil ?_
 ·first
   |exact aD (fy S f1 no cs,a0) ⟨a9,e8.write k4 f1 no cs,hK.write j5 f1 no cs⟩ kE.c.c.c.c.c.c.c.c (aK [3,3,3,3,3])
   |exact aD (S,Ts) ⟨i7,e8.more,hK⟩ kE.c.c.c.c.c.c.c.c rH
 refine .skip ?_
 ·first
   |exact aD (fy S f1 no cs,a0) ⟨a9,e8.write k4 f1 no cs,hK.write j5 f1 no cs⟩ kE.c.c.c.c.c.c.c.c (aK [3,3,3,3,3])
   |exact aD (S,Ts) ⟨i7,e8.more,hK⟩ kE.c.c.c.c.c.c.c.c rH
 intro x hx
 obtain⟨Z,a0⟩:=x
 obtain⟨a9,f5,g1⟩:=hx
 simp only at a9 f5 g1⊢
 have j6:eH Z:=by obtain⟨L,hw⟩:=f5.wp;exact hw.nH
 have b1:=j6.h0
 have b2:=j6.h1
 have b3:=j6.h2
 obtain⟨t6,t7,t8,p9,q0,m7⟩:=a9.view (R:=sg a0) λp s=>s
 refine au<|.seq<|.sr<|.fa rfl<|.lo rfl<|.zn ?_
 refine bu.dc [(2,_),(7,_),(8,_),(12,_),(14,_),(16,_),(17,_),(18,_)] kE.c.c.c.c.c.c.c.c (X:=List cZ×av) (λy=>HI hb y.1 0 y.2/\WJ y.1 Z (i+1)/\gb nf y.1 Z z) (λ_ E=>E) (λy=>[bl d2 a.enc 53,Tx,y.2,a0,Tm]) ?_ ?_
 refine .cond rfl (λh4=>?_) λh4=>?_
 refine .dz [7] mixed ?_
 refine .tO 0 rfl .move<|.tO 1 rfl .move<|.tO 4 rfl (.fieldAddr rfl) ?_
 refine .tO 5 rfl (.loadT rfl) ?_
 refine .sT 2 rfl ?_
 refine .aQ ((m7.mono λb o hb=>.inr (by have g3:(b,o)∈a0:=hb;simp[g3])).head) (λu m=>?_)
 subst m
 refine .nil (Next.sub ?_)
 refine .tO 3 rfl (.u64 (Z.head+1) .add ⟨rfl,by omega,by omega⟩) ?_
 refine .sT 6 rfl ?_
 refine .dx ((yj a.c R d9.c).weaken dt) (λu Tf m=>?_)
 obtain⟨c',rfl,i9,n5⟩:=m
 have r7:One c'.vs:=RS.ay i9.ss
 have r8:One c'.vc:=RS.ay i9.sc
 have r9:cM c'.enc:=⟨i9.dl⟩
 refine .nil (Next.sub ?_)
 refine .sT 7 rfl ?_
 refine .tF (yK hb es 0 Th i6 (by have:=e8.n;omega) (Z.head+1) c' _ (i9.mono λb o hb=>hb.elim .inl λhb=>.inr (by simp[hb]))) (λu a1 m=>?_)
 obtain⟨rfl,m3,m4⟩:=m
 obtain⟨J,b5,c0,e7⟩:∃J,HI hb J 0 a1/\WJ J Z (i+1)/\gb nf J Z z:=by
  by_cases hz:nt es (Z.head+1) c'.plain=0
  ·obtain⟨e,d3,d0,l7⟩:=m3 hz
   obtain⟨p8,j7⟩:=l7.view (R:=sg a1) λp s=>s
   have g4:=j7.all e (by simp)
   exact⟨es++[e],l7,f5.add e8.n k4 (by rw[d0,n5];exact xk _) ⟨g4.ok,g4.eq⟩,g1.add (by omega)⟩
  ·exact⟨es,m4 hz,f5,g1⟩
 refine .nil (Next.mod rfl ?_)
 refine RA.nil (by kernel_rfl) ?_
 ·first
   |exact aD (J,a1) ⟨b5,c0,e7⟩ kE.c.c.c.c.c.c.c.c (aK [1,1,1,1,1])
   |exact aD (es,Th) ⟨i6,f5,g1⟩ kE.c.c.c.c.c.c.c.c rH
 refine .skip ?_
 ·first
   |exact aD (J,a1) ⟨b5,c0,e7⟩ kE.c.c.c.c.c.c.c.c (aK [1,1,1,1,1])
   |exact aD (es,Th) ⟨i6,f5,g1⟩ kE.c.c.c.c.c.c.c.c rH
 intro x hx
 obtain⟨J,a1⟩:=x
 obtain⟨b5,c0,e7⟩:=hx
 simp only at b5 c0 e7⊢
 refine au<|.seq<|.sr<|.fa rfl<|.lo rfl<|.zn ?_
 refine bu.dc [(2,_),(7,_),(8,_),(12,_),(14,_),(16,_),(17,_),(18,_)] kE.c.c.c.c.c.c.c.c (X:=(Mem.PM×List (Mem.bJ×Bool))×(av×av)) (λy=>Mem.Inv n y.1.1 y.1.2/\Mem.PM.is bm y.1.1 y.2.1/\Mem.cb.is bx (Mem.cb.of n y.1.2) y.2.2/\gb nf J Z y.1.2/\y.1.1.dh=M.dh) (λ_ E=>E) (λy=>[bl d2 a.enc 53,y.2.2,a1,a0,y.2.1]) ?_ ?_
 refine .cond rfl (λh5=>?_) λh5=>?_
 refine .sr<|.mo rfl<|.fa rfl<|.lo rfl ?_
 refine .dT (Mem.Ml bm M Tm hM a.rev R n0) (λu i5 m=>?_)
 obtain⟨rfl,g2⟩:=m
 refine .zn<|.region<|.mo rfl<|.fa rfl<|.lo rfl ?_
 refine .dT (Mem.OT bx (Mem.cb.of n z) Tx hX a.rev R o8 n4) (λu a2 m=>?_)
 obtain⟨rfl,b0⟩:=m
 rw[Mem.Rb]at b0
 refine .nil ?_
 ·first
   |exact aD ((_,z.filter (Mem.keeps a.rev)),(i5,a2)) ⟨hI.forget a.rev,g2,b0,e7.sub λp s=>(List.mem_filter.1 s).1,rfl⟩ ((((((((kE.d rfl).d rfl).d rfl).d rfl).d rfl).d rfl).d rfl).d rfl) rH
   |exact aD ((M,z),(Tm,Tx)) ⟨hI,hM,hX,e7,rfl⟩ kE.c.c.c.c.c.c.c.c rH
 refine .skip ?_
 ·first
   |exact aD ((_,z.filter (Mem.keeps a.rev)),(i5,a2)) ⟨hI.forget a.rev,g2,b0,e7.sub λp s=>(List.mem_filter.1 s).1,rfl⟩ ((((((((kE.d rfl).d rfl).d rfl).d rfl).d rfl).d rfl).d rfl).d rfl) rH
   |exact aD ((M,z),(Tm,Tx)) ⟨hI,hM,hX,e7,rfl⟩ kE.c.c.c.c.c.c.c.c rH
 intro x hx
 obtain⟨⟨B,V⟩,⟨i5,a2⟩⟩:=x
 obtain⟨D,g2,b0,c6,e3⟩:=hx
 simp only at D g2 b0 c6 e3⊢
 have q9:V.length<=65536:=by have:=D.le;omega
 have n1:B.dK.length<=1000000:=by rw[D.dK,agI];omega
 have k8:(Mem.cb.of n V).qs.length<=1000000:=by simp only[Mem.cb.of,agI];omega
 have j9:(Mem.cb.of n V).bs.length=(Mem.cb.of n V).qs.length:=by simp[Mem.cb.of]
 obtain⟨L,hw⟩:=c0.wp
 obtain⟨val,tot,p4,hT⟩:=hw.Q4 l8 g8 a.k a.us
 obtain⟨vl,hV⟩:=b5.view (R:=λb o=>(b,o)∈a1\/(b,o)∈a0) λp s=>.inl s
 obtain⟨t5,vf,vr,Mf,Mr,l5⟩:=a9.view (R:=λb o=>(b,o)∈a1\/(b,o)∈a0) λp s=>.inr s
 have j0:=λ(R':aA) (d8:∀b o,((b,o)∈a1\/(b,o)∈a0)->R' b o) b n3=>Nl (hV.mono d8) (l5.mono d8) hw l8 g8 hT n2 b n3
 have j8:=hV.at_ a.rev ⟨by omega,by have:=hw.n;omega⟩
 obtain⟨q,hq⟩:∃q:Mem.bJ,q=⟨a.rev,fB J 0 a.rev,a.k.os,a.k.oi,a.k.rel,a.us⟩:=⟨_,rfl⟩
 have j3:Value.agg q.enc.toArray=.agg [.int .u64 a.rev,.int .i64 (fB J 0 a.rev),.string a.k.os,.string a.k.oi,.string a.k.rel,.string a.us].toArray:=by rw[hq];rfl
 obtain⟨out,j2⟩:∃out,out=kA a.us a.b (scan Z a.rev) val tot:=⟨_,rfl⟩
 obtain⟨mc,j1⟩:∃mc,mc=mj B q a.b (scan Z a.rev) out:=⟨_,rfl⟩
 have k7:=λR' d8 T m8=>Nn (R:=R') (hV.mono d8) (l5.mono d8) hw a.rev a.k a.us a.b out (by rw[j2];exact j0 R' d8 a.b l6) bm B T m8 n1 ⟨by omega,by omega⟩
 rw[<-hq, <-j1]at k7
 have k2:=λR' d8=>j0 R' d8 a.b l6
 rw[<-j2]at k2
 obtain⟨en,k3⟩:∃en,en=kA a.us 1048576 (scan Z a.rev) val tot:=⟨_,rfl⟩
 have e9:=λR' d8=>j0 R' d8 1048576 (by omega)
 rw[<-k3]at e9
 have k1:=λat_ j8=>Nk D c6 hw (q:=q) (val:=val) (tot:=tot) (by rw[hq];exact hT) p4 (b:=a.b) (at_:=at_) j8 (out:=out) (by rw[hq];exact j2) (mc:=mc) (by rw[hq]at j1⊢;exact j1)
 have o9:q.rev=a.rev:=by rw[hq]
 have p0:q.user=a.us:=by rw[hq]
 rw[o9,p0, <-k3]at k1
 obtain⟨p7,r⟩:=mc
 obtain⟨f,fe⟩:=p7
 obtain⟨a6,ge⟩:=out
 obtain⟨f4,je⟩:=en
 simp only at k7 k2 e9 k1
 clear j0 j2 j1 k3
 refine au<|.sr<|.mo rfl<|.mo rfl<|.mo rfl<|.fa rfl<|.lo rfl<|.fa rfl<|.q (.loadT rfl) ?_
 refine .fa rfl<|.lo rfl<|.fa rfl<|.lo rfl<|.fa rfl<|.lo rfl ?_
 refine .tF (k7 _ (λb o hb=>.inr (by rcases hb with hb|hb<;>simp[hb])) i5 g2) (λu I m=>?_)
 obtain⟨rfl,U⟩:=m
 refine .mo rfl<|.q .extract<|.q .extract<|.ag rfl<|.ag rfl<|.z<|.mo rfl<|.mo rfl<|.fa rfl<|.lo rfl<|.fa rfl<|.q (.loadT rfl) ?_
 refine .fa rfl<|.lo rfl<|.fa rfl<|.lo rfl<|.fa rfl<|.lo rfl ?_
 refine .aQ (k2 _ λb o hb=>.inr (by rcases hb with hb|hb<;>simp[hb])) (λu m=>?_)
 subst m
 refine .mo rfl<|.q .extract<|.q .extract<|.ag rfl<|.ag rfl<|.z<|.mo rfl<|.fa rfl<|.lo rfl ?_
 refine .dx (j8.weaken λb o hb=>.inr (by rcases hb with hb|hb<;>simp[hb])) (λu Tc m=>?_)
 obtain⟨c9,rfl,k0,_⟩:=m
 have s0:One c9.vs:=RS.ay k0.ss
 have s1:One c9.vc:=RS.ay k0.sc
 have r3:cM c9.enc:=⟨k0.dl⟩
 obtain⟨vq,vb,Tq,Tb,i8,hQ,hB⟩:=id b0
 have o2:sg a2 bx (.cells [.int .i64 n,vq,vb].toArray 72 (0,0)):=by rw[i8];simp[sg,Mem.cb.of]
 have q6:PS a2 (pT bx) [.int .i64 n,vq,vb]:=⟨PC.of o2⟩
 have s8:One vq:=hQ.ay
 have s9:One vb:=hB.ay
 have m5:RS (sg a2) 6 Mem.bJ.enc vq (Mem.cb.of n V).qs:=hQ.rs λp s=>by rw[i8];simp[sg,s]
 have g0:RS (sg a2) 1 Mem.mG vb (Mem.cb.of n V).bs:=hB.rs λp s=>by rw[i8];simp[sg,s]
 refine .mo rfl<|.q .extract<|.q .extract ?_
 refine .cq (λq2=>?_)
 refine .bZ rfl rfl<|.ag rfl<|.z<|.fa rfl<|.lo rfl<|.mo rfl<|.fa rfl<|.q (.loadT rfl) ?_
 refine .fa rfl<|.lo rfl<|.fa rfl<|.lo rfl ?_
 refine .q .dw ?_
 refine .cq (λe2=>?_)
 refine .bZ rfl rfl<|.z<|.mo rfl<|.q (.aL rfl) ?_
 refine .aQ (show Spec prog 28 [pT bx,.agg [.int .u64 a.rev,.int .i64 (fB J 0 a.rev),.string a.k.os,.string a.k.oi,.string a.k.rel,.string a.us].toArray] _ [] _ by rw[<-j3];exact Mem.find_spec bx (Mem.cb.of n V) vq vb q _ ⟨.inr (by rw[i8];simp[Mem.cb.of]),m5.mono (λb o hb=>.inr (by have g3:(b,o)∈a2:=hb;simp[g3])),g0.mono (λb o hb=>.inr (by have g3:(b,o)∈a2:=hb;simp[g3]))⟩) (λu m=>?_)
 obtain⟨k,rfl,hk⟩:∃k:Int,u=.int .i64 k/\((∃(l:Nat),k=l/\(V.map (·.1))[l]? =some q)\/(k= -1/\q∉V.map (·.1))):=by
  rcases m with⟨l,h1,h2⟩|⟨h1,h2⟩
  ·exact⟨l,h2,.inl ⟨l,rfl,h1⟩⟩
  ·exact⟨-1,h2,.inr ⟨rfl,h1⟩⟩
 obtain⟨cA,cB,cC,cD⟩:=k1 k hk
 have k6:k<0->q∉V.map (·.1):=λh9=>by
  rcases hk with⟨l,rfl,_⟩|⟨_,C⟩
  ·omega
  ·exact C
 have q4:¬k<0->0<=k:=λh9=>by omega
 refine .ag rfl<|.zs<|.sr<|.mo rfl<|.q .geq<|.mo rfl ?_
 refine .split (t:=160) rfl (λb4=>?_) (λb4=>?_)
 refine .gT b4<|.mo rfl<|.gT b4<|.q .cr<|.gT b4<|.mo rfl ?_
 refine .split (t:=163) rfl (λc8=>?_) (λc8=>?_)
 refine .gF c8<|.gF c8<|.gT b4<|.q (.aU c8) ?_
 refine .q (.aU b4) ?_
 refine .zn ?_
 refine bu.dc [(2,_),(7,_),(8,_),(12,_),(14,_),(17,_),(18,_),(20,_),(21,_),(22,_),(23,_),(26,_),(27,_)] kE.c.c.c.c.c.c.c.c.c.c.c.c.c (X:=Unit) (λ_=>fe=0/\f=val/\0<=k/\r=⟨B.size,B.kept,B.dK,B.dh+1⟩\/(f,fe)=(a6,ge)/\r.dh=B.dh/\(ge=0/\k<0/\r=B.put q a6/\q∉V.map (·.1)\/ge≠0/\r=B)) (λ_ E=>(16,.int .i64 r.dh)::E) (λ_=>[bl e2 [.int .u64 a.rev,.int .i64 (fB J 0 a.rev),.string a.k.os,.string a.k.oi,.string a.k.rel,.string a.us] 67,bl d2 a.enc 53,a2,a1,a0,I]) ?_ ?_
 refine .gL ?_
 have f2:0<=k/\(ge=0\/ge=16):=⟨cL b4,by first|exact .inl (by simpa using c8)|exact .inr (by simpa using h6)⟩
 obtain⟨⟨l,k5,e4⟩,c4,k9⟩:=cA f2
 obtain⟨⟨rfl,rfl⟩,rfl⟩:(f=val/\fe=0)/\r=⟨B.size,B.kept,B.dK,B.dh+1⟩:=by simpa using c4
 subst k5
 have e4:(Mem.cb.of n V).bs[l]? =some f:=e4
 have py:PS a2 (eO vb (l*1)) (Mem.mG f):=⟨g0.pc e4⟩
 refine .sr<|.mo rfl ?_
 refine .q (.i64 (B.dh+1:Int) .add ⟨by rw[e3],by omega,by omega⟩) ?_
 refine .ag rfl<|.z<|.mo rfl<|.q .de<|.mo rfl ?_
 refine .split (t:=172) rfl (λa5=>?_) (λa5=>?_)
 ·simp at a5
 refine .gT a5<|.mo rfl<|.gT a5<|.mo rfl<|.gT a5<|.nc rfl<|.gT a5<|.fa rfl<|.gT a5<|.lo rfl<|.gT a5<|.mo rfl<|.gT a5<|.q (.bF l g0 e4 rfl rfl rfl) ?_
 refine .gT a5<|.lo rfl<|.gT a5<|.q .kY<|.q (.aN a5) ?_
 refine .mo rfl ?_
 refine .split (t:=183) rfl (λa8=>?_) (λa8=>?_)
 ·simp at a8
 refine .gT a8<|.mo rfl<|.gT a8<|.q .cr<|.gT a8<|.mo rfl ?_
 refine .split (t:=186) rfl (λa7=>?_) (λa7=>?_)
 refine .gT a7<|.mo rfl<|.gT a7<|.mo rfl<|.gT a7<|.q .kY<|.gT a8<|.q (.aU a7) ?_
 refine .q (.aN a8) ?_
 refine .zn ?_
 refine .cond rfl (λh7=>?_) λh7=>?_
 ·exfalso
  first
   |(rw[k9 (by simpa using a7)]at h7;simp at h7)
   |simp at h7
 refine .skip ?_
 ·first
   |exact aD () (.inl ⟨rfl,rfl,by omega,rfl⟩) kE.c.c.c.c.c.c.c.c.c.c.c.c.c.c (aK [0,2,2,2,2,2])
   |exact aD () (.inr ⟨c4,d1,f3⟩) (by rw[d1,e3];exact kE.c.c.c.c.c.c.c.c.c.c.c.c.c.c) (aK [0,2,2,2,2,2])
 refine .gF a7<|.gF a7<|.gF a7<|.gT a8<|.q (.aN a7) ?_
 refine .q (.aN a8) ?_
 refine .zn<|.dA<|.skip ?_
 ·first
   |exact aD () (.inl ⟨rfl,rfl,by omega,rfl⟩) kE.c.c.c.c.c.c.c.c.c.c.c.c.c.c (aK [0,2,2,2,2,2])
   |exact aD () (.inr ⟨c4,d1,f3⟩) (by rw[d1,e3];exact kE.c.c.c.c.c.c.c.c.c.c.c.c.c.c) (aK [0,2,2,2,2,2])
 intro x hx
 have c7:fe=0/\f=val/\0<=k/\r=⟨B.size,B.kept,B.dK,B.dh+1⟩\/(f,fe)=(a6,ge)/\r.dh=B.dh/\(ge=0/\k<0/\r=B.put q a6/\q∉V.map (·.1)\/ge≠0/\r=B):=hx
 have a4:0<=r.dh/\r.dh<=i+1:=by
  rcases c7 with⟨_,_,_,rfl⟩|⟨_,h9,_⟩
  ·simp only;omega
  ·omega
 refine au<|.seq<|.sr<|.mo rfl<|.q .cr<|.mo rfl ?_
 refine .split (t:=202) rfl (λQ=>?_) (λQ=>?_)
 refine .gT Q<|.mo rfl<|.gT Q<|.q .lss<|.q (.aU Q) ?_
 refine .zn ?_
 refine bu.dc [(2,_),(7,_),(8,_),(12,_),(14,_),(16,_),(17,_),(18,_),(20,_),(21,_)] kE.c.c.c.c.c.c.c.c.c.c (X:=List (Mem.bJ×Bool)×av) (λy=>Mem.Inv n r y.1/\Mem.cb.is bx (Mem.cb.of n y.1) y.2/\gb nf J Z y.1) (λ_ E=>E) (λy=>[bl e2 [.int .u64 a.rev,.int .i64 (fB J 0 a.rev),.string a.k.os,.string a.k.oi,.string a.k.rel,.string a.us] 67,bl d2 a.enc 53,y.2,a1,a0,I]) ?_ ?_
 refine .cond rfl (λh9=>?_) λh9=>?_
 have f0:ge=0:=by simpa using Q
 have g5:k<0:=by simpa using h9
 have d4:r=B.put q a6:=by
  rcases c7 with⟨_,_,C,_⟩|⟨_,_,⟨_,_,C,_⟩|⟨C,_⟩⟩
  ·omega
  ·exact C
  ·exact absurd f0 C
 refine .region<|.mo rfl<|.q (.aL rfl)<|.mo rfl ?_
 refine .dT (show Spec prog 29 [pT bx,.agg [.int .u64 a.rev,.int .i64 (fB J 0 a.rev),.string a.k.os,.string a.k.oi,.string a.k.rel,.string a.us].toArray,.bool a6] _ [a2] _ by rw[<-j3];exact Mem.vC bx (Mem.cb.of n V) a2 b0 q a6 R k8 j9) (λu H m=>?_)
 obtain⟨rfl,l9,O,g7⟩:=m
 obtain⟨z',N,rfl,g9⟩:=tm D (k6 g5) g7
 have Y:gb nf J Z z':=λp s=>(g9 p s).elim (c6 p) λe=>by
  have C:=cD f0 g8 p e
  exact C
 refine .nil ?_
 ·first
   |exact aD (z',H) ⟨by rw[d4];exact N,O,Y⟩ kE.c.c.c.c.c.c.c.c.c.c rH
   |exact aD (V,a2) ⟨c5,b0,c6⟩ kE.c.c.c.c.c.c.c.c.c.c rH
 have c5:Mem.Inv n r V:=by
  rcases c7 with⟨_,_,_,rfl⟩|⟨_,_,⟨h7,C,_⟩|⟨_,C⟩⟩
  ·exact⟨⟨D.ms,D.dK,D.nd,D.kn,D.get,D.ky⟩,D.le⟩
  ·exfalso
   first
    |(rw[h7]at Q;simp at Q;done)
    |exact bI h9 C
  ·rw[C];exact D
 refine .skip ?_
 ·first
   |exact aD (z',H) ⟨by rw[d4];exact N,O,Y⟩ kE.c.c.c.c.c.c.c.c.c.c rH
   |exact aD (V,a2) ⟨c5,b0,c6⟩ kE.c.c.c.c.c.c.c.c.c.c rH
 intro x hx
 obtain⟨z3,H⟩:=x
 obtain⟨N,O,Y⟩:=hx
 simp only at N O Y⊢
 obtain⟨a3,c2,f7,f6,b8,b6,f9⟩:=id O
 have d7:sg H bx (.cells [.int .i64 n,a3,c2].toArray 72 (0,0)):=by rw[b8];simp[sg,Mem.cb.of]
 have g6:PS H (pT bx) [.int .i64 n,a3,c2]:=⟨PC.of d7⟩
 have i0:One a3:=b6.ay
 have b7:RS (sg H) 6 Mem.bJ.enc a3 (Mem.cb.of n z3).qs:=b6.rs λp s=>by rw[b8];simp[sg,s]
 have c1:r.kept.length=(Mem.cb.of n z3).qs.length:=by rw[N.len];simp[Mem.cb.of]
 refine au<|.sr<|.mo rfl<|.mo rfl<|.fa rfl<|.lo rfl<|.fa rfl<|.q (.loadT rfl) ?_
 refine .fa rfl<|.lo rfl<|.fa rfl<|.lo rfl ?_
 refine .aQ (e9 _ λb o hb=>.inr (by rcases hb with hb|hb<;>simp[hb])) (λu m=>?_)
 subst m
 refine .mo rfl<|.q .extract<|.q .extract<|.ag rfl<|.ag rfl<|.zs<|.dz [] mixed ?_
 refine .tO 0 rfl .move<|.tO 1 rfl .cr<|.tO 2 rfl .move ?_
 refine RA.split (t:=226) rfl (λA=>?_) (λA=>?_)
 have d6:fe=0:=by simpa using A
 have d5:f4=f/\je=0:=by simpa using cC d6
 obtain⟨d3,d0⟩:=d5
 subst d0
 refine .bC 3 rfl rfl A .move (by kernel_rfl) ?_
 refine .bC 4 rfl rfl A .de (by kernel_rfl) ?_
 refine .bC 5 rfl rfl A .move (by kernel_rfl) ?_
 refine RA.split (t:=229) rfl (λK=>?_) (λK=>?_)
 ·simp at K
 refine .bC 6 rfl rfl K .move (by kernel_rfl) ?_
 refine .bC 7 rfl rfl K .move (by kernel_rfl) ?_
 refine .bC 8 rfl rfl K .kY (by kernel_rfl) ?_
 refine .bC 9 rfl rfl A (.aN K) (by kernel_rfl) ?_
 refine .tO 10 rfl (.aU A) ?_
 refine .tO 11 rfl .move ?_
 refine RA.split (t:=235) rfl (λF=>?_) (λF=>?_)
 ·exfalso
  rw[d3]at F;simp at F
 refine .bC 12 rfl rfl F .move (by kernel_rfl) ?_
 refine .bC 14 rfl rfl F .move (by kernel_rfl) ?_
 refine .sT 13 rfl ?_
 refine .gT F ?_
 refine .aQ (kW bm r I U _ (λp s=>.inr (by simp[s]))) (λu m=>?_)
 subst m
 refine .nil (Next.sub ?_)
 refine .bC 15 rfl rfl F .de (by kernel_rfl) ?_
 refine .tO 16 rfl (.aN F) ?_
 refine .tO 17 rfl .move ?_
 refine RA.split (t:=241) rfl (λj=>?_) (λj=>?_)
 ·simp at j
 refine .bC 18 rfl rfl j .move (by kernel_rfl) ?_
 refine .bC 20 rfl rfl j .move (by kernel_rfl) ?_
 refine .bC 21 rfl rfl j (.nilCheck rfl) (by kernel_rfl) ?_
 refine .bC 22 rfl rfl j (.fieldAddr rfl) (by kernel_rfl) ?_
 refine .bC 23 rfl rfl j (.cI rfl) (by kernel_rfl) ?_
 refine .bC 24 rfl rfl j (.bK b7) (by kernel_rfl) ?_
 refine .sT 19 rfl ?_
 refine .gT j ?_
 refine .aQ (Mem.kT bm r I U _ (λp s=>.inr (by simp[s]))) (λu m=>?_)
 subst m
 refine .nil (Next.sub ?_)
 refine .bC 25 rfl rfl j .de (by kernel_rfl) ?_
 refine .tO 26 rfl (.aN j) ?_
 refine RA.nil (by kernel_rfl) ?_
 refine au ?_
 refine .cond rfl (λW=>?_) λW=>?_
 ·exfalso
  simp[c1]at W
 refine .skip<|ba<|au<|.region<|.mo rfl ?_
 refine .ia (i+1) .add ?_
 refine .ag rfl<|.nil ?_
 ·exact bp (i+1,(J,Z),(r,z3),(a1,a0,I,H)) ⟨⟨by simp only;omega,by simp only;omega⟩,b5,a9,c0,N,U,O,Y,a4.1,by have:=a4.2;simp only;omega⟩ (by simp only;omega) kE.c.c.c.c.c.c.c (aK [2,2,2,2])
 refine .ff 3 rfl rfl A rfl (by kernel_rfl) ?_
 refine .ff 4 rfl rfl A rfl (by kernel_rfl) ?_
 refine .ff 5 rfl rfl A rfl (by kernel_rfl) ?_
 refine .iM 6 rfl rfl (by kernel_rfl) ?_
 refine .iM 7 rfl rfl (by kernel_rfl) ?_
 refine .iM 8 rfl rfl (by kernel_rfl) ?_
 refine .ff 9 rfl rfl A rfl (by kernel_rfl) ?_
 refine .tO 10 rfl (.aN A) ?_
 refine .tO 11 rfl .move ?_
 refine .iB 12 rfl rfl .move (by kernel_rfl) ?_
 refine .iB 14 rfl rfl .move (by kernel_rfl) ?_
 refine .sT 13 rfl ?_
 refine .gt rfl ?_
 refine .aQ (kW bm r I U _ (λp s=>.inr (by simp[s]))) (λu m=>?_)
 subst m
 refine .nil (Next.sub ?_)
 refine .iB 15 rfl rfl .de (by kernel_rfl) ?_
 refine .tO 16 rfl .dq<|.tO 17 rfl .move ?_
 refine RA.split (t:=241) rfl (λj=>?_) (λj=>?_)
 ·simp at j
 refine .bC 18 rfl rfl j .move (by kernel_rfl) ?_
 refine .bC 20 rfl rfl j .move (by kernel_rfl) ?_
 refine .bC 21 rfl rfl j (.nilCheck rfl) (by kernel_rfl) ?_
 refine .bC 22 rfl rfl j (.fieldAddr rfl) (by kernel_rfl) ?_
 refine .bC 23 rfl rfl j (.cI rfl) (by kernel_rfl) ?_
 refine .bC 24 rfl rfl j (.bK b7) (by kernel_rfl) ?_
 refine .sT 19 rfl ?_
 refine .gT j ?_
 refine .aQ (Mem.kT bm r I U _ (λp s=>.inr (by simp[s]))) (λu m=>?_)
 subst m
 refine .nil (Next.sub ?_)
 refine .bC 25 rfl rfl j .de (by kernel_rfl) ?_
 refine .tO 26 rfl (.aN j) ?_
 refine RA.nil (by kernel_rfl) ?_
 refine au ?_
 refine .cond rfl (λW=>?_) λW=>?_
 ·exfalso
  simp[c1]at W
 refine .skip<|ba<|au<|.region<|.mo rfl ?_
 refine .ia (i+1) .add ?_
 refine .ag rfl<|.nil ?_
 ·exact bp (i+1,(J,Z),(r,z3),(a1,a0,I,H)) ⟨⟨by simp only;omega,by simp only;omega⟩,b5,a9,c0,N,U,O,Y,a4.1,by have:=a4.2;simp only;omega⟩ (by simp only;omega) kE.c.c.c.c.c.c.c (aK [2,2,2,2])
 refine .gF Q<|.gF Q<|.q (.aN Q) ?_
 refine .zn ?_
 refine bu.dc [(2,_),(7,_),(8,_),(12,_),(14,_),(16,_),(17,_),(18,_),(20,_),(21,_)] kE.c.c.c.c.c.c.c.c.c.c (X:=List (Mem.bJ×Bool)×av) (λy=>Mem.Inv n r y.1/\Mem.cb.is bx (Mem.cb.of n y.1) y.2/\gb nf J Z y.1) (λ_ E=>E) (λy=>[bl e2 [.int .u64 a.rev,.int .i64 (fB J 0 a.rev),.string a.k.os,.string a.k.oi,.string a.k.rel,.string a.us] 67,bl d2 a.enc 53,y.2,a1,a0,I]) ?_ ?_
 refine .dA ?_
 have c5:Mem.Inv n r V:=by
  rcases c7 with⟨_,_,_,rfl⟩|⟨_,_,⟨h7,C,_⟩|⟨_,C⟩⟩
  ·exact⟨⟨D.ms,D.dK,D.nd,D.kn,D.get,D.ky⟩,D.le⟩
  ·exfalso
   first
    |(rw[h7]at Q;simp at Q;done)
    |exact bI h9 C
  ·rw[C];exact D
 refine .skip ?_
 ·first
   |exact aD (z',H) ⟨by rw[d4];exact N,O,Y⟩ kE.c.c.c.c.c.c.c.c.c.c rH
   |exact aD (V,a2) ⟨c5,b0,c6⟩ kE.c.c.c.c.c.c.c.c.c.c rH
 intro x hx
 obtain⟨z3,H⟩:=x
 obtain⟨N,O,Y⟩:=hx
 simp only at N O Y⊢
 obtain⟨a3,c2,f7,f6,b8,b6,f9⟩:=id O
 have d7:sg H bx (.cells [.int .i64 n,a3,c2].toArray 72 (0,0)):=by rw[b8];simp[sg,Mem.cb.of]
 have g6:PS H (pT bx) [.int .i64 n,a3,c2]:=⟨PC.of d7⟩
 have i0:One a3:=b6.ay
 have b7:RS (sg H) 6 Mem.bJ.enc a3 (Mem.cb.of n z3).qs:=b6.rs λp s=>by rw[b8];simp[sg,s]
 have c1:r.kept.length=(Mem.cb.of n z3).qs.length:=by rw[N.len];simp[Mem.cb.of]
 refine au<|.sr<|.mo rfl<|.mo rfl<|.fa rfl<|.lo rfl<|.fa rfl<|.q (.loadT rfl) ?_
 refine .fa rfl<|.lo rfl<|.fa rfl<|.lo rfl ?_
 refine .aQ (e9 _ λb o hb=>.inr (by rcases hb with hb|hb<;>simp[hb])) (λu m=>?_)
 subst m
 refine .mo rfl<|.q .extract<|.q .extract<|.ag rfl<|.ag rfl<|.zs<|.dz [] mixed ?_
 refine .tO 0 rfl .move<|.tO 1 rfl .cr<|.tO 2 rfl .move ?_
 refine RA.split (t:=226) rfl (λA=>?_) (λA=>?_)
 have d6:fe=0:=by simpa using A
 have d5:f4=f/\je=0:=by simpa using cC d6
 obtain⟨d3,d0⟩:=d5
 subst d0
 refine .bC 3 rfl rfl A .move (by kernel_rfl) ?_
 refine .bC 4 rfl rfl A .de (by kernel_rfl) ?_
 refine .bC 5 rfl rfl A .move (by kernel_rfl) ?_
 refine RA.split (t:=229) rfl (λK=>?_) (λK=>?_)
 ·simp at K
 refine .bC 6 rfl rfl K .move (by kernel_rfl) ?_
 refine .bC 7 rfl rfl K .move (by kernel_rfl) ?_
 refine .bC 8 rfl rfl K .kY (by kernel_rfl) ?_
 refine .bC 9 rfl rfl A (.aN K) (by kernel_rfl) ?_
 refine .tO 10 rfl (.aU A) ?_
 refine .tO 11 rfl .move ?_
 refine RA.split (t:=235) rfl (λF=>?_) (λF=>?_)
 ·exfalso
  rw[d3]at F;simp at F
 refine .bC 12 rfl rfl F .move (by kernel_rfl) ?_
 refine .bC 14 rfl rfl F .move (by kernel_rfl) ?_
 refine .sT 13 rfl ?_
 refine .gT F ?_
 refine .aQ (kW bm r I U _ (λp s=>.inr (by simp[s]))) (λu m=>?_)
 subst m
 refine .nil (Next.sub ?_)
 refine .bC 15 rfl rfl F .de (by kernel_rfl) ?_
 refine .tO 16 rfl (.aN F) ?_
 refine .tO 17 rfl .move ?_
 refine RA.split (t:=241) rfl (λj=>?_) (λj=>?_)
 ·simp at j
 refine .bC 18 rfl rfl j .move (by kernel_rfl) ?_
 refine .bC 20 rfl rfl j .move (by kernel_rfl) ?_
 refine .bC 21 rfl rfl j (.nilCheck rfl) (by kernel_rfl) ?_
 refine .bC 22 rfl rfl j (.fieldAddr rfl) (by kernel_rfl) ?_
 refine .bC 23 rfl rfl j (.cI rfl) (by kernel_rfl) ?_
 refine .bC 24 rfl rfl j (.bK b7) (by kernel_rfl) ?_
 refine .sT 19 rfl ?_
 refine .gT j ?_
 refine .aQ (Mem.kT bm r I U _ (λp s=>.inr (by simp[s]))) (λu m=>?_)
 subst m
 refine .nil (Next.sub ?_)
 refine .bC 25 rfl rfl j .de (by kernel_rfl) ?_
 refine .tO 26 rfl (.aN j) ?_
 refine RA.nil (by kernel_rfl) ?_
 refine au ?_
 refine .cond rfl (λW=>?_) λW=>?_
 ·exfalso
  simp[c1]at W
 refine .skip<|ba<|au<|.region<|.mo rfl ?_
 refine .ia (i+1) .add ?_
 refine .ag rfl<|.nil ?_
 ·exact bp (i+1,(J,Z),(r,z3),(a1,a0,I,H)) ⟨⟨by simp only;omega,by simp only;omega⟩,b5,a9,c0,N,U,O,Y,a4.1,by have:=a4.2;simp only;omega⟩ (by simp only;omega) kE.c.c.c.c.c.c.c (aK [2,2,2,2])
 refine .ff 3 rfl rfl A rfl (by kernel_rfl) ?_
 refine .ff 4 rfl rfl A rfl (by kernel_rfl) ?_
 refine .ff 5 rfl rfl A rfl (by kernel_rfl) ?_
 refine .iM 6 rfl rfl (by kernel_rfl) ?_
 refine .iM 7 rfl rfl (by kernel_rfl) ?_
 refine .iM 8 rfl rfl (by kernel_rfl) ?_
 refine .ff 9 rfl rfl A rfl (by kernel_rfl) ?_
 refine .tO 10 rfl (.aN A) ?_
 refine .tO 11 rfl .move ?_
 refine .iB 12 rfl rfl .move (by kernel_rfl) ?_
 refine .iB 14 rfl rfl .move (by kernel_rfl) ?_
 refine .sT 13 rfl ?_
 refine .gt rfl ?_
 refine .aQ (kW bm r I U _ (λp s=>.inr (by simp[s]))) (λu m=>?_)
 subst m
 refine .nil (Next.sub ?_)
 refine .iB 15 rfl rfl .de (by kernel_rfl) ?_
 refine .tO 16 rfl .dq<|.tO 17 rfl .move ?_
 refine RA.split (t:=241) rfl (λj=>?_) (λj=>?_)
 ·simp at j
 refine .bC 18 rfl rfl j .move (by kernel_rfl) ?_
 refine .bC 20 rfl rfl j .move (by kernel_rfl) ?_
 refine .bC 21 rfl rfl j (.nilCheck rfl) (by kernel_rfl) ?_
 refine .bC 22 rfl rfl j (.fieldAddr rfl) (by kernel_rfl) ?_
 refine .bC 23 rfl rfl j (.cI rfl) (by kernel_rfl) ?_
 refine .bC 24 rfl rfl j (.bK b7) (by kernel_rfl) ?_
 refine .sT 19 rfl ?_
 refine .gT j ?_
 refine .aQ (Mem.kT bm r I U _ (λp s=>.inr (by simp[s]))) (λu m=>?_)
 subst m
 refine .nil (Next.sub ?_)
 refine .bC 25 rfl rfl j .de (by kernel_rfl) ?_
 refine .tO 26 rfl (.aN j) ?_
 refine RA.nil (by kernel_rfl) ?_
 refine au ?_
 refine .cond rfl (λW=>?_) λW=>?_
 ·exfalso
  simp[c1]at W
 refine .skip<|ba<|au<|.region<|.mo rfl ?_
 refine .ia (i+1) .add ?_
 refine .ag rfl<|.nil ?_
 ·exact bp (i+1,(J,Z),(r,z3),(a1,a0,I,H)) ⟨⟨by simp only;omega,by simp only;omega⟩,b5,a9,c0,N,U,O,Y,a4.1,by have:=a4.2;simp only;omega⟩ (by simp only;omega) kE.c.c.c.c.c.c.c (aK [2,2,2,2])
 refine .gT c8<|.mo rfl<|.gT c8<|.q .cr<|.gT b4<|.q (.aN c8) ?_
 refine .q (.aU b4) ?_
 refine .zn ?_
 refine bu.dc [(2,_),(7,_),(8,_),(12,_),(14,_),(17,_),(18,_),(20,_),(21,_),(22,_),(23,_),(26,_),(27,_)] kE.c.c.c.c.c.c.c.c.c.c.c.c.c (X:=Unit) (λ_=>fe=0/\f=val/\0<=k/\r=⟨B.size,B.kept,B.dK,B.dh+1⟩\/(f,fe)=(a6,ge)/\r.dh=B.dh/\(ge=0/\k<0/\r=B.put q a6/\q∉V.map (·.1)\/ge≠0/\r=B)) (λ_ E=>(16,.int .i64 r.dh)::E) (λ_=>[bl e2 [.int .u64 a.rev,.int .i64 (fB J 0 a.rev),.string a.k.os,.string a.k.oi,.string a.k.rel,.string a.us] 67,bl d2 a.enc 53,a2,a1,a0,I]) ?_ ?_
 refine .cond rfl (λh6=>?_) λh6=>?_
 have f2:0<=k/\(ge=0\/ge=16):=⟨cL b4,by first|exact .inl (by simpa using c8)|exact .inr (by simpa using h6)⟩
 obtain⟨⟨l,k5,e4⟩,c4,k9⟩:=cA f2
 obtain⟨⟨rfl,rfl⟩,rfl⟩:(f=val/\fe=0)/\r=⟨B.size,B.kept,B.dK,B.dh+1⟩:=by simpa using c4
 subst k5
 have e4:(Mem.cb.of n V).bs[l]? =some f:=e4
 have py:PS a2 (eO vb (l*1)) (Mem.mG f):=⟨g0.pc e4⟩
 refine .sr<|.mo rfl ?_
 refine .q (.i64 (B.dh+1:Int) .add ⟨by rw[e3],by omega,by omega⟩) ?_
 refine .ag rfl<|.z<|.mo rfl<|.q .de<|.mo rfl ?_
 refine .split (t:=172) rfl (λa5=>?_) (λa5=>?_)
 ·simp at a5
 refine .gT a5<|.mo rfl<|.gT a5<|.mo rfl<|.gT a5<|.nc rfl<|.gT a5<|.fa rfl<|.gT a5<|.lo rfl<|.gT a5<|.mo rfl<|.gT a5<|.q (.bF l g0 e4 rfl rfl rfl) ?_
 refine .gT a5<|.lo rfl<|.gT a5<|.q .kY<|.q (.aN a5) ?_
 refine .mo rfl ?_
 refine .split (t:=183) rfl (λa8=>?_) (λa8=>?_)
 ·simp at a8
 refine .gT a8<|.mo rfl<|.gT a8<|.q .cr<|.gT a8<|.mo rfl ?_
 refine .split (t:=186) rfl (λa7=>?_) (λa7=>?_)
 refine .gT a7<|.mo rfl<|.gT a7<|.mo rfl<|.gT a7<|.q .kY<|.gT a8<|.q (.aU a7) ?_
 refine .q (.aN a8) ?_
 refine .zn ?_
 refine .cond rfl (λh7=>?_) λh7=>?_
 ·exfalso
  first
   |(rw[k9 (by simpa using a7)]at h7;simp at h7)
   |simp at h7
 refine .skip ?_
 ·first
   |exact aD () (.inl ⟨rfl,rfl,by omega,rfl⟩) kE.c.c.c.c.c.c.c.c.c.c.c.c.c.c (aK [0,2,2,2,2,2])
   |exact aD () (.inr ⟨c4,d1,f3⟩) (by rw[d1,e3];exact kE.c.c.c.c.c.c.c.c.c.c.c.c.c.c) (aK [0,2,2,2,2,2])
 refine .gF a7<|.gF a7<|.gF a7<|.gT a8<|.q (.aN a7) ?_
 refine .q (.aN a8) ?_
 refine .zn<|.dA<|.skip ?_
 ·first
   |exact aD () (.inl ⟨rfl,rfl,by omega,rfl⟩) kE.c.c.c.c.c.c.c.c.c.c.c.c.c.c (aK [0,2,2,2,2,2])
   |exact aD () (.inr ⟨c4,d1,f3⟩) (by rw[d1,e3];exact kE.c.c.c.c.c.c.c.c.c.c.c.c.c.c) (aK [0,2,2,2,2,2])
 have f2:¬(0<=k/\(ge=0\/ge=16)):=by first|exact λhh=>bI b4 hh.1|exact λhh=>hh.2.elim (λe=>by rw[e]at c8;simp at c8) (λe=>by rw[e]at h6;simp at h6)
 obtain⟨c4,d1,f3⟩:=cB f2
 refine .sr<|.mo rfl<|.mo rfl<|.q .de<|.mo rfl ?_
 refine .split (t:=195) rfl (λc3=>?_) (λc3=>?_)
 ·exfalso
  have C:fe=ge:=(Prod.mk.inj c4).2
  rw[C]at c3;simp at c3
 refine .gT c3<|.mo rfl<|.gT c3<|.mo rfl<|.gT c3<|.q .kY<|.q (.aN c3) ?_
 refine .zn ?_
 refine .cond rfl (λC=>?_) λC=>?_
 ·exfalso
  have h9:f=a6:=(Prod.mk.inj c4).1
  rw[h9]at C;simp at C
 refine .skip ?_
 ·first
   |exact aD () (.inl ⟨rfl,rfl,by omega,rfl⟩) kE.c.c.c.c.c.c.c.c.c.c.c.c.c.c (aK [0,2,2,2,2,2])
   |exact aD () (.inr ⟨c4,d1,f3⟩) (by rw[d1,e3];exact kE.c.c.c.c.c.c.c.c.c.c.c.c.c.c) (aK [0,2,2,2,2,2])
 intro x hx
 have c7:fe=0/\f=val/\0<=k/\r=⟨B.size,B.kept,B.dK,B.dh+1⟩\/(f,fe)=(a6,ge)/\r.dh=B.dh/\(ge=0/\k<0/\r=B.put q a6/\q∉V.map (·.1)\/ge≠0/\r=B):=hx
 have a4:0<=r.dh/\r.dh<=i+1:=by
  rcases c7 with⟨_,_,_,rfl⟩|⟨_,h9,_⟩
  ·simp only;omega
  ·omega
 refine au<|.seq<|.sr<|.mo rfl<|.q .cr<|.mo rfl ?_
 refine .split (t:=202) rfl (λQ=>?_) (λQ=>?_)
 refine .gT Q<|.mo rfl<|.gT Q<|.q .lss<|.q (.aU Q) ?_
 refine .zn ?_
 refine bu.dc [(2,_),(7,_),(8,_),(12,_),(14,_),(16,_),(17,_),(18,_),(20,_),(21,_)] kE.c.c.c.c.c.c.c.c.c.c (X:=List (Mem.bJ×Bool)×av) (λy=>Mem.Inv n r y.1/\Mem.cb.is bx (Mem.cb.of n y.1) y.2/\gb nf J Z y.1) (λ_ E=>E) (λy=>[bl e2 [.int .u64 a.rev,.int .i64 (fB J 0 a.rev),.string a.k.os,.string a.k.oi,.string a.k.rel,.string a.us] 67,bl d2 a.enc 53,y.2,a1,a0,I]) ?_ ?_
 refine .cond rfl (λh9=>?_) λh9=>?_
 have f0:ge=0:=by simpa using Q
 have g5:k<0:=by simpa using h9
 have d4:r=B.put q a6:=by
  rcases c7 with⟨_,_,C,_⟩|⟨_,_,⟨_,_,C,_⟩|⟨C,_⟩⟩
  ·omega
  ·exact C
  ·exact absurd f0 C
 refine .region<|.mo rfl<|.q (.aL rfl)<|.mo rfl ?_
 refine .dT (show Spec prog 29 [pT bx,.agg [.int .u64 a.rev,.int .i64 (fB J 0 a.rev),.string a.k.os,.string a.k.oi,.string a.k.rel,.string a.us].toArray,.bool a6] _ [a2] _ by rw[<-j3];exact Mem.vC bx (Mem.cb.of n V) a2 b0 q a6 R k8 j9) (λu H m=>?_)
 obtain⟨rfl,l9,O,g7⟩:=m
 obtain⟨z',N,rfl,g9⟩:=tm D (k6 g5) g7
 have Y:gb nf J Z z':=λp s=>(g9 p s).elim (c6 p) λe=>by
  have C:=cD f0 g8 p e
  exact C
 refine .nil ?_
 ·first
   |exact aD (z',H) ⟨by rw[d4];exact N,O,Y⟩ kE.c.c.c.c.c.c.c.c.c.c rH
   |exact aD (V,a2) ⟨c5,b0,c6⟩ kE.c.c.c.c.c.c.c.c.c.c rH
 have c5:Mem.Inv n r V:=by
  rcases c7 with⟨_,_,_,rfl⟩|⟨_,_,⟨h7,C,_⟩|⟨_,C⟩⟩
  ·exact⟨⟨D.ms,D.dK,D.nd,D.kn,D.get,D.ky⟩,D.le⟩
  ·exfalso
   first
    |(rw[h7]at Q;simp at Q;done)
    |exact bI h9 C
  ·rw[C];exact D
 refine .skip ?_
 ·first
   |exact aD (z',H) ⟨by rw[d4];exact N,O,Y⟩ kE.c.c.c.c.c.c.c.c.c.c rH
   |exact aD (V,a2) ⟨c5,b0,c6⟩ kE.c.c.c.c.c.c.c.c.c.c rH
 intro x hx
 obtain⟨z3,H⟩:=x
 obtain⟨N,O,Y⟩:=hx
 simp only at N O Y⊢
 obtain⟨a3,c2,f7,f6,b8,b6,f9⟩:=id O
 have d7:sg H bx (.cells [.int .i64 n,a3,c2].toArray 72 (0,0)):=by rw[b8];simp[sg,Mem.cb.of]
 have g6:PS H (pT bx) [.int .i64 n,a3,c2]:=⟨PC.of d7⟩
 have i0:One a3:=b6.ay
 have b7:RS (sg H) 6 Mem.bJ.enc a3 (Mem.cb.of n z3).qs:=b6.rs λp s=>by rw[b8];simp[sg,s]
 have c1:r.kept.length=(Mem.cb.of n z3).qs.length:=by rw[N.len];simp[Mem.cb.of]
 refine au<|.sr<|.mo rfl<|.mo rfl<|.fa rfl<|.lo rfl<|.fa rfl<|.q (.loadT rfl) ?_
 refine .fa rfl<|.lo rfl<|.fa rfl<|.lo rfl ?_
 refine .aQ (e9 _ λb o hb=>.inr (by rcases hb with hb|hb<;>simp[hb])) (λu m=>?_)
 subst m
 refine .mo rfl<|.q .extract<|.q .extract<|.ag rfl<|.ag rfl<|.zs<|.dz [] mixed ?_
 refine .tO 0 rfl .move<|.tO 1 rfl .cr<|.tO 2 rfl .move ?_
 refine RA.split (t:=226) rfl (λA=>?_) (λA=>?_)
 have d6:fe=0:=by simpa using A
 have d5:f4=f/\je=0:=by simpa using cC d6
 obtain⟨d3,d0⟩:=d5
 subst d0
 refine .bC 3 rfl rfl A .move (by kernel_rfl) ?_
 refine .bC 4 rfl rfl A .de (by kernel_rfl) ?_
 refine .bC 5 rfl rfl A .move (by kernel_rfl) ?_
 refine RA.split (t:=229) rfl (λK=>?_) (λK=>?_)
 ·simp at K
 refine .bC 6 rfl rfl K .move (by kernel_rfl) ?_
 refine .bC 7 rfl rfl K .move (by kernel_rfl) ?_
 refine .bC 8 rfl rfl K .kY (by kernel_rfl) ?_
 refine .bC 9 rfl rfl A (.aN K) (by kernel_rfl) ?_
 refine .tO 10 rfl (.aU A) ?_
 refine .tO 11 rfl .move ?_
 refine RA.split (t:=235) rfl (λF=>?_) (λF=>?_)
 ·exfalso
  rw[d3]at F;simp at F
 refine .bC 12 rfl rfl F .move (by kernel_rfl) ?_
 refine .bC 14 rfl rfl F .move (by kernel_rfl) ?_
 refine .sT 13 rfl ?_
 refine .gT F ?_
 refine .aQ (kW bm r I U _ (λp s=>.inr (by simp[s]))) (λu m=>?_)
 subst m
 refine .nil (Next.sub ?_)
 refine .bC 15 rfl rfl F .de (by kernel_rfl) ?_
 refine .tO 16 rfl (.aN F) ?_
 refine .tO 17 rfl .move ?_
 refine RA.split (t:=241) rfl (λj=>?_) (λj=>?_)
 ·simp at j
 refine .bC 18 rfl rfl j .move (by kernel_rfl) ?_
 refine .bC 20 rfl rfl j .move (by kernel_rfl) ?_
 refine .bC 21 rfl rfl j (.nilCheck rfl) (by kernel_rfl) ?_
 refine .bC 22 rfl rfl j (.fieldAddr rfl) (by kernel_rfl) ?_
 refine .bC 23 rfl rfl j (.cI rfl) (by kernel_rfl) ?_
 refine .bC 24 rfl rfl j (.bK b7) (by kernel_rfl) ?_
 refine .sT 19 rfl ?_
 refine .gT j ?_
 refine .aQ (Mem.kT bm r I U _ (λp s=>.inr (by simp[s]))) (λu m=>?_)
 subst m
 refine .nil (Next.sub ?_)
 refine .bC 25 rfl rfl j .de (by kernel_rfl) ?_
 refine .tO 26 rfl (.aN j) ?_
 refine RA.nil (by kernel_rfl) ?_
 refine au ?_
 refine .cond rfl (λW=>?_) λW=>?_
 ·exfalso
  simp[c1]at W
 refine .skip<|ba<|au<|.region<|.mo rfl ?_
 refine .ia (i+1) .add ?_
 refine .ag rfl<|.nil ?_
 ·exact bp (i+1,(J,Z),(r,z3),(a1,a0,I,H)) ⟨⟨by simp only;omega,by simp only;omega⟩,b5,a9,c0,N,U,O,Y,a4.1,by have:=a4.2;simp only;omega⟩ (by simp only;omega) kE.c.c.c.c.c.c.c (aK [2,2,2,2])
 refine .ff 3 rfl rfl A rfl (by kernel_rfl) ?_
 refine .ff 4 rfl rfl A rfl (by kernel_rfl) ?_
 refine .ff 5 rfl rfl A rfl (by kernel_rfl) ?_
 refine .iM 6 rfl rfl (by kernel_rfl) ?_
 refine .iM 7 rfl rfl (by kernel_rfl) ?_
 refine .iM 8 rfl rfl (by kernel_rfl) ?_
 refine .ff 9 rfl rfl A rfl (by kernel_rfl) ?_
 refine .tO 10 rfl (.aN A) ?_
 refine .tO 11 rfl .move ?_
 refine .iB 12 rfl rfl .move (by kernel_rfl) ?_
 refine .iB 14 rfl rfl .move (by kernel_rfl) ?_
 refine .sT 13 rfl ?_
 refine .gt rfl ?_
 refine .aQ (kW bm r I U _ (λp s=>.inr (by simp[s]))) (λu m=>?_)
 subst m
 refine .nil (Next.sub ?_)
 refine .iB 15 rfl rfl .de (by kernel_rfl) ?_
 refine .tO 16 rfl .dq<|.tO 17 rfl .move ?_
 refine RA.split (t:=241) rfl (λj=>?_) (λj=>?_)
 ·simp at j
 refine .bC 18 rfl rfl j .move (by kernel_rfl) ?_
 refine .bC 20 rfl rfl j .move (by kernel_rfl) ?_
 refine .bC 21 rfl rfl j (.nilCheck rfl) (by kernel_rfl) ?_
 refine .bC 22 rfl rfl j (.fieldAddr rfl) (by kernel_rfl) ?_
 refine .bC 23 rfl rfl j (.cI rfl) (by kernel_rfl) ?_
 refine .bC 24 rfl rfl j (.bK b7) (by kernel_rfl) ?_
 refine .sT 19 rfl ?_
 refine .gT j ?_
 refine .aQ (Mem.kT bm r I U _ (λp s=>.inr (by simp[s]))) (λu m=>?_)
 subst m
 refine .nil (Next.sub ?_)
 refine .bC 25 rfl rfl j .de (by kernel_rfl) ?_
 refine .tO 26 rfl (.aN j) ?_
 refine RA.nil (by kernel_rfl) ?_
 refine au ?_
 refine .cond rfl (λW=>?_) λW=>?_
 ·exfalso
  simp[c1]at W
 refine .skip<|ba<|au<|.region<|.mo rfl ?_
 refine .ia (i+1) .add ?_
 refine .ag rfl<|.nil ?_
 ·exact bp (i+1,(J,Z),(r,z3),(a1,a0,I,H)) ⟨⟨by simp only;omega,by simp only;omega⟩,b5,a9,c0,N,U,O,Y,a4.1,by have:=a4.2;simp only;omega⟩ (by simp only;omega) kE.c.c.c.c.c.c.c (aK [2,2,2,2])
 refine .gF Q<|.gF Q<|.q (.aN Q) ?_
 refine .zn ?_
 refine bu.dc [(2,_),(7,_),(8,_),(12,_),(14,_),(16,_),(17,_),(18,_),(20,_),(21,_)] kE.c.c.c.c.c.c.c.c.c.c (X:=List (Mem.bJ×Bool)×av) (λy=>Mem.Inv n r y.1/\Mem.cb.is bx (Mem.cb.of n y.1) y.2/\gb nf J Z y.1) (λ_ E=>E) (λy=>[bl e2 [.int .u64 a.rev,.int .i64 (fB J 0 a.rev),.string a.k.os,.string a.k.oi,.string a.k.rel,.string a.us] 67,bl d2 a.enc 53,y.2,a1,a0,I]) ?_ ?_
 refine .dA ?_
 have c5:Mem.Inv n r V:=by
  rcases c7 with⟨_,_,_,rfl⟩|⟨_,_,⟨h7,C,_⟩|⟨_,C⟩⟩
  ·exact⟨⟨D.ms,D.dK,D.nd,D.kn,D.get,D.ky⟩,D.le⟩
  ·exfalso
   first
    |(rw[h7]at Q;simp at Q;done)
    |exact bI h9 C
  ·rw[C];exact D
 refine .skip ?_
 ·first
   |exact aD (z',H) ⟨by rw[d4];exact N,O,Y⟩ kE.c.c.c.c.c.c.c.c.c.c rH
   |exact aD (V,a2) ⟨c5,b0,c6⟩ kE.c.c.c.c.c.c.c.c.c.c rH
 intro x hx
 obtain⟨z3,H⟩:=x
 obtain⟨N,O,Y⟩:=hx
 simp only at N O Y⊢
 obtain⟨a3,c2,f7,f6,b8,b6,f9⟩:=id O
 have d7:sg H bx (.cells [.int .i64 n,a3,c2].toArray 72 (0,0)):=by rw[b8];simp[sg,Mem.cb.of]
 have g6:PS H (pT bx) [.int .i64 n,a3,c2]:=⟨PC.of d7⟩
 have i0:One a3:=b6.ay
 have b7:RS (sg H) 6 Mem.bJ.enc a3 (Mem.cb.of n z3).qs:=b6.rs λp s=>by rw[b8];simp[sg,s]
 have c1:r.kept.length=(Mem.cb.of n z3).qs.length:=by rw[N.len];simp[Mem.cb.of]
 refine au<|.sr<|.mo rfl<|.mo rfl<|.fa rfl<|.lo rfl<|.fa rfl<|.q (.loadT rfl) ?_
 refine .fa rfl<|.lo rfl<|.fa rfl<|.lo rfl ?_
 refine .aQ (e9 _ λb o hb=>.inr (by rcases hb with hb|hb<;>simp[hb])) (λu m=>?_)
 subst m
 refine .mo rfl<|.q .extract<|.q .extract<|.ag rfl<|.ag rfl<|.zs<|.dz [] mixed ?_
 refine .tO 0 rfl .move<|.tO 1 rfl .cr<|.tO 2 rfl .move ?_
 refine RA.split (t:=226) rfl (λA=>?_) (λA=>?_)
 have d6:fe=0:=by simpa using A
 have d5:f4=f/\je=0:=by simpa using cC d6
 obtain⟨d3,d0⟩:=d5
 subst d0
 refine .bC 3 rfl rfl A .move (by kernel_rfl) ?_
 refine .bC 4 rfl rfl A .de (by kernel_rfl) ?_
 refine .bC 5 rfl rfl A .move (by kernel_rfl) ?_
 refine RA.split (t:=229) rfl (λK=>?_) (λK=>?_)
 ·simp at K
 refine .bC 6 rfl rfl K .move (by kernel_rfl) ?_
 refine .bC 7 rfl rfl K .move (by kernel_rfl) ?_
 refine .bC 8 rfl rfl K .kY (by kernel_rfl) ?_
 refine .bC 9 rfl rfl A (.aN K) (by kernel_rfl) ?_
 refine .tO 10 rfl (.aU A) ?_
 refine .tO 11 rfl .move ?_
 refine RA.split (t:=235) rfl (λF=>?_) (λF=>?_)
 ·exfalso
  rw[d3]at F;simp at F
 refine .bC 12 rfl rfl F .move (by kernel_rfl) ?_
 refine .bC 14 rfl rfl F .move (by kernel_rfl) ?_
 refine .sT 13 rfl ?_
 refine .gT F ?_
 refine .aQ (kW bm r I U _ (λp s=>.inr (by simp[s]))) (λu m=>?_)
 subst m
 refine .nil (Next.sub ?_)
 refine .bC 15 rfl rfl F .de (by kernel_rfl) ?_
 refine .tO 16 rfl (.aN F) ?_
 refine .tO 17 rfl .move ?_
 refine RA.split (t:=241) rfl (λj=>?_) (λj=>?_)
 ·simp at j
 refine .bC 18 rfl rfl j .move (by kernel_rfl) ?_
 refine .bC 20 rfl rfl j .move (by kernel_rfl) ?_
 refine .bC 21 rfl rfl j (.nilCheck rfl) (by kernel_rfl) ?_
 refine .bC 22 rfl rfl j (.fieldAddr rfl) (by kernel_rfl) ?_
 refine .bC 23 rfl rfl j (.cI rfl) (by kernel_rfl) ?_
 refine .bC 24 rfl rfl j (.bK b7) (by kernel_rfl) ?_
 refine .sT 19 rfl ?_
 refine .gT j ?_
 refine .aQ (Mem.kT bm r I U _ (λp s=>.inr (by simp[s]))) (λu m=>?_)
 subst m
 refine .nil (Next.sub ?_)
 refine .bC 25 rfl rfl j .de (by kernel_rfl) ?_
 refine .tO 26 rfl (.aN j) ?_
 refine RA.nil (by kernel_rfl) ?_
 refine au ?_
 refine .cond rfl (λW=>?_) λW=>?_
 ·exfalso
  simp[c1]at W
 refine .skip<|ba<|au<|.region<|.mo rfl ?_
 refine .ia (i+1) .add ?_
 refine .ag rfl<|.nil ?_
 ·exact bp (i+1,(J,Z),(r,z3),(a1,a0,I,H)) ⟨⟨by simp only;omega,by simp only;omega⟩,b5,a9,c0,N,U,O,Y,a4.1,by have:=a4.2;simp only;omega⟩ (by simp only;omega) kE.c.c.c.c.c.c.c (aK [2,2,2,2])
 refine .ff 3 rfl rfl A rfl (by kernel_rfl) ?_
 refine .ff 4 rfl rfl A rfl (by kernel_rfl) ?_
 refine .ff 5 rfl rfl A rfl (by kernel_rfl) ?_
 refine .iM 6 rfl rfl (by kernel_rfl) ?_
 refine .iM 7 rfl rfl (by kernel_rfl) ?_
 refine .iM 8 rfl rfl (by kernel_rfl) ?_
 refine .ff 9 rfl rfl A rfl (by kernel_rfl) ?_
 refine .tO 10 rfl (.aN A) ?_
 refine .tO 11 rfl .move ?_
 refine .iB 12 rfl rfl .move (by kernel_rfl) ?_
 refine .iB 14 rfl rfl .move (by kernel_rfl) ?_
 refine .sT 13 rfl ?_
 refine .gt rfl ?_
 refine .aQ (kW bm r I U _ (λp s=>.inr (by simp[s]))) (λu m=>?_)
 subst m
 refine .nil (Next.sub ?_)
 refine .iB 15 rfl rfl .de (by kernel_rfl) ?_
 refine .tO 16 rfl .dq<|.tO 17 rfl .move ?_
 refine RA.split (t:=241) rfl (λj=>?_) (λj=>?_)
 ·simp at j
 refine .bC 18 rfl rfl j .move (by kernel_rfl) ?_
 refine .bC 20 rfl rfl j .move (by kernel_rfl) ?_
 refine .bC 21 rfl rfl j (.nilCheck rfl) (by kernel_rfl) ?_
 refine .bC 22 rfl rfl j (.fieldAddr rfl) (by kernel_rfl) ?_
 refine .bC 23 rfl rfl j (.cI rfl) (by kernel_rfl) ?_
 refine .bC 24 rfl rfl j (.bK b7) (by kernel_rfl) ?_
 refine .sT 19 rfl ?_
 refine .gT j ?_
 refine .aQ (Mem.kT bm r I U _ (λp s=>.inr (by simp[s]))) (λu m=>?_)
 subst m
 refine .nil (Next.sub ?_)
 refine .bC 25 rfl rfl j .de (by kernel_rfl) ?_
 refine .tO 26 rfl (.aN j) ?_
 refine RA.nil (by kernel_rfl) ?_
 refine au ?_
 refine .cond rfl (λW=>?_) λW=>?_
 ·exfalso
  simp[c1]at W
 refine .skip<|ba<|au<|.region<|.mo rfl ?_
 refine .ia (i+1) .add ?_
 refine .ag rfl<|.nil ?_
 ·exact bp (i+1,(J,Z),(r,z3),(a1,a0,I,H)) ⟨⟨by simp only;omega,by simp only;omega⟩,b5,a9,c0,N,U,O,Y,a4.1,by have:=a4.2;simp only;omega⟩ (by simp only;omega) kE.c.c.c.c.c.c.c (aK [2,2,2,2])
 refine .gF b4<|.gF b4<|.gF b4<|.dB rfl ?_
 refine .dB rfl ?_
 refine .gF b4<|.q (.aN b4) ?_
 refine .zn ?_
 refine bu.dc [(2,_),(7,_),(8,_),(12,_),(14,_),(17,_),(18,_),(20,_),(21,_),(22,_),(23,_),(26,_),(27,_)] kE.c.c.c.c.c.c.c.c.c.c.c.c.c (X:=Unit) (λ_=>fe=0/\f=val/\0<=k/\r=⟨B.size,B.kept,B.dK,B.dh+1⟩\/(f,fe)=(a6,ge)/\r.dh=B.dh/\(ge=0/\k<0/\r=B.put q a6/\q∉V.map (·.1)\/ge≠0/\r=B)) (λ_ E=>(16,.int .i64 r.dh)::E) (λ_=>[bl e2 [.int .u64 a.rev,.int .i64 (fB J 0 a.rev),.string a.k.os,.string a.k.oi,.string a.k.rel,.string a.us] 67,bl d2 a.enc 53,a2,a1,a0,I]) ?_ ?_
 refine .dA ?_
 have f2:¬(0<=k/\(ge=0\/ge=16)):=by first|exact λhh=>bI b4 hh.1|exact λhh=>hh.2.elim (λe=>by rw[e]at c8;simp at c8) (λe=>by rw[e]at h6;simp at h6)
 obtain⟨c4,d1,f3⟩:=cB f2
 refine .sr<|.mo rfl<|.mo rfl<|.q .de<|.mo rfl ?_
 refine .split (t:=195) rfl (λc3=>?_) (λc3=>?_)
 ·exfalso
  have C:fe=ge:=(Prod.mk.inj c4).2
  rw[C]at c3;simp at c3
 refine .gT c3<|.mo rfl<|.gT c3<|.mo rfl<|.gT c3<|.q .kY<|.q (.aN c3) ?_
 refine .zn ?_
 refine .cond rfl (λC=>?_) λC=>?_
 ·exfalso
  have h9:f=a6:=(Prod.mk.inj c4).1
  rw[h9]at C;simp at C
 refine .skip ?_
 ·first
   |exact aD () (.inl ⟨rfl,rfl,by omega,rfl⟩) kE.c.c.c.c.c.c.c.c.c.c.c.c.c.c (aK [0,2,2,2,2,2])
   |exact aD () (.inr ⟨c4,d1,f3⟩) (by rw[d1,e3];exact kE.c.c.c.c.c.c.c.c.c.c.c.c.c.c) (aK [0,2,2,2,2,2])
 intro x hx
 have c7:fe=0/\f=val/\0<=k/\r=⟨B.size,B.kept,B.dK,B.dh+1⟩\/(f,fe)=(a6,ge)/\r.dh=B.dh/\(ge=0/\k<0/\r=B.put q a6/\q∉V.map (·.1)\/ge≠0/\r=B):=hx
 have a4:0<=r.dh/\r.dh<=i+1:=by
  rcases c7 with⟨_,_,_,rfl⟩|⟨_,h9,_⟩
  ·simp only;omega
  ·omega
 refine au<|.seq<|.sr<|.mo rfl<|.q .cr<|.mo rfl ?_
 refine .split (t:=202) rfl (λQ=>?_) (λQ=>?_)
 refine .gT Q<|.mo rfl<|.gT Q<|.q .lss<|.q (.aU Q) ?_
 refine .zn ?_
 refine bu.dc [(2,_),(7,_),(8,_),(12,_),(14,_),(16,_),(17,_),(18,_),(20,_),(21,_)] kE.c.c.c.c.c.c.c.c.c.c (X:=List (Mem.bJ×Bool)×av) (λy=>Mem.Inv n r y.1/\Mem.cb.is bx (Mem.cb.of n y.1) y.2/\gb nf J Z y.1) (λ_ E=>E) (λy=>[bl e2 [.int .u64 a.rev,.int .i64 (fB J 0 a.rev),.string a.k.os,.string a.k.oi,.string a.k.rel,.string a.us] 67,bl d2 a.enc 53,y.2,a1,a0,I]) ?_ ?_
 refine .cond rfl (λh9=>?_) λh9=>?_
 have f0:ge=0:=by simpa using Q
 have g5:k<0:=by simpa using h9
 have d4:r=B.put q a6:=by
  rcases c7 with⟨_,_,C,_⟩|⟨_,_,⟨_,_,C,_⟩|⟨C,_⟩⟩
  ·omega
  ·exact C
  ·exact absurd f0 C
 refine .region<|.mo rfl<|.q (.aL rfl)<|.mo rfl ?_
 refine .dT (show Spec prog 29 [pT bx,.agg [.int .u64 a.rev,.int .i64 (fB J 0 a.rev),.string a.k.os,.string a.k.oi,.string a.k.rel,.string a.us].toArray,.bool a6] _ [a2] _ by rw[<-j3];exact Mem.vC bx (Mem.cb.of n V) a2 b0 q a6 R k8 j9) (λu H m=>?_)
 obtain⟨rfl,l9,O,g7⟩:=m
 obtain⟨z',N,rfl,g9⟩:=tm D (k6 g5) g7
 have Y:gb nf J Z z':=λp s=>(g9 p s).elim (c6 p) λe=>by
  have C:=cD f0 g8 p e
  exact C
 refine .nil ?_
 ·first
   |exact aD (z',H) ⟨by rw[d4];exact N,O,Y⟩ kE.c.c.c.c.c.c.c.c.c.c rH
   |exact aD (V,a2) ⟨c5,b0,c6⟩ kE.c.c.c.c.c.c.c.c.c.c rH
 have c5:Mem.Inv n r V:=by
  rcases c7 with⟨_,_,_,rfl⟩|⟨_,_,⟨h7,C,_⟩|⟨_,C⟩⟩
  ·exact⟨⟨D.ms,D.dK,D.nd,D.kn,D.get,D.ky⟩,D.le⟩
  ·exfalso
   first
    |(rw[h7]at Q;simp at Q;done)
    |exact bI h9 C
  ·rw[C];exact D
 refine .skip ?_
 ·first
   |exact aD (z',H) ⟨by rw[d4];exact N,O,Y⟩ kE.c.c.c.c.c.c.c.c.c.c rH
   |exact aD (V,a2) ⟨c5,b0,c6⟩ kE.c.c.c.c.c.c.c.c.c.c rH
 intro x hx
 obtain⟨z3,H⟩:=x
 obtain⟨N,O,Y⟩:=hx
 simp only at N O Y⊢
 obtain⟨a3,c2,f7,f6,b8,b6,f9⟩:=id O
 have d7:sg H bx (.cells [.int .i64 n,a3,c2].toArray 72 (0,0)):=by rw[b8];simp[sg,Mem.cb.of]
 have g6:PS H (pT bx) [.int .i64 n,a3,c2]:=⟨PC.of d7⟩
 have i0:One a3:=b6.ay
 have b7:RS (sg H) 6 Mem.bJ.enc a3 (Mem.cb.of n z3).qs:=b6.rs λp s=>by rw[b8];simp[sg,s]
 have c1:r.kept.length=(Mem.cb.of n z3).qs.length:=by rw[N.len];simp[Mem.cb.of]
 refine au<|.sr<|.mo rfl<|.mo rfl<|.fa rfl<|.lo rfl<|.fa rfl<|.q (.loadT rfl) ?_
 refine .fa rfl<|.lo rfl<|.fa rfl<|.lo rfl ?_
 refine .aQ (e9 _ λb o hb=>.inr (by rcases hb with hb|hb<;>simp[hb])) (λu m=>?_)
 subst m
 refine .mo rfl<|.q .extract<|.q .extract<|.ag rfl<|.ag rfl<|.zs<|.dz [] mixed ?_
 refine .tO 0 rfl .move<|.tO 1 rfl .cr<|.tO 2 rfl .move ?_
 refine RA.split (t:=226) rfl (λA=>?_) (λA=>?_)
 have d6:fe=0:=by simpa using A
 have d5:f4=f/\je=0:=by simpa using cC d6
 obtain⟨d3,d0⟩:=d5
 subst d0
 refine .bC 3 rfl rfl A .move (by kernel_rfl) ?_
 refine .bC 4 rfl rfl A .de (by kernel_rfl) ?_
 refine .bC 5 rfl rfl A .move (by kernel_rfl) ?_
 refine RA.split (t:=229) rfl (λK=>?_) (λK=>?_)
 ·simp at K
 refine .bC 6 rfl rfl K .move (by kernel_rfl) ?_
 refine .bC 7 rfl rfl K .move (by kernel_rfl) ?_
 refine .bC 8 rfl rfl K .kY (by kernel_rfl) ?_
 refine .bC 9 rfl rfl A (.aN K) (by kernel_rfl) ?_
 refine .tO 10 rfl (.aU A) ?_
 refine .tO 11 rfl .move ?_
 refine RA.split (t:=235) rfl (λF=>?_) (λF=>?_)
 ·exfalso
  rw[d3]at F;simp at F
 refine .bC 12 rfl rfl F .move (by kernel_rfl) ?_
 refine .bC 14 rfl rfl F .move (by kernel_rfl) ?_
 refine .sT 13 rfl ?_
 refine .gT F ?_
 refine .aQ (kW bm r I U _ (λp s=>.inr (by simp[s]))) (λu m=>?_)
 subst m
 refine .nil (Next.sub ?_)
 refine .bC 15 rfl rfl F .de (by kernel_rfl) ?_
 refine .tO 16 rfl (.aN F) ?_
 refine .tO 17 rfl .move ?_
 refine RA.split (t:=241) rfl (λj=>?_) (λj=>?_)
 ·simp at j
 refine .bC 18 rfl rfl j .move (by kernel_rfl) ?_
 refine .bC 20 rfl rfl j .move (by kernel_rfl) ?_
 refine .bC 21 rfl rfl j (.nilCheck rfl) (by kernel_rfl) ?_
 refine .bC 22 rfl rfl j (.fieldAddr rfl) (by kernel_rfl) ?_
 refine .bC 23 rfl rfl j (.cI rfl) (by kernel_rfl) ?_
 refine .bC 24 rfl rfl j (.bK b7) (by kernel_rfl) ?_
 refine .sT 19 rfl ?_
 refine .gT j ?_
 refine .aQ (Mem.kT bm r I U _ (λp s=>.inr (by simp[s]))) (λu m=>?_)
 subst m
 refine .nil (Next.sub ?_)
 refine .bC 25 rfl rfl j .de (by kernel_rfl) ?_
 refine .tO 26 rfl (.aN j) ?_
 refine RA.nil (by kernel_rfl) ?_
 refine au ?_
 refine .cond rfl (λW=>?_) λW=>?_
 ·exfalso
  simp[c1]at W
 refine .skip<|ba<|au<|.region<|.mo rfl ?_
 refine .ia (i+1) .add ?_
 refine .ag rfl<|.nil ?_
 ·exact bp (i+1,(J,Z),(r,z3),(a1,a0,I,H)) ⟨⟨by simp only;omega,by simp only;omega⟩,b5,a9,c0,N,U,O,Y,a4.1,by have:=a4.2;simp only;omega⟩ (by simp only;omega) kE.c.c.c.c.c.c.c (aK [2,2,2,2])
 refine .ff 3 rfl rfl A rfl (by kernel_rfl) ?_
 refine .ff 4 rfl rfl A rfl (by kernel_rfl) ?_
 refine .ff 5 rfl rfl A rfl (by kernel_rfl) ?_
 refine .iM 6 rfl rfl (by kernel_rfl) ?_
 refine .iM 7 rfl rfl (by kernel_rfl) ?_
 refine .iM 8 rfl rfl (by kernel_rfl) ?_
 refine .ff 9 rfl rfl A rfl (by kernel_rfl) ?_
 refine .tO 10 rfl (.aN A) ?_
 refine .tO 11 rfl .move ?_
 refine .iB 12 rfl rfl .move (by kernel_rfl) ?_
 refine .iB 14 rfl rfl .move (by kernel_rfl) ?_
 refine .sT 13 rfl ?_
 refine .gt rfl ?_
 refine .aQ (kW bm r I U _ (λp s=>.inr (by simp[s]))) (λu m=>?_)
 subst m
 refine .nil (Next.sub ?_)
 refine .iB 15 rfl rfl .de (by kernel_rfl) ?_
 refine .tO 16 rfl .dq<|.tO 17 rfl .move ?_
 refine RA.split (t:=241) rfl (λj=>?_) (λj=>?_)
 ·simp at j
 refine .bC 18 rfl rfl j .move (by kernel_rfl) ?_
 refine .bC 20 rfl rfl j .move (by kernel_rfl) ?_
 refine .bC 21 rfl rfl j (.nilCheck rfl) (by kernel_rfl) ?_
 refine .bC 22 rfl rfl j (.fieldAddr rfl) (by kernel_rfl) ?_
 refine .bC 23 rfl rfl j (.cI rfl) (by kernel_rfl) ?_
 refine .bC 24 rfl rfl j (.bK b7) (by kernel_rfl) ?_
 refine .sT 19 rfl ?_
 refine .gT j ?_
 refine .aQ (Mem.kT bm r I U _ (λp s=>.inr (by simp[s]))) (λu m=>?_)
 subst m
 refine .nil (Next.sub ?_)
 refine .bC 25 rfl rfl j .de (by kernel_rfl) ?_
 refine .tO 26 rfl (.aN j) ?_
 refine RA.nil (by kernel_rfl) ?_
 refine au ?_
 refine .cond rfl (λW=>?_) λW=>?_
 ·exfalso
  simp[c1]at W
 refine .skip<|ba<|au<|.region<|.mo rfl ?_
 refine .ia (i+1) .add ?_
 refine .ag rfl<|.nil ?_
 ·exact bp (i+1,(J,Z),(r,z3),(a1,a0,I,H)) ⟨⟨by simp only;omega,by simp only;omega⟩,b5,a9,c0,N,U,O,Y,a4.1,by have:=a4.2;simp only;omega⟩ (by simp only;omega) kE.c.c.c.c.c.c.c (aK [2,2,2,2])
 refine .gF Q<|.gF Q<|.q (.aN Q) ?_
 refine .zn ?_
 refine bu.dc [(2,_),(7,_),(8,_),(12,_),(14,_),(16,_),(17,_),(18,_),(20,_),(21,_)] kE.c.c.c.c.c.c.c.c.c.c (X:=List (Mem.bJ×Bool)×av) (λy=>Mem.Inv n r y.1/\Mem.cb.is bx (Mem.cb.of n y.1) y.2/\gb nf J Z y.1) (λ_ E=>E) (λy=>[bl e2 [.int .u64 a.rev,.int .i64 (fB J 0 a.rev),.string a.k.os,.string a.k.oi,.string a.k.rel,.string a.us] 67,bl d2 a.enc 53,y.2,a1,a0,I]) ?_ ?_
 refine .dA ?_
 have c5:Mem.Inv n r V:=by
  rcases c7 with⟨_,_,_,rfl⟩|⟨_,_,⟨h7,C,_⟩|⟨_,C⟩⟩
  ·exact⟨⟨D.ms,D.dK,D.nd,D.kn,D.get,D.ky⟩,D.le⟩
  ·exfalso
   first
    |(rw[h7]at Q;simp at Q;done)
    |exact bI h9 C
  ·rw[C];exact D
 refine .skip ?_
 ·first
   |exact aD (z',H) ⟨by rw[d4];exact N,O,Y⟩ kE.c.c.c.c.c.c.c.c.c.c rH
   |exact aD (V,a2) ⟨c5,b0,c6⟩ kE.c.c.c.c.c.c.c.c.c.c rH
 intro x hx
 obtain⟨z3,H⟩:=x
 obtain⟨N,O,Y⟩:=hx
 simp only at N O Y⊢
 obtain⟨a3,c2,f7,f6,b8,b6,f9⟩:=id O
 have d7:sg H bx (.cells [.int .i64 n,a3,c2].toArray 72 (0,0)):=by rw[b8];simp[sg,Mem.cb.of]
 have g6:PS H (pT bx) [.int .i64 n,a3,c2]:=⟨PC.of d7⟩
 have i0:One a3:=b6.ay
 have b7:RS (sg H) 6 Mem.bJ.enc a3 (Mem.cb.of n z3).qs:=b6.rs λp s=>by rw[b8];simp[sg,s]
 have c1:r.kept.length=(Mem.cb.of n z3).qs.length:=by rw[N.len];simp[Mem.cb.of]
 refine au<|.sr<|.mo rfl<|.mo rfl<|.fa rfl<|.lo rfl<|.fa rfl<|.q (.loadT rfl) ?_
 refine .fa rfl<|.lo rfl<|.fa rfl<|.lo rfl ?_
 refine .aQ (e9 _ λb o hb=>.inr (by rcases hb with hb|hb<;>simp[hb])) (λu m=>?_)
 subst m
 refine .mo rfl<|.q .extract<|.q .extract<|.ag rfl<|.ag rfl<|.zs<|.dz [] mixed ?_
 refine .tO 0 rfl .move<|.tO 1 rfl .cr<|.tO 2 rfl .move ?_
 refine RA.split (t:=226) rfl (λA=>?_) (λA=>?_)
 have d6:fe=0:=by simpa using A
 have d5:f4=f/\je=0:=by simpa using cC d6
 obtain⟨d3,d0⟩:=d5
 subst d0
 refine .bC 3 rfl rfl A .move (by kernel_rfl) ?_
 refine .bC 4 rfl rfl A .de (by kernel_rfl) ?_
 refine .bC 5 rfl rfl A .move (by kernel_rfl) ?_
 refine RA.split (t:=229) rfl (λK=>?_) (λK=>?_)
 ·simp at K
 refine .bC 6 rfl rfl K .move (by kernel_rfl) ?_
 refine .bC 7 rfl rfl K .move (by kernel_rfl) ?_
 refine .bC 8 rfl rfl K .kY (by kernel_rfl) ?_
 refine .bC 9 rfl rfl A (.aN K) (by kernel_rfl) ?_
 refine .tO 10 rfl (.aU A) ?_
 refine .tO 11 rfl .move ?_
 refine RA.split (t:=235) rfl (λF=>?_) (λF=>?_)
 ·exfalso
  rw[d3]at F;simp at F
 refine .bC 12 rfl rfl F .move (by kernel_rfl) ?_
 refine .bC 14 rfl rfl F .move (by kernel_rfl) ?_
 refine .sT 13 rfl ?_
 refine .gT F ?_
 refine .aQ (kW bm r I U _ (λp s=>.inr (by simp[s]))) (λu m=>?_)
 subst m
 refine .nil (Next.sub ?_)
 refine .bC 15 rfl rfl F .de (by kernel_rfl) ?_
 refine .tO 16 rfl (.aN F) ?_
 refine .tO 17 rfl .move ?_
 refine RA.split (t:=241) rfl (λj=>?_) (λj=>?_)
 ·simp at j
 refine .bC 18 rfl rfl j .move (by kernel_rfl) ?_
 refine .bC 20 rfl rfl j .move (by kernel_rfl) ?_
 refine .bC 21 rfl rfl j (.nilCheck rfl) (by kernel_rfl) ?_
 refine .bC 22 rfl rfl j (.fieldAddr rfl) (by kernel_rfl) ?_
 refine .bC 23 rfl rfl j (.cI rfl) (by kernel_rfl) ?_
 refine .bC 24 rfl rfl j (.bK b7) (by kernel_rfl) ?_
 refine .sT 19 rfl ?_
 refine .gT j ?_
 refine .aQ (Mem.kT bm r I U _ (λp s=>.inr (by simp[s]))) (λu m=>?_)
 subst m
 refine .nil (Next.sub ?_)
 refine .bC 25 rfl rfl j .de (by kernel_rfl) ?_
 refine .tO 26 rfl (.aN j) ?_
 refine RA.nil (by kernel_rfl) ?_
 refine au ?_
 refine .cond rfl (λW=>?_) λW=>?_
 ·exfalso
  simp[c1]at W
 refine .skip<|ba<|au<|.region<|.mo rfl ?_
 refine .ia (i+1) .add ?_
 refine .ag rfl<|.nil ?_
 ·exact bp (i+1,(J,Z),(r,z3),(a1,a0,I,H)) ⟨⟨by simp only;omega,by simp only;omega⟩,b5,a9,c0,N,U,O,Y,a4.1,by have:=a4.2;simp only;omega⟩ (by simp only;omega) kE.c.c.c.c.c.c.c (aK [2,2,2,2])
 refine .ff 3 rfl rfl A rfl (by kernel_rfl) ?_
 refine .ff 4 rfl rfl A rfl (by kernel_rfl) ?_
 refine .ff 5 rfl rfl A rfl (by kernel_rfl) ?_
 refine .iM 6 rfl rfl (by kernel_rfl) ?_
 refine .iM 7 rfl rfl (by kernel_rfl) ?_
 refine .iM 8 rfl rfl (by kernel_rfl) ?_
 refine .ff 9 rfl rfl A rfl (by kernel_rfl) ?_
 refine .tO 10 rfl (.aN A) ?_
 refine .tO 11 rfl .move ?_
 refine .iB 12 rfl rfl .move (by kernel_rfl) ?_
 refine .iB 14 rfl rfl .move (by kernel_rfl) ?_
 refine .sT 13 rfl ?_
 refine .gt rfl ?_
 refine .aQ (kW bm r I U _ (λp s=>.inr (by simp[s]))) (λu m=>?_)
 subst m
 refine .nil (Next.sub ?_)
 refine .iB 15 rfl rfl .de (by kernel_rfl) ?_
 refine .tO 16 rfl .dq<|.tO 17 rfl .move ?_
 refine RA.split (t:=241) rfl (λj=>?_) (λj=>?_)
 ·simp at j
 refine .bC 18 rfl rfl j .move (by kernel_rfl) ?_
 refine .bC 20 rfl rfl j .move (by kernel_rfl) ?_
 refine .bC 21 rfl rfl j (.nilCheck rfl) (by kernel_rfl) ?_
 refine .bC 22 rfl rfl j (.fieldAddr rfl) (by kernel_rfl) ?_
 refine .bC 23 rfl rfl j (.cI rfl) (by kernel_rfl) ?_
 refine .bC 24 rfl rfl j (.bK b7) (by kernel_rfl) ?_
 refine .sT 19 rfl ?_
 refine .gT j ?_
 refine .aQ (Mem.kT bm r I U _ (λp s=>.inr (by simp[s]))) (λu m=>?_)
 subst m
 refine .nil (Next.sub ?_)
 refine .bC 25 rfl rfl j .de (by kernel_rfl) ?_
 refine .tO 26 rfl (.aN j) ?_
 refine RA.nil (by kernel_rfl) ?_
 refine au ?_
 refine .cond rfl (λW=>?_) λW=>?_
 ·exfalso
  simp[c1]at W
 refine .skip<|ba<|au<|.region<|.mo rfl ?_
 refine .ia (i+1) .add ?_
 refine .ag rfl<|.nil ?_
 ·exact bp (i+1,(J,Z),(r,z3),(a1,a0,I,H)) ⟨⟨by simp only;omega,by simp only;omega⟩,b5,a9,c0,N,U,O,Y,a4.1,by have:=a4.2;simp only;omega⟩ (by simp only;omega) kE.c.c.c.c.c.c.c (aK [2,2,2,2])
 refine .exit<|bD<|bG<|bE<|au<|.sr ?_
 refine .aQ (Mem.ph _) (λu m=>?_)
 subst m
 refine .az rfl ?_
 refine .ret (br _ (.one (.tmp rfl)) (bz.none _) ?_)
 ·exact⟨rfl,rfl⟩
 refine .gF e6<|.gF e6<|.q (.aN e6) ?_
 refine .zn<|.dA<|.exit<|bD<|bG<|bE<|au<|.sr ?_
 refine .aQ (Mem.ph _) (λu m=>?_)
 subst m
 refine .az rfl ?_
 refine .ret (br _ (.one (.tmp rfl)) (bz.none _) ?_)
 ·exact⟨rfl,rfl⟩
theorem Nt(w:kl)(n:Int)(v:Value)(b:List hU)(R:aA)(h:w.is R)(c:RS R 23 hU.enc v b)(d:∀a∈b,a.is R):
  Spec prog 3 [.agg w.enc.toArray,.int .i64 n,v] R [] λv H'=>v=.bool true/\H'=[]:=by
 by_cases e:n<0\/65536<n
 ·exact Nr w n v b R h c e
 ·obtain⟨m,rfl⟩:=Int.eq_ofNat_of_zero_le (show 0<=n by omega)
  exact Ns w m v b R h c d (by omega)
end Go.Proofs.YtdljmchhecoakaaGreat

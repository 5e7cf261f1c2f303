/- What the law 'SolveA' uses. No condition. -/
import Derived.Test.YtdljmchhecoakaaGreatKSolveAA
import Derived.Test.YtdljmchhecoakaaGreatKSolveAB
import Derived.Test.YtdljmchhecoakaaGreatKSolveAF
import Derived.Test.YtdljmchhecoakaaGreatKSolveAH
import Derived.Test.YtdljmchhecoakaaGreatKSolveAI
import Derived.Test.YtdljmchhecoakaaGreatKSolveAO
namespace Go.Proofs.YtdljmchhecoakaaGreat
open Tryz (prog)
set_option linter.unusedVariables false
set_option linter.unusedSimpArgs false
set_option maxRecDepth 4000
abbrev kd:=gp×gp×Bool
def jV(e:kd):List Value:=[iN e.1.1,iN e.1.2,iN e.2.1.1,iN e.2.1.2,.bool e.2.2]
instance(e:kd):bZ (jV e):=⟨by simp[jV,ap]⟩
def bM.ed(c:bM)(e:kd):Ed:=⟨c.ix e.1,c.ix e.2.1,e.2.2⟩
def EA(c:bM)(ok:Bool)(Es:List kd)(o:Option (List Ed)):Prop:=match o with
 |none=>ok=false
 |some E=>ok=true/\Es.map c.ed=E/\∀e∈Es,c.valid e.1/\c.valid e.2.1
theorem u7{α β:Type}{f:α->Option (List β)}{x:α}:∀{l:List α},x∈l->f x=none->cat f l=none
 |[],hx,_=>by cases hx
 |y::l,hx,h=>by
  rw[cat]
  rcases List.mem_cons.1 hx with rfl|hx
  ·rw[h];rfl
  ·rw[u7 hx h]
   cases f y<;>rfl
theorem EA.ox{c:bM}{d f:List kd}{a b:Option (List Ed)}(g:EA c true d a)(h:EA c true f b):EA c true (d++f) (a.bind λx=>b.map (x++ ·)):=by
 cases a with
 |none=>cases g
 |some a=>
  cases b with
  |none=>cases h
  |some b=>
   obtain⟨_,i,j⟩:=g
   obtain⟨_,k,l⟩:=h
   refine⟨rfl,by rw[List.map_append,i,k],λe he=>?_⟩
   rcases List.mem_append.1 he with he|he
   ·exact j e he
   ·exact l e he
theorem EA.nil{c:bM}:EA c true [] (some []):=⟨rfl,rfl,λe a=>(by cases a)⟩
theorem D7{R:aD}{xb:Nat}{vm:Value}{c:bM}(h:IX R xb vm c)(h8:c.rf)(p:gp)(s:cj)(r:ca)(I:c.bd[p.1]? =some s)(H:s.bS[p.2]? =some r):
  Spec prog 181 [pT xb,.agg (lO p).toArray] R [] λu H'=>∃T,H'=[T]/\∃w Es ok,u=.tuple [w,.bool ok].toArray/\OS 325 5 jV w Es T/\Es.length<=512/\
   EA c ok Es (lu c.plain.all (c.ix p) s.name r.r):=by
 have d3:=wU h p s r I H
 have a8:=λn=>OY h h8 p s r I H n
 have c6:=h
 obtain⟨b5,d0,a5⟩:=h8 s (aZ I) r (aZ H)
 have c8:=looked c
 have d7:c.valid p:=⟨s,r,I,H⟩
 have pc:=h.pc
 have om:=h.om
 have a1:=(h.ci.all _ (aZ I)).all _ (aZ H)
 generalize hA:c.plain.all=A at *
 generalize c7:c.ix p=j0 at *
 have N:lu A j0 s.name r.r=if(findAll A (dI r.r.types)).isSome then cat (λk:Nat=>(r.r.nodes[k]?).bind λn=>fv A j0 s.name r.r ((nF r.r.nodes).getD k false) n) (List.range' 0 r.r.nodes.length)else none:=rfl
 obtain⟨U,Q,r⟩:=r
 have b4:RS R 2 Ty.enc U r.types:=a1.t
 have O:RS R 5 Nd.enc Q r.nodes:=a1.d
 have e7:One U:=b4.ap
 have e6:One Q:=O.ap
 have e4:bZ (ca.enc ⟨U,Q,r⟩):=⟨a1.cJ⟩
 have d8:=qy b5
 simp only at b5 d0 a5 N a8 d8⊢
 have e3:(nF r.nodes).length=r.nodes.length:=by unfold nF;rw[sR,List.length_replicate]
 refine Spec.body Tryz.func181 rfl Tryz.results181 Tryz.ntmps181 rfl ?_
 refine .sr ?_
 refine .bW rfl (λb3=>?_)
 refine .ag rfl<|.ag rfl<|.z<|.mo rfl<|.q (.aL rfl) ?_
 refine .ba (d3.weaken cU) (λu hu=>?_)
 subst hu
 refine .bN (λb6=>?_)
 refine .bH rfl rfl<|.zs<|.sr<|.fa rfl<|.lo rfl ?_
 refine .cK (xk U r.types _ b4.rx (by omega)) (λu T2 a3=>?_)
 have e8:=a3.ap
 refine .q (.dN a3) ?_
 refine .mo rfl<|.zn<|.block ?_
 refine .cx [(0,_),(3,_),(6,_),(24,_),(25,_)] (X:=Nat) (λq=>q<=(dI r.types).length/\((dI r.types).take q).all (λt=>(bX A t).isSome)=true) (λq E=>(26,iN q)::E) (λ_ G=>G) (λq=>(dI r.types).length-q) 0 ⟨Nat.zero_le _,rfl⟩ kE.c.c.c.c.c.c rH ?_
 rintro q ⟨hq,M⟩
 refine .sr<|.q .lss<|.zs ?_
 refine .cond rfl (λV=>?_) λV=>?_
 have b1:q<(dI r.types).length:=by have:=cm V;omega
 obtain⟨t,a2⟩:=bR b1
 obtain⟨ps,ok,d1,v⟩:=c8 t
 unfold ot at v
 rw[hA]at v
 refine .kn<|.seq<|.block<|.sr ?_
 refine .bo q a3 a2 (λf1=>?_)
 refine .q (.aL rfl) ?_
 refine .bN (λb8=>?_)
 refine .bH rfl rfl<|.zs<|.dp [10] mixed ?_
 refine .tO 0 rfl .move<|.tO 1 rfl (.nilCheck rfl)<|.tO 2 rfl (.fieldAddr rfl)<|.tO 3 rfl (.cE rfl)<|.tO 4 rfl (.aL rfl) ?_
 refine .hJ 5 rfl (.cast (.qf (c6.rm.qh λb o hb=>.inl hb) rfl rfl) (congrArg (λl:List Value=>Value.tuple l.toArray) d1)) (by kernel_rfl) ?_
 refine .tO 6 rfl .move<|.tO 7 rfl .extract<|.tK 8 rfl .extract ?_
 refine .sT 9 rfl ?_
 refine .bN (λb9=>?_)
 refine .nil (Next.sub ?_)
 refine .sT 10 rfl ?_
 refine .bH rfl rfl ?_
 refine .nil (Next.mod rfl ?_)
 refine .tK 11 rfl .assign ?_
 refine RA.nil (by kernel_rfl) ?_
 refine ax<|.sr<|.mo rfl<|.q .not<|.zn ?_
 refine .cond rfl (λW=>?_) λW=>?_
 refine .sr<|.ag rfl<|.az rfl ?_
 refine .ret (bp (aI (cF (bp (aI (bk _ (.two (.tmp rfl) (.tmp rfl)) aW.jo ?_))))))
 ·refine⟨[],rfl,_,[],false,rfl,OS.nil,by simp,?_⟩
  have F:ok=false:=by simpa using W
  have hj:bX A t=none:=by
   cases f:bX A t with
   |none=>rfl
   |some j=>rw[f]at v;rw[v.1]at F;cases F
  rw[N,zC (aZ a2) hj]
  rfl
 have f:(bX A t).isSome=true:=by
  have L:ok=true:=by simpa using W
  cases f:bX A t with
  |none=>rw[f]at v;rw[v]at L;cases L
  |some j=>rfl
 refine .skip<|bf<|ax<|.region ?_
 refine .ia (q+1) .add ?_
 refine .mo rfl<|.nil ?_
 ·exact aP (q+1) ⟨b1,nG a2 M f⟩ (by omega) kE.c.c.c.c.c.c (aH [2,2,2,2])
 have c5:(findAll A (dI r.types)).isSome=true:=by
  have i:=td A (dI r.types)
  rw[dx (gj V)]at M
  cases f:findAll A (dI r.types)with
  |none=>rw[f]at i;rw[show _=false from i]at M;cases M
  |some o=>rfl
 rw[if_pos c5]at N
 rw[N]
 generalize hg:(λk:Nat=>(r.nodes[k]?).bind λn=>fv A j0 s.name r ((nF r.nodes).getD k false) n)=g at *
 refine .exit<|bq<|bz<|bs<|ax<|.sr<|.fa rfl<|.lo rfl ?_
 refine .cK (CY Q r.nodes _ O.rx a5 (by omega)) (λu T9 b7=>?_)
 have e9:=b7.ap
 refine .ag rfl<|.z<|.ag rfl<|.zs<|.sr<|.fa rfl<|.lo rfl<|.q (.bJ O) ?_
 refine .mo rfl<|.zn<|.block ?_
 refine .cx [(0,_),(3,_),(11,_),(46,_),(47,_)] (X:=Nat×Value×List kd×aB) (λy=>y.1<=r.nodes.length/\OS 325 5 jV y.2.1 y.2.2.1 y.2.2.2/\y.2.2.1.length<=8*y.1/\EA c true y.2.2.1 (cat g (List.range' 0 y.1))) (λy E=>(48,iN y.1)::(12,y.2.1)::E) (λy G=>y.2.2.2::G) (λy=>r.nodes.length-y.1) (0,sZ,[],[]) ⟨Nat.zero_le _,OS.nil,by simp,EA.nil⟩ kE.c.c.c.c.c.c.c aW.ff ?_
 rintro⟨m,vo,Es,To⟩ ⟨hm,K,c2,hE⟩
 simp only at hm K c2 hE⊢
 have io:=K.ap
 refine .sr<|.q .lss<|.zs ?_
 refine .cond rfl (λY=>?_) λY=>?_
 have a7:m<r.nodes.length:=cr Y
 obtain⟨n,a9⟩:=bR a7
 obtain⟨J,a4⟩:∃b,(nF r.nodes)[m]? =some b:=⟨_,bu (by omega)⟩
 have a6:g m=fv A j0 s.name r J n:=by
  rw[<-hg]
  simp only[a9,Option.bind_some]
  rw[List.getD_eq_getElem?_getD,a4]
  rfl
 have d4:List.range' 0 (m+1)=List.range' 0 m++[m]:=by rw[List.range'_1_concat];simp
 refine .kn<|.seq<|.block<|.sr<|.mo rfl ?_
 refine .bC m O a9 (λf2=>?_)
 refine .q (.aL rfl) ?_
 refine .bN (λc1=>?_)
 refine .ag rfl<|.bH rfl rfl<|.z<|.mo rfl<|.q (.aL rfl)<|.q (.aL rfl) ?_
 refine .cK ((a8 n).weaken cU) (λu T4 d6=>?_)
 obtain⟨w4,S,ok,rfl,a0,e2,a⟩:=d6
 have i4:=a0.ap
 refine .mo rfl<|.q .extract<|.q .extract<|.ag rfl<|.ag rfl<|.zs<|.sr<|.mo rfl<|.q .not<|.zn ?_
 refine .cond rfl (λZ=>?_) λZ=>?_
 refine .sr<|.ag rfl<|.az rfl ?_
 refine .ret (aI (bp (aI (cF (bp (aI (bk _ (.two (.tmp rfl) (.tmp rfl)) aW.jo ?_)))))))
 ·refine⟨[],rfl,_,[],false,rfl,OS.nil,by simp,?_⟩
  have F:ok=false:=by simpa using Z
  have B:targets A s.name r.types n=none:=by
   cases B:targets A s.name r.types n with
   |none=>rfl
   |some C=>rw[B]at a;rw[a.1]at F;cases F
  rw[u7 (x:=m) (by rw[List.mem_range'_1];omega) (by rw[a6];unfold fv;rw[B];rfl)]
  rfl
 have L:ok=true:=by simpa using Z
 subst L
 obtain⟨C,d5,c3,c4⟩:∃C,targets A s.name r.types n=some C/\S.map c.ix=C/\∀q∈S,c.valid q:=by
  cases B:targets A s.name r.types n with
  |none=>rw[B]at a;cases a
  |some C=>rw[B]at a;exact⟨C,rfl,a.2.1,a.2.2⟩
 refine .kn<|.sr<|.mo rfl<|.q (.dN a0) ?_
 refine .mo rfl<|.zn<|.block ?_
 refine .cx [(0,_),(3,_),(11,_),(13,_),(46,_),(47,_),(48,_),(62,_),(63,_)] (X:=Nat×Value×aB) (λy=>y.1<=S.length/\OS 325 5 jV y.2.1 (Es++(S.take y.1).map λq=>((p,q,J):kd)) y.2.2) (λy E=>(64,iN y.1)::(12,y.2.1)::E) (λy G=>T4::bl c1 n.enc 199::y.2.2::G) (λy=>S.length-y.1) (0,vo,To) ⟨Nat.zero_le _,by simpa using K⟩ kE.c.c.c.c.c.c.c.c.c.c.c rH ?_
 rintro⟨q,v3,T3⟩ ⟨d2,D⟩
 simp only at d2 D⊢
 have e5:=D.ap
 refine .sr<|.q .lss<|.zs ?_
 refine .cond rfl (λi=>?_) λi=>?_
 have b2:q<S.length:=cr i
 obtain⟨d9,b0⟩:=bR b2
 refine .kn<|.seq<|.block<|.sr ?_
 refine .bo q a0 b0 (λf3=>?_)
 refine .q (.aL rfl) ?_
 refine .bN (λe0=>?_)
 refine .bH rfl rfl<|.zn<|.dp [9] mixed ?_
 refine .tO 0 rfl .move<|.tO 1 rfl (.aL rfl)<|.tO 2 rfl (.aL rfl)<|.tO 3 rfl .move<|.tO 4 rfl .move ?_
 refine RA.bo 5 rfl m b7 a4 rfl rfl rfl (by kernel_rfl) (λf4=>?_)
 refine .tO 6 rfl (.cE rfl) ?_
 refine .tO 7 rfl .cN ?_
 refine .sT 8 rfl ?_
 refine .dM (λe1=>?_)
 refine .nil (Next.sub ?_)
 refine .sT 9 rfl ?_
 refine .append D (RS.lits (xs:=[((p,d9,J):kd)]) rfl (by simp[jV]) (by simp[jV,ap])) (by simp only[List.length_append,List.length_map,List.length_take,List.length_singleton];omega) (λv1 T1 c0=>?_)
 have f0:=c0.ap
 refine .nil (Next.mod rfl ?_)
 refine .tK 10 rfl .assign ?_
 refine RA.nil (by kernel_rfl) ?_
 refine bf<|ax<|.region ?_
 refine .ia (q+1) .add ?_
 refine .mo rfl<|.nil ?_
 ·exact aP (q+1,v1,T1) ⟨b2,by simp only;rw[dT b0,List.map_append, <-List.append_assoc];exact c0⟩ (by simp only;omega) kE.c.c.c.c.c.c.c.c.c.c.c (aH [2,2,2,2,2,2,2])
 rw[dx (gj i)]at D
 refine .exit<|bq<|bz<|bs<|bf<|ax<|.region ?_
 refine .ia (m+1) .add ?_
 refine .mo rfl<|.nil ?_
 ·exact aP (m+1,v3,Es++S.map (λq=>((p,q,J):kd)),T3) ⟨a7,D,by simp only[List.length_append,List.length_map];omega,by
   simp only
   rw[d4,qU]
   refine hE.ox ?_
   rw[cat,a6]
   unfold fv
   rw[d5]
   simp only[cat,Option.map_some,Option.bind_some,List.append_nil]
   refine⟨rfl,?_,λe he=>?_⟩
   ·rw[<-c3,List.map_map,List.map_map]
    congr 1
    funext q
    simp only[Function.comp_def,bM.ed,c7]
   ·obtain⟨q,hq,rfl⟩:=List.mem_map.1 he
    exact⟨d7,c4 q hq⟩⟩ (by simp only;omega) kE.c.c.c.c.c.c.c (aH [2,2,2,2,2])
 have c9:m=r.nodes.length:=by have:=bA Y;omega
 refine .exit<|bq<|bz<|bs<|ax<|.sr<|.mo rfl<|.ag rfl<|.az rfl ?_
 refine .ret (bk _ (.two (.tmp rfl) (.tmp rfl)) (.one [0] _) ?_)
 ·refine⟨To,by simp[take],vo,Es,true,rfl,K,by omega,?_⟩
  rw[<-c9]
  exact hE
theorem zp{c:bM}(h:sC c.fO):c.rf:=λs b r a=>h (s.name,r) (List.mem_flatMap.2 ⟨s,b,List.mem_map.2 ⟨r,a,rfl⟩⟩)
theorem Q3{R:aD}{xb:Nat}{vm:Value}{c:bM}(h:IX R xb vm c)(h8:c.rf)(t:c.ig):
  Spec prog 122 [pT xb] R [] λu H'=>∃T,H'=[T]/\∃w Es ok,u=.tuple [w,.bool ok].toArray/\OS 325 5 jV w Es T/\Es.length<=131072/\EA c ok Es c.plain.mq:=by
 have b4:=λp s r a J=>D7 h h8 p s r a J
 have b7:=h
 have c1:=looked c
 have pc:=h.pc
 have om:=h.om
 have L:=h.ci.ss
 have K:=h.ci.sc
 have i1:=L.ap
 have i2:=K.ap
 have d3:=L.le
 have d2:=K.le
 have b3:=h.ci.all
 have b1:=pR c.plain
 have d6:=t.fO
 have c0:c.plain.all.length=c.fO.length:=by rw[<-pa,List.length_map]
 have c6:c.plain.bd.length=c.bd.length:=by unfold bM.plain;simp
 have c4:∀(i:Nat) (s:cj),c.bd[i]? =some s->c.plain.bd[i]? =some s.plain:=λi s a=>pj a
 have c7:=λ(p:gp) (s:cj) (r:ca)=>pe (c:=c) (p:=p) (s:=s) (r:=r)
 have W:c.plain.mq=if uw c.plain then cat (λp:Nat×(ByteArray×Rl)=>lu c.plain.all p.1 p.2.1 p.2.2) (ko 0 c.plain.all)else none:=rfl
 have a9:uw c.plain=c.scopes.all λs:Sc=>(bX c.plain.all ⟨s.kv,s.rel⟩).isSome:=rfl
 have b8:∀i k,c.ix (i,k)=cI c.plain.bd i+k:=λ_ _=>rfl
 generalize hA:c.plain.all=A at *
 generalize V:cI c.plain.bd=of at *
 generalize hg:(λp:Nat×(ByteArray×Rl)=>lu A p.1 p.2.1 p.2.2)=g at *
 have c2:of 0=0:=by rw[<-V];cases c.plain.bd<;>rfl
 refine Spec.body Tryz.func122 rfl Tryz.results122 Tryz.ntmps122 rfl ?_
 refine .sr<|.ag rfl<|.ag rfl<|.z<|.ag rfl<|.zs<|.sr<|.mo rfl<|.nc rfl<|.fa rfl<|.fa rfl<|.lo rfl<|.q (.bJ L) ?_
 refine .mo rfl<|.zn<|.block ?_
 refine .cx [(0,_),(18,_),(19,_)] (X:=Nat×Value×List kd×aB) (λy=>y.1<=c.bd.length/\OS 325 5 jV y.2.1 y.2.2.1 y.2.2.2/\y.2.2.1.length<=512*of y.1/\EA c true y.2.2.1 (cat g (ko 0 (A.take (of y.1))))) (λy E=>(20,iN y.1)::(4,y.2.1)::E) (λy G=>y.2.2.2::G) (λy=>c.bd.length-y.1) (0,sZ,[],[]) ⟨Nat.zero_le _,OS.nil,by simp,by simp only;rw[c2];exact EA.nil⟩ kE.c.c.c.c.c aW.ff ?_
 rintro⟨i,M,Es,F⟩ ⟨hi,m,n,f⟩
 simp only at hi m n f⊢
 have io:=m.ap
 refine .sr<|.q .lss<|.zs ?_
 refine .cond rfl (λN=>?_) λN=>?_
 have a5:i<c.bd.length:=cr N
 obtain⟨⟨e,v,d⟩,a⟩:=bR a5
 have b0:=b3 _ (aZ a)
 have Z:RS R 3 ca.enc v d:=b0.rs
 have d7:=Z.ap
 have d4:=Z.le
 have d8:bZ (cj.enc ⟨e,v,d⟩):=⟨b0.cJ⟩
 have a8:=c4 i _ a
 have a7:=pi a8
 have a6:=tS a8
 rw[V,show(cj.plain ⟨e,v,d⟩).bS.length=d.length by simp[cj.plain]]at a7 a6
 rw[b1,c0]at a6
 refine .kn<|.seq<|.block<|.sr<|.mo rfl ?_
 refine .bC i L a (λe0=>?_)
 refine .q (.aL rfl) ?_
 refine .bN (λb6=>?_)
 refine .ag rfl<|.bH rfl rfl<|.z<|.fa rfl<|.lo rfl<|.q (.bJ Z) ?_
 refine .mo rfl<|.zn<|.block ?_
 refine .cx [(0,_),(5,_),(18,_),(19,_),(20,_),(27,_)] (X:=Nat×Value×List kd×aB) (λy=>y.1<=d.length/\OS 325 5 jV y.2.1 y.2.2.1 y.2.2.2/\y.2.2.1.length<=512*(of i+y.1)/\EA c true y.2.2.1 (cat g (ko 0 (A.take (of i+y.1))))) (λy E=>(28,iN y.1)::(4,y.2.1)::E) (λy G=>bl b6 (cj.enc ⟨e,v,d⟩) 164::y.2.2.2::G) (λy=>d.length-y.1) (0,M,Es,F) ⟨Nat.zero_le _,m,n,f⟩ kE.c.c.c.c.c.c.c.c rH ?_
 rintro⟨k,M,Es,F⟩ ⟨hk,m,n,f⟩
 simp only at hk m n f⊢
 have io:=m.ap
 refine .sr<|.q .lss<|.zs ?_
 refine .cond rfl (λO=>?_) λO=>?_
 have a4:k<d.length:=cr O
 obtain⟨r,J⟩:=bR a4
 have a1:=b4 (i,k) _ r a J
 have H:=c7 (i,k) _ r a J
 rw[b8]at a1 H
 have a2:g (of i+k,(e,r.r))=lu A (of i+k) e r.r:=by rw[<-hg]
 have d5:of i+k<A.length:=(List.getElem?_eq_some_iff.1 H).1
 refine .kn<|.seq<|.block<|.sr<|.mo rfl<|.ag rfl<|.z<|.mo rfl<|.mo rfl<|.mo rfl ?_
 refine .q .cN ?_
 refine .cK (a1.weaken cU) (λu T4 c8=>?_)
 obtain⟨w4,Fs,ok,rfl,a0,d1,B⟩:=c8
 have i4:=a0.ap
 refine .mo rfl<|.q .extract<|.q .extract<|.ag rfl<|.ag rfl<|.zs<|.sr<|.mo rfl<|.q .not<|.zn ?_
 refine .cond rfl (λQ=>?_) λQ=>?_
 refine .sr<|.ag rfl<|.az rfl ?_
 refine .ret (aI (bp (aI (cF (bp (bp (aI (cF (bp (aI (bk _ (.two (.tmp rfl) (.tmp rfl)) aW.jo ?_)))))))))))
 ·refine⟨[],rfl,_,[],false,rfl,OS.nil,by simp,?_⟩
  have D:ok=false:=by simpa using Q
  rw[W]
  split
  ·rw[u7 (x:=(of i+k,(e,r.r))) (by have:=sV (i:=0) H;rwa [Nat.zero_add]at this) (by
    rw[a2]
    cases hrc:lu A (of i+k) e r.r with
    |none=>rfl
    |some o=>rw[show lu A (of i+k) (⟨e,v,d⟩:cj).name r.r=some o from hrc]at B;rw[B.1]at D;cases D)]
   rfl
  ·rfl
 have I:ok=true:=by simpa using Q
 subst I
 refine .kn<|.region<|.mo rfl<|.mo rfl ?_
 refine .append m a0.rx (by omega) (λv1 T1 b2=>?_)
 have d9:=b2.ap
 refine .ag rfl<|.nil<|bf<|ax<|.region ?_
 refine .ia (k+1) .add ?_
 refine .mo rfl<|.nil ?_
 ·exact aP (k+1,v1,Es++Fs,T1) ⟨a4,b2,by simp only[List.length_append];omega,by
   simp only
   rw[show of i+(k+1)=of i+k+1 by omega,vA H,qU]
   refine f.ox ?_
   rw[cat,Nat.zero_add,show g (of i+k,(⟨e,v,d⟩:cj).name,r.r)=lu A (of i+k) e r.r from a2]
   revert B
   generalize lu A (of i+k) (⟨e,v,d⟩:cj).name r.r=o
   intro B
   cases o with
   |none=>exact B
   |some o=>simpa[cat]using B⟩ (by simp only;omega) kE.c.c.c.c.c.c.c.c (aH [1,1,1])
 have b9:k=d.length:=by have:=bA O;omega
 rw[b9, <-a7]at n f
 refine .exit<|bq<|bz<|bs<|bf<|ax<|.region ?_
 refine .ia (i+1) .add ?_
 refine .mo rfl<|.nil ?_
 ·exact aP (i+1,M,Es,F) ⟨a5,m,n,f⟩ (by simp only;omega) kE.c.c.c.c.c (aH [1])
 have b5:i=c.bd.length:=by have:=bA N;omega
 have c3:of i=A.length:=by rw[b5, <-c6, <-V, <-b1];rfl
 rw[c3,List.take_length]at f
 refine .exit<|bq<|bz<|bs<|ax<|.seq<|.sr<|.mo rfl<|.nc rfl<|.fa rfl<|.fa rfl<|.lo rfl<|.q (.bJ K) ?_
 refine .mo rfl<|.zn<|.block ?_
 refine .cx [(0,_),(4,_),(50,_),(51,_)] (X:=Nat) (λj=>j<=c.scopes.length/\(c.scopes.take j).all (λs:Sc=>(bX A ⟨s.kv,s.rel⟩).isSome)=true) (λj E=>(52,iN j)::E) (λ_ G=>G) (λj=>c.scopes.length-j) 0 ⟨Nat.zero_le _,rfl⟩ kE.c.c.c.c.c rH ?_
 rintro j ⟨hj,Y⟩
 refine .sr<|.q .lss<|.zs ?_
 refine .cond rfl (λS=>?_) λS=>?_
 have a3:j<c.scopes.length:=cr S
 obtain⟨s,a⟩:=bR a3
 obtain⟨ps,ok,c5,C⟩:=c1 (⟨s.kv,s.rel⟩:Ty)
 unfold ot at C
 rw[hA]at C
 refine .kn<|.seq<|.block<|.sr ?_
 refine .bC j K a (λe1=>?_)
 refine .q (.aL rfl) ?_
 refine .bN (λc9=>?_)
 refine .bH rfl rfl<|.zs<|.dp [15] mixed ?_
 refine .tO 0 rfl .move<|.tO 1 rfl (.nilCheck rfl)<|.tO 2 rfl (.fieldAddr rfl)<|.tO 3 rfl (.cE rfl)<|.tO 4 rfl (.fieldAddr rfl)<|.tO 5 rfl (.fieldAddr rfl)<|.tO 6 rfl (.cE rfl)<|.tO 7 rfl (.fieldAddr rfl)<|.tO 8 rfl (.cE rfl) ?_
 refine .tO 9 rfl .cN ?_
 refine .hJ 10 rfl (.cast (.qf (b7.rm.qh λb o hb=>.inl hb) rfl rfl) (congrArg (λl:List Value=>Value.tuple l.toArray) c5)) (by kernel_rfl) ?_
 refine .tO 11 rfl .move<|.tO 12 rfl .extract<|.tK 13 rfl .extract ?_
 refine .sT 14 rfl ?_
 refine .bN (λd0=>?_)
 refine .nil (Next.sub ?_)
 refine .sT 15 rfl ?_
 refine .bH rfl rfl ?_
 refine .nil (Next.mod rfl ?_)
 refine .tK 16 rfl .assign ?_
 refine RA.nil (by kernel_rfl) ?_
 refine ax<|.sr<|.mo rfl<|.q .not<|.zn ?_
 refine .cond rfl (λU=>?_) λU=>?_
 refine .sr<|.ag rfl<|.az rfl ?_
 refine .ret (bp (aI (cF (bp (aI (bk _ (.two (.tmp rfl) (.tmp rfl)) aW.jo ?_))))))
 ·refine⟨[],rfl,_,[],false,rfl,OS.nil,by simp,?_⟩
  have D:ok=false:=by simpa using U
  have hj:bX A ⟨s.kv,s.rel⟩=none:=by
   cases t:bX A ⟨s.kv,s.rel⟩with
   |none=>rfl
   |some j=>rw[t]at C;rw[C.1]at D;cases D
  rw[W,a9,lL a (by rw[hj];rfl)]
  rfl
 have t:(bX A ⟨s.kv,s.rel⟩).isSome=true:=by
  have I:ok=true:=by simpa using U
  cases t:bX A ⟨s.kv,s.rel⟩with
  |none=>rw[t]at C;rw[C]at I;cases I
  |some j=>rfl
 refine .skip<|bf<|ax<|.region ?_
 refine .ia (j+1) .add ?_
 refine .mo rfl<|.nil ?_
 ·exact aP (j+1) ⟨a3,nG a Y t⟩ (by omega) kE.c.c.c.c.c (aH [2])
 refine .exit<|bq<|bz<|bs<|ax<|.sr<|.mo rfl<|.ag rfl<|.az rfl ?_
 refine .ret (bk _ (.two (.tmp rfl) (.tmp rfl)) (.one [0] _) ?_)
 ·refine⟨F,by simp[take],M,Es,true,rfl,m,Nat.le_trans n (Nat.mul_le_mul_left 512 (show of i<=256 by omega)),?_⟩
  rw[dx (gj S)]at Y
  rw[W,a9,Y,if_pos rfl]
  exact f
abbrev iV:=fA×aB
def pV(w:Value)(LL:List iV)(To:aB):Prop:=OS 182 1 dZ w (LL.map (·.1)) To/\∀q∈LL,OS 3 1 cW q.1.1 q.1.2 q.2
def ov(w:Value)(LL:List iV)(T:aB):Prop:=∃To,T=To++LL.flatMap (·.2)/\pV w LL To
theorem As{α:Type}{l:List α}{i:Nat}{x:α}(h:l[i]? =some x):∃A B,l=A++x::B/\A.length=i/\∀y,l.set i y=A++y::B:=by
 refine⟨l.take i,l.drop (i+1),?_,?_,λy=>?_⟩
 ·have:=yJ h
  rw[<-this,List.take_append_drop]
 ·rw[List.length_take];have:=(List.getElem?_eq_some_iff.1 h).1;omega
 ·exact List.set_eq_take_append_cons_drop.trans (if_pos (List.getElem?_eq_some_iff.1 h).1)
theorem Qs(w:Value)(d:List iV)(T:aB)(h:ov w d T)(e:kd)(a b:Nat)(t K:iV)(s:d[e.1.1]? =some t)(B:d[e.2.1.1]? =some K)(r:t.1.2[e.1.2]? =some a)(i:K.1.2[e.2.1.2]? =some b)(a1:b<=1000000000)(R:aD):
  Spec prog 182 [w,.agg (jV e).toArray] R [T] λu H'=>∃T',H'=[T']/\((u=.bool false/\b+(if e.2.2 then 1 else 0)<=a/\ov w d T')\/(u=.bool true/\a<b+(if e.2.2 then 1 else 0)/\∃Tn,ov w (d.set e.1.1 ((t.1.1,t.1.2.set e.1.2 (b+(if e.2.2 then 1 else 0))),Tn)) T')):=by
 obtain⟨f,rfl,g,n⟩:=h
 obtain⟨⟨k,l⟩,⟨v,C⟩,j⟩:=e
 obtain⟨⟨D,S⟩,V⟩:=t
 obtain⟨⟨F,U⟩,Z⟩:=K
 simp only at s B r i⊢
 have m:=n _ (aZ s)
 have A:=n _ (aZ B)
 simp only at m A
 have iw:=g.ap
 have a4:One D:=m.ap
 have a5:One F:=A.ap
 have I:(d.map (·.1))[k]? =some (D,S):=by rw[List.getElem?_map,s];rfl
 have Q:(d.map (·.1))[v]? =some (F,U):=by rw[List.getElem?_map,B];rfl
 have O:∀(q:iV),q∈d->∀p∈q.2,p∈d.flatMap (·.2):=λq hq p Y=>List.mem_flatMap.2 ⟨q,hq,Y⟩
 obtain⟨L,M,y,a0,J⟩:=As s
 have a2:RC R [f,d.flatMap (·.2)] (eC D (l*1)) (cW a):=⟨(m.pc r).mono λb o i=>.inr (by have:=O _ (aZ s) _ i;simp[this])⟩
 have a3:RC R [f,d.flatMap (·.2)] (eC F (C*1)) (cW b):=⟨(A.pc i).mono λb o i=>.inr (by have:=O _ (aZ B) _ i;simp[this])⟩
 have a6:PS f (eC w (k*1)) (dZ (D,S)):=⟨g.pc I⟩
 have a7:PS f (eC w (v*1)) (dZ (F,U)):=⟨g.pc Q⟩
 refine Spec.gO (H':=[f,d.flatMap (·.2)]) (by simp) ?_
 refine Spec.body Tryz.func182 rfl Tryz.results182 Tryz.ntmps182 rfl ?_
 refine .sr ?_
 refine .bW rfl (λN=>?_)
 refine .ag rfl<|.zs ?_
 refine .fX mixed (by kernel_rfl) ?_
 refine .mo rfl<|.fa rfl<|.fa rfl<|.lo rfl<|.q (.bC v g.sg Q rfl rfl rfl) ?_
 refine .lo rfl<|.fa rfl<|.fa rfl<|.lo rfl<|.q (.bC C A.sg i rfl rfl rfl) ?_
 refine .lo rfl<|.ag rfl<|.zs<|.sr<|.fa rfl<|.lo rfl<|.zn ?_
 refine bx.cL [(0,_),(3,_)] kE.c.c (X:=Unit) (λ_=>True) (λ_ E=>(5,.int .i64 ((b+(if j then 1 else 0):Nat):Int))::E) (λ_=>[bl N (jV ((k,l),(v,C),j)) 325,f,d.flatMap (·.2)]) ?_ ?_
 refine .cond rfl (λG=>?_) λG=>?_
 refine .region<|.mo rfl ?_
 refine .ia (b+1) .add ?_
 refine .ag rfl<|.nil ?_
 ·exact ay () trivial (kE.c.c.jG rfl (by have h:j=_:=G;simp[h])) rH
 refine .skip ?_
 ·exact ay () trivial (kE.c.c.jG rfl (by have h:j=_:=G;simp[h])) rH
 intro x hx
 refine ax<|.seq<|.seq ?_
 refine .fX mixed (by kernel_rfl) ?_
 refine .mo rfl<|.fa rfl<|.fa rfl<|.lo rfl<|.q (.bC k g.sg I rfl rfl rfl) ?_
 refine .lo rfl<|.fa rfl<|.fa rfl<|.lo rfl<|.q (.bC l m.sg r rfl rfl rfl) ?_
 refine .lo rfl<|.mo rfl<|.q .geq<|.zn ?_
 refine .cond rfl (λH=>?_) λH=>?_
 refine .sr<|.az rfl ?_
 refine .ret (aI (bk _ (.one (.tmp rfl)) (.one [1,1] _) ?_))
 ·refine⟨_,rfl,.inl ⟨rfl,by have:=cm H;omega,f,by simp[take,bL],g,n⟩⟩
 refine .kn<|.seq ?_
 refine .dU 11 mixed (by kernel_rfl) ?_
 conv=>arg 6;dsimp only[List.take]
 refine .mo rfl<|.fa rfl<|.fa rfl<|.lo rfl<|.q (.bC k g.sg I rfl rfl rfl) ?_
 refine .lo rfl<|.fa rfl<|.fa rfl<|.lo rfl<|.mo rfl<|.q (.bC l m.sg r rfl rfl rfl) ?_
 refine .nil ?_
 refine .sub (H':=[bl N (jV ((k,l),(v,C),j)) 325,f,V,L.flatMap (·.2)++M.flatMap (·.2)]) (aW.ez (by
  rw[y]
  simp only[List.flatMap_append,List.flatMap_cons,List.flatten_cons,List.flatten_nil,List.append_nil]
  refine .append_left _ (.append_left _ ?_)
  rw[<-List.append_assoc, <-List.append_assoc]
  exact List.perm_append_comm.append_right _)) ?_
 refine .gz l m r (b+(if j then 1 else 0)) (λTn W=>?_)
 refine .z<|.az rfl ?_
 refine .ret (bk _ (.one (.tmp rfl)) ((aH [1,1,1]).trans (aW.ez (H':=[f++(L.flatMap (·.2)++(Tn++M.flatMap (·.2)))]) (by simp only[take,bL,List.getD_cons_zero,List.getD_cons_succ,List.flatten_cons,List.flatten_nil,List.append_nil];refine .append_left _ ?_;rw[<-List.append_assoc, <-List.append_assoc];exact List.perm_append_comm.append_right _))) ?_)
 ·refine⟨_,rfl,.inr ⟨rfl,by have:=bA H;omega,Tn,f,?_,?_,λq hq=>?_⟩⟩
  ·rw[J];simp
  ·refine g.congr ?_
   rw[J,y]
   simp[dZ]
  ·rw[J]at hq
   rcases List.mem_append.1 hq with hq|hq
   ·exact n q (by rw[y];exact List.mem_append_left _ hq)
   ·rcases List.mem_cons.1 hq with rfl|hq
    ·exact W
    ·exact n q (by rw[y];exact List.mem_append_right _ (List.mem_cons_of_mem _ hq))
theorem w8{c:bM}{X:List Nat}{p:gp}(g:c.valid p)(i:X.length=total c.plain.bd):∃s:Sp,c.plain.bd[p.1]? =some s/\p.2<s.bS.length/\(rows c.plain.bd X)[p.1]? =some ((X.drop (cI c.plain.bd p.1)).take s.bS.length)/\c.ix p<X.length/\
  ((X.drop (cI c.plain.bd p.1)).take s.bS.length)[p.2]? =some (X.getD (c.ix p) 0):=by
 obtain⟨s,r,f,e⟩:=g
 have a:=pj f
 have d:=(List.getElem?_eq_some_iff.1 (Bg e)).1
 have h:=tS a
 have b:c.ix p<X.length:=by unfold bM.ix;omega
 refine⟨s.plain,a,d,pB a,b,?_⟩
 rw[List.getElem?_take,if_pos d,List.getElem?_drop,List.getD_eq_getElem?_getD]
 unfold bM.ix at b⊢
 rw[bu b]
 rfl
theorem Qq{c:bM}(w:Value)(a:List iV)(T:aB)(h:ov w a T)(X:List Nat)(j:X.length=total c.plain.bd)(k:a.map (·.1.2)=rows c.plain.bd X)(e:kd)(s:c.valid e.1/\c.valid e.2.1)(D:∀x∈X,x<=1000000000)(R:aD):
  Spec prog 182 [w,.agg (jV e).toArray] R [T] λu H'=>∃T',H'=[T']/\∃ch LL',u=.bool ch/\ch=decide (gx X (c.ed e)≠X)/\ov w LL' T'/\LL'.map (·.1.2)=rows c.plain.bd (gx X (c.ed e)):=by
 obtain⟨Q,t,v,y,z,A⟩:=w8 s.1 j
 obtain⟨S,U,V,K,L,M⟩:=w8 s.2 j
 have p:∀{i:Nat} {o:List Nat},(rows c.plain.bd X)[i]? =some o->∃q:iV,a[i]? =some q/\q.1.2=o:=λ{i o} b=>by
  rw[<-k,List.getElem?_map]at b
  cases hq:a[i]? with
  |none=>rw[hq]at b;cases b
  |some q=>rw[hq]at b;exact⟨q,rfl,by simpa using b⟩
 obtain⟨I,F,r⟩:=p y
 obtain⟨J,G,H⟩:=p K
 have C:X.getD (c.ix e.2.1) 0<=1000000000:=D _ (by rw[List.getD_eq_getElem?_getD,bu L];exact List.getElem_mem _)
 have O:X.getD (c.ix e.1) 0=X.getD (c.ed e).f 0:=rfl
 refine(Qs w a T h e (X.getD (c.ix e.1) 0) (X.getD (c.ix e.2.1) 0) I J F G (by rw[r];exact A) (by rw[H];exact M) C R).mono λu H' m=>?_
 obtain⟨T',rfl,m⟩:=m
 refine⟨T',rfl,?_⟩
 rcases m with⟨rfl,B,g⟩|⟨rfl,B,N,g⟩
 ·have d:gx X (c.ed e)=X:=if_neg (by show ¬X.getD (c.ix e.1) 0<X.getD (c.ix e.2.1) 0+_;unfold Ed.w bM.ed;simp only;omega)
  refine⟨false,a,rfl,?_,g,?_⟩
  ·rw[d];simp
  ·rw[d];exact k
 ·have d:gx X (c.ed e)=X.set (c.ix e.1) (X.getD (c.ix e.2.1) 0+if e.2.2 then 1 else 0):=if_pos (by show X.getD (c.ix e.1) 0<X.getD (c.ix e.2.1) 0+_;unfold Ed.w bM.ed;simp only;omega)
  refine⟨true,_,rfl,?_,g,?_⟩
  ·rw[d,eq_comm,decide_eq_true_iff]
   intro E
   have:=congrArg (λl:List Nat=>l.getD (c.ix e.1) 0) E
   rw[oP _ _ _ _ z,if_pos rfl]at this
   omega
  ·rw[d]
   have:=BC (n:=X) (x:=X.getD (c.ix e.2.1) 0+if e.2.2 then 1 else 0) t v j
   unfold bM.ix at this⊢
   rw[this,List.map_set,k,r]
theorem Qr{A X:List Nat}{e:Ed}(d:∀i,A.getD i 0<=X.getD i 0)(l:X.length=A.length)(k:e.f<X.length):gx X e≠A↔(X≠A\/gx X e≠X):=by
 have c:=λi=>ul X e k i
 constructor
 ·intro h
  by_cases g:X=A
  ·exact .inr (by rw[g]at h⊢;exact h)
  ·exact .inl g
 ·rintro(h|h) b
  ·refine h (oT l λi _=>?_)
   have j:=d i
   have a:=c i
   rw[b]at a
   omega
  ·refine h (oT (by rw[qo]) λi _=>?_)
   have j:=d i
   have a:=c i
   rw[b]at a⊢
   omega
theorem Qo{X:List Nat}{e:Ed}{b:Nat}(h:∀x∈X,x<=b):∀x∈gx X e,x<=b+1:=by
 intro x hx
 unfold gx at hx
 split at hx
 ·rcases List.mem_or_eq_of_mem_set hx with hx|rfl
  ·have:=h x hx;omega
  ·have a:X.getD e.t 0<=b:=by
    rw[List.getD_eq_getElem?_getD]
    cases hq:X[e.t]? with
    |none=>exact Nat.zero_le _
    |some q=>exact h q (aZ hq)
   have c:e.w<=1:=by unfold Ed.w;split<;>omega
   omega
 ·have:=h x hx;omega
theorem Ro{R:aD}{xb:Nat}{vm:Value}{c:bM}(h:IX R xb vm c)(hf:c.ig)(ve:Value)(a:List kd)(O:RS R 5 jV ve a)(c0:a.length<=131072)(N:∀e∈a,c.valid e.1/\c.valid e.2.1):
  Spec prog 123 [pT xb,ve] R [] λu H'=>∃T,H'=[T]/\match settle (a.map c.ed) (total c.plain.bd+1) (List.replicate (total c.plain.bd) 0)with
   |none=>u=.tuple [sZ,.bool false].toArray
   |some A=>∃w ll,u=.tuple [w,.bool true].toArray/\NN (sg T) w ll/\ll.map (·.2)=rows c.plain.bd A:=by
 have d0:=h
 have pc:=h.pc
 have om:=h.om
 have B:=h.ci.ss
 have i1:=B.ap
 have i2:One c.vc:=RS.ap h.ci.sc
 have e5:=B.le
 have e6:=hf.1
 have c6:=h.ci.all
 have f4:=pR c.plain
 have e4:c.plain.all.length=c.fO.length:=by rw[<-pa,List.length_map]
 have f0:=hf.fO
 have f2:c.plain.bd.length=c.bd.length:=by unfold bM.plain;simp
 have d6:∀(i:Nat) (s:cj),c.bd[i]? =some s->c.plain.bd[i]? =some s.plain:=λi s t=>pj t
 have e0:=BD c.plain.bd
 have d8:=λw Q T hh X v hr e N hb R=>Qq (c:=c) w Q T hh X v hr e N hb R
 have e1:=xp c.plain.bd 0
 have c8:∀e∈a,(c.ed e).f<total c.plain.bd:=λe he=>by
  obtain⟨s,_,H,_,r,_⟩:=w8 (X:=List.replicate (total c.plain.bd) 0) (N e he).1 (by simp)
  rw[List.length_replicate]at r
  exact r
 have f8:=O.ap
 have e8:=O.le
 have f3:total c.plain.bd<=256:=by omega
 generalize f5:total c.plain.bd=tot at *
 refine Spec.body Tryz.func123 rfl Tryz.results123 Tryz.ntmps123 rfl ?_
 refine .sr<|.ag rfl<|.ag rfl<|.z<|.mo rfl<|.nc rfl<|.fa rfl<|.fa rfl<|.lo rfl<|.q (.bJ B) ?_
 refine .makeSlice (enc:=dZ) c.bd.length ((sZ,[]):fA) rfl rfl (by decide) (by simp[dZ,ap]) rfl rfl (by omega) (by omega) (λS T6 c3=>?_)
 refine .ag rfl<|.zs<|.sr<|.mo rfl<|.nc rfl<|.fa rfl<|.fa rfl<|.lo rfl<|.q (.bJ B) ?_
 refine .mo rfl<|.zn<|.block ?_
 refine .cx [(0,_),(1,_),(6,_),(23,_),(24,_)] (X:=Nat×List iV×aB) (λy=>y.1<=c.bd.length/\y.2.1.length=y.1/\OS 182 1 dZ (.slice (some ⟨S,0,none⟩) c.bd.length c.bd.length) (y.2.1.map (·.1)++List.replicate (c.bd.length-y.1) ((sZ,[]):fA)) y.2.2/\(∀q∈y.2.1,OS 3 1 cW q.1.1 q.1.2 q.2)/\y.2.1.map (·.1.2)=((c.plain.bd.take y.1).map λs=>List.replicate s.bS.length 0)) (λy E=>(25,iN y.1)::E) (λy G=>y.2.2::y.2.1.flatMap (·.2)::G) (λy=>c.bd.length-y.1) (0,[],T6) (G:=[]) ⟨Nat.zero_le _,rfl,by simp only[List.map_nil,List.nil_append,Nat.sub_zero];exact c3,λq hq=>(by cases hq),by simp⟩ kE.c.c.c.c.c.c ((aH [0]).trans (aW.ez (by simp[take]))) ?_
 rintro⟨i,D,To⟩ ⟨hi,a0,l,hI,Z⟩
 simp only at hi a0 l hI Z⊢
 refine .sr<|.q .lss<|.zs ?_
 refine .cond rfl (λU=>?_) λU=>?_
 have b3:i<c.bd.length:=cr U
 obtain⟨⟨sn,sv,d⟩,t⟩:=bR b3
 have b7:=c6 _ (aZ t)
 have a4:RS R 3 ca.enc sv d:=b7.rs
 have f6:=a4.ap
 have e7:=a4.le
 have f7:bZ (cj.enc ⟨sn,sv,d⟩):=⟨b7.cJ⟩
 have f1:d.length<=16:=hf.2 _ (aZ t)
 have d5:=d6 i _ t
 obtain⟨k,hk⟩:∃k,c.bd.length-i=k+1:=⟨c.bd.length-i-1,by omega⟩
 have d2:c.bd.length-(i+1)=k:=by omega
 rw[hk]at l
 have a5:(D.map (·.1)).length=i:=by rw[List.length_map,a0]
 obtain⟨z,hz⟩:∃z,(D.map (·.1)++List.replicate (k+1) ((sZ,[]):fA))[i]? =some z:=⟨_,bu (by rw[List.length_append,a5,List.length_replicate];omega)⟩
 refine .kn<|.seq<|.block<|.sr<|.mo rfl ?_
 refine .bC i B t (λf9=>?_)
 refine .q (.aL rfl) ?_
 refine .bN (λb8=>?_)
 refine .ag rfl<|.bH rfl rfl<|.zn<|.region<|.mo rfl<|.mo rfl<|.fa rfl<|.lo rfl<|.q (.bJ a4) ?_
 refine .makeSlice (enc:=cW) d.length 0 rfl rfl (by decide) (by simp[cW,ap]) rfl rfl (by omega) (by omega) (λbn Tn c4=>?_)
 refine .bo i l hz (λg0=>?_)
 refine .gz i l hz ((.slice (some ⟨bn,0,none⟩) d.length d.length,List.replicate d.length 0):fA) (λF a6=>?_)
 rw[ka a5]at a6
 refine .nil<|bf<|ax<|.region ?_
 refine .ia (i+1) .add ?_
 refine .mo rfl<|.nil ?_
 ·exact aP (i+1,D++[((.slice (some ⟨bn,0,none⟩) d.length d.length,List.replicate d.length 0),Tn)],F) ⟨b3,by simp[a0],by simp only;rw[d2,List.map_append];exact a6,λq hq=>by
   rcases List.mem_append.1 hq with hq|hq
   ·exact hI q hq
   ·rw[List.mem_singleton]at hq;subst hq;exact c4,by simp only;rw[dT d5,List.map_append,List.map_append,Z];simp[cj.plain]⟩ (by simp only;omega) kE.c.c.c.c.c.c ((aH [2,2,0]).trans (aW.ez (by simp[take,bL])))
 have c9:i=c.bd.length:=by have:=bA U;omega
 have b9:D.map (·.1.2)=rows c.plain.bd (List.replicate tot 0):=by
  rw[e0,Z,dx (by omega)]
 rw[c9,Nat.sub_self]at l
 simp only[List.replicate_zero,List.append_nil]at l
 refine .exit<|bq<|bz<|bs<|ax<|.seq<|.sr<|.mo rfl<|.nc rfl<|.fa rfl<|.lo rfl ?_
 refine .q (.Al (d0.rm.qh λb o hb=>.inl hb) rfl) ?_
 rw[e1]
 refine .ia (tot+1) .add ?_
 refine .mo rfl<|.zn<|.block ?_
 refine .cx [(1,_),(6,_),(43,_)] (X:=Nat×List Nat×List iV×aB) (λy=>y.1<=tot+1/\y.2.1.length=tot/\ov (.slice (some ⟨S,0,none⟩) c.bd.length c.bd.length) y.2.2.1 y.2.2.2/\y.2.2.1.map (·.1.2)=rows c.plain.bd y.2.1/\(∀x∈y.2.1,x<=y.1*a.length)/\settle (a.map c.ed) (tot+1) (List.replicate tot 0)=settle (a.map c.ed) (tot+1-y.1) y.2.1) (λy E=>(44,iN y.1)::E) (λy _=>[y.2.2.2]) (λy=>tot+1-y.1) (0,List.replicate tot 0,D,To++(D.flatMap (·.2)++[])) (G:=[]) ⟨Nat.zero_le _,by simp,⟨To,by simp,l,hI⟩,b9,λx g=>by rw[List.eq_of_mem_replicate g];exact Nat.zero_le _,rfl⟩ kE.c.c.c.c (aW.one [0,0] _) ?_
 rintro⟨m,A,Q,T⟩ ⟨hm,Y,a7,b5,a9,M⟩
 simp only at hm Y a7 b5 a9 M⊢
 refine .sr<|.q .lss<|.zs ?_
 refine .cond rfl (λH=>?_) λH=>?_
 have d4:m<tot+1:=by have:=cm H;omega
 have e9:m*a.length<=256*131072:=Nat.mul_le_mul (by omega) c0
 refine .kn<|.seq<|.block<|.sr<|.ag rfl<|.zs<|.sr<|.mo rfl<|.q (.bJ O) ?_
 refine .mo rfl<|.zn<|.block ?_
 refine .cx [(1,_),(6,_),(43,_),(44,_),(46,_),(47,_)] (X:=Nat×List Nat×List iV×aB) (λy=>y.1<=a.length/\y.2.1=((a.take y.1).map c.ed).foldl gx A/\y.2.1.length=tot/\ov (.slice (some ⟨S,0,none⟩) c.bd.length c.bd.length) y.2.2.1 y.2.2.2/\y.2.2.1.map (·.1.2)=rows c.plain.bd y.2.1/\(∀x∈y.2.1,x<=m*a.length+y.1)/\∀i,A.getD i 0<=y.2.1.getD i 0) (λy E=>(48,iN y.1)::(9,.bool (decide (y.2.1≠A)))::E) (λy _=>[y.2.2.2]) (λy=>a.length-y.1) (0,A,Q,T) (G:=[]) ⟨Nat.zero_le _,rfl,Y,a7,b5,λx g=>a9 x g,λi=>Nat.le_refl _⟩ ((kE.c.c.c.c.c.c.bP rfl (by simp)).cons rfl) rH ?_
 rintro⟨j,X,C,TX⟩ ⟨hj,v,n,I,L,K,a3⟩
 simp only at hj v n I L K a3⊢
 refine .sr<|.q .lss<|.zs ?_
 refine .cond rfl (λV=>?_) λV=>?_
 have b2:j<a.length:=cr V
 obtain⟨e,a2⟩:=bR b2
 have b1:=aZ a2
 have d9:=d8 _ C TX I X n L e (N e b1) (λx g=>by have:=K x g;omega)
 have b0:=c8 e b1
 refine .kn<|.seq<|.block<|.sr ?_
 refine .bC j O a2 (λg1=>?_)
 refine .q (.aL rfl) ?_
 refine .bN (λe3=>?_)
 refine .bH rfl rfl<|.z<|.mo rfl<|.q (.aL rfl) ?_
 refine .cY (d9 R) (λu F hu=>?_)
 obtain⟨ch,L1,rfl,c7,c5,d7⟩:=hu
 refine .zn ?_
 refine bx.cL [(1,_),(6,_),(43,_),(44,_),(46,_),(47,_),(48,_)] kE.c.c.c.c.c.c.c (X:=Unit) (λ_=>True) (λ_ E=>(9,.bool (decide (X≠A)||ch))::E) (λ_=>[F]) ?_ ?_
 refine .cond rfl (λr=>?_) λr=>?_
 refine .region<|.ag rfl<|.nil ?_
 ·exact ay () trivial (kE.c.c.c.c.c.c.c.bP rfl (by simp[r])) (aH [1])
 refine .skip ?_
 ·exact ay () trivial (kE.c.c.c.c.c.c.c.bP rfl (by simp[r])) (aH [1])
 intro x g
 refine bf<|ax<|.region ?_
 refine .ia (j+1) .add ?_
 refine .mo rfl<|.nil ?_
 ·exact aP (j+1,gx X (c.ed e),L1,F) ⟨b2,by simp only;rw[dT a2,List.map_append,List.foldl_append, <-v];rfl,by simp only;rw[qo,n],c5,d7,λy hy=>by have:=Qo K y hy;simp only;omega,λi=>Nat.le_trans (a3 i) (ul X _ (by rw[n];exact b0) i)⟩ (by simp only;omega) ((kE.c.c.c.c.c.c.bP rfl (by
   simp only
   rw[c7, <-Bool.decide_or]
   exact decide_eq_decide.2 (Qr a3 (by rw[n,Y]) (by rw[n];exact b0)).symm)).cons rfl) rH
 have d1:j=a.length:=by have:=bA V;omega
 have a1:X=pass (a.map c.ed) A:=by rw[v,d1,List.take_length];rfl
 refine .exit<|bq<|bz<|bs<|ax<|.sr<|.mo rfl<|.q .not<|.zn ?_
 refine .cond rfl (λW=>?_) λW=>?_
 have J:X=A:=Decidable.not_not.1 (show ¬¬X=A by simpa using W)
 refine .sr<|.mo rfl<|.ag rfl<|.az rfl ?_
 refine .ret (bp (aI (cF (bp (aI (bk _ (.two (.tmp rfl) (.tmp rfl)) (.one [0] _) ?_))))))
 ·refine⟨_,rfl,?_⟩
  rw[M,show tot+1-m=tot+1-(m+1)+1 by omega,settle,if_pos (by rw[<-a1];exact J)]
  obtain⟨e2,a8,c2,c1⟩:=I
  refine⟨_,C.map (·.1),rfl,⟨c2.rs λp hp=>?_,λq hq=>?_⟩,?_⟩
  ·show p∈_
   simp[take,a8,hp]
  ·obtain⟨q2,b4,rfl⟩:=List.mem_map.1 hq
   refine(c1 q2 b4).rs λp hp=>?_
   show p∈_
   have:p∈C.flatMap (·.2):=List.mem_flatMap.2 ⟨q2,b4,hp⟩
   simp only[take,a8,List.getD_cons_zero,List.flatten_cons,List.flatten_nil,List.append_nil]
   exact List.mem_append_right _ this
  ·rw[List.map_map, <-J]
   exact L
 have J:X≠A:=by simpa using W
 refine .skip<|bf<|ax<|.region ?_
 refine .ia (m+1) .add ?_
 refine .mo rfl<|.nil ?_
 ·exact aP (m+1,X,C,TX) ⟨d4,n,I,L,λx g=>by have h6:=K x g;simp only;rw[Nat.add_mul];omega,by
   simp only
   rw[M,show tot+1-m=tot+1-(m+1)+1 by omega,settle,if_neg (by rw[<-a1];exact J), <-a1]⟩ (by simp only;omega) kE.c.c.c.c rH
 refine .exit<|bq<|bz<|bs<|ax<|.sr<|.ag rfl<|.az rfl ?_
 refine .ret (bk _ (.two (.tmp rfl) (.tmp rfl)) (.one [0] _) ?_)
 ·refine⟨_,rfl,?_⟩
  have d3:m=tot+1:=by have:=bA H;omega
  rw[M,d3,Nat.sub_self,settle]
theorem Rm{c:bM}{k:Nat}{E:List Ed}(h:c.plain.all.length=k):settle E (k+1) (List.replicate k 0)=settle E (c.plain.all.length+1) (List.replicate c.plain.all.length 0):=by rw[h]
def SA(c:bM)(ok:Bool)(w:Value)(T:aB)(o:Option (List Nat)):Prop:=match o with
 |none=>ok=false
 |some A=>ok=true/\∃ll,NN (sg T) w ll/\ll.map (·.2)=rows c.plain.bd A
theorem Pq(c:bM)(R:aD)(h:c.is R):Spec prog 67 [.agg c.enc.toArray] R [] λu H'=>∃T,H'=[T]/\∃w ll,u=.tuple [w,.int .i64 (c.plain.numbers isWord di).1].toArray/\NN (sg T) w ll/\ll.map (·.2)=(c.plain.numbers isWord di).2:=by
 rw[<-Pp]
 have hR:=Qk c R h
 have Z:=O7 c R h
 have a2:=tc (c:=c)
 have a:c.plain.tQ isWord di=if c.plain.right isWord di=false then((4:Int),([]:List (List Nat)))else if ¬c.plain.dY then(10,[])else match c.plain.mq with|none=>(14,[])|some E=>match settle E (c.plain.all.length+1) (List.replicate c.plain.all.length 0)with|none=>(15,[])|some n=>(0,rows c.plain.bd n):=rfl
 have a1:=λ(R:aD) xb vm (H:IX R xb vm c) U F=>Q3 (R:=R) (xb:=xb) (vm:=vm) H U F
 have a5:=λ(R:aD) xb vm (H:IX R xb vm c) F ve f a8 hl hv=>Ro (R:=R) (xb:=xb) (vm:=vm) H F ve f a8 hl hv
 have a6:=pR c.plain
 have i1:One c.vs:=RS.ap h.ss
 have i2:One c.vc:=RS.ap h.sc
 generalize a9:c.plain.tQ isWord di=nn at *
 refine Spec.body Tryz.func67 rfl Tryz.results67 Tryz.ntmps67 rfl ?_
 refine .sr ?_
 refine .bW rfl (λb1=>?_)
 refine .ag rfl<|.ag rfl<|.zs<|.sr<|.q (.aL rfl) ?_
 refine .ba (hR.weaken cU) (λu x=>?_)
 subst x
 refine .q .not<|.zn ?_
 refine .cond rfl (λk=>?_) λk=>?_
 refine .sr<|.ag rfl<|.az rfl ?_
 refine .ret (aI (bk _ (.two (.tmp rfl) (.tmp rfl)) aW.jo ?_))
 ·refine⟨[],rfl,sZ,[],?_,.nil,?_⟩
  ·rw[a,if_pos (by simpa using k)]
  ·rw[a,if_pos (by simpa using k)];rfl
 have Q:c.plain.right isWord di=true:=by simpa using k
 obtain⟨N,a0⟩:=a2 Q
 rw[if_neg (by rw[Q];simp)]at a
 refine .kn<|.sr<|.q (.aL rfl) ?_
 refine .cK (Z.weaken cU) (λu J x=>?_)
 obtain⟨o,m,rfl,y,x⟩:∃(o:Option Addr) (m:Bool),u=.tuple [.pointer o,.bool m].toArray/\m=decide c.plain.dY/\(m=true->∃xb,o=some ⟨xb,0,none⟩/\qO xb c J):=by
  rcases x with⟨i,xb,rfl,X⟩|⟨i,rfl⟩
  ·exact⟨_,true,rfl,(decide_eq_true i).symm,λ_=>⟨xb,rfl,X⟩⟩
  ·exact⟨_,false,rfl,(decide_eq_false i).symm,λG=>(by cases G)⟩
 refine .mo rfl<|.q .extract<|.q .extract<|.ag rfl<|.ag rfl<|.zs<|.sr<|.mo rfl<|.q .not<|.zn ?_
 refine .cond rfl (λt=>?_) λt=>?_
 refine .sr<|.ag rfl<|.az rfl ?_
 refine .ret (aI (bk _ (.two (.tmp rfl) (.tmp rfl)) aW.jo ?_))
 ·have d:m=false:=by simpa using t
  rw[d]at y
  have i:¬c.plain.dY:=bA y.symm
  refine⟨[],rfl,sZ,[],?_,.nil,?_⟩
  ·rw[a,if_pos i]
  ·rw[a,if_pos i];rfl
 have O:m=true:=by simpa using t
 obtain⟨xb,rfl,Y⟩:=x O
 rw[O]at y
 have i:c.plain.dY:=cm y.symm
 rw[if_neg (λG=>G i)]at a
 obtain⟨vm,K⟩:=Y.view h
 refine .kn<|.sr<|.mo rfl ?_
 refine .cK ((a1 _ xb vm K (zp a0) N).weaken λb o hb=>hb.elim .inl λhb=>.inr (by simp[hb])) (λu S a7=>?_)
 obtain⟨w6,f,I,rfl,M,a3,j⟩:=a7
 have i6:=M.ap
 refine .mo rfl<|.q .extract<|.q .extract<|.ag rfl<|.ag rfl<|.zs<|.sr<|.mo rfl<|.q .not<|.zn ?_
 refine .cond rfl (λv=>?_) λv=>?_
 have d:I=false:=by simpa using v
 have D:c.plain.mq=none:=by
  cases he:c.plain.mq with
  |none=>rfl
  |some E=>rw[he]at j;rw[j.1]at d;cases d
 rw[D]at a
 simp only at a
 refine .sr<|.ag rfl<|.az rfl ?_
 refine .ret (aI (bk _ (.two (.tmp rfl) (.tmp rfl)) aW.jo ?_))
 ·refine⟨[],rfl,sZ,[],?_,.nil,?_⟩
  ·rw[a]
  ·rw[a];rfl
 have d:I=true:=by simpa using v
 obtain⟨E,D,V,W⟩:∃E,c.plain.mq=some E/\f.map c.ed=E/\∀e∈f,c.valid e.1/\c.valid e.2.1:=by
  cases he:c.plain.mq with
  |none=>rw[he]at j;rw[show I=false from j]at d;cases d
  |some E=>rw[he]at j;exact⟨E,rfl,j.2.1,j.2.2⟩
 subst V
 rw[D]at a
 simp only at a
 rw[<-Rm a6.symm]at a
 refine .kn<|.sr<|.mo rfl<|.mo rfl ?_
 refine .cK ((a5 _ xb vm (K.mono (R':=λb o=>R b o\/(b,o)∈J\/(b,o)∈S) λb o hb=>hb.elim .inl λhb=>.inr (.inl hb)) N w6 f (M.rs λp hp=>.inr (.inr hp)) a3 W).weaken λb o hb=>hb.elim .inl λhb=>.inr (by rcases hb with hb|hb<;>simp[hb])) (λu B z=>?_)
 obtain⟨s,r,rfl,l⟩:∃(s:Value) (r:Bool),u=.tuple [s,.bool r].toArray/\SA c r s B (settle (f.map c.ed) (total c.plain.bd+1) (List.replicate (total c.plain.bd) 0)):=by
  cases g:settle (f.map c.ed) (total c.plain.bd+1) (List.replicate (total c.plain.bd) 0)with
  |none=>rw[g]at z;exact⟨_,_,z,rfl⟩
  |some A=>rw[g]at z;obtain⟨w,ll,k,t,v⟩:=z;exact⟨w,true,k,rfl,ll,t,v⟩
 refine .mo rfl<|.q .extract<|.q .extract<|.ag rfl<|.ag rfl<|.zs<|.sr<|.mo rfl<|.q .not<|.zn ?_
 refine .cond rfl (λC=>?_) λC=>?_
 have d:r=false:=by simpa using C
 have g:settle (f.map c.ed) (total c.plain.bd+1) (List.replicate (total c.plain.bd) 0)=none:=by
  cases g:settle (f.map c.ed) (total c.plain.bd+1) (List.replicate (total c.plain.bd) 0)with
  |none=>rfl
  |some A=>rw[g]at l;rw[l.1]at d;cases d
 rw[g]at a
 simp only at a
 refine .sr<|.ag rfl<|.az rfl ?_
 refine .ret (aI (bk _ (.two (.tmp rfl) (.tmp rfl)) aW.jo ?_))
 ·refine⟨[],rfl,sZ,[],?_,.nil,?_⟩
  ·rw[a]
  ·rw[a];rfl
 have d:r=true:=by simpa using C
 obtain⟨A,g,ll,L,a4⟩:∃A,settle (f.map c.ed) (total c.plain.bd+1) (List.replicate (total c.plain.bd) 0)=some A/\∃ll,NN (sg B) s ll/\ll.map (·.2)=rows c.plain.bd A:=by
  cases g:settle (f.map c.ed) (total c.plain.bd+1) (List.replicate (total c.plain.bd) 0)with
  |none=>rw[g]at l;rw[show r=false from l]at d;cases d
  |some A=>rw[g]at l;exact⟨A,rfl,l.2⟩
 rw[g]at a
 simp only at a
 have i9:One s:=L.rs.ap
 refine .kn<|.sr<|.mo rfl<|.ag rfl<|.az rfl ?_
 refine .ret (bk _ (.two (.tmp rfl) (.tmp rfl)) (.one [0] _) ?_)
 ·refine⟨B,by simp[take],s,ll,?_,L,?_⟩
  ·rw[a]
  ·rw[a];exact a4
def rh(r:Rl):Rl:=⟨r.name,r.types.take 9,r.nodes.take 66⟩
def s9(s:Sp):Sp:=⟨short s.name 40,(s.bS.take 6).map rh⟩
def fM(c:Cf):Cf:=⟨(c.bd.take 5).map s9,c.scopes.take 5⟩
theorem ca.is.taken{R:aD}{i g d c:Value}{r:Rl}(h:ca.is R ⟨i,g,r⟩){R':aD}(j:∀b o,R b o->R' b o){n m:Nat}(f:RS R' 2 Ty.enc d (r.types.take n))(e:RS R' 5 Nd.enc c (r.nodes.take m)):ca.is R' ⟨d,c,⟨r.name,r.types.take n,r.nodes.take m⟩⟩:=
 ⟨h.n,f,e,λx a=>h.ft x (List.mem_of_mem_take a),λx a=>h.fd x (List.mem_of_mem_take a)⟩
theorem NM(c:bM)(R:aD)(h:c.is R):Spec prog 22 [.agg c.enc.toArray] R [] λu H'=>∃T,H'=[T]/\∃c':bM,u=.agg c'.enc.toArray/\c'.is (λb o=>R b o\/(b,o)∈T)/\c'.plain=fM c.plain:=by
 obtain⟨vs,vc,M,A⟩:=c
 have J:=h.ss
 have a2:=h.sc
 have i1:=J.ap
 have i2:=a2.ap
 simp only at J a2 i1 i2
 have e0:=J.le
 have d9:=a2.le
 refine Spec.body Tryz.func22 rfl Tryz.results22 Tryz.ntmps22 rfl ?_
 refine .sr ?_
 refine .bW rfl (λQ=>?_)
 refine .bN (λS=>?_)
 refine .z ?_
 refine .q .cN ?_
 refine .bN (λD=>?_)
 refine .bH rfl rfl<|.zs<|.sr<|.az rfl<|.block ?_
 refine .cx [(1,_),(2,_),(3,_)] (X:=Nat×Value×List cj×aB×aB) (λy=>(y.1<=5/\y.1<=M.length)/\OS 164 2 cj.enc y.2.1 y.2.2.1 y.2.2.2.1/\(∀s∈y.2.2.1,s.is (λb o=>R b o\/(b,o)∈y.2.2.2.2))/\y.2.2.1.map (·.plain)=((M.take y.1).map (·.plain)).map s9) (λy E=>(4,iN y.1)::E) (λy G=>y.2.2.2.1::y.2.2.2.2::bl D [y.2.1,sZ] 25::G) (λy=>5-y.1) (0,sZ,[],[],[]) ⟨⟨by simp,by simp⟩,OS.nil,λs a=>(by cases a),by simp⟩ kE.c.c.c.c aW.ja ?_
 rintro⟨i,w,L,N,C⟩ ⟨⟨c0,hi⟩,hO,f,W⟩
 simp only at c0 hi hO f W⊢
 have io:=hO.ap
 have d8:L.length=i:=by have:=congrArg List.length W;rw[List.length_map,List.length_map,List.length_map,List.length_take]at this;omega
 refine .seq<|.seq ?_
 refine bx.cL [(1,_),(2,_),(3,_),(4,_)] kE.c.c.c.c (X:=Unit) (λ_=>True) (λ_ E=>(21,.bool (decide (i<M.length/\i<5)))::E) (λ_=>[N,C,bl D [w,sZ] 25,bl S [sZ,sZ] 25,bl Q [vs,vc] 25]) ?_ ?_
 refine .region<|.mo rfl<|.fa rfl<|.lo rfl<|.q (.bJ J) ?_
 refine .q .lss<|.mo rfl ?_
 refine .split (t:=18) rfl (λH=>?_) (λH=>?_)
 refine .gT H<|.mo rfl<|.gT H<|.q .lss<|.q (.aO H) ?_
 refine .nil ?_
 ·exact ay () trivial (kE.c.c.c.c.bP rfl (by clear f;grind)) rH
 refine .gF H<|.gF H<|.q (.aN H) ?_
 refine .nil ?_
 ·exact ay () trivial (kE.c.c.c.c.bP rfl (by clear f;grind)) rH
 intro y l
 refine ax ?_
 refine .cond rfl (λh1=>?_) λh1=>?_
 obtain⟨b0,c8⟩:=cm h1
 obtain⟨⟨B,sv,m⟩,a⟩:=bR b0
 have b6:=h.all _ (aZ a)
 have a7:RS R 3 ca.enc sv m:=b6.rs
 have e5:=a7.ap
 have e1:=a7.le
 refine .kn<|.seq<|.block<|.sr<|.fa rfl<|.lo rfl<|.mo rfl ?_
 refine .bC i J a (λf0=>?_)
 refine .fa rfl<|.lo rfl ?_
 refine .ba (B2 B 40 _) (λu hu=>?_)
 subst hu
 refine .q .cN ?_
 refine .bN (λb5=>?_)
 refine .bH rfl rfl<|.zs<|.sr<|.az rfl<|.block ?_
 refine .cx [(1,_),(2,_),(3,_),(4,_),(5,_)] (X:=Nat×Value×List ca×aB) (λy=>(y.1<=6/\y.1<=m.length)/\OS 167 3 ca.enc y.2.1 y.2.2.1 y.2.2.2/\(∀r∈y.2.2.1,r.is R)/\y.2.2.1.map (·.r)=((m.take y.1).map (·.r)).map rh) (λy E=>(6,iN y.1)::E) (λy G=>y.2.2.2::bl b5 [.string (short B 40),y.2.1] 164::G) (λy=>6-y.1) (0,sZ,[],[]) ⟨⟨by simp,by simp⟩,OS.nil,λs a=>(by cases a),by simp⟩ kE.c.c.c.c.c.c aW.ff ?_
 rintro⟨k,w2,L2,T2⟩ ⟨⟨c5,hk⟩,a4,V,a3⟩
 simp only at c5 hk a4 V a3⊢
 have c9:=a4.ap
 have d7:L2.length=k:=by have:=congrArg List.length a3;rw[List.length_map,List.length_map,List.length_map,List.length_take]at this;omega
 refine .seq<|.seq ?_
 refine bx.cL [(1,_),(2,_),(3,_),(4,_),(5,_),(6,_)] kE.c.c.c.c.c.c (X:=Unit) (λ_=>True) (λ_ E=>(44,.bool (decide (k<m.length/\k<6)))::E) (λ_=>[T2,bl b5 [.string (short B 40),w2] 164,N,C,bl D [w,sZ] 25,bl S [sZ,sZ] 25,bl Q [vs,vc] 25]) ?_ ?_
 refine .region<|.mo rfl<|.fa rfl<|.lo rfl<|.mo rfl ?_
 refine .bC i J a (λf1=>?_)
 refine .fa rfl<|.lo rfl<|.q (.bJ a7) ?_
 refine .q .lss<|.mo rfl ?_
 refine .split (t:=41) rfl (λI=>?_) (λI=>?_)
 refine .gT I<|.mo rfl<|.gT I<|.q .lss<|.q (.aO I) ?_
 refine .nil ?_
 ·exact ay () trivial (kE.c.c.c.c.c.c.bP rfl (by clear f V;grind)) rH
 refine .gF I<|.gF I<|.q (.aN I) ?_
 refine .nil ?_
 ·exact ay () trivial (kE.c.c.c.c.c.c.bP rfl (by clear f V;grind)) rH
 intro y l
 refine ax ?_
 refine .cond rfl (λh2=>?_) λh2=>?_
 obtain⟨a9,c7⟩:=cm h2
 obtain⟨⟨vt,vn,r⟩,Z⟩:=bR a9
 have a6:=b6.all _ (aZ Z)
 have a1:RS R 2 Ty.enc vt r.types:=a6.t
 have a0:RS R 5 Nd.enc vn r.nodes:=a6.d
 have e6:=a1.ap
 have e4:=a0.ap
 have e2:bZ (ca.enc ⟨vt,vn,r⟩):=⟨a6.cJ⟩
 refine .kn<|.seq<|.block<|.sr<|.fa rfl<|.lo rfl<|.mo rfl ?_
 refine .bC i J a (λf2=>?_)
 refine .fa rfl<|.lo rfl<|.mo rfl ?_
 refine .bC k a7 Z (λf3=>?_)
 refine .q (.aL rfl) ?_
 refine .bN (λb7=>?_)
 refine .bH rfl rfl<|.zs<|.sr<|.fa rfl<|.lo rfl<|.q (.bJ a1) ?_
 refine .q .gtr<|.zn ?_
 refine bx.cL [(1,_),(2,_),(3,_),(4,_),(5,_),(6,_),(7,_)] kE.c.c.c.c.c.c.c (X:=Value) (λv=>RS R 2 Ty.enc v (r.types.take 9)) (λ_ E=>E) (λv=>[bl b7 [.string r.name,v,vn] 167,T2,bl b5 [.string (short B 40),w2] 164,N,C,bl D [w,sZ] 25,bl S [sZ,sZ] 25,bl Q [vs,vc] 25]) ?_ ?_
 refine .cond rfl (λh3=>?_) λh3=>?_
 refine .region<|.fa rfl<|.lo rfl ?_
 refine .nu 0 9 a1 rfl ⟨_,rfl⟩ (by omega) (by have:=cm h3;omega) (λv2 K=>?_)
 have d0:=K.ap
 refine .fa rfl<|.dw rfl rfl<|.nil ?_
 ·first
   |exact ay v2 (by simpa using K) kE.c.c.c.c.c.c.c rH
   |exact ay vt (by rw[dx (gj h3)];exact a1) kE.c.c.c.c.c.c.c rH
 refine .skip ?_
 ·first
   |exact ay v2 (by simpa using K) kE.c.c.c.c.c.c.c rH
   |exact ay vt (by rw[dx (gj h3)];exact a1) kE.c.c.c.c.c.c.c rH
 intro x hx
 have b9:RS R 2 Ty.enc x (r.types.take 9):=hx
 clear hx
 obtain⟨xt,rfl⟩:∃z,z=x:=⟨_,rfl⟩
 have e8:=b9.ap
 refine ax<|.seq<|.sr<|.fa rfl<|.lo rfl<|.q (.bJ a0) ?_
 refine .q .gtr<|.zn ?_
 refine bx.cL [(1,_),(2,_),(3,_),(4,_),(5,_),(6,_),(7,_)] kE.c.c.c.c.c.c.c (X:=Value) (λv=>RS R 5 Nd.enc v (r.nodes.take 66)) (λ_ E=>E) (λv=>[bl b7 [.string r.name,xt,v] 167,T2,bl b5 [.string (short B 40),w2] 164,N,C,bl D [w,sZ] 25,bl S [sZ,sZ] 25,bl Q [vs,vc] 25]) ?_ ?_
 refine .cond rfl (λh4=>?_) λh4=>?_
 refine .region<|.fa rfl<|.lo rfl ?_
 refine .nu 0 66 a0 rfl ⟨_,rfl⟩ (by omega) (by have:=cm h4;omega) (λv2 K=>?_)
 have d0:=K.ap
 refine .fa rfl<|.dw rfl rfl<|.nil ?_
 ·first
   |exact ay v2 (by simpa using K) kE.c.c.c.c.c.c.c rH
   |exact ay vn (by rw[dx (gj h4)];exact a0) kE.c.c.c.c.c.c.c rH
 refine .skip ?_
 ·first
   |exact ay v2 (by simpa using K) kE.c.c.c.c.c.c.c rH
   |exact ay vn (by rw[dx (gj h4)];exact a0) kE.c.c.c.c.c.c.c rH
 intro x hx
 have b8:RS R 5 Nd.enc x (r.nodes.take 66):=hx
 have e7:=b8.ap
 have b4:ca.is R ⟨xt,x,rh r⟩:=a6.taken (λb o e=>e) b9 b8
 refine ax<|.sr<|.fa rfl<|.lo rfl<|.az rfl<|.region<|.mo rfl<|.q (.aL rfl) ?_
 refine .dM (λd2=>?_)
 refine .append a4 (RS.lits (xs:=[(⟨xt,x,rh r⟩:ca)]) rfl (by simp[ca.enc]) (by intro y l;rw[List.mem_singleton]at l;subst l;exact b4.cJ)) (by simp only[List.length_singleton];omega) (λv5 O g=>?_)
 have i5:=g.ap
 refine .fa rfl<|.dw rfl rfl<|.nil<|bf<|ax<|.region<|.mo rfl ?_
 refine .ia (k+1) .add ?_
 refine .ag rfl<|.nil ?_
 ·exact aP (k+1,v5,L2++[⟨xt,x,rh r⟩],O) ⟨⟨c7,a9⟩,g,λq hq=>by
   rcases List.mem_append.1 hq with hq|hq
   ·exact V q hq
   ·rw[List.mem_singleton]at hq;subst hq;exact b4,by simp only;rw[dT Z,List.map_append,List.map_append,List.map_append,a3];rfl⟩ (by simp only;omega) kE.c.c.c.c.c.c (aH [2,2,2,2,2,2,2])
 refine .exit<|bq<|bz<|bs<|ax<|.sr<|.fa rfl<|.lo rfl<|.az rfl<|.region<|.mo rfl<|.q (.aL rfl) ?_
 refine .dM (λd3=>?_)
 refine .append hO (RS.lits (xs:=[(⟨short B 40,w2,L2⟩:cj)]) rfl (by simp[cj.enc]) (by intro y l u hu;rw[List.mem_singleton]at l;subst l;simp only[cj.enc,List.mem_cons,List.not_mem_nil,or_false]at hu;rcases hu with rfl|rfl;rfl;exact c9.h)) (by simp only[List.length_singleton];omega) (λv5 O g=>?_)
 have i5:=g.ap
 refine .fa rfl<|.dw rfl rfl<|.nil<|bf<|ax<|.region<|.mo rfl ?_
 refine .ia (i+1) .add ?_
 refine .ag rfl<|.nil ?_
 ·exact aP (i+1,v5,L++[⟨short B 40,w2,L2⟩],O,T2++C) ⟨⟨c8,b0⟩,g,λq hq=>by
   rcases List.mem_append.1 hq with hq|hq
   ·exact(f q hq).mono λb o e=>e.elim .inl λe=>.inr (List.mem_append_right _ e)
   ·rw[List.mem_singleton]at hq
    subst hq
    refine⟨?_,a4.rs λp Y=>.inr (List.mem_append_left _ Y),λr Z=>(V r Z).mono λb o e=>.inl e⟩
    have:=B1 (s:=B) (n:=40)
    simp only
    omega,by
   simp only
   rw[dT a,List.map_append,List.map_append,List.map_append,W]
   have c6:m.take k=m.take 6:=by
    have d5:=bA h2
    by_cases h6:k=6
    ·rw[h6]
    ·rw[dx (show m.length<=k by omega),dx (show m.length<=6 by omega)]
   simp only[List.map_cons,List.map_nil]
   congr 1
   unfold cj.plain s9
   simp only
   rw[a3,c6]
   simp[List.map_take]⟩ (by simp only;omega) kE.c.c.c.c ((aH [3,1,2,2,2,2]).trans (aW.ez (by simp[take,bL,du,bM.enc])))
 have c1:M.take i=M.take 5:=by
  have d4:=bA h1
  by_cases U:i=5
  ·rw[U]
  ·rw[dx (show M.length<=i by omega),dx (show M.length<=5 by omega)]
 rw[c1]at W
 refine .exit<|bq<|bz<|bs<|ax<|.seq<|.sr<|.az rfl<|.block ?_
 refine .cx [(1,_),(2,_),(3,_)] (X:=Nat×Value×aB) (λy=>(y.1<=5/\y.1<=A.length)/\OS 169 4 Sc.enc y.2.1 (A.take y.1) y.2.2) (λy E=>(10,iN y.1)::E) (λy G=>y.2.2::N::C::bl D [w,y.2.1] 25::G) (λy=>5-y.1) (0,sZ,[]) ⟨⟨by simp,by simp⟩,OS.nil⟩ kE.c.c.c.c aW.ff ?_
 rintro⟨j,w3,T3⟩ ⟨⟨c2,hj⟩,a5⟩
 simp only at c2 hj a5⊢
 have e3:=a5.ap
 refine .seq<|.seq ?_
 refine bx.cL [(1,_),(2,_),(3,_),(10,_)] kE.c.c.c.c (X:=Unit) (λ_=>True) (λ_ E=>(94,.bool (decide (j<A.length/\j<5)))::E) (λ_=>[T3,N,C,bl D [w,w3] 25,bl S [sZ,sZ] 25,bl Q [vs,vc] 25]) ?_ ?_
 refine .region<|.mo rfl<|.fa rfl<|.lo rfl<|.q (.bJ a2) ?_
 refine .q .lss<|.mo rfl ?_
 refine .split (t:=91) rfl (λF=>?_) (λF=>?_)
 refine .gT F<|.mo rfl<|.gT F<|.q .lss<|.q (.aO F) ?_
 refine .nil ?_
 ·exact ay () trivial (kE.c.c.c.c.bP rfl (by clear f;grind)) rH
 refine .gF F<|.gF F<|.q (.aN F) ?_
 refine .nil ?_
 ·exact ay () trivial (kE.c.c.c.c.bP rfl (by clear f;grind)) rH
 intro y l
 refine ax ?_
 refine .cond rfl (λU=>?_) λU=>?_
 obtain⟨a8,c4⟩:=cm U
 obtain⟨s,a⟩:=bR a8
 refine .kn<|.seq<|.block<|.sr<|.fa rfl<|.lo rfl<|.az rfl<|.region<|.mo rfl<|.fa rfl<|.lo rfl<|.mo rfl ?_
 refine .bC j a2 a (λe9=>?_)
 refine .q (.aL rfl) ?_
 refine .dM (λd1=>?_)
 refine .append a5 (RS.lits (xs:=[s]) rfl (by simp[Sc.enc]) (by simp[Sc.enc,ap])) (by simp only[List.length_take,List.length_singleton];omega) (λv5 O g=>?_)
 have i5:=g.ap
 refine .fa rfl<|.dw rfl rfl<|.nil<|bf<|ax<|.region<|.mo rfl ?_
 refine .ia (j+1) .add ?_
 refine .ag rfl<|.nil ?_
 ·exact aP (j+1,v5,O) ⟨⟨c4,a8⟩,by simp only;rw[dT a];exact g⟩ (by simp only;omega) kE.c.c.c.c (aH [1,1,1,1,1,1])
 refine .exit<|bq<|bz<|bs<|ax<|.sr<|.q (.aL rfl)<|.bH rfl rfl<|.zn ?_
 refine .ret (bk _ (.one (.eI rfl rfl)) (.one [1,1,0] _) ?_)
 ·refine⟨_,rfl,⟨w,w3,L,A.take j⟩,rfl,⟨hO.rs λp Y=>.inr (by simp[take,bL,Y]),a5.rs λp Y=>.inr (by simp[take,bL,Y]),λs a=>(f s a).mono λb o e=>e.elim .inl λe=>.inr (by simp[take,bL,e]),λs a=>h.fc s (List.mem_of_mem_take a)⟩,?_⟩
  have c3:A.take j=A.take 5:=by
   have d6:=bA U
   by_cases h6:j=5
   ·rw[h6]
   ·rw[dx (show A.length<=j by omega),dx (show A.length<=5 by omega)]
  unfold bM.plain fM
  simp only
  rw[W,c3,List.map_take]
namespace LIN
theorem oz(v:Value)(xs:List Nat)(R:aD)(h:RS R 1 cW v xs)(i:xs.length<=1000000):
  Spec prog 143 [v] R [] λv' H'=>∃T,H'=[T]/\OS 3 1 cW v' xs T:=by
 obtain⟨b,d,rfl⟩:=h.val
 have f:∀H,RS (Rx R H) 1 cW (.slice b xs.length d) xs:=λH=>h.rx
 refine Spec.gO (H':=[[]]) (by simp) ?_
 refine Spec.body Tryz.func143 rfl Tryz.results143 Tryz.ntmps143 rfl ?_
 refine .sr<|.ag rfl<|.zs<|.sr<|.mo rfl<|.q (.sW rfl rfl) ?_
 refine .zn ?_
 refine .cond rfl (λa=>?_) λa=>?_
 refine .sr<|.az rfl ?_
 refine .ret (aI (bk _ (.one (.tmp rfl)) (.one [0] _) ?_))
 ·obtain rfl:b=none:=by simpa using a
  have:=h.tP
  subst this
  exact⟨[],rfl,OS.nil⟩
 refine .kn<|.sr ?_
 refine .sN (λg=>?_)
 refine .mo rfl ?_
 refine .append (OS.empty (enc:=cW) (sz:=1)) (f _) (by simp;omega) (λv' c e=>?_)
 refine .az rfl ?_
 refine .ret (bk _ (.one (.tmp rfl)) (.one [0] _) ?_)
 ·exact⟨c,by simp[take],by simpa using e⟩
end LIN
def bM.vI(c:bM):Prop:=c.ig/\c.rf/\c.scopes.length<=16
theorem zq{c:bM}(h:c.plain.right isWord di=true):c.vI:=by
 obtain⟨b,d⟩:=tc h
 refine⟨b,zp d,?_⟩
 have a:c.plain.jL isWord=false:=by
  unfold Cf.right at h
  simp only[Bool.and_eq_true,Bool.not_eq_true']at h
  exact h.2
 rw[rD]at a
 simp only[Bool.or_eq_false_iff,decide_eq_false_iff_not,Nat.not_lt]at a
 exact a.1.2
theorem yz(c:bM)(R:aD)(h:c.is R)(hf:c.vI):Spec prog 68 [.agg c.enc.toArray] R [] λu H'=>∃T,H'=[T]/\∃c':bM,u=.agg c'.enc.toArray/\c'.is (sg T)/\c'.plain=c.plain:=by
 obtain⟨⟨b4,a4⟩,h8,b0⟩:=hf
 obtain⟨vs,vc,S,a7⟩:=c
 have H:=h.ss
 have a0:=h.sc
 have i1:=H.ap
 have i2:=a0.ap
 simp only at H a0 i1 i2 b4 a4 b0
 have c4:=H.le
 refine Spec.body Tryz.func68 rfl Tryz.results68 Tryz.ntmps68 rfl ?_
 refine .sr ?_
 refine .bW rfl (λb1=>?_)
 refine .bN (λb2=>?_)
 refine .z ?_
 refine .bN (λb3=>?_)
 refine .zs<|.sr<|.fa rfl<|.lo rfl<|.q (.bJ H) ?_
 refine .mo rfl<|.zn<|.block ?_
 refine .cx [(1,_),(2,_),(3,_),(10,_),(11,_)] (X:=Nat×Value×List cj×aB×aB) (λy=>y.1<=S.length/\OS 164 2 cj.enc y.2.1 y.2.2.1 y.2.2.2.1/\(∀s∈y.2.2.1,s.is (sg y.2.2.2.2))/\y.2.2.1.map (·.plain)=(S.take y.1).map (·.plain)) (λy E=>(12,iN y.1)::E) (λy G=>y.2.2.2.1::y.2.2.2.2::bl b3 [y.2.1,sZ] 25::G) (λy=>S.length-y.1) (0,sZ,[],[],[]) ⟨by simp,OS.nil,λs e=>(by cases e),by simp⟩ kE.c.c.c.c.c.c aW.ja ?_
 rintro⟨i,w,L,To,Ti⟩ ⟨hi,M,Y,D⟩
 simp only at hi M Y D⊢
 have io:=M.ap
 have c3:L.length=i:=by have:=congrArg List.length D;rw[List.length_map,List.length_map,List.length_take]at this;omega
 refine .sr<|.q .lss<|.zs ?_
 refine .cond rfl (λV=>?_) λV=>?_
 have a2:i<S.length:=cr V
 obtain⟨⟨A,sv,m⟩,e⟩:=bR a2
 have Q:=h.all _ (aZ e)
 have O:RS R 3 ca.enc sv m:=Q.rs
 have c8:=O.ap
 have c5:=O.le
 have d0:bZ (cj.enc ⟨A,sv,m⟩):=⟨Q.cJ⟩
 have a9:=a4 _ (aZ e)
 simp only at a9
 refine .kn<|.seq<|.block<|.sr ?_
 refine .bC i H e (λd4=>?_)
 refine .q (.aL rfl) ?_
 refine .bN (λb5=>?_)
 refine .bH rfl rfl<|.z<|.fa rfl<|.lo rfl ?_
 refine .q .cN ?_
 refine .bN (λb6=>?_)
 refine .bH rfl rfl<|.zs<|.sr<|.fa rfl<|.lo rfl<|.q (.bJ O) ?_
 refine .mo rfl<|.zn<|.block ?_
 refine .cx [(1,_),(2,_),(3,_),(6,_),(10,_),(11,_),(12,_),(20,_),(21,_)] (X:=Nat×Value×List ca×aB×aB) (λy=>y.1<=m.length/\OS 167 3 ca.enc y.2.1 y.2.2.1 y.2.2.2.1/\(∀r∈y.2.2.1,r.is (sg y.2.2.2.2))/\y.2.2.1.map (·.r)=(m.take y.1).map (·.r)) (λy E=>(22,iN y.1)::E) (λy G=>y.2.2.2.1::y.2.2.2.2::bl b6 [.string A,y.2.1] 164::G) (λy=>m.length-y.1) (0,sZ,[],[],[]) ⟨by simp,OS.nil,λs e=>(by cases e),by simp⟩ kE.c.c.c.c.c.c.c.c.c.c aW.ja ?_
 rintro⟨k,w2,C,T2,U⟩ ⟨hk,N,Z,F⟩
 simp only at hk N Z F⊢
 have b9:=N.ap
 have c2:C.length=k:=by have:=congrArg List.length F;rw[List.length_map,List.length_map,List.length_take]at this;omega
 refine .sr<|.q .lss<|.zs ?_
 refine .cond rfl (λW=>?_) λW=>?_
 have a1:k<m.length:=cr W
 obtain⟨⟨vt,vn,r⟩,v⟩:=bR a1
 have x:=Q.all _ (aZ v)
 have a5:RS R 2 Ty.enc vt r.types:=x.t
 have a3:RS R 5 Nd.enc vn r.nodes:=x.d
 have c9:=a5.ap
 have c7:=a3.ap
 have c6:bZ (ca.enc ⟨vt,vn,r⟩):=⟨x.cJ⟩
 obtain⟨b7,a8,_⟩:=h8 _ (aZ e) _ (aZ v)
 simp only at b7 a8
 refine .kn<|.seq<|.block<|.sr ?_
 refine .bC k O v (λd5=>?_)
 refine .q (.aL rfl) ?_
 refine .bN (λb8=>?_)
 refine .bH rfl rfl<|.zn ?_
 refine bx.cL [(1,_),(2,_),(3,_),(6,_),(10,_),(11,_),(12,_),(20,_),(21,_),(22,_)] kE.c.c.c.c.c.c.c.c.c.c (X:=(Value×aB)×(Value×aB)×(Value×aB)) (λy=>OS 167 3 ca.enc y.1.1 (C++[(⟨y.2.1.1,y.2.2.1,r⟩:ca)]) y.1.2/\OS 249 2 Ty.enc y.2.1.1 r.types y.2.1.2/\OS 199 5 Nd.enc y.2.2.1 r.nodes y.2.2.2) (λ_ E=>E) (λy=>[y.1.2,y.2.1.2,y.2.2.2,U,bl b6 [.string A,y.1.1] 164,bl b5 (cj.enc ⟨A,sv,m⟩) 164,To,Ti,bl b3 [w,sZ] 25,bl b2 [sZ,sZ] 25,bl b1 [vs,vc] 25]) ?_ ?_
 refine .dp [12,14] mixed ?_
 refine .tO 0 rfl (.fieldAddr rfl)<|.tO 1 rfl (.cE rfl)<|.tO 2 rfl (.fieldAddr rfl)<|.tO 3 rfl (.cE rfl)<|.tO 4 rfl (.fieldAddr rfl)<|.tO 5 rfl (.cE rfl)<|.tO 7 rfl (.fieldAddr rfl)<|.tO 8 rfl (.cE rfl) ?_
 refine .sT 6 rfl ?_
 refine .cK (LTY.oz vt r.types _ a5.rx (by omega)) (λut K j=>?_)
 obtain⟨pt,ct,rfl,_⟩:=j.shape
 have d3:=j.ap
 refine .nil (Next.sub ?_)
 refine .sT 9 rfl ?_
 refine .cK (LND.oz vn r.nodes _ a3.rx (by omega)) (λun J g=>?_)
 obtain⟨pn,cn,rfl,_⟩:=g.shape
 have d2:=g.ap
 refine .nil (Next.sub ?_)
 refine .tO 10 rfl .cN ?_
 refine .sT 11 rfl ?_
 refine .dM (λc0=>?_)
 refine .nil (Next.sub ?_)
 refine .sT 12 rfl ?_
 refine .append N (RS.lits (xs:=[(⟨.slice pt r.types.length ct,.slice pn r.nodes.length cn,r⟩:ca)]) rfl (by simp[ca.enc]) (by intro y l u I;rw[List.mem_singleton]at l;subst l;simp only[ca.enc,List.mem_cons,List.not_mem_nil,or_false]at I;rcases I with rfl|rfl|rfl<;>rfl)) (by simp only[List.length_singleton];omega) (λB p f=>?_)
 have i5:=f.ap
 refine .nil (Next.mod rfl ?_)
 refine .tK 13 rfl (.eF rfl) ?_
 refine .sT 14 rfl ?_
 refine .dw rfl rfl ?_
 refine .nil (Next.mod rfl ?_)
 refine RA.nil (by kernel_rfl) ?_
 ·first
   |exact ay ((B,p),(_,K),(_,J)) ⟨f,j,g⟩ ((((((((((kE.d rfl).d rfl).d rfl).d rfl).d rfl).d rfl).d rfl).d rfl).d rfl).d rfl) (aH [4,2,1,2,2,2,2,2,2,2,2])
   |exact ay ((B,p),(_,K),(_,J)) ⟨f,j,g⟩ ((((((((((kE.d rfl).d rfl).d rfl).d rfl).d rfl).d rfl).d rfl).d rfl).d rfl).d rfl) (aH [4,1,1,2,2,2,2,2,2,2,2])
 intro y l
 obtain⟨⟨B,p⟩,⟨ut,K⟩,⟨un,J⟩⟩:=y
 obtain⟨f,j,g⟩:=l
 simp only at f j g⊢
 have i5:=f.ap
 refine bf<|ax<|.region ?_
 refine .ia (k+1) .add ?_
 refine .mo rfl<|.nil ?_
 ·exact aP (k+1,B,C++[⟨ut,un,r⟩],p,K++(J++U)) ⟨a1,f,λq hq=>by
   rcases List.mem_append.1 hq with hq|hq
   ·exact(Z q hq).mono λb o a=>gE (gE a)
   ·rw[List.mem_singleton]at hq
    subst hq
    exact⟨x.n,j.sg.mono λb o a=>iE a,g.sg.mono λb o a=>gE (iE a),x.ft,x.fd⟩,by simp only;rw[dT v,List.map_append,List.map_append,F];rfl⟩ (by simp only;omega) kE.c.c.c.c.c.c.c.c.c.c (aW.ez (by simp[du,bM.enc,cj.enc]))
 rw[dx (gj W)]at F
 refine .exit<|bq<|bz<|bs<|ax<|.region<|.fa rfl<|.lo rfl<|.q (.aL rfl) ?_
 refine .dM (λc1=>?_)
 refine .append M (RS.lits (xs:=[(⟨A,w2,C⟩:cj)]) rfl (by simp[cj.enc]) (by intro y l u I;rw[List.mem_singleton]at l;subst l;simp only[cj.enc,List.mem_cons,List.not_mem_nil,or_false]at I;rcases I with rfl|rfl;rfl;exact b9.h)) (by simp only[List.length_singleton];omega) (λB p f=>?_)
 have i5:=f.ap
 refine .fa rfl<|.dw rfl rfl<|.nil<|bf<|ax<|.region ?_
 refine .ia (i+1) .add ?_
 refine .mo rfl<|.nil ?_
 ·exact aP (i+1,B,L++[⟨A,w2,C⟩],p,T2++(U++Ti)) ⟨a2,f,λq hq=>by
   rcases List.mem_append.1 hq with hq|hq
   ·exact(Y q hq).mono λb o a=>gE (gE a)
   ·rw[List.mem_singleton]at hq
    subst hq
    exact⟨Q.n,N.sg.mono λb o a=>iE a,λr v=>(Z r v).mono λb o a=>gE (iE a)⟩,by
   simp only
   rw[dT e,List.map_append,List.map_append,D]
   simp only[List.map_cons,List.map_nil]
   congr 1
   unfold cj.plain
   simp only
   rw[F]⟩ (by simp only;omega) kE.c.c.c.c.c.c ((aH [5,1,1,3,3,3,3]).trans (aW.ez (by simp[take,bL,du,bM.enc])))
 rw[dx (gj V)]at D
 refine .exit<|bq<|bz<|bs<|ax<|.sr<|.fa rfl<|.lo rfl ?_
 refine .cK (LSC.oz vc a7 _ a0.rx (by omega)) (λuc Tc a6=>?_)
 have d1:=a6.ap
 refine .fa rfl<|.dw rfl rfl<|.z<|.q (.aL rfl)<|.bH rfl rfl<|.zn ?_
 refine .ret (bk _ (.one (.eI rfl rfl)) (.one [1,1,0] _) ?_)
 ·refine⟨_,rfl,⟨w,uc,L,a7⟩,rfl,⟨M.sg.mono λb o a=>?_,a6.sg.mono λb o a=>?_,λs e=>(Y s e).mono λb o a=>?_,h.fc⟩,?_⟩
  ·simp only[take,bL,List.getD_cons_zero,List.getD_cons_succ,List.flatten_cons,List.flatten_nil,List.append_nil];exact iE a
  ·simp only[take,bL,List.getD_cons_zero,List.getD_cons_succ,List.flatten_cons,List.flatten_nil,List.append_nil];exact gE (gE a)
  ·simp only[take,bL,List.getD_cons_zero,List.getD_cons_succ,List.flatten_cons,List.flatten_nil,List.append_nil];exact gE (iE a)
  ·unfold bM.plain;simp only;rw[D]
def ca.zero:ca:=⟨sZ,sZ,⟨⟨#[]⟩,[],[]⟩⟩
def nA(c:bM)(t:Ty)(r:ca)(ok:Bool):Prop:=match bX c.plain.all t with
 |none=>ok=false/\r=ca.zero
 |some j=>ok=true/\∃p s,c.bd[p.1]? =some s/\s.bS[p.2]? =some r/\c.ix p=j
theorem zE{l:List (ByteArray×Rl)}{t:Ty}(h:∀j x,j<l.length->l[j]? =some x->eh x≠t):bX l t=none:=by
 unfold bX
 rw[List.findIdx?_eq_none_iff]
 intro x b
 obtain⟨j,a,e⟩:=List.mem_iff_getElem.1 b
 have:=h j x a (by rw[bu a,e])
 simpa using this
theorem zF{l:List (ByteArray×Rl)}{t:Ty}{i:Nat}{x:ByteArray×Rl}(d:l[i]? =some x)(b:eh x=t)(h:∀j y,j<i->l[j]? =some y->eh y≠t):bX l t=some i:=by
 obtain⟨c,e⟩:=List.getElem?_eq_some_iff.1 d
 unfold bX
 rw[List.findIdx?_eq_some_iff_getElem]
 refine⟨c,by rw[e];exact decide_eq_true b,λj a=>?_⟩
 have:=h j _ a (bu (by omega))
 simpa using this
theorem BZ(c:bM)(R:aD)(h:c.is R)(f b:ByteArray):Spec prog 144 [.agg c.enc.toArray,.string f,.string b] R [] λu H'=>H'=[]/\∃r ok,u=.tuple [.agg r.enc.toArray,.bool ok].toArray/\nA c ⟨f,b⟩ r ok:=by
 have B:=h.ss
 have i1:=B.ap
 have i2:One c.vc:=RS.ap h.sc
 have b2:=B.le
 have a2:=h.all
 have a8:=pR c.plain
 have a7:c.plain.bd.length=c.bd.length:=by unfold bM.plain;simp
 have a6:∀(i:Nat) (s:cj),c.bd[i]? =some s->c.plain.bd[i]? =some s.plain:=λi s g=>pj g
 have a9:=λ(p:gp) (s:cj) (r:ca)=>pe (c:=c) (p:=p) (s:=s) (r:=r)
 have S:∀i k,c.ix (i,k)=cI c.plain.bd i+k:=λ_ _=>rfl
 have Q:∀r ok,nA c ⟨f,b⟩ r ok=(match bX c.plain.all ⟨f,b⟩with
  |none=>ok=false/\r=ca.zero
  |some j=>ok=true/\∃p s,c.bd[p.1]? =some s/\s.bS[p.2]? =some r/\c.ix p=j):=λ_ _=>rfl
 generalize hA:c.plain.all=A at *
 generalize J:cI c.plain.bd=of at *
 have a3:of 0=0:=by rw[<-J];cases c.plain.bd<;>rfl
 refine Spec.body Tryz.func144 rfl Tryz.results144 Tryz.ntmps144 rfl ?_
 refine .sr ?_
 refine .bW rfl (λY=>?_)
 refine .bN (λZ=>?_)
 refine .ag rfl<|.zs<|.sr<|.fa rfl<|.lo rfl<|.q (.bJ B) ?_
 refine .mo rfl<|.zn<|.block ?_
 refine .cx [(1,_),(2,_),(6,_),(13,_),(14,_)] (X:=Nat) (λi=>i<=c.bd.length/\∀j x,j<of i->A[j]? =some x->eh x≠⟨f,b⟩) (λi E=>(15,iN i)::E) (λ_ G=>G) (λi=>c.bd.length-i) 0 ⟨Nat.zero_le _,λj x o=>by rw[a3]at o;omega⟩ kE.c.c.c.c.c.c rH ?_
 rintro i ⟨hi,V⟩
 refine .sr<|.q .lss<|.zs ?_
 refine .cond rfl (λH=>?_) λH=>?_
 have U:i<c.bd.length:=cr H
 obtain⟨⟨m,C,e⟩,g⟩:=bR U
 have N:=a2 _ (aZ g)
 have w:RS R 3 ca.enc C e:=N.rs
 have b8:=w.ap
 have b4:=w.le
 have c1:bZ (cj.enc ⟨m,C,e⟩):=⟨N.cJ⟩
 have a5:=a6 i _ g
 have a4:=pi a5
 rw[J,show(cj.plain ⟨m,C,e⟩).bS.length=e.length by simp[cj.plain]]at a4
 refine .kn<|.seq<|.block<|.sr ?_
 refine .bC i B g (λc2=>?_)
 refine .q (.aL rfl) ?_
 refine .bN (λb9=>?_)
 refine .bH rfl rfl<|.z<|.fa rfl<|.lo rfl<|.q (.bJ w) ?_
 refine .mo rfl<|.zn<|.block ?_
 refine .cx [(1,_),(2,_),(6,_),(9,_),(13,_),(14,_),(15,_),(20,_),(21,_)] (X:=Nat) (λk=>k<=e.length/\∀j x,j<of i+k->A[j]? =some x->eh x≠⟨f,b⟩) (λk E=>(22,iN k)::E) (λ_ G=>G) (λk=>e.length-k) 0 ⟨Nat.zero_le _,λj x o=>V j x (by omega)⟩ kE.c.c.c.c.c.c.c.c.c.c rH ?_
 rintro k ⟨hk,L⟩
 refine .sr<|.q .lss<|.zs ?_
 refine .cond rfl (λn=>?_) λn=>?_
 have T:k<e.length:=cr n
 obtain⟨⟨F,D,r⟩,v⟩:=bR T
 have M:=N.all _ (aZ v)
 have c0:One F:=RS.ap M.t
 have b7:One D:=RS.ap M.d
 have b5:bZ (ca.enc ⟨F,D,r⟩):=⟨M.cJ⟩
 have K:=a9 (i,k) _ _ g v
 rw[S]at K
 refine .kn<|.seq<|.block<|.sr ?_
 refine .bC k w v (λc3=>?_)
 refine .q (.aL rfl) ?_
 refine .bN (λW=>?_)
 refine .bH rfl rfl<|.zs ?_
 refine bx.cL [(1,_),(2,_),(6,_),(9,_),(11,_),(13,_),(14,_),(15,_),(20,_),(21,_),(22,_)] kE.c.c.c.c.c.c.c.c.c.c.c (X:=Unit) (λ_=>True) (λ_ E=>(35,.bool (decide (m=f)&&decide (r.name=b)))::E) (λ_=>[bl W (ca.enc ⟨F,D,r⟩) 167,bl b9 (cj.enc ⟨m,C,e⟩) 164,bl Z [.string ⟨#[]⟩,sZ,sZ] 167,bl Y c.enc 25]) ?_ ?_
 refine .region<|.fa rfl<|.lo rfl<|.mo rfl<|.q .dW<|.mo rfl ?_
 refine .split (t:=30) rfl (λa=>?_) (λa=>?_)
 refine .gT a<|.fa rfl<|.gT a<|.lo rfl<|.gT a<|.mo rfl<|.gT a<|.q .dW<|.q (.aO a) ?_
 refine .nil ?_
 ·exact ay () trivial (kE.c.c.c.c.c.c.c.c.c.c.c.bP rfl (by simp[n,a])) rH
 refine .gF a<|.gF a<|.gF a<|.gF a<|.q (.aN a) ?_
 refine .nil ?_
 ·exact ay () trivial (kE.c.c.c.c.c.c.c.c.c.c.c.bP rfl (by simp[n,a])) rH
 intro y hy
 refine ax ?_
 refine .cond rfl (λI=>?_) λI=>?_
 refine .sr<|.q (.aL rfl)<|.bH rfl rfl<|.az rfl ?_
 refine .ret (bp (aI (cF (bp (bp (aI (cF (bp (aI (bk _ (.two (.eI rfl rfl) (.tmp rfl)) (.none _) ?_))))))))))
 ·refine⟨rfl,⟨F,D,r⟩,true,rfl,?_⟩
  have O:m=f/\r.name=b:=by simpa using I
  rw[Q,zF K (show(⟨m,r.name⟩:Ty)=_ by rw[O.1,O.2]) L]
  exact⟨rfl,(i,k),_,g,v,S i k⟩
 refine .skip<|bf<|ax<|.region ?_
 refine .ia (k+1) .add ?_
 refine .mo rfl<|.nil ?_
 ·exact aP (k+1) ⟨T,λj x o l=>by
   rcases Nat.lt_or_ge j (of i+k)with hh|hh
   ·exact L j x hh l
   ·obtain rfl:j=of i+k:=by omega
    rw[K]at l
    cases l
    intro he
    injection he with e1 e2
    have a0:m=f:=e1
    have a1:r.name=b:=e2
    simp[a0,a1]at I⟩ (by omega) kE.c.c.c.c.c.c.c.c.c.c (aH [1,1,1])
 have b1:k=e.length:=by have:=bA n;omega
 refine .exit<|bq<|bz<|bs<|bf<|ax<|.region ?_
 refine .ia (i+1) .add ?_
 refine .mo rfl<|.nil ?_
 ·exact aP (i+1) ⟨U,λj x o l=>L j x (by omega) l⟩ (by omega) kE.c.c.c.c.c.c (aH [1,1])
 refine .exit<|bq<|bz<|bs<|ax<|.sr ?_
 refine .q .cN ?_
 refine .bH rfl rfl<|.az rfl ?_
 refine .ret (bk _ (.two (.eI rfl rfl) (.tmp rfl)) (.none _) ?_)
 ·refine⟨rfl,ca.zero,false,rfl,?_⟩
  have b0:of i=A.length:=by
   have:i=c.bd.length:=by have:=bA H;omega
   rw[this, <-a7, <-J, <-a8]
   rfl
  rw[Q,zE λj x o l=>V j x (by omega) l]
  exact⟨rfl,rfl⟩
theorem Rt(t:Ty)(s:Sub)(R:aD):Spec prog 243 [.agg t.enc.toArray,.agg s.enc.toArray] R [] λu H'=>u=.bool (jW s t)/\H'=[]:=by
 obtain⟨e,d⟩:=t
 obtain⟨k,j,h,i⟩:=s
 refine Spec.body Tryz.func243 rfl Tryz.results243 Tryz.ntmps243 rfl ?_
 refine .sr ?_
 refine .bW rfl (λf=>?_)
 refine .bW rfl (λg=>?_)
 refine .ag rfl<|.zs<|.sr<|.fa rfl<|.lo rfl<|.q .gv<|.zn ?_
 refine .cond rfl (λc=>?_) λc=>?_
 refine .sr<|.q (.aL rfl) ?_
 refine .q .cN ?_
 refine .q (.cast (.mQ (xs:=Ty.enc ⟨e,d⟩) (ys:=Ty.enc ⟨⟨#[]⟩,⟨#[]⟩⟩) rfl rfl (Ty.kinds _) (Ty.kinds _)) (congrArg Value.bool (Ty.eq _ _))) ?_
 refine .az rfl ?_
 refine .ret (aI (aM rfl ?_))
 ·refine⟨congrArg _ ?_,rfl⟩
  simp only[jW]
  grind
 refine .kn<|.sr<|.fa rfl<|.lo rfl<|.q .gv<|.mo rfl ?_
 refine .split (t:=14) rfl (λa=>?_) (λa=>?_)
 refine .gT a<|.fa rfl<|.gT a<|.lo rfl<|.gT a<|.fa rfl<|.gT a<|.fa rfl<|.gT a<|.lo rfl<|.gT a<|.q .dW<|.q (.aO a) ?_
 refine .mo rfl ?_
 refine .split (t:=22) rfl (λb=>?_) (λb=>?_)
 refine .gT b<|.fa rfl<|.gT b<|.lo rfl<|.gT b<|.fa rfl<|.gT b<|.lo rfl<|.gT b<|.q .dW<|.q (.aO b) ?_
 refine .az rfl ?_
 refine .ret (aM rfl ?_)
 ·refine⟨congrArg _ ?_,rfl⟩
  simp only[jW]
  grind
 refine .gF b<|.gF b<|.gF b<|.gF b<|.gF b<|.q (.aN b) ?_
 refine .az rfl ?_
 refine .ret (aM rfl ?_)
 ·refine⟨congrArg _ ?_,rfl⟩
  simp only[jW]
  grind
 refine .gF a<|.gF a<|.gF a<|.gF a<|.gF a<|.gF a<|.q (.aN a) ?_
 refine .mo rfl<|.gX<|.gX<|.gX<|.gX<|.gX<|.q .cT<|.az rfl ?_
 refine .ret (aM rfl ?_)
 ·refine⟨congrArg _ ?_,rfl⟩
  simp only[jW]
  grind
theorem C7(t:Ty)(s:Sub)(b c d:Value)(q:Nat)(R:aD) [pc:PC R (pT q) (b::c::d::s.enc)]:Spec prog 242 [.agg t.enc.toArray,pT q] R [] λu H'=>u=.bool (jW s t)/\H'=[]:=by
 refine Spec.body Tryz.func242 rfl Tryz.results242 Tryz.ntmps242 rfl ?_
 refine .sr ?_
 refine .bW rfl (λe=>?_)
 refine .ag rfl<|.z<|.q (.aL rfl)<|.fa rfl<|.q (.loadT rfl) ?_
 refine .ba (Rt t s _) (λu a=>?_)
 subst a
 refine .az rfl ?_
 refine .ret (aM rfl ?_)
 ·exact⟨rfl,rfl⟩
theorem C8(c:bM)(R:aD)(h:c.is R)(t:aC):Spec prog 189 [.agg c.enc.toArray,.agg t.enc.toArray] R [] λu H'=>u=.int .i64 (if allowed c.plain t.cQ t.sub then 0 else 14)/\H'=[]:=by
 have B:=BZ c R h t.os t.rel
 have n:=h.all
 have I:One c.vs:=RS.ap h.ss
 have J:One c.vc:=RS.ap h.sc
 have A:allowed c.plain t.cQ t.sub=match bX c.plain.all ⟨t.os,t.rel⟩with
  |none=>false
  |some i=>((c.plain.all.map (·.2.types)).getD i []).any (jW t.sub):=rfl
 refine Spec.body Tryz.func189 rfl Tryz.results189 Tryz.ntmps189 rfl ?_
 refine .sr ?_
 refine .bW rfl (λF=>?_)
 refine .bW rfl (λk=>?_)
 refine .ag rfl<|.z<|.q (.aL rfl)<|.fa rfl<|.fa rfl<|.lo rfl<|.fa rfl<|.lo rfl ?_
 refine .ba ((B.mono λu H' d=>⟨d.2,d.1⟩).weaken cU) (λu d=>?_)
 obtain⟨r,C,rfl,b⟩:=d
 obtain⟨g,v,l⟩:∃g,RS R 2 Ty.enc r.vt g/\allowed c.plain t.cQ t.sub=(C&&g.any (jW t.sub)):=by
  rw[A]
  unfold nA at b
  cases hf:bX c.plain.all ⟨t.os,t.rel⟩with
  |none=>rw[hf]at b;obtain⟨rfl,rfl⟩:=b;exact⟨[],RS.gL,rfl⟩
  |some j=>
   rw[hf]at b
   obtain⟨rfl,p,s,f,e,o⟩:=b
   refine⟨r.r.types,((n _ (aZ f)).all _ (aZ e)).t,?_⟩
   have:=pe f e
   rw[o]at this
   simp only[Bool.true_and]
   rw[List.getD_eq_getElem?_getD,List.getElem?_map,this]
   rfl
 have H:bZ r.enc:=by
  unfold nA at b
  cases hf:bX c.plain.all ⟨t.os,t.rel⟩with
  |none=>rw[hf]at b;obtain⟨_,rfl⟩:=b;exact⟨by simp[ca.enc,ca.zero,ap]⟩
  |some j=>rw[hf]at b;obtain⟨_,p,s,f,e,o⟩:=b;exact⟨((n _ (aZ f)).all _ (aZ e)).cJ⟩
 obtain⟨D,L,r⟩:=r
 simp only at v
 refine .mo rfl<|.q .extract<|.q .extract ?_
 refine .bN (λG=>?_)
 refine .bH rfl rfl<|.ag rfl<|.zs<|.sr<|.mo rfl<|.q .not<|.mo rfl ?_
 refine .split (t:=19) rfl (λa=>?_) (λa=>?_)
 refine .gF a<|.gF a<|.gF a<|.gF a<|.gF a<|.q (.aO a) ?_
 refine .zn<|.hY<|.sr<|.az rfl ?_
 refine .ret (aI (aM rfl ?_))
 ·refine⟨?_,rfl⟩
  rw[l,if_neg (by simp_all)]
 refine .gT a<|.fa rfl<|.gT a<|.lo rfl<|.gT a<|.q .makeFunc<|.gT a ?_
 refine .ba (LTY.kj 242 [pT k] (jW t.sub) D g _ v.rx (λy _ m x=>by
  have K:PC m (pT k) (.string t.os:: .string t.oi:: .string t.rel::t.sub.enc):=PC.of (E:=119) (fr:=(0,0)) (x _ _ (.inr (by simp[aC.enc,Sub.enc,aC.sub])))
  exact C7 y t.sub _ _ _ k m)) (λu d=>?_)
 subst d
 refine .gT a<|.q .not<|.q (.aN a) ?_
 refine .zn ?_
 refine .cond rfl (λw=>?_) λw=>?_
 refine .sr<|.az rfl ?_
 refine .ret (aI (aM rfl ?_))
 ·refine⟨?_,rfl⟩
  rw[l,if_neg (by simp_all)]
 refine .kn<|.sr<|.az rfl ?_
 refine .ret (aM rfl ?_)
 ·refine⟨?_,rfl⟩
  rw[l,if_pos (by simp_all)]
structure ep where
 rev:Int
 c:bM
 vn:Value
 ll:List fA
def ep.enc(e:ep):List Value:=[.int .u64 e.rev,e.c.vs,e.c.vc,e.vn]
structure ep.is(R:aD)(e:ep):Prop where
 c:e.c.is R
 n:NN R e.vn e.ll
 ok:(e.c.plain.numbers isWord di).1=0
 eq:e.ll.map (·.2)=(e.c.plain.numbers isWord di).2
theorem ep.is.mono{R R':aD}{e:ep}(h:e.is R)(a:∀b o,R b o->R' b o):e.is R':=⟨h.c.mono a,h.n.mono a,h.ok,h.eq⟩
theorem ep.is.cJ{R:aD}{e:ep}(h:e.is R):∀u∈e.enc,ap u=true:=by
 have b:=h.c.ss.ap
 have d:=h.c.sc.ap
 have f:=h.n.rs.ap
 intro u a
 simp only[ep.enc,List.mem_cons,List.not_mem_nil,or_false]at a
 rcases a with rfl|rfl|rfl|rfl
 ·rfl
 ·exact b.h
 ·exact d.h
 ·exact f.h
theorem Bv{c:Cf}(h:(c.numbers isWord di).1=0):c.right isWord di=true:=by
 cases hr:c.right isWord di with
 |true=>rfl
 |false=>unfold Cf.numbers at h;rw[if_pos hr]at h;cases h
def HI(hb:Nat)(es:List ep)(gone:Nat)(T:aB):Prop:=∃vl Te Tp,T=(hb,.cells [.bool true,vl,iN gone].toArray 155 (0,0))::(Te++Tp)/\OS 159 4 ep.enc vl es Te/\∀e∈es,e.is (sg Tp)
structure HV(R:aD)(hb:Nat)(vl:Value)(es:List ep)(gone:Nat):Prop where
 pc:PC R (pT hb) [.bool true,vl,iN gone]
 rs:RS R 4 ep.enc vl es
 all:∀e∈es,e.is R
theorem HV.mono{R R':aD}{f:Nat}{g:Value}{c:List ep}{d:Nat}(h:HV R f g c d)(a:∀b o,R b o->R' b o):HV R' f g c d:=⟨h.pc.mono a,h.rs.mono a,λe i=>(h.all e i).mono a⟩
theorem HI.view{a:Nat}{d:List ep}{f:Nat}{T:aB}{R:aD}(h:HI a d f T)(c:∀p∈T,R p.1 p.2):∃vl,HV R a vl d f:=by
 obtain⟨vl,m,g,rfl,j,i⟩:=h
 refine⟨vl,PC.of (E:=155) (fr:=(0,0)) (c (a,_) (by simp)),j.rs λp l=>c p (by simp[l]),λe k=>(i e k).mono λb o a=>c (b,o) ?_⟩
 have:(b,o)∈g:=a
 simp[this]
theorem z0(R:aD):Spec prog 48 [] R [] λu H'=>∃T,H'=[T]/\∃hb,u=pT hb/\HI hb [] 0 T:=by
 refine Spec.body Tryz.func48 rfl Tryz.results48 Tryz.ntmps48 rfl ?_
 refine .sr<|.ag rfl<|.z ?_
 refine .q .cN ?_
 refine .bW rfl (λa=>?_)
 refine .az rfl ?_
 refine .ret (bk _ (.one (.tmp rfl)) (.one [0] _) ?_)
 ·exact⟨_,rfl,a,rfl,sZ,[],[],rfl,OS.nil,λe b=>(by cases b)⟩
section
variable{R:aD}{hb:Nat}{vl:Value}{es:List ep}{gone:Nat}
theorem HV.made(h:HV R hb vl es gone):Spec prog 66 [pT hb] R [] λu H'=>u=.bool true/\H'=[]:=by
 have b:=h.pc
 have a:=h.rs.ap
 refine Spec.body Tryz.func66 rfl Tryz.results66 Tryz.ntmps66 rfl ?_
 refine .sr<|.ag rfl<|.z<|.mo rfl<|.q (.AM rfl rfl) ?_
 refine .mo rfl<|.gt rfl ?_
 refine .mo rfl<|.gt rfl ?_
 refine .nc rfl<|.gt rfl ?_
 refine .fa rfl<|.gt rfl ?_
 refine .lo rfl<|.q .cO<|.az rfl ?_
 refine .ret (aM rfl ?_)
 ·exact⟨rfl,rfl⟩
def hl(es:List ep)(r:Int):Nat->Option Nat
 |0=>none
 |n+1=>match es[n]? with
  |some e=>if e.rev<=r then some n else hl es r n
  |none=>hl es r n
theorem ti{b:List ep}{r:Int}:∀{n i:Nat},hl b r n=some i->i<n/\∃e,b[i]? =some e
 |0,i,h=>by cases h
 |n+1,i,h=>by
  unfold hl at h
  split at h
  ·rename_i e d
   split at h
   ·cases h;exact⟨by omega,e,d⟩
   ·obtain⟨c,a⟩:=ti h;exact⟨by omega,a⟩
  ·obtain⟨c,a⟩:=ti h;exact⟨by omega,a⟩
theorem HV.last(h:HV R hb vl es gone)(r:Int):Spec prog 75 [pT hb,.int .u64 r] R [] λu H'=>u=.int .i64 (fI (hl es r es.length))/\H'=[]:=by
 have w:=h.pc
 have b:=h.rs
 have t:=b.ap
 have o:=b.le
 have k:=h.all
 refine Spec.body Tryz.func75 rfl Tryz.results75 Tryz.ntmps75 rfl ?_
 refine .sr<|.ag rfl<|.zs<|.sr<|.mo rfl ?_
 refine .ba (h.made.weaken cU) (λu l=>?_)
 subst l
 refine .q .not<|.zn<|.cS<|.kn<|.sr<|.ag rfl<|.zs<|.sr<|.mo rfl<|.nc rfl<|.fa rfl<|.lo rfl<|.q (.bJ b) ?_
 refine .mo rfl<|.zn<|.block ?_
 refine .cx [(1,_),(14,_),(15,_)] (X:=Nat) (λi=>i<=es.length) (λi E=>(16,iN i)::(5,.int .i64 (fI (hl es r i)))::E) (λ_ G=>G) (λi=>es.length-i) 0 (Nat.zero_le _) kE.c.c.c.c.c rH ?_
 rintro i n
 refine .sr<|.q .lss<|.zs ?_
 refine .cond rfl (λd=>?_) λd=>?_
 have g:i<es.length:=cr d
 obtain⟨e,f⟩:=bR g
 have p:bZ e.enc:=⟨(k e (aZ f)).cJ⟩
 have j:hl es r (i+1)=if e.rev<=r then some i else hl es r i:=by rw[hl,f]
 refine .kn<|.seq<|.block<|.sr<|.mo rfl ?_
 refine .bC i b f (λv=>?_)
 refine .q (.aL rfl) ?_
 refine .bN (λm=>?_)
 refine .ag rfl<|.bH rfl rfl<|.z<|.fa rfl<|.fa rfl<|.lo rfl<|.mo rfl<|.q .leq<|.zn ?_
 refine bx.cL [(1,_),(14,_),(15,_),(16,_)] kE.c.c.c.c (X:=Unit) (λ_=>True) (λ_ E=>(5,.int .i64 (fI (hl es r (i+1))))::E) (λ_=>[]) ?_ ?_
 refine .cond rfl (λa=>?_) λa=>?_
 refine .region<|.mo rfl<|.ag rfl<|.nil ?_
 ·exact ay () trivial (kE.c.c.c.c.jG rfl (by rw[j];first|rw[if_pos (cm a)];rfl|rw[if_neg (bA a)])) (aW.none _)
 refine .skip ?_
 ·exact ay () trivial (kE.c.c.c.c.jG rfl (by rw[j];first|rw[if_pos (cm a)];rfl|rw[if_neg (bA a)])) (aW.none _)
 intro x s
 refine bf<|ax<|.region ?_
 refine .ia (i+1) .add ?_
 refine .mo rfl<|.nil ?_
 ·exact aP (i+1) g (by omega) kE.c.c.c.c.c rH
 refine .exit<|bq<|bz<|bs<|ax<|.sr<|.mo rfl<|.az rfl ?_
 refine .ret (aM rfl ?_)
 ·refine⟨?_,rfl⟩
  rw[show i=es.length by have:=bA d;omega]
def uX(es:List ep)(gone:Nat)(r:Int):Int:=match hl es r es.length with
 |none=>0
 |some i=>(gone+i+1:Nat)
def kC(es:List ep)(r:Int):Option ep:=(hl es r es.length).bind λi=>es[i]?
theorem HV.at_(h:HV R hb vl es gone)(r:Int)(x:gone<=1000000/\es.length<=1000000):Spec prog 27 [pT hb,.int .u64 r] R [] λu H'=>∃T,H'=[T]/\∃c':bM,u=.tuple [.agg c'.enc.toArray,.int .i64 (uX es gone r)].toArray/\c'.is (sg T)/\c'.plain=((kC es r).map (·.c.plain)).getD ⟨[],[]⟩:=by
 have L:=h.pc
 have j:=h.rs
 have K:=j.ap
 have G:=j.le
 have t:=h.all
 obtain⟨C,D⟩:=x
 refine Spec.body Tryz.func27 rfl Tryz.results27 Tryz.ntmps27 rfl ?_
 refine .sr ?_
 refine .bN (λp=>?_)
 refine .ag rfl<|.z<|.mo rfl<|.mo rfl ?_
 refine .ba ((h.last r).weaken cU) (λu n=>?_)
 subst n
 refine .ag rfl<|.zs<|.sr<|.mo rfl<|.q .lss<|.zn ?_
 refine .cond rfl (λb=>?_) λb=>?_
 have o:hl es r es.length=none:=by
  cases hh:hl es r es.length with
  |none=>rfl
  |some i=>rw[hh]at b;simp only[fI]at b;have:=cm b;omega
 refine .sr ?_
 refine .q .cN ?_
 refine .bH rfl rfl<|.az rfl ?_
 refine .ret (aI (bk _ (.two (.eI rfl rfl) (.tmp rfl)) aW.jo ?_))
 ·refine⟨[],rfl,⟨sZ,sZ,[],[]⟩,?_,⟨RS.gL,RS.gL,λs m=>(by cases m),λs m=>(by cases m)⟩,?_⟩
  ·unfold uX;rw[o];rfl
  ·unfold kC;rw[o];rfl
 obtain⟨i,g⟩:∃i,hl es r es.length=some i:=by
  cases hh:hl es r es.length with
  |none=>rw[hh]at b;simp[fI]at b
  |some i=>exact⟨i,rfl⟩
 obtain⟨F,e,f⟩:=ti g
 have l:=t e (aZ f)
 have H:bZ e.enc:=⟨l.cJ⟩
 have v:=yz e.c R l.c (zq (Bv l.ok))
 have w:fI (hl es r es.length)=(i:Int):=by rw[g];rfl
 have M:=j.pc f
 rw[w]
 refine .kn<|.seq ?_
 refine bx.cL [(4,_)] kE.c (X:=bM×aB) (λy=>y.1.is (sg y.2)/\y.1.plain=e.c.plain) (λ_ E=>(5,.int .i64 ((gone+i+1:Nat):Int))::E) (λy=>[y.2,bl p y.1.enc 25]) ?_ ?_
 refine .dp [17] mixed ?_
 refine .tO 0 rfl .move<|.tO 1 rfl (.nilCheck rfl)<|.tO 2 rfl (.fieldAddr rfl)<|.tO 3 rfl (.cE rfl)<|.tO 4 rfl .move ?_
 refine .tO 5 rfl (.bC i j f rfl rfl rfl) ?_
 refine .tO 6 rfl (.fieldAddr rfl)<|.tO 7 rfl (.fieldAddr rfl) ?_
 refine .tO 8 rfl (.loadT rfl) ?_
 refine .tK 10 rfl .move ?_
 refine .tK 11 rfl (.lq rfl) ?_
 refine .tK 12 rfl (.eF rfl) ?_
 refine .tK 13 rfl (.cE rfl)<|.tK 14 rfl .move ?_
 refine .take 15 rfl (.i64 ((gone+i:Nat):Int) .add ⟨by omega,by omega,by omega⟩) (by kernel_rfl) ?_
 refine .take 16 rfl (.i64 ((gone+i+1:Nat):Int) .add ⟨by omega,by omega,by omega⟩) (by kernel_rfl) ?_
 refine .sT 9 rfl ?_
 refine .cK (v.weaken cU) (λu k n=>?_)
 obtain⟨c',rfl,a,d⟩:=n
 have B:bZ c'.enc:=⟨a.cJ⟩
 have I:One c'.vs:=RS.ap a.ss
 have J:One c'.vc:=RS.ap a.sc
 refine .nil (Next.sub ?_)
 refine .sT 17 rfl ?_
 refine .bH rfl rfl ?_
 refine .nil (Next.mod rfl ?_)
 refine .tK 18 rfl .assign ?_
 refine RA.nil (by kernel_rfl) ?_
 ·exact ay (c',k) ⟨a,d⟩ kE.c.c (by first|exact aW.refl _|exact aW.pick [0,0] _|exact aH [1,0])
 intro y A
 obtain⟨c',k⟩:=y
 obtain⟨a,d⟩:=A
 simp only at a d⊢
 refine ax ?_
 refine .ret (bk _ (.two (.eI rfl rfl) (.tmp rfl)) (.one [0] _) ?_)
 ·refine⟨k,by simp[take],c',?_,a,?_⟩
  ·unfold uX;rw[g]
  ·unfold kC;rw[g,Option.bind_some,f];exact d
end
theorem HV.numbers{R:aD}{d:Nat}{vl:Value}{a:List ep}{O:Nat}(h:HV R d vl a O)(r:Int)(W:∀e∈a,e.ll.length<=1000000/\∀q∈e.ll,q.2.length<=1000000):Spec prog 82 [pT d,.int .u64 r] R [] λu H'=>∃T,H'=[T]/\∃ll,NN (sg T) u ll/\ll.map (·.2)=((kC a r).map λe=>e.ll.map (·.2)).getD []:=by
 have pc:=h.pc
 have B:=h.rs
 have il:=B.ap
 have a4:=B.le
 have Q:=h.all
 refine Spec.body Tryz.func82 rfl Tryz.results82 Tryz.ntmps82 rfl ?_
 refine .sr<|.ag rfl<|.z<|.mo rfl<|.mo rfl ?_
 refine .ba ((h.last r).weaken cU) (λu l=>?_)
 subst l
 refine .ag rfl<|.zs<|.sr<|.mo rfl<|.q .lss<|.zn ?_
 refine .cond rfl (λg=>?_) λg=>?_
 have s:hl a r a.length=none:=by
  cases hh:hl a r a.length with
  |none=>rfl
  |some i=>rw[hh]at g;simp only[fI]at g;have:=cm g;omega
 refine .sr<|.az rfl ?_
 refine .ret (aI (bk _ (.one (.tmp rfl)) aW.jo ?_))
 ·refine⟨[],rfl,[],.nil,?_⟩
  unfold kC;rw[s];rfl
 obtain⟨i,x⟩:∃i,hl a r a.length=some i:=by
  cases hh:hl a r a.length with
  |none=>rw[hh]at g;simp[fI]at g
  |some i=>exact⟨i,rfl⟩
 obtain⟨a2,e,p⟩:=ti x
 have w:=Q e (aZ p)
 have s:=w.n
 have A:=s.rs
 have inr:=A.ap
 obtain⟨a3,V⟩:=W e (aZ p)
 have a5:One e.c.vs:=RS.ap w.c.ss
 have a6:One e.c.vc:=RS.ap w.c.sc
 have S:fI (hl a r a.length)=(i:Int):=by rw[x];rfl
 rw[S]
 refine .kn<|.sr<|.ag rfl<|.zs<|.sr<|.mo rfl<|.nc rfl<|.fa rfl<|.lo rfl<|.mo rfl ?_
 refine .bC i B p (λa7=>?_)
 refine .fa rfl<|.lo rfl<|.q (.bJ A) ?_
 refine .mo rfl<|.zn<|.block ?_
 refine .cx [(21,_),(22,_)] (X:=Nat×Value×List fA×aB×aB) (λy=>y.1<=e.ll.length/\OS 182 1 dZ y.2.1 y.2.2.1 y.2.2.2.1/\(∀q∈y.2.2.1,RS (sg y.2.2.2.2) 1 cW q.1 q.2)/\y.2.2.1.map (·.2)=(e.ll.take y.1).map (·.2)) (λy E=>(23,iN y.1)::(6,y.2.1)::E) (λy G=>y.2.2.2.1::y.2.2.2.2::G) (λy=>e.ll.length-y.1) (0,sZ,[],[],[]) ⟨Nat.zero_le _,OS.nil,λq f=>(by cases f),rfl⟩ kE.c.c.c.c aW.ja ?_
 rintro⟨k,vo,L,N,C⟩ ⟨U,m,v,j⟩
 simp only at U m v j⊢
 have io:=m.ap
 have a1:L.length=k:=by have:=congrArg List.length j;rw[List.length_map,List.length_map,List.length_take]at this;omega
 refine .sr<|.q .lss<|.zs ?_
 refine .cond rfl (λt=>?_) λt=>?_
 have F:k<e.ll.length:=cr t
 obtain⟨q,f⟩:=bR F
 have H:=s.all q (aZ f)
 have iq:=H.ap
 refine .kn<|.seq<|.block<|.sr ?_
 refine .bC k A f (λa8=>?_)
 refine .lo rfl<|.az rfl<|.region<|.mo rfl<|.mo rfl ?_
 refine .cK (LIN.oz q.1 q.2 _ H.rx (V q (aZ f))) (λu K l=>?_)
 have iu:=l.ap
 obtain⟨J,D,rfl,_⟩:=l.shape
 refine .jT (λa0=>?_)
 refine .append m (RS.lits (xs:=[((.slice J q.2.length D,q.2):fA)]) rfl (by simp[dZ]) (by simp[dZ,ap])) (by simp only[List.length_singleton];omega) (λZ M I=>?_)
 have i5:=I.ap
 refine .ag rfl<|.nil<|bf<|ax<|.region ?_
 refine .ia (k+1) .add ?_
 refine .mo rfl<|.nil ?_
 ·exact aP (k+1,Z,L++[(.slice J q.2.length D,q.2)],M,K++C) ⟨F,I,λY hq'=>by
   rcases List.mem_append.1 hq' with hq'|hq'
   ·exact(v Y hq').mono λb o d=>gE d
   ·rw[List.mem_singleton]at hq'
    subst hq'
    exact l.sg.mono λb o d=>iE d,by simp only;rw[dT f,List.map_append,List.map_append,j];rfl⟩ (by simp only;omega) kE.c.c.c.c ((aH [2,1,1]).trans (aW.ez (by simp[take,bL])))
 refine .exit<|bq<|bz<|bs<|ax<|.sr<|.mo rfl<|.az rfl ?_
 refine .ret (bk _ (.one (.tmp rfl)) (.one [0,0] _) ?_)
 ·refine⟨N++C,by simp[take,bL],L,⟨m.sg.mono λb o d=>iE d,λq f=>(v q f).mono λb o d=>gE d⟩,?_⟩
  rw[dx (gj t)]at j
  unfold kC;rw[x,Option.bind_some,p,j];rfl
def oQ(es:List ep)(rev:Int)(c:Cf):Int:=
 if(es.getLast?.map λe=>decide (rev<=e.rev)).getD false then 12 else if(c.numbers isWord di).1≠0 then(c.numbers isWord di).1 else if 16<=es.length then 8 else 0
theorem zW(f:Nat)(d:List ep)(k:Nat)(T:aB)(h:HI f d k T)(c1:d.length<=1000)(g:Int)(c:bM)(R:aD)(D:c.is R):
  Spec prog 20 [pT f,.int .u64 g,.agg c.enc.toArray] R [T] λu H'=>∃T',H'=[T']/\u=.int .i64 (oQ d g c.plain)/\(oQ d g c.plain=0->∃e:ep,e.rev=g/\e.c.plain=c.plain/\HI f (d++[e]) k T')/\(oQ d g c.plain≠0->HI f d k T'):=by
 have b7:=Pq c R D
 have b1:=yz c R D
 have i1:One c.vs:=RS.ap D.ss
 have i2:One c.vc:=RS.ap D.sc
 obtain⟨m,r,i,rfl,l,z⟩:=h
 have il:=l.ap
 have b8:(c.plain.numbers isWord di).1=0->c.vI:=λx=>zq (Bv x)
 have F:oQ d g c.plain=if(d.getLast?.map λe=>decide (g<=e.rev)).getD false then 12 else if(c.plain.numbers isWord di).1≠0 then(c.plain.numbers isWord di).1 else if 16<=d.length then 8 else 0:=rfl
 generalize hk:oQ d g c.plain=kc at *
 generalize a7:c.plain.numbers isWord di=nn at *
 have b0:∀G:aD,(∀p∈((f,.cells [.bool true,m,iN k].toArray 155 (0,0))::(r++i):aB),G p.1 p.2)->HV G f m d k:=λG O=>by
  refine⟨PC.of (E:=155) (fr:=(0,0)) (O (f,_) (by simp)),l.rs λp hp=>O p (by simp[hp]),λe he=>(z e he).mono λb o f=>O (b,o) ?_⟩
  have:(b,o)∈i:=f
  simp[this]
 have Q:∀w,HI f d k w↔∃m r i,w=(f,.cells [.bool true,m,iN k].toArray 155 (0,0))::(r++i)/\OS 159 4 ep.enc m d r/\∀e∈d,e.is (sg i):=λ_=>Iff.rfl
 refine Spec.gO (H':=[bl f [.bool true,m,iN k] 155,r,i]) (by simp) ?_
 refine Spec.body Tryz.func20 rfl Tryz.results20 Tryz.ntmps20 rfl ?_
 refine .sr ?_
 refine .bW rfl (λb5=>?_)
 refine .ag rfl<|.zs<|.block<|.sr<|.mo rfl ?_
 refine .ba (HV.made (b0 _ λp hp=>.inr (by
  rcases List.mem_cons.1 hp with rfl|hp
  ·simp
  ·rcases List.mem_append.1 hp with hp|hp<;>simp[hp]))) (λu W=>?_)
 subst W
 refine .q .not<|.az rfl<|.cS<|.seq ?_
 refine bx.cL [(0,_),(1,_),(5,_)] kE.c.c.c (X:=Unit) (λ_=>True) (λ_ E=>(13,.bool ((d.getLast?.map λe=>decide (g<=e.rev)).getD false))::E) (λ_=>[bl b5 c.enc 25,bl f [.bool true,m,iN k] 155,r,i]) ?_ ?_
 refine .fX mixed (by kernel_rfl) ?_
 refine .mo rfl<|.nc rfl<|.fa rfl<|.lo rfl<|.q (.dN l) ?_
 refine .q .gtr<|.mo rfl ?_
 refine .split (t:=20) rfl (λa=>?_) (λa=>?_)
 obtain⟨n,hn⟩:∃n,d.length=n+1:=⟨d.length-1,by have:=cm a;omega⟩
 obtain⟨K,U⟩:∃e,d[n]? =some e:=⟨_,bu (by omega)⟩
 have a5:d.getLast? =some K:=by rw[List.getLast?_eq_getElem?,hn];exact U
 have b2:=z K (aZ U)
 have c4:bZ K.enc:=⟨b2.cJ⟩
 refine .gT a<|.mo rfl<|.gT a<|.mo rfl<|.gT a<|.nc rfl<|.gT a<|.fa rfl<|.gT a<|.lo rfl<|.gT a<|.mo rfl<|.gT a ?_
 refine .nc rfl<|.gT a<|.fa rfl<|.gT a<|.lo rfl<|.gT a<|.q (.dN l) ?_
 refine .gT a ?_
 refine .q (.i64 (n:Int) .sub ⟨by omega,by omega,by omega⟩) ?_
 refine .gT a ?_
 refine .bo n l U (λc5=>?_)
 refine .gT a<|.fa rfl<|.gT a<|.fa rfl<|.gT a<|.lo rfl<|.gT a<|.q .leq<|.q (.aO a) ?_
 refine .ag rfl<|.nil ?_
 ·exact ay () trivial (kE.c.c.c.bP rfl (by first|rfl|(rw[a5];rfl))) rH
 have b6:d=[]:=List.eq_nil_of_length_eq_zero (by have:=bA a;omega)
 subst b6
 refine .gF a<|.gF a<|.gF a<|.gF a<|.gF a<|.gF a<|.gF a<|.gF a<|.gF a<|.gF a<|.gF a<|.gF a<|.gF a<|.gF a<|.gF a<|.gF a<|.q (.aN a) ?_
 refine .ag rfl<|.nil ?_
 ·exact ay () trivial (kE.c.c.c.bP rfl (by first|rfl|(rw[a5];rfl))) rH
 intro y hy
 refine ax ?_
 refine .cond rfl (λA=>?_) λA=>?_
 refine .sr<|.az rfl ?_
 refine .ret (bp (aI (bk _ (.one (.tmp rfl)) (.one [1,1,1] _) ?_)))
 ·have s:((d.getLast?.map λe=>decide (g<=e.rev)).getD false)=true:=A
  have j:kc=12:=by rw[F,if_pos s]
  have V:kc≠0:=by rw[j];decide
  exact⟨_,rfl,by rw[j],λv=>absurd v V,λ_=>(Q _).2 ⟨m,r,i,by simp[take,bL],l,z⟩⟩
 refine .skip<|bf<|ax<|.sr<|.q (.aL rfl) ?_
 refine .cK (b7.weaken cU) (λu T7 b9=>?_)
 obtain⟨w7,ll,rfl,N,b3⟩:=b9
 have i7:=N.rs.ap
 refine .mo rfl<|.q .extract<|.q .extract<|.ag rfl<|.ag rfl<|.zs<|.block<|.sr<|.mo rfl<|.q .dS<|.az rfl ?_
 refine .cond rfl (λL=>?_) λL=>?_
 have a6:nn.1≠0:=by simpa using L
 refine .sr<|.mo rfl<|.az rfl ?_
 refine .ret (bp (aI (bk _ (.one (.tmp rfl)) (.one [2,2,2] _) ?_)))
 ·have s:((d.getLast?.map λe=>decide (g<=e.rev)).getD false)=false:=A
  have j:kc=nn.1:=by rw[F,if_neg (by rw[s];simp),if_pos a6]
  exact⟨_,rfl,by rw[j],λv=>absurd (j.symm.trans v) a6,λ_=>(Q _).2 ⟨m,r,i,by simp[take,bL],l,z⟩⟩
 have x:nn.1=0:=by simpa using L
 refine .sr<|.mo rfl<|.nc rfl<|.fa rfl<|.lo rfl<|.q (.dN l) ?_
 refine .q .geq<|.az rfl ?_
 refine .cond rfl (λM=>?_) λM=>?_
 refine .sr<|.az rfl ?_
 refine .ret (bp (aI (bk _ (.one (.tmp rfl)) (.one [2,2,2] _) ?_)))
 ·have s:((d.getLast?.map λe=>decide (g<=e.rev)).getD false)=false:=A
  have j:kc=8:=by rw[F,if_neg (by rw[s];simp),if_neg (by rw[x];simp),if_pos (by have:=cm M;omega)]
  have V:kc≠0:=by rw[j];decide
  exact⟨_,rfl,by rw[j],λv=>absurd v V,λ_=>(Q _).2 ⟨m,r,i,by simp[take,bL],l,z⟩⟩
 have b4:¬16<=d.length:=by have:=bA M;omega
 have s:((d.getLast?.map λe=>decide (g<=e.rev)).getD false)=false:=A
 have j:kc=0:=by rw[F,if_neg (by rw[s];simp),if_neg (by rw[x];simp),if_neg b4]
 refine .skip<|bf<|ax<|.seq ?_
 refine bx.cL [] (dL.nil _) (X:=Value×aB×ep×aB) (λy=>OS 159 4 ep.enc y.1 (d++[y.2.2.1]) y.2.1/\y.2.2.1.is (sg y.2.2.2)/\y.2.2.1.rev=g/\y.2.2.1.c.plain=c.plain) (λ_ E=>E) (λy=>[bl f [.bool true,y.1,iN k] 155,y.2.1,y.2.2.2,i]) ?_ ?_
 refine .dp [12,15] mixed ?_
 refine .tK 0 rfl .move<|.tO 1 rfl .move<|.tO 2 rfl (.nilCheck rfl)<|.tO 3 rfl (.fieldAddr rfl)<|.tO 4 rfl (.cE rfl)<|.tO 5 rfl .move<|.tO 6 rfl (.aL rfl)<|.tO 9 rfl .move ?_
 refine .sT 7 rfl ?_
 refine .cK ((b1 (b8 x)).weaken cU) (λu I W=>?_)
 obtain⟨J,rfl,B,S⟩:=W
 have c2:One J.vs:=RS.ap B.ss
 have c3:One J.vc:=RS.ap B.sc
 obtain⟨ps,cs,Z⟩:=B.ss.val
 obtain⟨pc,cc,a0⟩:=B.sc.val
 obtain⟨pw,cw,a1⟩:=N.rs.val
 obtain⟨c7,c6,a9,a8⟩:=J
 simp only at Z a0 a1
 subst Z a0 a1
 refine .nil (Next.sub ?_)
 refine .tO 8 rfl .cN ?_
 refine .tO 10 rfl .cN ?_
 refine .sT 11 rfl ?_
 refine .dM (λc0=>?_)
 refine .nil (Next.sub ?_)
 refine .sT 12 rfl ?_
 refine .append l (RS.lits (xs:=[(⟨g,⟨.slice ps a9.length cs,.slice pc a8.length cc,a9,a8⟩,.slice pw ll.length cw,ll⟩:ep)]) rfl (by simp[ep.enc]) (by simp[ep.enc,ap])) (by simp only[List.length_singleton];omega) (λY H C=>?_)
 have i5:=C.ap
 refine .nil (Next.mod rfl ?_)
 refine .tK 13 rfl (.lq rfl) ?_
 refine .tK 14 rfl (.eF rfl) ?_
 refine .sT 15 rfl ?_
 refine .dw rfl rfl ?_
 refine .nil (Next.mod rfl ?_)
 refine RA.nil (by kernel_rfl) ?_
 ·exact ay (Y,H,_,I++T7) ⟨C,⟨B.mono λb o f=>iE f,N.mono λb o f=>gE f,by simp only;rw[S,a7];exact x,by simp only;rw[S,a7];exact b3⟩,rfl,S⟩ (dL.nil _) (by first|exact(aH [4,4,1,1,2]).trans (aW.ez (by simp[take,bL,du]))|exact(aH [3,3,0,1,2]).trans (aW.ez (by simp[take,bL,du])))
 intro y hy
 obtain⟨Y,H,e5,I⟩:=y
 obtain⟨C,a2,a4,a3⟩:=hy
 simp only at C a2 a4 a3⊢
 refine ax<|.sr<|.az rfl ?_
 refine .ret (bk _ (.one (.tmp rfl)) (.one [0,0,0,0] _) ?_)
 ·refine⟨_,rfl,by rw[j],λ_=>⟨e5,a4,a3,Y,H,I++i,by simp[take,bL],C,λe he=>?_⟩,λv=>absurd j v⟩
  rcases List.mem_append.1 he with he|he
  ·exact(z e he).mono λb o f=>gE f
  ·rw[List.mem_singleton]at he
   subst he
   exact a2.mono λb o f=>iE f
theorem P4(a b:bB)(R:aD):Spec prog 169 [.agg a.enc.toArray,.agg b.enc.toArray] R [] λv H'=>v=.bool (eK a b)/\H'=[]:=by
 refine Spec.body Tryz.func169 rfl Tryz.results169 Tryz.ntmps169 rfl ?_
 refine .sr ?_
 refine .bW rfl (λf=>?_)
 refine .bW rfl (λg=>?_)
 refine .ag rfl<|.z<|.fa rfl<|.q (.loadT rfl) ?_
 refine .fa rfl<|.q (.loadT rfl) ?_
 refine .ba (Qu a.t b.t _) (λv e=>?_)
 subst e
 refine .mo rfl ?_
 refine .split (t:=10) rfl (λc=>?_) (λc=>?_)
 refine .gF c<|.gF c<|.gF c<|.gF c<|.gF c<|.gF c<|.dd rfl ?_
 refine .dd rfl ?_
 refine .dd rfl ?_
 refine .dd rfl ?_
 refine .dd rfl ?_
 refine .gF c<|.q (.aO c) ?_
 refine .az rfl ?_
 refine .ret (aM rfl ?_)
 ·refine⟨congrArg _ ?_,rfl⟩
  unfold eK
  simp_all
 refine .gT c<|.fa rfl<|.gT c<|.q (.loadT rfl) ?_
 refine .gT c<|.fa rfl<|.gT c<|.q (.loadT rfl) ?_
 refine .gT c<|.q (.mQ rfl rfl (aC.kinds a.t) (aC.kinds b.t)) ?_
 rw[show eE (List.take 7 (List.drop 0 a.enc)) (List.take 7 (List.drop 0 b.enc))=decide (a.t=b.t)from aC.eq a.t b.t]
 refine .gT c<|.mo rfl ?_
 refine .split (t:=16) rfl (λd=>?_) (λd=>?_)
 refine .gT d<|.fa rfl<|.gT d<|.lo rfl<|.gT d<|.fa rfl<|.gT d<|.lo rfl<|.gT d<|.q .lss<|.gT c<|.q (.aO d) ?_
 refine .q (.aN c) ?_
 refine .az rfl ?_
 refine .ret (aM rfl ?_)
 ·refine⟨congrArg _ ?_,rfl⟩
  unfold eK
  simp_all
 refine .gF d<|.gF d<|.gF d<|.gF d<|.gF d<|.gT c<|.q (.aN d) ?_
 refine .q (.aN c) ?_
 refine .az rfl ?_
 refine .ret (aM rfl ?_)
 ·refine⟨congrArg _ ?_,rfl⟩
  unfold eK
  simp_all
theorem Ql(v:Value)(l:List bB)(t:bB)(R:aD)(h:RS R 9 bB.enc v l)(hl:l.length<=100000):
    Spec prog 110 [v,.agg t.enc.toArray] R [] λu H'=>∃T,H'=[T]/\OS 226 9 bB.enc u (ik eK t l) T:=by
  obtain⟨J,I,rfl⟩:=h.val
  refine Spec.gO (H':=[[]]) (by simp) ?_
  refine Spec.body Tryz.func110 rfl Tryz.results110 Tryz.ntmps110 rfl ?_
  refine .sr ?_
  refine .bW rfl (λm=>?_)
  refine .ag rfl<|.z<|.ag rfl<|.z<|.ag rfl<|.zs<|.sr<|.az rfl<|.block ?_
  refine .loop (X:=Nat×Value×aB) (λy=>y.1<=l.length/\OS 226 9 bB.enc y.2.1 (kJ eK t (l.take y.1)) y.2.2) (λy=>[(0,.slice J l.length I),(3,pT m),(5,y.2.1),(6,.bool ((l.take y.1).any (eK t))),(7,iN y.1)]) (λy=>[bl m t.enc 226,y.2.2]) (λy=>l.length-y.1) (0,sZ,[]) ⟨Nat.zero_le _,OS.nil⟩ kE.c.c.c.c.c rH ?_
  rintro⟨i,D,s⟩ ⟨N,e⟩
  simp only at N e⊢
  have io:=e.ap
  have M:(kJ eK t (l.take i)).length<=100001:=Nat.le_trans zT (by rw[List.length_take];omega)
  refine .seq<|.sr<|.mo rfl<|.mo rfl<|.q (.bJ h) ?_
  refine .q .lss<|.zn ?_
  refine .cond rfl (λA=>?_) λA=>?_
  have H:i<l.length:=cr A
  obtain⟨x,f⟩:=bR H
  have E:=N5 (lt:=eK) (p:=t) f
  refine .kn<|.seq<|.block<|.seq ?_
  refine bx.cut (X:=Value×aB) (λz=>OS 226 9 bB.enc z.1 (nN eK t (l.take i) x) z.2) (λz=>[(0,.slice J l.length I),(3,pT m),(5,z.1),(6,.bool ((l.take (i+1)).any (eK t))),(7,iN i)]) (λz=>[bl m t.enc 226,z.2]) ?_ ?_
  refine .seq ?_
  refine .dU 8 mixed (by kernel_rfl) ?_
  conv=>arg 6;dsimp only[List.take]
  refine .mo rfl<|.q .not<|.mo rfl ?_
  refine .split (t:=16) rfl (λa=>?_) (λa=>?_)
  refine .gT a<|.q (.aL rfl)<|.gT a<|.mo rfl<|.gT a<|.mo rfl<|.gT a ?_
  refine .bC i h f (λa0=>?_)
  refine .gT a<|.q (.aL rfl)<|.nil<|.gT a ?_
  refine .ba (P4 t x _) (λv Q=>?_)
  subst Q
  refine .q (.aO a) ?_
  refine .zn ?_
  refine .cond rfl (λn=>?_) λn=>?_
  first|have C:=N6 f a n|skip
  refine .sr<|.mo rfl<|.q (.aL rfl) ?_
  refine .dM (λW=>?_)
  refine .append e (RS.lits (xs:=[t]) rfl (by simp[bB.enc,aC.enc]) (by simp[bB.enc,aC.enc,ap])) (by simp only[List.length_singleton];omega) (λr k g=>?_)
  refine .az rfl<|.region<|.ag rfl<|.nil ?_
  ·first
      |(obtain⟨d,b⟩:=C
        exact ay (r,k) (by simp only;rw[d];exact g) (by simp only;rw[b];exact kE.c.c.c.c.c) (aH [1,1]))
      |(obtain⟨d,b⟩:=j
        exact ay (D,s) (by simp only;rw[d];simpa using e) (by simp only;rw[b];exact kE.c.c.c.c.c) rH)
  first|have j:=vQ (p:=t) f (.inr n)|skip
  refine .skip ?_
  ·first
      |(obtain⟨d,b⟩:=C
        exact ay (r,k) (by simp only;rw[d];exact g) (by simp only;rw[b];exact kE.c.c.c.c.c) (aH [1,1]))
      |(obtain⟨d,b⟩:=j
        exact ay (D,s) (by simp only;rw[d];simpa using e) (by simp only;rw[b];exact kE.c.c.c.c.c) rH)
  have j:=vQ (p:=t) f (.inl a)
  refine .gF a<|.gF a<|.gF a<|.gF a<|.gF a<|.nil<|.gF a<|.q (.aN a) ?_
  refine .zn<|.cS ?_
  first|have j:=vQ (p:=t) f (.inr n)|skip
  refine .skip ?_
  ·first
      |(obtain⟨d,b⟩:=C
        exact ay (r,k) (by simp only;rw[d];exact g) (by simp only;rw[b];exact kE.c.c.c.c.c) (aH [1,1]))
      |(obtain⟨d,b⟩:=j
        exact ay (D,s) (by simp only;rw[d];simpa using e) (by simp only;rw[b];exact kE.c.c.c.c.c) rH)
  intro y S
  obtain⟨V,L⟩:=y
  have F:OS 226 9 bB.enc V (nN eK t (l.take i) x) L:=S
  have i6:=F.ap
  simp only
  refine ax<|.region<|.mo rfl<|.mo rfl<|.mo rfl ?_
  refine .bC i h f (λa1=>?_)
  refine .q (.aL rfl) ?_
  refine .dM (λY=>?_)
  refine .append F (RS.lits (xs:=[x]) rfl (by simp[bB.enc,aC.enc]) (by simp[bB.enc,aC.enc,ap])) (by have:=zT (lt:=eK) (p:=t) (X:=l.take (i+1));rw[<-E,List.length_take]at this;simp at this⊢;omega) (λU K G=>?_)
  rw[E]at G
  refine .ag rfl<|.nil<|bf<|ax<|.region<|.mo rfl ?_
  refine .ia (i+1) .add ?_
  refine .ag rfl<|.nil ?_
  ·exact aP (i+1,U,K) ⟨H,G⟩ (by simp only;omega) kE.c.c.c.c.c (aH [1,1])
  have O:i=l.length:=by have:=bA A;omega
  subst O
  rw[List.take_length]at e M⊢
  refine .exit<|bq<|bz<|bs<|ax<|.seq<|.sr<|.mo rfl<|.q .not<|.zn ?_
  refine .cond rfl (λB=>?_) λB=>?_
  refine .region<|.mo rfl<|.q (.aL rfl) ?_
  refine .dM (λZ=>?_)
  refine .append e (RS.lits (xs:=[t]) rfl (by simp[bB.enc,aC.enc]) (by simp[bB.enc,aC.enc,ap])) (by simp;omega) (λr k g=>?_)
  refine .ag rfl<|.z<|.mo rfl<|.az rfl ?_
  refine .ret (bk _ (.one (.tmp rfl)) ((aH [2])) ?_)
  ·have o:l.any (eK t)=false:=by simpa using B
   refine⟨_,by simp[take,bL];rfl,?_⟩
   have w:kJ eK t l=l:=by unfold kJ;rw[o];rfl
   rw[w]at g
   rw[N3 o];exact g
  refine .kn<|.sr<|.mo rfl<|.az rfl ?_
  refine .ret (bk _ (.one (.tmp rfl)) ((aH [1])) ?_)
  ·have o:l.any (eK t)=true:=by simpa using B
   refine⟨_,by simp[take,bL];rfl,?_⟩
   have w:kJ eK t l=ik eK t l:=by unfold kJ;rw[o];rfl
   rw[w]at e;exact e
def qM(L:List bB)(t:aC)(z:Int):Prop:=(∃(j:Nat) (x:bB),z=j/\L[j]? =some x/\x.eN t=true/\∀k y,k<j->L[k]? =some y->y.eN t=false)\/(z= -1/\dA L t=false)
theorem qM.lt{L:List bB}{t:aC}{z:Int}(h:qM L t z):decide (z<0)= !dA L t:=by
 rcases h with⟨j,x,rfl,b,a,_⟩|⟨rfl,h⟩
 ·rw[decide_eq_false (by omega),dA,List.any_eq_true.2 ⟨x,aZ b,a⟩];rfl
 ·rw[h];rfl
theorem qM.ge{L:List bB}{t:aC}{z:Int}(h:qM L t z):decide (0<=z)=dA L t:=by
 have a:=h.lt
 have b:decide (0<=z)= !decide (z<0):=by rw[Bool.eq_iff_iff];simp
 rw[b,a,Bool.not_not]
section
variable{R:aD}{b:Nat}{S:cZ}{vL:Value}{L:List bB}
theorem DV.find(h:DV R b S vL L)(t:aC):Spec prog 111 [pT b,.agg t.enc.toArray] R [] λu H'=>(∃z,u=.int .i64 z/\qM L t z)/\H'=[]:=by
 have F:=h.pc
 have B:=h.rs.ap
 have A:=h.rs.le
 obtain⟨G,C,rfl⟩:=h.rs.val
 have n:=h.rs
 refine Spec.body Tryz.func111 rfl Tryz.results111 Tryz.ntmps111 rfl ?_
 refine .sr ?_
 refine .bW rfl (λo=>?_)
 refine .ag rfl<|.zs<|.sr<|.az rfl<|.block ?_
 refine .loop (X:=Nat) (λi=>i<=L.length/\∀k y,k<i->L[k]? =some y->y.eN t=false) (λi=>[(0,pT b),(3,pT o),(5,iN i)]) (λ_=>[bl o t.enc 119]) (λi=>L.length-i) 0 ⟨Nat.zero_le _,λk y e=>absurd e (Nat.not_lt_zero _)⟩ kE.c.c.c rH ?_
 rintro i ⟨v,g⟩
 refine .seq<|.sr<|.mo rfl<|.mo rfl<|.nc rfl<|.fa rfl<|.lo rfl<|.q (.bJ n) ?_
 refine .q .lss<|.zn ?_
 refine .cond rfl (λl=>?_) λl=>?_
 have m:i<L.length:=cr l
 obtain⟨x,f⟩:=bR m
 refine .kn<|.seq<|.block<|.seq ?_
 refine .fX mixed (by kernel_rfl) ?_
 refine .mo rfl<|.nc rfl<|.fa rfl<|.lo rfl<|.mo rfl ?_
 refine .bC i n f (λD=>?_)
 refine .fa rfl<|.q (.loadT rfl) ?_
 refine .q (.aL rfl)<|.q (.mQ rfl rfl (aC.kinds x.t) (aC.kinds t)) ?_
 rw[show eE (List.take 7 (List.drop 0 x.enc)) t.enc=decide (x.t=t)from aC.eq x.t t]
 refine .mo rfl ?_
 refine .split (t:=25) rfl (λa=>?_) (λa=>?_)
 refine .gT a<|.mo rfl<|.gT a<|.nc rfl<|.gT a<|.fa rfl<|.gT a<|.lo rfl<|.gT a<|.mo rfl<|.gT a ?_
 refine .bC i n f (λE=>?_)
 refine .gT a<|.fa rfl<|.gT a<|.lo rfl<|.gT a<|.q .bK<|.q (.aO a) ?_
 refine .zn ?_
 refine .cond rfl (λr=>?_) λr=>?_
 refine .sr<|.mo rfl<|.az rfl ?_
 refine .ret (bp (aI (cF (bp (aI (aM rfl ?_))))))
 ·exact⟨⟨_,rfl,.inl ⟨i,x,rfl,f,by unfold bB.eN;simp_all,g⟩⟩,rfl⟩
 refine .skip<|bf<|ax<|.region<|.mo rfl ?_
 refine .ia (i+1) .add ?_
 refine .ag rfl<|.nil ?_
 ·exact aP (i+1) ⟨m,λk y e d=>by
   rcases Nat.lt_or_eq_of_le (Nat.le_of_lt_succ e)with h3|h3
   ·exact g k y h3 d
   ·subst h3
    rw[f]at d
    cases d
    unfold bB.eN
    simp_all⟩ (by omega) kE.c.c.c rH
 refine .gF a<|.gF a<|.gF a<|.gF a<|.gF a<|.gF a<|.gF a<|.gF a<|.gF a<|.q (.aN a) ?_
 refine .zn<|.cS<|.skip<|bf<|ax<|.region<|.mo rfl ?_
 refine .ia (i+1) .add ?_
 refine .ag rfl<|.nil ?_
 ·exact aP (i+1) ⟨m,λk y e d=>by
   rcases Nat.lt_or_eq_of_le (Nat.le_of_lt_succ e)with h3|h3
   ·exact g k y h3 d
   ·subst h3
    rw[f]at d
    cases d
    unfold bB.eN
    simp_all⟩ (by omega) kE.c.c.c rH
 refine .exit<|bq<|bz<|bs<|ax<|.sr<|.az rfl ?_
 refine .ret (aM rfl ?_)
 ·have w:i=L.length:=by have:=bA l;omega
  refine⟨⟨_,rfl,.inr ⟨rfl,?_⟩⟩,rfl⟩
  unfold dA
  rw[List.any_eq_false]
  intro y d p
  obtain⟨j,s,rfl⟩:=List.mem_iff_getElem.1 d
  have:=g j _ (by omega) (bu s)
  rw[this]at p
  cases p
theorem P6(vm vn vc:Value)(bF no:List aC)(cs:List cC)(R:aD)(z:RS R 7 aC.enc vm bF)(A:RS R 7 aC.enc vn no)(s:RS R 8 cC.enc vc cs)(fm:∀t∈bF,t.fits)(fn:∀t∈no,t.fits)(fc:∀c∈cs,c.t.fits):
  Spec prog 108 [vm,vn,vc] R [] λu H'=>u=.int .i64 (fY bF no cs)/\H'=[]:=by
 have lm:=z.le
 have ln:=A.le
 have lc:=s.le
 obtain⟨F,D,rfl⟩:=z.val
 obtain⟨G,E,rfl⟩:=A.val
 obtain⟨H,C,rfl⟩:=s.val
 refine Spec.body Tryz.func108 rfl Tryz.results108 Tryz.ntmps108 rfl ?_
 refine .sr<|.ag rfl<|.zs<|.sr<|.mo rfl<|.q (.bJ s) ?_
 refine .q .gtr<|.mo rfl ?_
 refine .split (t:=15) rfl (λp=>?_) (λp=>?_)
 refine .gF p<|.gF p<|.gF p<|.q (.aO p) ?_
 refine .mo rfl<|.gX<|.gX<|.gX<|.q .cO<|.mo rfl<|.gX<|.gX<|.gX<|.q .cO<|.zn<|.hY ?_
 have d:32<cs.length\/cs.length=0\/32<bF.length\/32<no.length:=by simp_all;try omega
 refine .sr<|.az rfl ?_
 refine .ret (aI (aM rfl ?_))
 ·first
   |(refine⟨?_,rfl⟩;rw[h];done)
   |(refine⟨?_,rfl⟩;rw[kT d];done)
   |(refine⟨?_,rfl⟩;rw[lv d g j n false (by simp[l])];rfl)
 refine .gT p<|.mo rfl<|.gT p<|.q (.bJ s) ?_
 refine .gT p<|.q .bK<|.q (.aN p) ?_
 refine .mo rfl ?_
 refine .split (t:=20) rfl (λr=>?_) (λr=>?_)
 refine .gF r<|.gF r<|.gF r<|.q (.aO r) ?_
 refine .mo rfl<|.gX<|.gX<|.gX<|.q .cO<|.zn<|.hY ?_
 have d:32<cs.length\/cs.length=0\/32<bF.length\/32<no.length:=by simp_all;try omega
 refine .sr<|.az rfl ?_
 refine .ret (aI (aM rfl ?_))
 ·first
   |(refine⟨?_,rfl⟩;rw[h];done)
   |(refine⟨?_,rfl⟩;rw[kT d];done)
   |(refine⟨?_,rfl⟩;rw[lv d g j n false (by simp[l])];rfl)
 refine .gT r<|.mo rfl<|.gT r<|.q (.bJ z) ?_
 refine .gT r<|.q .gtr<|.q (.aN r) ?_
 refine .mo rfl ?_
 refine .split (t:=25) rfl (λo=>?_) (λo=>?_)
 refine .gF o<|.gF o<|.gF o<|.q (.aO o) ?_
 refine .zn<|.hY ?_
 have d:32<cs.length\/cs.length=0\/32<bF.length\/32<no.length:=by simp_all;try omega
 refine .sr<|.az rfl ?_
 refine .ret (aI (aM rfl ?_))
 ·first
   |(refine⟨?_,rfl⟩;rw[h];done)
   |(refine⟨?_,rfl⟩;rw[kT d];done)
   |(refine⟨?_,rfl⟩;rw[lv d g j n false (by simp[l])];rfl)
 refine .gT o<|.mo rfl<|.gT o<|.q (.bJ A) ?_
 refine .gT o<|.q .gtr<|.q (.aN o) ?_
 refine .zn ?_
 refine .cond rfl (λh1=>?_) λh1=>?_
 have d:32<cs.length\/cs.length=0\/32<bF.length\/32<no.length:=by simp_all;try omega
 refine .sr<|.az rfl ?_
 refine .ret (aI (aM rfl ?_))
 ·first
   |(refine⟨?_,rfl⟩;rw[h];done)
   |(refine⟨?_,rfl⟩;rw[kT d];done)
   |(refine⟨?_,rfl⟩;rw[lv d g j n false (by simp[l])];rfl)
 have d:¬(32<cs.length\/cs.length=0\/32<bF.length\/32<no.length):=by simp_all;try omega
 refine .kn<|.seq<|.sr<|.az rfl<|.block ?_
 refine .loop (X:=Nat) (λi=>i<=bF.length/\(bF.take i).any (λt=> !eM t)=false) (λi=>[(0,.slice F bF.length D),(1,.slice G no.length E),(2,.slice H cs.length C),(7,iN i)]) (λ_=>[]) (λi=>bF.length-i) 0 ⟨Nat.zero_le _,by simp⟩ kE.c.c.c.c rH ?_
 rintro i ⟨U,g⟩
 refine .seq<|.sr<|.mo rfl<|.mo rfl<|.q (.bJ z) ?_
 refine .q .lss<|.zn ?_
 refine .cond rfl (λJ=>?_) λJ=>?_
 have m:i<bF.length:=cr J
 obtain⟨x,f⟩:=bR m
 refine .kn<|.seq<|.block<|.sr<|.mo rfl<|.mo rfl ?_
 refine .bC i z f (λa2=>?_)
 refine .q (.aL rfl) ?_
 refine .ba (wY x (fm x (aZ f)) _) (λv B=>?_)
 subst B
 refine .q .not<|.zn ?_
 refine .cond rfl (λK=>?_) λK=>?_
 have h:fY bF no cs=9:=qw d (by rw[List.any_eq_true.2 ⟨x,aZ f,K⟩];simp)
 refine .sr<|.az rfl ?_
 refine .ret (bp (aI (cF (bp (aI (aM rfl ?_))))))
 ·first
   |(refine⟨?_,rfl⟩;rw[h];done)
   |(refine⟨?_,rfl⟩;rw[kT d];done)
   |(refine⟨?_,rfl⟩;rw[lv d g j n false (by simp[l])];rfl)
 refine .skip<|bf<|ax<|.region<|.mo rfl ?_
 refine .ia (i+1) .add ?_
 refine .ag rfl<|.nil ?_
 ·exact aP (i+1) ⟨m,by rw[List.take_add_one,f,List.any_append,g];simp;simpa using K⟩ (by omega) kE.c.c.c.c rH
 have w:i=bF.length:=by have:=bA J;omega
 subst w
 rw[List.take_length]at g
 refine .exit<|bq<|bz<|bs<|ax<|.seq<|.sr<|.az rfl<|.block ?_
 refine .loop (X:=Nat) (λi=>i<=no.length/\(no.take i).any (λt=> !eM t)=false) (λi=>[(0,.slice F bF.length D),(1,.slice G no.length E),(2,.slice H cs.length C),(8,iN i)]) (λ_=>[]) (λi=>no.length-i) 0 ⟨Nat.zero_le _,by simp⟩ kE.c.c.c.c rH ?_
 rintro i ⟨U,j⟩
 refine .seq<|.sr<|.mo rfl<|.mo rfl<|.q (.bJ A) ?_
 refine .q .lss<|.zn ?_
 refine .cond rfl (λL=>?_) λL=>?_
 have m:i<no.length:=cr L
 obtain⟨x,f⟩:=bR m
 refine .kn<|.seq<|.block<|.sr<|.mo rfl<|.mo rfl ?_
 refine .bC i A f (λa3=>?_)
 refine .q (.aL rfl) ?_
 refine .ba (wY x (fn x (aZ f)) _) (λv B=>?_)
 subst B
 refine .q .not<|.zn ?_
 refine .cond rfl (λM=>?_) λM=>?_
 have h:fY bF no cs=9:=qw d (by rw[g,List.any_eq_true.2 ⟨x,aZ f,M⟩];simp)
 refine .sr<|.az rfl ?_
 refine .ret (bp (aI (cF (bp (aI (aM rfl ?_))))))
 ·first
   |(refine⟨?_,rfl⟩;rw[h];done)
   |(refine⟨?_,rfl⟩;rw[kT d];done)
   |(refine⟨?_,rfl⟩;rw[lv d g j n false (by simp[l])];rfl)
 refine .skip<|bf<|ax<|.region<|.mo rfl ?_
 refine .ia (i+1) .add ?_
 refine .ag rfl<|.nil ?_
 ·exact aP (i+1) ⟨m,by rw[List.take_add_one,f,List.any_append,j];simp;simpa using M⟩ (by omega) kE.c.c.c.c rH
 have w:i=no.length:=by have:=bA L;omega
 subst w
 rw[List.take_length]at j
 refine .exit<|bq<|bz<|bs<|ax<|.seq<|.sr<|.az rfl<|.block ?_
 refine .loop (X:=Nat) (λi=>i<=cs.length/\(cs.take i).any (λc=> !eM c.t)=false) (λi=>[(0,.slice F bF.length D),(1,.slice G no.length E),(2,.slice H cs.length C),(9,iN i)]) (λ_=>[]) (λi=>cs.length-i) 0 ⟨Nat.zero_le _,by simp⟩ kE.c.c.c.c rH ?_
 rintro i ⟨U,T⟩
 refine .seq<|.sr<|.mo rfl<|.mo rfl<|.q (.bJ s) ?_
 refine .q .lss<|.zn ?_
 refine .cond rfl (λN=>?_) λN=>?_
 have m:i<cs.length:=cr N
 obtain⟨x,f⟩:=bR m
 refine .kn<|.seq<|.block<|.sr<|.mo rfl<|.mo rfl ?_
 refine .bC i s f (λa4=>?_)
 refine .fa rfl<|.q (.loadT rfl) ?_
 refine .ba (wY x.t (fc x (aZ f)) _) (λv B=>?_)
 subst B
 refine .q .not<|.zn ?_
 refine .cond rfl (λO=>?_) λO=>?_
 have h:fY bF no cs=9:=qw d (by rw[g,j,List.any_eq_true.2 ⟨x,aZ f,O⟩];simp)
 refine .sr<|.az rfl ?_
 refine .ret (bp (aI (cF (bp (aI (aM rfl ?_))))))
 ·first
   |(refine⟨?_,rfl⟩;rw[h];done)
   |(refine⟨?_,rfl⟩;rw[kT d];done)
   |(refine⟨?_,rfl⟩;rw[lv d g j n false (by simp[l])];rfl)
 refine .skip<|bf<|ax<|.region<|.mo rfl ?_
 refine .ia (i+1) .add ?_
 refine .ag rfl<|.nil ?_
 ·exact aP (i+1) ⟨m,by rw[List.take_add_one,f,List.any_append,T];simp;simpa using O⟩ (by omega) kE.c.c.c.c rH
 have w:i=cs.length:=by have:=bA N;omega
 subst w
 rw[List.take_length]at T
 have n:∀c∈cs,eM c.t=true:=λc h=>by
  have:=List.any_eq_false.1 T c h
  simpa using this
 refine .exit<|bq<|bz<|bs<|ax<|.seq<|.sr<|.az rfl<|.block ?_
 refine .loop (X:=Nat) (λi=>i<=cs.length/\((cs.take i).map (·.t)).Nodup) (λi=>[(0,.slice F bF.length D),(1,.slice G no.length E),(2,.slice H cs.length C),(10,iN i)]) (λ_=>[]) (λi=>cs.length-i) 0 ⟨Nat.zero_le _,by simp⟩ kE.c.c.c.c rH ?_
 rintro i ⟨U,l⟩
 refine .seq<|.sr<|.mo rfl<|.mo rfl<|.q (.bJ s) ?_
 refine .q .lss<|.zn ?_
 refine .cond rfl (λQ=>?_) λQ=>?_
 have m:i<cs.length:=cr Q
 obtain⟨x,f⟩:=bR m
 have a1:(cs.take (i+1)).map (·.t)=(cs.take i).map (·.t)++[x.t]:=by rw[List.take_add_one,f,Option.toList_some,List.map_append];rfl
 refine .kn<|.seq<|.block<|.sr<|.az rfl<|.block ?_
 refine .loop (X:=Nat) (λk=>k<=i/\x.t∉(cs.take k).map (·.t)) (λk=>[(0,.slice F bF.length D),(1,.slice G no.length E),(2,.slice H cs.length C),(10,iN i),(11,iN k)]) (λ_=>[]) (λk=>i-k) 0 ⟨Nat.zero_le _,by simp⟩ kE.c.c.c.c.c rH ?_
 rintro k ⟨hk,W⟩
 refine .seq<|.sr<|.mo rfl<|.mo rfl<|.q .lss<|.zn ?_
 refine .cond rfl (λS=>?_) λS=>?_
 have Z:k<i:=cr S
 obtain⟨y,V⟩:∃x,cs[k]? =some x:=⟨_,bu (by omega)⟩
 refine .kn<|.seq<|.block<|.seq ?_
 refine .fX mixed (by kernel_rfl) ?_
 refine .mo rfl<|.mo rfl ?_
 refine .bC i s f (λa5=>?_)
 refine .fa rfl<|.q (.loadT rfl) ?_
 refine .mo rfl<|.mo rfl ?_
 refine .bC k s V (λa6=>?_)
 refine .fa rfl<|.q (.loadT rfl) ?_
 refine .q (.mQ rfl rfl (aC.kinds x.t) (aC.kinds y.t)) ?_
 rw[show eE (List.take 7 (List.drop 1 x.enc)) (List.take 7 (List.drop 1 y.enc))=decide (x.t=y.t)from aC.eq x.t y.t]
 refine .zn ?_
 refine .cond rfl (λI=>?_) λI=>?_
 have h:fY bF no cs=2:=by
  rw[lv d g j n true ?_];rfl
  rw[eq_comm,Bool.not_eq_true',decide_eq_false_iff_not]
  intro hn
  have:=List.pairwise_iff_getElem.1 hn k i (by simp;omega) (by simp;omega) Z
  rw[List.getElem_map,List.getElem_map,(List.getElem?_eq_some_iff.1 f).2,(List.getElem?_eq_some_iff.1 V).2]at this
  exact this (cm I).symm
 refine .sr<|.az rfl ?_
 refine .ret (bp (aI (cF (bp (bp (aI (cF (bp (aI (aM rfl ?_))))))))))
 ·first
   |(refine⟨?_,rfl⟩;rw[h];done)
   |(refine⟨?_,rfl⟩;rw[kT d];done)
   |(refine⟨?_,rfl⟩;rw[lv d g j n false (by simp[l])];rfl)
 refine .skip<|bf<|ax<|.region<|.mo rfl ?_
 refine .ia (k+1) .add ?_
 refine .ag rfl<|.nil ?_
 ·exact aP (k+1) ⟨Z,by
   rw[List.take_add_one,V,Option.toList_some,List.map_append,List.mem_append,not_or]
   exact⟨W,by simpa using I⟩⟩ (by omega) kE.c.c.c.c.c rH
 have a0:k=i:=by have:=bA S;omega
 subst a0
 refine .exit<|bq<|bz<|bs<|bf<|ax<|.region<|.mo rfl ?_
 refine .ia (k+1) .add ?_
 refine .ag rfl<|.nil ?_
 ·exact aP (k+1) ⟨m,by
   rw[a1,List.nodup_append]
   exact⟨l,by simp,λa ha b Y=>by simp only[List.mem_singleton]at Y;subst Y;exact λe=>W (e▸ha)⟩⟩ (by omega) kE.c.c.c.c rH
 have w:i=cs.length:=by have:=bA Q;omega
 subst w
 rw[List.take_length]at l
 refine .exit<|bq<|bz<|bs<|ax<|.sr<|.az rfl ?_
 refine .ret (aM rfl ?_)
 ·first
   |(refine⟨?_,rfl⟩;rw[h];done)
   |(refine⟨?_,rfl⟩;rw[kT d];done)
   |(refine⟨?_,rfl⟩;rw[lv d g j n false (by simp[l])];rfl)
end
theorem ki{α:Type}{p:α->Bool}{l:List α}{i:Nat}{x:α}(h:(l.take i).any p=false)(b:l[i]? =some x)(a:p x=false):(l.take (i+1)).any p=false:=by
 rw[List.take_add_one,b,List.any_append,h]
 simp[a]
theorem B0{L:List bB}{head:Int}{bF no:List aC}{cs:List cC}(h:(bF.any (λt=> !dA L t)||no.any (λt=>dA L t))=true):fi L head bF no cs=13:=by unfold fi;rw[if_pos h]
theorem Rr{L:List bB}{head:Int}{bF no:List aC}{cs:List cC}(a:bF.any (λt=> !dA L t)=false)(b:no.any (λt=>dA L t)=false)(h:cs.any (λc=>c.put&&dA L c.t)=true):fi L head bF no cs=10:=by unfold fi;rw[a,b,if_neg (by simp),if_pos h]
theorem Rp{L:List bB}{head:Int}{bF no:List aC}{cs:List cC}(a:bF.any (λt=> !dA L t)=false)(b:no.any (λt=>dA L t)=false)(d:cs.any (λc=>c.put&&dA L c.t)=false)(h:cs.any (λc=> !c.put&& !dA L c.t)=true):fi L head bF no cs=11:=by unfold fi;rw[a,b,if_neg (by simp),if_neg (by rw[d];simp),if_pos h]
theorem Rs{L:List bB}{head:Int}{bF no:List aC}{cs:List cC}(a:bF.any (λt=> !dA L t)=false)(b:no.any (λt=>dA L t)=false)(d:cs.any (λc=>c.put&&dA L c.t)=false)(e:cs.any (λc=> !c.put&& !dA L c.t)=false):fi L head bF no cs=if 4611686018427387903<=head\/4096<L.length+fw cs/\0<fw cs then 8 else 0:=by unfold fi;rw[a,b,if_neg (by simp),if_neg (by rw[d];simp),if_neg (by rw[e];simp)]
theorem Qh{R:aD}{b:Nat}{S:cZ}{vL:Value}{L:List bB}(h:DV R b S vL L)(a4:L.length<=5000)(vm vn vc:Value)(bF no:List aC)(cs:List cC)(H:RS R 7 aC.enc vm bF)(I:RS R 7 aC.enc vn no)(p:RS R 8 cC.enc vc cs)(a3:cs.length<=1000):
  Spec prog 109 [pT b,vm,vn,vc] R [] λu H'=>u=.int .i64 (fi L S.head bF no cs)/\H'=[]:=by
 have pc:=h.pc
 have a6:=h.rs.ap
 obtain⟨pw,a7,rfl⟩:=h.rs.val
 have a0:=h.rs
 have lm:=H.le
 have ln:=I.le
 have lc:=p.le
 obtain⟨O,M,rfl⟩:=H.val
 obtain⟨Q,N,rfl⟩:=I.val
 obtain⟨T,K,rfl⟩:=p.val
 refine Spec.body Tryz.func109 rfl Tryz.results109 Tryz.ntmps109 rfl ?_
 refine .sr<|.ag rfl<|.zs<|.sr<|.az rfl<|.block ?_
 refine .loop (X:=Nat) (λi=>i<=bF.length/\(bF.take i).any (λt=> !dA L t)=false) (λi=>[(0,pT b),(1,.slice O bF.length M),(2,.slice Q no.length N),(3,.slice T cs.length K),(9,iN i)]) (λ_=>[]) (λi=>bF.length-i) 0 ⟨Nat.zero_le _,by simp⟩ kE.c.c.c.c.c rH ?_
 rintro i ⟨hi,E⟩
 refine .seq<|.sr<|.mo rfl<|.mo rfl<|.q (.bJ H) ?_
 refine .q .lss<|.zn ?_
 refine .cond rfl (λU=>?_) λU=>?_
 have f:i<bF.length:=cr U
 obtain⟨x,d⟩:=bR f
 refine .kn<|.seq<|.block<|.sr<|.mo rfl<|.mo rfl<|.mo rfl ?_
 refine .bC i H d (λa8=>?_)
 refine .q (.aL rfl) ?_
 refine .ba ((h.mono λb o y=>.inl y).find x) (λv B=>?_)
 obtain⟨z,rfl,C⟩:=B
 have k:=C.lt
 refine .q .lss<|.zn ?_
 refine .cond rfl (λV=>?_) λV=>?_
 have n:fi L S.head bF no cs=13:=B0 (by rw[List.any_eq_true.2 ⟨x,aZ d,by rw[<-k];exact V⟩];simp)
 refine .sr<|.az rfl ?_
 refine .ret (bp (aI (cF (bp (aI (aM rfl ?_))))))
 ·first
   |(refine⟨?_,rfl⟩;rw[n];done)
   |(refine⟨?_,rfl⟩;rw[s];congr 1;split<;>first|rfl|(exfalso;simp_all;done)|(exfalso;simp_all;omega))
 refine .skip<|bf<|ax<|.region<|.mo rfl ?_
 refine .ia (i+1) .add ?_
 refine .ag rfl<|.nil ?_
 ·exact aP (i+1) ⟨f,ki E d (by rw[<-k];exact V)⟩ (by omega) kE.c.c.c.c.c (aH [])
 have A:i=bF.length:=by have:=bA U;omega
 subst A
 rw[List.take_length]at E
 refine .exit<|bq<|bz<|bs<|ax<|.seq<|.sr<|.az rfl<|.block ?_
 refine .loop (X:=Nat) (λi=>i<=no.length/\(no.take i).any (λt=>dA L t)=false) (λi=>[(0,pT b),(1,.slice O bF.length M),(2,.slice Q no.length N),(3,.slice T cs.length K),(10,iN i)]) (λ_=>[]) (λi=>no.length-i) 0 ⟨Nat.zero_le _,by simp⟩ kE.c.c.c.c.c rH ?_
 rintro i ⟨hi,F⟩
 refine .seq<|.sr<|.mo rfl<|.mo rfl<|.q (.bJ I) ?_
 refine .q .lss<|.zn ?_
 refine .cond rfl (λW=>?_) λW=>?_
 have f:i<no.length:=cr W
 obtain⟨x,d⟩:=bR f
 refine .kn<|.seq<|.block<|.sr<|.mo rfl<|.mo rfl<|.mo rfl ?_
 refine .bC i I d (λa9=>?_)
 refine .q (.aL rfl) ?_
 refine .ba ((h.mono λb o y=>.inl y).find x) (λv B=>?_)
 obtain⟨z,rfl,C⟩:=B
 have k:=C.ge
 refine .q .geq<|.zn ?_
 refine .cond rfl (λY=>?_) λY=>?_
 have n:fi L S.head bF no cs=13:=B0 (by rw[E,List.any_eq_true.2 ⟨x,aZ d,by rw[<-k];exact Y⟩];rfl)
 refine .sr<|.az rfl ?_
 refine .ret (bp (aI (cF (bp (aI (aM rfl ?_))))))
 ·first
   |(refine⟨?_,rfl⟩;rw[n];done)
   |(refine⟨?_,rfl⟩;rw[s];congr 1;split<;>first|rfl|(exfalso;simp_all;done)|(exfalso;simp_all;omega))
 refine .skip<|bf<|ax<|.region<|.mo rfl ?_
 refine .ia (i+1) .add ?_
 refine .ag rfl<|.nil ?_
 ·exact aP (i+1) ⟨f,ki F d (by rw[<-k];exact Y)⟩ (by omega) kE.c.c.c.c.c (aH [])
 have A:i=no.length:=by have:=bA W;omega
 subst A
 rw[List.take_length]at F
 refine .exit<|bq<|bz<|bs<|ax<|.seq<|.sr<|.az rfl<|.block ?_
 refine .loop (X:=Nat) (λi=>i<=cs.length/\(cs.take i).any (λc=>c.put&&dA L c.t)=false) (λi=>[(0,pT b),(1,.slice O bF.length M),(2,.slice Q no.length N),(3,.slice T cs.length K),(11,iN i)]) (λ_=>[]) (λi=>cs.length-i) 0 ⟨Nat.zero_le _,by simp⟩ kE.c.c.c.c.c rH ?_
 rintro i ⟨hi,w⟩
 refine .seq<|.sr<|.mo rfl<|.mo rfl<|.q (.bJ p) ?_
 refine .q .lss<|.zn ?_
 refine .cond rfl (λZ=>?_) λZ=>?_
 have f:i<cs.length:=cr Z
 obtain⟨x,d⟩:=bR f
 refine .kn<|.seq<|.block<|.sr<|.mo rfl<|.mo rfl ?_
 refine .bC i p d (λb0=>?_)
 refine .fa rfl<|.lo rfl<|.mo rfl ?_
 refine .split (t:=51) rfl (λe=>?_) (λe=>?_)
 refine .gT e<|.mo rfl<|.gT e<|.mo rfl<|.gT e<|.mo rfl<|.gT e ?_
 refine .bC i p d (λb1=>?_)
 refine .gT e<|.fa rfl<|.gT e<|.q (.loadT rfl) ?_
 refine .gT e ?_
 refine .ba ((h.mono λb o y=>.inl y).find x.t) (λv B=>?_)
 obtain⟨z,rfl,C⟩:=B
 have k:=C.ge
 refine .gT e<|.q .geq<|.q (.aO e) ?_
 refine .zn ?_
 refine .cond rfl (λG=>?_) λG=>?_
 have n:fi L S.head bF no cs=10:=Rr E F (List.any_eq_true.2 ⟨x,aZ d,by rw[<-k,e];exact G⟩)
 refine .sr<|.az rfl ?_
 refine .ret (bp (aI (cF (bp (aI (aM rfl ?_))))))
 ·first
   |(refine⟨?_,rfl⟩;rw[n];done)
   |(refine⟨?_,rfl⟩;rw[s];congr 1;split<;>first|rfl|(exfalso;simp_all;done)|(exfalso;simp_all;omega))
 refine .skip<|bf<|ax<|.region<|.mo rfl ?_
 refine .ia (i+1) .add ?_
 refine .ag rfl<|.nil ?_
 ·first
   |exact aP (i+1) ⟨f,ki w d (by rw[<-k,e];exact G)⟩ (by omega) kE.c.c.c.c.c (aH [])
   |exact aP (i+1) ⟨f,ki w d (by rw[e];rfl)⟩ (by omega) kE.c.c.c.c.c (aH [])
 refine .gF e<|.gF e<|.gF e<|.gF e<|.gF e<|.gF e<|.gF e<|.gF e<|.q (.aN e) ?_
 refine .zn<|.cS<|.skip<|bf<|ax<|.region<|.mo rfl ?_
 refine .ia (i+1) .add ?_
 refine .ag rfl<|.nil ?_
 ·first
   |exact aP (i+1) ⟨f,ki w d (by rw[<-k,e];exact G)⟩ (by omega) kE.c.c.c.c.c (aH [])
   |exact aP (i+1) ⟨f,ki w d (by rw[e];rfl)⟩ (by omega) kE.c.c.c.c.c (aH [])
 have A:i=cs.length:=by have:=bA Z;omega
 subst A
 rw[List.take_length]at w
 refine .exit<|bq<|bz<|bs<|ax<|.sr<|.mo rfl<|.nc rfl<|.fa rfl<|.lo rfl<|.q (.bJ a0) ?_
 refine .ag rfl<|.zs<|.sr<|.az rfl<|.block ?_
 refine .loop (X:=Nat) (λi=>i<=cs.length/\(cs.take i).any (λc=> !c.put&& !dA L c.t)=false) (λi=>[(0,pT b),(1,.slice O bF.length M),(2,.slice Q no.length N),(3,.slice T cs.length K),(12,.int .i64 ((L.length+fw (cs.take i):Nat):Int)),(13,iN i)]) (λ_=>[]) (λi=>cs.length-i) 0 ⟨Nat.zero_le _,by simp⟩ kE.c.c.c.c.c.c rH ?_
 rintro i ⟨hi,r⟩
 have a5:fw (cs.take i)<=1000:=by unfold fw;exact Nat.le_trans (List.length_filter_le _ _) (by rw[List.length_take];omega)
 refine .seq<|.sr<|.mo rfl<|.mo rfl<|.q (.bJ p) ?_
 refine .q .lss<|.zn ?_
 refine .cond rfl (λh7=>?_) λh7=>?_
 have f:i<cs.length:=cr h7
 obtain⟨x,d⟩:=bR f
 have J:=Ci d
 refine .kn<|.seq<|.block<|.seq<|.sr<|.mo rfl<|.mo rfl ?_
 refine .bC i p d (λb2=>?_)
 refine .fa rfl<|.lo rfl<|.q .not<|.mo rfl ?_
 refine .split (t:=78) rfl (λa=>?_) (λa=>?_)
 refine .gT a<|.mo rfl<|.gT a<|.mo rfl<|.gT a<|.mo rfl<|.gT a ?_
 refine .bC i p d (λb3=>?_)
 refine .gT a<|.fa rfl<|.gT a<|.q (.loadT rfl) ?_
 refine .gT a ?_
 refine .ba ((h.mono λb o y=>.inl y).find x.t) (λv B=>?_)
 obtain⟨z,rfl,C⟩:=B
 have k:=C.lt
 refine .gT a<|.q .lss<|.q (.aO a) ?_
 refine .zn ?_
 refine .cond rfl (λD=>?_) λD=>?_
 have n:fi L S.head bF no cs=11:=Rp E F w (List.any_eq_true.2 ⟨x,aZ d,by rw[<-k,a];exact D⟩)
 refine .sr<|.az rfl ?_
 refine .ret (aI (bp (aI (cF (bp (aI (aM rfl ?_)))))))
 ·first
   |(refine⟨?_,rfl⟩;rw[n];done)
   |(refine⟨?_,rfl⟩;rw[s];congr 1;split<;>first|rfl|(exfalso;simp_all;done)|(exfalso;simp_all;omega))
 refine .kn<|.sr<|.mo rfl<|.mo rfl ?_
 refine .bC i p d (λa2=>?_)
 refine .fa rfl<|.lo rfl<|.zn ?_
 refine .cond rfl (λj=>?_) λj=>?_
 have m:L.length+fw (cs.take (i+1))=L.length+fw (cs.take i)+1:=by rw[J,if_pos j];rfl
 refine .region<|.mo rfl ?_
 refine .ia (L.length+fw (cs.take i)+1) .add ?_
 refine .ag rfl<|.nil<|bf<|ax<|.region<|.mo rfl ?_
 refine .ia (i+1) .add ?_
 refine .ag rfl<|.nil ?_
 ·first
   |(exfalso;rw[j]at a;cases a;done)
   |(refine aP (i+1) ⟨f,ki r d ?_⟩ (by omega) (by simp only[m];exact kE.c.c.c.c.c.c) (aH []);rw[j];rfl)
   |(refine aP (i+1) ⟨f,ki r d ?_⟩ (by omega) (by simp only[m];exact kE.c.c.c.c.c.c) (aH []);rw[<-k,a];exact D)
 have m:L.length+fw (cs.take (i+1))=L.length+fw (cs.take i):=by rw[J,if_neg (by rw[j];simp)];rfl
 refine .skip<|bf<|ax<|.region<|.mo rfl ?_
 refine .ia (i+1) .add ?_
 refine .ag rfl<|.nil ?_
 ·first
   |(exfalso;rw[j]at a;cases a;done)
   |(refine aP (i+1) ⟨f,ki r d ?_⟩ (by omega) (by simp only[m];exact kE.c.c.c.c.c.c) (aH []);rw[j];rfl)
   |(refine aP (i+1) ⟨f,ki r d ?_⟩ (by omega) (by simp only[m];exact kE.c.c.c.c.c.c) (aH []);rw[<-k,a];exact D)
 refine .gF a<|.gF a<|.gF a<|.gF a<|.gF a<|.gF a<|.gF a<|.gF a<|.q (.aN a) ?_
 refine .zn<|.cS<|.kn<|.sr<|.mo rfl<|.mo rfl ?_
 refine .bC i p d (λa2=>?_)
 refine .fa rfl<|.lo rfl<|.zn ?_
 refine .cond rfl (λj=>?_) λj=>?_
 have m:L.length+fw (cs.take (i+1))=L.length+fw (cs.take i)+1:=by rw[J,if_pos j];rfl
 refine .region<|.mo rfl ?_
 refine .ia (L.length+fw (cs.take i)+1) .add ?_
 refine .ag rfl<|.nil<|bf<|ax<|.region<|.mo rfl ?_
 refine .ia (i+1) .add ?_
 refine .ag rfl<|.nil ?_
 ·first
   |(exfalso;rw[j]at a;cases a;done)
   |(refine aP (i+1) ⟨f,ki r d ?_⟩ (by omega) (by simp only[m];exact kE.c.c.c.c.c.c) (aH []);rw[j];rfl)
   |(refine aP (i+1) ⟨f,ki r d ?_⟩ (by omega) (by simp only[m];exact kE.c.c.c.c.c.c) (aH []);rw[<-k,a];exact D)
 have m:L.length+fw (cs.take (i+1))=L.length+fw (cs.take i):=by rw[J,if_neg (by rw[j];simp)];rfl
 refine .skip<|bf<|ax<|.region<|.mo rfl ?_
 refine .ia (i+1) .add ?_
 refine .ag rfl<|.nil ?_
 ·first
   |(exfalso;rw[j]at a;cases a;done)
   |(refine aP (i+1) ⟨f,ki r d ?_⟩ (by omega) (by simp only[m];exact kE.c.c.c.c.c.c) (aH []);rw[j];rfl)
   |(refine aP (i+1) ⟨f,ki r d ?_⟩ (by omega) (by simp only[m];exact kE.c.c.c.c.c.c) (aH []);rw[<-k,a];exact D)
 have A:i=cs.length:=by have:=bA h7;omega
 subst A
 rw[List.take_length]at r
 rw[List.take_length]
 have s:=Rs (head:=S.head) E F w r
 refine .exit<|bq<|bz<|bs<|ax<|.seq<|.sr<|.mo rfl<|.nc rfl<|.fa rfl<|.lo rfl<|.q .geq<|.mo rfl ?_
 refine .split (t:=100) rfl (λl=>?_) (λl=>?_)
 refine .gF l<|.gF l<|.gF l<|.dd rfl ?_
 refine .dd rfl ?_
 refine .dd rfl ?_
 refine .dd rfl ?_
 refine .dd rfl ?_
 refine .dd rfl ?_
 refine .dd rfl ?_
 refine .gF l<|.q (.aO l) ?_
 refine .zn<|.hY<|.sr<|.az rfl ?_
 refine .ret (aI (aM rfl ?_))
 ·first
   |(refine⟨?_,rfl⟩;rw[n];done)
   |(refine⟨?_,rfl⟩;rw[s];congr 1;split<;>first|rfl|(exfalso;simp_all;done)|(exfalso;simp_all;omega))
 refine .gT l<|.mo rfl<|.gT l<|.q .gtr<|.gT l<|.mo rfl ?_
 refine .split (t:=103) rfl (λg=>?_) (λg=>?_)
 refine .gT g<|.mo rfl<|.gT g<|.mo rfl<|.gT g<|.nc rfl<|.gT g<|.fa rfl<|.gT g<|.lo rfl<|.gT g<|.q (.bJ a0) ?_
 refine .gT g<|.q .gtr<|.gT l<|.q (.aO g) ?_
 refine .q (.aN l) ?_
 refine .zn ?_
 refine .cond rfl (λa1=>?_) λa1=>?_
 refine .sr<|.az rfl ?_
 refine .ret (aI (aM rfl ?_))
 ·first
   |(refine⟨?_,rfl⟩;rw[n];done)
   |(refine⟨?_,rfl⟩;rw[s];congr 1;split<;>first|rfl|(exfalso;simp_all;done)|(exfalso;simp_all;omega))
 refine .kn<|.sr<|.az rfl ?_
 refine .ret (aM rfl ?_)
 ·first
   |(refine⟨?_,rfl⟩;rw[n];done)
   |(refine⟨?_,rfl⟩;rw[s];congr 1;split<;>first|rfl|(exfalso;simp_all;done)|(exfalso;simp_all;omega))
 refine .gF g<|.gF g<|.gF g<|.gF g<|.gF g<|.gF g<|.gF g<|.gT l<|.q (.aN g) ?_
 refine .q (.aN l) ?_
 refine .zn<|.cS<|.kn<|.sr<|.az rfl ?_
 refine .ret (aM rfl ?_)
 ·first
   |(refine⟨?_,rfl⟩;rw[n];done)
   |(refine⟨?_,rfl⟩;rw[s];congr 1;split<;>first|rfl|(exfalso;simp_all;done)|(exfalso;simp_all;omega))
def DO(b:Nat)(S:cZ)(T:aB):Prop:=∃vL L TL,T=(b,.cells [vL,.int .u64 S.head,.int .u64 S.dX].toArray 103 (0,0))::TL/\OS 226 9 bB.enc vL L TL/\RL S L
theorem DO.view{b:Nat}{S:cZ}{T:aB}{R:aD}(h:DO b S T)(a:∀p∈T,R p.1 p.2):∃vL L,DV R b S vL L/\RL S L:=by
 obtain⟨vL,L,f,rfl,c,d⟩:=h
 exact⟨vL,L,⟨PC.of (E:=103) (fr:=(0,0)) (a (b,_) (by simp)),c.rs λp e=>a p (by simp[e])⟩,d⟩
theorem RL.len{S:cZ}(a:gh S){L:List bB}(h:RL S L):L.length<=4096:=by rw[h.pm.length_eq];exact a.len
theorem QZ(b:Nat)(S:cZ)(T:aB)(h:DO b S T)(l:gh S)(vm vn vc:Value)(bF no:List aC)(cs:List cC)(R:aD)(G:RS R 7 aC.enc vm bF)(H:RS R 7 aC.enc vn no)(e:RS R 8 cC.enc vc cs)(fm:∀t∈bF,t.fits)(fn:∀t∈no,t.fits)(fc:∀c∈cs,c.t.fits)(a9:cs.length<=1000):
  Spec prog 58 [pT b,vm,vn,vc] R [T] λu H'=>∃T',H'=[T']/\u=.tuple [.int .u64 (if gy S bF no cs=0 then S.head+1 else 0),.int .i64 (gy S bF no cs)].toArray/\DO b (iF S bF no cs) T':=by
 have a0:=l.h0
 have a1:=l.h1
 have a2:=l.h2
 have h0:=h
 obtain⟨pm,km,rfl⟩:=G.val
 obtain⟨pn,kn,rfl⟩:=H.val
 obtain⟨pv,kc,rfl⟩:=e.val
 obtain⟨c4,L0,a8,a4⟩:=h.view (R:=Rx R [T]) λp hp=>.inr (by simp[hp])
 have b5:=a4.len l
 refine Spec.body Tryz.func58 rfl Tryz.results58 Tryz.ntmps58 rfl ?_
 refine .sr<|.ag rfl<|.ag rfl<|.z<|.mo rfl<|.mo rfl<|.mo rfl ?_
 refine .ba (P6 _ _ _ bF no cs _ G.rx H.rx e.rx fm fn fc) (λv o=>?_)
 subst o
 refine .ag rfl<|.zs<|.sr<|.mo rfl<|.q .bK<|.zn ?_
 refine bx.cut (X:=Unit) (λ_=>True) (λ_=>[(0,pT b),(1,.slice pm bF.length km),(2,.slice pn no.length kn),(3,.slice pv cs.length kc),(10,.int .i64 (gy S bF no cs))]) (λ_=>[T]) ?_ ?_
 refine .cond rfl (λC=>?_) λC=>?_
 have I:fY bF no cs=0:=by simpa using C
 have B:fi L0 S.head bF no cs=gy S bF no cs:=by rw[uu I,Rq a4.pm]
 refine .region<|.mo rfl<|.mo rfl<|.mo rfl<|.mo rfl ?_
 refine .ba (Qh a8 (by omega) _ _ _ bF no cs G.rx H.rx e.rx a9) (λv o=>?_)
 subst o
 refine .ag rfl<|.nil ?_
 ·exact ay () trivial (by rw[<-B];exact kE.c.c.c.c.c) rH
 have I:fY bF no cs≠0:=by simpa using C
 have B:fY bF no cs=gy S bF no cs:=by rw[xi I]
 refine .skip ?_
 ·exact ay () trivial (by rw[<-B];exact kE.c.c.c.c.c) rH
 intro x hx
 skip
 refine ax<|.seq<|.sr<|.mo rfl<|.q .dS<|.zn ?_
 refine .cond rfl (λD=>?_) λD=>?_
 have g:gy S bF no cs≠0:=by simpa using D
 refine .sr<|.mo rfl<|.ag rfl<|.az rfl ?_
 refine .ret (aI (bk _ (.two (.tmp rfl) (.tmp rfl)) (.one [0] _) ?_))
 ·exact⟨T,by simp[take],by rw[if_neg g],by rw[sf g];exact h0⟩
 have g:gy S bF no cs=0:=by simpa using D
 have N:=uv g
 have b7:=N.head
 obtain⟨vL,L,Q,rfl,Z,Y⟩:=h
 have b9:=Z.ap
 refine .kn<|.sr ?_
 refine .sub (H':=[bl b [vL,.int .u64 S.head,.int .u64 S.dX] 103,Q]) (aW.ez (by simp)) ?_
 refine .mo rfl<|.mo rfl<|.nc rfl<|.fa rfl<|.lo rfl ?_
 refine .q (.u64 (S.head+1) .add ⟨rfl,by omega,by omega⟩) ?_
 refine .nc rfl<|.fa rfl<|.dw rfl rfl<|.zs<|.sr<|.az rfl<|.block ?_
 refine .loop (X:=Nat×Value×List bB×aB) (λy=>y.1<=cs.length/\OS 226 9 bB.enc y.2.1 y.2.2.1 y.2.2.2/\RL ⟨(cs.take y.1).foldl (fh (S.head+1)) S.rows,S.head+1,S.dX⟩ y.2.2.1) (λy=>[(0,pT b),(3,.slice pv cs.length kc),(11,iN y.1)]) (λy=>[bl b [y.2.1,.int .u64 (S.head+1),.int .u64 S.dX] 103,y.2.2.2]) (λy=>cs.length-y.1) (0,vL,L,Q) ⟨Nat.zero_le _,Z,⟨Y.pm,Y.st⟩⟩ kE.c.c.c rH ?_
 rintro⟨i,A,O,V⟩ ⟨hi,f,s⟩
 simp only at hi f s⊢
 have b8:=f.ap
 have b6:=s.len (l.fold (N.take i))
 have lc:=e.le
 refine .seq<|.sr<|.mo rfl<|.mo rfl<|.q (.bJ e) ?_
 refine .q .lss<|.zn ?_
 refine .cond rfl (λF=>?_) λF=>?_
 have n:i<cs.length:=cr F
 obtain⟨c,m⟩:=bR n
 have c3:=e.pc m
 obtain⟨a,b0⟩:=RL.next l N m s
 refine .kn<|.seq<|.block<|.sr<|.mo rfl<|.mo rfl ?_
 refine .bC i e m (λc0=>?_)
 refine .fa rfl<|.lo rfl<|.zn ?_
 refine .cond rfl (λr=>?_) λr=>?_
 refine .dp [18] mixed ?_
 refine .tO 0 rfl .move<|.tO 1 rfl .move<|.tO 2 rfl (.nilCheck rfl)<|.tO 3 rfl (.fieldAddr rfl)<|.tO 4 rfl (.cE rfl)<|.tO 5 rfl .move<|.tO 6 rfl .move ?_
 refine .tO 7 rfl (.bC i e m rfl rfl rfl) ?_
 refine .tO 8 rfl (.fieldAddr rfl) ?_
 refine .tO 9 rfl (.loadT rfl) ?_
 refine .tO 10 rfl .move<|.tO 11 rfl (.nilCheck rfl)<|.tO 12 rfl (.fieldAddr rfl)<|.tO 13 rfl (.cE rfl) ?_
 refine .tO 14 rfl .cN ?_
 refine .sT 15 rfl ?_
 refine .cK (Ql _ O ⟨c.t,S.head+1,0⟩ _ f.rx (by omega)) (λu W M=>?_)
 have iu:=M.ap
 refine .nil (Next.sub ?_)
 refine .tO 16 rfl (.nilCheck rfl)<|.tO 17 rfl (.fieldAddr rfl) ?_
 refine .sT 18 rfl ?_
 refine .dw rfl rfl ?_
 refine .nil (Next.mod rfl ?_)
 refine RA.nil (by kernel_rfl) ?_
 refine bf<|ax<|.region<|.mo rfl ?_
 refine .ia (i+1) .add ?_
 refine .ag rfl<|.nil ?_
 ·first
   |exact aP (i+1,u,_,W) ⟨n,by simp only;exact M,by simp only;unfold pz at a;rw[if_pos r]at a;exact a⟩ (by simp only;omega) (((kE.d rfl).d rfl).d rfl) (aH [1,0])
   |exact aP (i+1,A,_,U) ⟨n,by simp only;exact a3,by simp only;rw[a6]at a;exact a⟩ (by simp only;omega) (((kE.d rfl).d rfl).d rfl) (aH [0,0])
 obtain⟨j,x,w,K,b4,a6⟩:=b0 r
 refine .sr<|.mo rfl<|.mo rfl<|.mo rfl ?_
 refine .bC i e m (λc1=>?_)
 refine .fa rfl<|.q (.loadT rfl) ?_
 refine .ba (DV.find (S:=⟨[],S.head+1,S.dX⟩) ⟨PC.of (E:=103) (fr:=(0,0)) (.inr (by simp)),f.rx⟩ c.t) (λv o=>?_)
 obtain⟨z,rfl,hz⟩:=o
 obtain rfl:z=(j:Int):=by
  rcases hz with⟨k,y,rfl,hy,a5,b3⟩|⟨_,J⟩
  ·rcases Nat.lt_trichotomy k j with h9|h9|h9
   ·rw[b4 k y h9 hy]at a5;cases a5
   ·rw[h9]
   ·rw[b3 j x h9 w]at K;cases K
  ·unfold dA at J
   rw[List.any_eq_true.2 ⟨x,aZ w,K⟩]at J
   cases J
 refine .az rfl ?_
 refine .dU 11 mixed (by kernel_rfl) ?_
 conv=>arg 6;dsimp only[List.take]
 refine .mo rfl<|.nc rfl<|.fa rfl<|.lo rfl<|.mo rfl<|.mo rfl ?_
 refine .nc rfl<|.fa rfl<|.lo rfl ?_
 refine .bo j f w (λc2=>?_)
 refine .fa rfl<|.nil ?_
 refine .pJ (k:=8) (cs:=[.int .u64 (S.head+1)]) (z':=⟨x.t,x.fr,S.head+1⟩) j f w rfl rfl rfl rfl rfl (by simp[ap]) rfl (by simp) (λU a3=>?_)
 refine .nil<|bf<|ax<|.region<|.mo rfl ?_
 refine .ia (i+1) .add ?_
 refine .ag rfl<|.nil ?_
 ·first
   |exact aP (i+1,u,_,W) ⟨n,by simp only;exact M,by simp only;unfold pz at a;rw[if_pos r]at a;exact a⟩ (by simp only;omega) (((kE.d rfl).d rfl).d rfl) (aH [1,0])
   |exact aP (i+1,A,_,U) ⟨n,by simp only;exact a3,by simp only;rw[a6]at a;exact a⟩ (by simp only;omega) (((kE.d rfl).d rfl).d rfl) (aH [0,0])
 refine .exit<|bq<|bz<|bs<|ax<|.sr<|.mo rfl<|.nc rfl<|.fa rfl<|.lo rfl<|.ag rfl<|.az rfl ?_
 refine .ret (bk _ (.two (.tmp rfl) (.tmp rfl)) ((aW.ez (H':=[(b,.cells [A,.int .u64 (S.head+1),.int .u64 S.dX].toArray 103 (0,0))::V]) (by simp))) ?_)
 ·have b2:i=cs.length:=by have:=bA F;omega
  subst b2
  have b1:=s.write g
  have a7:(iF S bF no cs).head=S.head+1/\(iF S bF no cs).dX=S.dX:=by unfold iF;rw[if_pos g];exact⟨rfl,rfl⟩
  exact⟨_,rfl,by rw[g];rfl,A,O,V,by rw[a7.1,a7.2],f,b1⟩
structure jD where
 c:bM
 vw:Value
 calls:List fJ
def jD.enc(w:jD):List Value:=[w.c.vs,w.c.vc,w.vw]
structure jD.is(R:aD)(w:jD):Prop where
 c:w.c.is R
 rs:RS R 12 fJ.enc w.vw w.calls
 all:∀d∈w.calls,d.is R
theorem SY{S:cZ}(d:gh S)(bF no:List aC)(cs:List cC):(iF S bF no cs).rows.length<=S.rows.length+32:=by
 by_cases h:gy S bF no cs=0
 ·rw[Co d h]
  have b:fY bF no cs=0:=by
   unfold gy at h
   split at h
   ·rename_i a;exact absurd h a
   ·rename_i a;simpa using a
  have e:cs.length<=32:=by
   unfold fY at b
   split at b
   ·cases b
   ·omega
  simp only[List.length_append,List.length_map,news]
  have:=List.length_filter_le (λc:cC=>c.put) cs
  omega
 ·rw[sf h];omega
theorem gh.new:gh ⟨[],0,0⟩:=⟨λx a=>(by cases a),List.Pairwise.nil,by simp,Int.le_refl _,Int.le_refl _,by decide⟩
theorem zY(c:Cf):oQ [] 0 c=(c.numbers isWord di).1:=by
 unfold oQ
 simp only[List.getLast?_nil,Option.map_none,Option.getD_none,Bool.false_eq_true,if_false,List.length_nil]
 by_cases h:(c.numbers isWord di).1=0
 ·rw[if_neg (by rw[h];simp),h];rfl
 ·rw[if_pos h]
def CO(R:aD)(w:jD)(u:Value)(H:aV):Prop:=∃Tc Th Ts Tx hb g x e S,∃c:bM,H=[Tc,Th,Ts,Tx]/\u=.tuple [pT hb,pT g,.agg c.enc.toArray,pT x,.bool true].toArray/\
 c.is (λb o=>R b o\/(b,o)∈Tc)/\c.plain=fM w.c.plain/\((fM w.c.plain).numbers isWord di).1=0/\ep.rev e=0/\(ep.c e).plain=fM w.c.plain/\HI hb [e] 0 Th/\SI g S Ts/\gh S/\DO x S Tx/\S.rows.length<=512
theorem OM(w:jD)(R:aD)(h:w.is R):Spec prog 14 [.agg w.enc.toArray] R [] λu H'=>CO R w u H'\/
  ∃T c,∃x:Nat,H'=[T]/\u=.tuple [.pointer none,.pointer none,.agg (bM.enc c).toArray,pT x,.bool false].toArray/\c.is (λb o=>R b o\/(b,o)∈T)/\c.plain=fM w.c.plain/\((fM w.c.plain).numbers isWord di).1≠0:=by
 obtain⟨c,vw,a6⟩:=w
 have K:=h.c
 have N:=h.rs
 have a3:=h.all
 simp only at K N a3⊢
 have i1:One c.vs:=RS.ap K.ss
 have i2:One c.vc:=RS.ap K.sc
 have i3:=N.ap
 have a9:=zY (fM c.plain)
 refine Spec.body Tryz.func14 rfl Tryz.results14 Tryz.ntmps14 rfl ?_
 refine .sr ?_
 refine .bW rfl (λb1=>?_)
 refine .ag rfl<|.ag rfl ?_
 refine .bN (λb4=>?_)
 refine .ag rfl<|.ag rfl<|.z<|.fa rfl<|.q (.loadT rfl) ?_
 refine .cK ((NM c R K).weaken cU) (λu Tc a=>?_)
 obtain⟨r,rfl,v,L⟩:=a
 have ic:bZ r.enc:=⟨v.cJ⟩
 have c7:One r.vs:=RS.ap v.ss
 have c8:One r.vc:=RS.ap v.sc
 refine .bN (λb7=>?_)
 refine .bH rfl rfl<|.z<|.q (.aL rfl) ?_
 refine .cK ((Bz r _ v).weaken λb o j=>j.elim .inl λj=>.inr (by simp[j])) (λu Tn a=>?_)
 obtain⟨wn,d3,rfl,a8,c4⟩:=a
 rw[L]
 have c9:One wn:=a8.rs.ap
 refine .mo rfl<|.q .extract<|.q .extract<|.ag rfl<|.ag rfl<|.z ?_
 refine .cK (z0 _) (λu Th a=>?_)
 obtain⟨j,rfl,hH⟩:=a
 refine .cK (B5 _) (λu C a=>?_)
 obtain⟨g,rfl,s⟩:=a
 refine .q .cN ?_
 refine .bW rfl (λI=>?_)
 refine .ag rfl<|.ag rfl<|.ag rfl<|.zs<|.sr<|.mo rfl<|.q .dS<|.mo rfl ?_
 refine .split (t:=29) rfl (λk=>?_) (λk=>?_)
 have b9:((fM c.plain).numbers isWord di).1≠0:=by simpa using k
 refine .gF k<|.gF k<|.gF k<|.gF k<|.q (.aO k) ?_
 refine .zn<|.hY<|.seq<|.dp [4] mixed ?_
 refine .tO 0 rfl (.aL rfl)<|.tK 1 rfl .move<|.tO 2 rfl .assign<|.tO 3 rfl .assign ?_
 refine .sT 4 rfl ?_
 refine .bH rfl rfl ?_
 refine .nil (Next.mod rfl ?_)
 refine .tK 5 rfl .assign<|.tK 6 rfl .assign ?_
 refine RA.nil (by kernel_rfl) ?_
 refine ax ?_
 refine .ret (aI (bk _ (.vM (.tmp rfl) (.tmp rfl) (.eI rfl rfl) (.tmp rfl) (.tmp rfl)) (.one [5] _) ?_))
 ·exact .inr ⟨_,r,_,rfl,rfl,v.mono λb o j=>j.elim .inl λj=>.inr (by simp[take,bL,j]),L,b9⟩
 have O:((fM c.plain).numbers isWord di).1=0:=by simpa using k
 refine .gT k<|.mo rfl<|.gT k<|.q (.aL rfl)<|.gT k ?_
 refine .u5 (zW j [] 0 Th hH (by simp) 0 r _ (v.mono λb o j=>j.elim .inl λj=>.inr (by simp[j]))) (λu a5 a=>?_)
 rw[L,a9]at a
 obtain⟨rfl,a7,c0⟩:=a
 refine .gT k<|.q .dS<|.q (.aN k) ?_
 refine .zn ?_
 refine .cond rfl (λM=>?_) λM=>?_
 refine .seq<|.dp [4] mixed ?_
 refine .tO 0 rfl (.aL rfl)<|.tK 1 rfl .move<|.tO 2 rfl .assign<|.tO 3 rfl .assign ?_
 refine .sT 4 rfl ?_
 refine .bH rfl rfl ?_
 refine .nil (Next.mod rfl ?_)
 refine .tK 5 rfl .assign<|.tK 6 rfl .assign ?_
 refine RA.nil (by kernel_rfl) ?_
 refine ax ?_
 refine .ret (aI (bk _ (.vM (.tmp rfl) (.tmp rfl) (.eI rfl rfl) (.tmp rfl) (.tmp rfl)) (.one [5] _) ?_))
 ·exfalso
  rw[O]at M
  simp at M
 obtain⟨e,b6,b5,a1⟩:=a7 O
 rw[List.nil_append]at a1
 refine .kn<|.sr<|.fa rfl<|.lo rfl ?_
 refine .cK (NL _ a6 16 (by omega) _ R N.rx a3) (λu a4 a=>?_)
 obtain⟨J,l,b3,b2⟩:=a
 have c6:=l.ap
 have c3:J.length<=16:=by rw[b2];exact Nat.min_le_right _ _
 refine .ag rfl<|.zs<|.sr<|.az rfl<|.block ?_
 refine .cx [(4,_),(7,_),(10,_),(11,_),(12,_),(13,_)] (X:=Nat×cZ×aB×aB) (λy=>y.1<=J.length/\SI g y.2.1 y.2.2.1/\gh y.2.1/\DO I y.2.1 y.2.2.2/\y.2.1.rows.length<=32*y.1) (λy E=>(14,iN y.1)::E) (λy G=>a4::y.2.2.2::y.2.2.1::G) (λy=>J.length-y.1) (0,⟨[],0,0⟩,C,bl I [sZ,.int .u64 0,.int .u64 0] 103) ⟨Nat.zero_le _,s,gh.new,⟨_,[],[],rfl,OS.nil,RL.new⟩,by simp⟩ kE.c.c.c.c.c.c.c rH ?_
 rintro⟨i,S,C,H⟩ ⟨hi,s,m,D,b8⟩
 simp only at hi s m D b8⊢
 refine .seq<|.sr<|.mo rfl<|.mo rfl<|.q (.dN l) ?_
 refine .q .lss<|.zn ?_
 refine .cond rfl (λZ=>?_) λZ=>?_
 have F:i<J.length:=cr Z
 obtain⟨d,p⟩:=bR F
 obtain⟨f,c1,c2,b0⟩:=b3 d (aZ p)
 obtain⟨dk,U,V,Q,df,dr,A,B,n⟩:=d
 have c5:=SY m A B n
 have d0:One U:=RS.ap f.hm
 have d1:One V:=RS.ap f.hn
 have d2:One Q:=RS.ap f.hc
 refine .kn<|.seq<|.block<|.sr<|.mo rfl<|.mo rfl ?_
 refine .bo i l p (λd4=>?_)
 refine .fa rfl<|.lo rfl<|.q .bK<|.zn ?_
 refine .cond rfl (λh3=>?_) λh3=>?_
 refine .seq ?_
 refine .dU 16 mixed (by kernel_rfl) ?_
 conv=>arg 6;dsimp only[List.take]
 refine .mo rfl<|.mo rfl<|.mo rfl ?_
 refine .bo i l p (λd5=>?_)
 refine .fa rfl<|.lo rfl<|.mo rfl<|.mo rfl ?_
 refine .bo i l p (λd6=>?_)
 refine .fa rfl<|.lo rfl<|.mo rfl<|.mo rfl ?_
 refine .bo i l p (λd7=>?_)
 refine .fa rfl<|.lo rfl<|.nil ?_
 refine .cY (CM g S C s m U V Q A B n _ f.hm f.hn f.hc f.fm f.fn f.fc) (λu W a=>?_)
 obtain⟨rfl,a2⟩:=a
 refine .zn ?_
 refine .dU 16 mixed (by kernel_rfl) ?_
 conv=>arg 6;dsimp only[List.take]
 refine .mo rfl<|.mo rfl<|.mo rfl ?_
 refine .bo i l p (λd8=>?_)
 refine .fa rfl<|.lo rfl<|.mo rfl<|.mo rfl ?_
 refine .bo i l p (λd9=>?_)
 refine .fa rfl<|.lo rfl<|.mo rfl<|.mo rfl ?_
 refine .bo i l p (λe0=>?_)
 refine .fa rfl<|.lo rfl<|.nil ?_
 refine .cY (QZ I S H D m U V Q A B n _ f.hm f.hn f.hc f.fm f.fn f.fc (by have h9:n.length<=34:=b0;omega)) (λu Y a=>?_)
 obtain⟨rfl,a0⟩:=a
 refine .nil<|bf<|ax<|.region<|.mo rfl ?_
 refine .ia (i+1) .add ?_
 refine .ag rfl<|.nil ?_
 ·first
   |exact aP (i+1,iF S A B n,W,Y) ⟨F,a2,m.write A B n,a0,by simp only;omega⟩ (by simp only;omega) kE.c.c.c.c.c.c.c rH
   |exact aP (i+1,S,C,H) ⟨F,s,m,D,by simp only;omega⟩ (by simp only;omega) kE.c.c.c.c.c.c.c rH
 refine .skip<|bf<|ax<|.region<|.mo rfl ?_
 refine .ia (i+1) .add ?_
 refine .ag rfl<|.nil ?_
 ·first
   |exact aP (i+1,iF S A B n,W,Y) ⟨F,a2,m.write A B n,a0,by simp only;omega⟩ (by simp only;omega) kE.c.c.c.c.c.c.c rH
   |exact aP (i+1,S,C,H) ⟨F,s,m,D,by simp only;omega⟩ (by simp only;omega) kE.c.c.c.c.c.c.c rH
 refine .exit<|bq<|bz<|bs<|ax<|.seq<|.dp [6] mixed ?_
 refine .tO 0 rfl .move<|.tO 1 rfl .move<|.tO 2 rfl (.aL rfl)<|.tK 3 rfl .move<|.tO 4 rfl .assign<|.tO 5 rfl .assign ?_
 refine .sT 6 rfl ?_
 refine .bH rfl rfl ?_
 refine .nil (Next.mod rfl ?_)
 refine .tK 7 rfl .assign<|.tK 8 rfl .assign ?_
 refine RA.nil (by kernel_rfl) ?_
 refine ax ?_
 refine .ret (bk _ (.vM (.tmp rfl) (.tmp rfl) (.eI rfl rfl) (.tmp rfl) (.tmp rfl)) (aH [6,3,2,1]) ?_)
 ·exact .inl ⟨Tc,a5,C,H,j,g,I,e,S,r,rfl,rfl,v,L,O,b6,b5,a1,s,m,D,by omega⟩
abbrev kX(n:Nat):Value:=iN n
def mz(c:Cf)(num:List Nat):List (Ty×Nat):=(c.all.map eh).zip num
theorem Po(c:Cf)(num:List Nat)(a:num.length=c.all.length)(t:Ty):(dl t (mz c num)).getD 0=match bX c.all t with|none=>0|some i=>num.getD i 0:=by
 unfold mz bX
 generalize c.all=A at *
 induction A generalizing num with
 |nil=>simp[dl]
 |cons x A ih=>
  cases num with
  |nil=>simp at a
  |cons n num=>
   have:=ih num (by simpa using a)
   rw[List.map_cons,List.zip_cons_cons,dl,List.findIdx?_cons]
   by_cases e:t=eh x
   ·subst e;simp
   ·rw[if_neg e,this]
    have b:decide (eh x=t)=false:=decide_eq_false λh=>e h.symm
    rw[b]
    cases List.findIdx? (λx=>decide (eh x=t)) A with
    |none=>rfl
    |some i=>rfl
theorem wF(c:bM)(R:aD)(h:c.is R)(hu:c.plain.dY)(w:Value)(N:List fA)(num:List Nat)(U:NN R w N)(a9:N.map (·.2)=rows c.plain.bd num)(W:num.length=c.plain.all.length):
  Spec prog 81 [.agg c.enc.toArray,w] R [] λu H'=>∃T,H'=[T]/\MS mx kX u (mz c.plain num) T:=by
 have o:=h.ss
 have i1:=o.ap
 have i2:One c.vc:=RS.ap h.sc
 have c2:=o.le
 have a5:=h.all
 have a0:=U.rs
 have iw:=a0.ap
 have b0:=U.all
 have b6:=pR c.plain
 have b5:c.plain.bd.length=c.bd.length:=by unfold bM.plain;simp
 have a2:∀(i:Nat) (s:cj),c.bd[i]? =some s->c.plain.bd[i]? =some s.plain:=λi s f=>pj f
 have b8:=λ(p:gp) (s:cj) (r:ca)=>pe (c:=c) (p:=p) (s:=s) (r:=r)
 have a7:∀i k,c.ix (i,k)=cI c.plain.bd i+k:=λ_ _=>rfl
 have c0:(c.plain.all.map eh).Nodup:=hu.2.1
 have I:mz c.plain num=(c.plain.all.map eh).zip num:=rfl
 generalize hA:c.plain.all=A at *
 generalize hQ:mz c.plain num=Q at *
 have a4:Q.length=A.length:=by rw[I];simp[W]
 have a3:Q.map (·.1)=A.map eh:=by rw[I];exact List.map_fst_zip (by simp[W])
 have b4:∀i s,c.bd[i]? =some s->∃v,N[i]? =some (v,(num.drop (cI c.plain.bd i)).take s.bS.length):=λi s f=>by
  have g:=pB (n:=num) (a2 i s f)
  rw[<-a9,List.getElem?_map,show s.plain.bS.length=s.bS.length by simp[cj.plain]]at g
  obtain⟨⟨v,r⟩,j,O⟩:=Option.map_eq_some_iff.1 g
  exact⟨v,by rw[j];simp only at O;rw[O]⟩
 generalize C:cI c.plain.bd=of at *
 have b1:of 0=0:=by rw[<-C];cases c.plain.bd<;>rfl
 refine Spec.body Tryz.func81 rfl Tryz.results81 Tryz.ntmps81 rfl ?_
 refine .sr ?_
 refine .bW rfl (λb2=>?_)
 refine .ag rfl<|.z ?_
 refine .makeMap (λB=>?_)
 refine .ag rfl<|.zs<|.sr<|.fa rfl<|.lo rfl<|.q (.bJ o) ?_
 refine .mo rfl<|.zn<|.block ?_
 refine .cx [(1,_),(5,_),(12,_),(13,_)] (X:=Nat×aB) (λy=>y.1<=c.bd.length/\MS mx kX (.map (some B)) (Q.take (of y.1)) y.2) (λy E=>(14,iN y.1)::E) (λy G=>y.2::G) (λy=>c.bd.length-y.1) (0,[(B,.map #[] 0)]) ⟨Nat.zero_le _,by rw[b1];exact MS.nil⟩ kE.c.c.c.c.c rH ?_
 rintro⟨i,T⟩ ⟨hi,b⟩
 simp only at hi b⊢
 refine .sr<|.q .lss<|.zs ?_
 refine .cond rfl (λg=>?_) λg=>?_
 have Y:i<c.bd.length:=cr g
 obtain⟨⟨l,x,a⟩,f⟩:=bR Y
 have M:=a5 _ (aZ f)
 have m:RS R 3 ca.enc x a:=M.rs
 have c6:=m.ap
 have c3:=m.le
 have c8:bZ (cj.enc ⟨l,x,a⟩):=⟨M.cJ⟩
 have a1:=pi (a2 i _ f)
 rw[C,show(cj.plain ⟨l,x,a⟩).bS.length=a.length by simp[cj.plain]]at a1
 obtain⟨vr,H⟩:=b4 i _ f
 simp only at H
 have L:=b0 _ (aZ H)
 simp only at L
 have c9:One vr:=L.ap
 refine .kn<|.seq<|.block<|.sr<|.mo rfl ?_
 refine .bC i o f (λd0=>?_)
 refine .q (.aL rfl) ?_
 refine .bN (λb7=>?_)
 refine .ag rfl<|.bH rfl rfl<|.z<|.fa rfl<|.lo rfl<|.q (.bJ m) ?_
 refine .mo rfl<|.zn<|.block ?_
 refine .cx [(1,_),(5,_),(6,_),(7,_),(12,_),(13,_),(14,_),(20,_),(21,_)] (X:=Nat×aB) (λy=>y.1<=a.length/\MS mx kX (.map (some B)) (Q.take (of i+y.1)) y.2) (λy E=>(22,iN y.1)::E) (G:=[bl b2 c.enc 25]) (λy G=>bl b7 (cj.enc ⟨l,x,a⟩) 164::y.2::G) (λy=>a.length-y.1) (0,T) ⟨Nat.zero_le _,b⟩ kE.c.c.c.c.c.c.c.c.c.c rH ?_
 rintro⟨k,T⟩ ⟨hk,b⟩
 simp only at hk b⊢
 refine .sr<|.q .lss<|.zs ?_
 refine .cond rfl (λj=>?_) λj=>?_
 have F:k<a.length:=cr j
 obtain⟨⟨vt,vn,r⟩,J⟩:=bR F
 have K:=M.all _ (aZ J)
 have c7:One vt:=RS.ap K.t
 have c5:One vn:=RS.ap K.d
 have c4:bZ (ca.enc ⟨vt,vn,r⟩):=⟨K.cJ⟩
 have D:=b8 (i,k) _ _ f J
 rw[a7]at D
 have c1:of i+k<A.length:=(List.getElem?_eq_some_iff.1 D).1
 obtain⟨n,Z⟩:∃n,num[of i+k]? =some n:=⟨_,bu (by omega)⟩
 have b3:((num.drop (of i)).take a.length)[k]? =some n:=by rw[List.getElem?_take_of_lt F,List.getElem?_drop];exact Z
 have V:Q[of i+k]? =some (⟨l,r.name⟩,n):=by
  rw[I,List.getElem?_zip_eq_some]
  exact⟨by rw[List.getElem?_map,D];rfl,Z⟩
 refine .kn<|.seq<|.block<|.sr<|.mo rfl ?_
 refine .bC k m J (λd1=>?_)
 refine .q (.aL rfl) ?_
 refine .bN (λb9=>?_)
 refine .ag rfl<|.bH rfl rfl<|.zn ?_
 refine .dU 13 mixed (by kernel_rfl) ?_
 conv=>arg 6;dsimp only[List.take]
 refine .mo rfl<|.fa rfl<|.lo rfl<|.fa rfl<|.lo rfl ?_
 refine .q .cN ?_
 refine .mo rfl<|.mo rfl ?_
 refine .bC i a0 H (λd2=>?_)
 refine .lo rfl<|.mo rfl ?_
 refine .bC k L b3 (λd3=>?_)
 refine .lo rfl<|.nil ?_
 refine .update (key:=(⟨l,r.name⟩:Ty)) (u:=n) b rfl rfl rfl (λT2 S _=>?_)
 rw[mW (λhm=>by
  obtain⟨q,hq,e⟩:=List.mem_iff_getElem.1 hm
  rw[List.length_map,List.length_take]at hq
  rw[List.getElem_map,List.getElem_take]at e
  have g:(Q.map (·.1))[of i+k]? =some ⟨l,r.name⟩:=by rw[List.getElem?_map,V];rfl
  have j:(Q.map (·.1))[q]? =some ⟨l,r.name⟩:=by rw[List.getElem?_map,bu (by omega),Option.map_some,e]
  exact mZ (show q<of i+k by omega) g j rfl (by rw[a3];exact c0)), <-dT V]at S
 refine .nil<|bf<|ax<|.region ?_
 refine .ia (k+1) .add ?_
 refine .mo rfl<|.nil ?_
 ·exact aP (k+1,T2) ⟨F,S⟩ (by simp only;omega) kE.c.c.c.c.c.c.c.c.c.c (aH [1,1,1])
 have a8:k=a.length:=by have:=bA j;omega
 rw[a8, <-a1]at b
 refine .exit<|bq<|bz<|bs<|bf<|ax<|.region ?_
 refine .ia (i+1) .add ?_
 refine .mo rfl<|.nil ?_
 ·exact aP (i+1,T) ⟨Y,b⟩ (by simp only;omega) kE.c.c.c.c.c (aH [1,1])
 refine .exit<|bq<|bz<|bs<|ax<|.sr<|.mo rfl<|.az rfl ?_
 refine .ret (bk _ (.one (.tmp rfl)) (.one [0] _) ?_)
 ·refine⟨_,rfl,?_⟩
  have a6:i=c.bd.length:=by have:=bA g;omega
  have:of i=Q.length:=by
   rw[a6,a4, <-b5, <-C];exact b6
  rw[this,List.take_length]at b
  simpa[take]using b
structure aF where
 k:bc
 found:Bool
 vn:Value
 nodes:List Nd
 vu:Value
 gQ:List ByteArray
 vl:Value
 ll:List fA
 number:Nat
def aF.enc(p:aF):List Value:=[.string p.k.os,.string p.k.oi,.string p.k.rel,.bool p.found,p.vn,p.vu,p.vl,iN p.number]
def aF.plain(p:aF):bQ:=⟨p.k,p.found,p.nodes,p.number,p.gQ,p.ll.map (·.2)⟩
structure aF.is(R:aD)(p:aF):Prop where
 n:RS R 5 Nd.enc p.vn p.nodes
 u:RS R 1 hZ p.vu p.gQ
 l:NN R p.vl p.ll
theorem aF.is.mono{R R':aD}{p:aF}(h:p.is R)(a:∀b o,R b o->R' b o):p.is R':=⟨h.n.mono a,h.u.mono a,h.l.mono a⟩
theorem aF.is.cJ{R:aD}{p:aF}(h:p.is R):∀u∈p.enc,ap u=true:=by
 have b:=h.n.ap
 have c:=h.u.ap
 have d:=h.l.rs.ap
 intro u a
 simp only[aF.enc,List.mem_cons,List.not_mem_nil,or_false]at a
 rcases a with rfl|rfl|rfl|rfl|rfl|rfl|rfl|rfl
 ·rfl
 ·rfl
 ·rfl
 ·rfl
 ·exact b.h
 ·exact c.h
 ·exact d.h
 ·rfl
instance bc.Tg:fz prog 269 (λk:bc=>.agg k.enc.toArray):=fz.agg ze Tryz.underlying269 rfl bc.kinds bc.eq
abbrev Ae(k:bc):Value:=.agg k.enc.toArray
structure XC where
 c:bM
 num:List Nat
 vn:Value
 g:Nat
 S:cZ
 L:List bB
 rev:Int
 b:Int
def XC.sub(x:XC)(k:bc):List Sub:=if scan x.S x.rev then(x.L.filter λy=>y.there x.rev&&decide (y.t.cQ=k)).map (·.t.sub)else []
structure XC.ok(R:aD)(x:XC):Prop where
 c:x.c.is R
 n:RM R mx kX x.vn (mz x.c.plain x.num)
 nl:x.num.length=x.c.plain.all.length
 s:∃ps vf vr Mf Mr,SV R x.g x.S ps vf vr Mf Mr
 l:RL x.S x.L
 len:x.S.rows.length<=512
theorem XC.ok.mono{R R':aD}{x:XC}(h:x.ok R)(a:∀b o,R b o->R' b o):x.ok R':=⟨h.c.mono a,h.n.mono a,h.nl,let ⟨ps,vf,vr,Mf,Mr,h1⟩:=h.s;⟨ps,vf,vr,Mf,Mr,h1.mono a⟩,h.l,h.len⟩
def XC.cells(x:XC)(va vp:Value)(e:Nat):List Value:=[x.c.vs,x.c.vc,x.vn,.pointer (some ⟨x.g,0,none⟩),.int .u64 x.rev,va,vp,iN e,.int .i64 x.b]
abbrev XC.iW(x:XC)(xb:Nat)(va vp:Value)(e:Nat):aB:=(bl xb (x.cells va vp e) 190)
def jg(ps:List aF)(va:Value)(T:aB):Prop:=∃M,MS Ae kX va M T/\∀k,dl k M=fg (ps.map aF.plain) k
theorem PD(x:XC)(R:aD)(h:x.ok R)(xb:Nat)(va d:Value)(e:Nat)(ps:List aF) [o:One va] [pc:PC R (pT xb) (x.cells va d e)](a:RS R 8 aF.enc d ps)(g:e<=1000000000000)(f:0<=x.b/\x.b<=9223372036854775807):
  Spec prog 84 [pT xb] R [] λu H'=>u=.bool (decide (x.b<(ps.length+e:Nat)))/\H'=[]:=by
 have j:One x.c.vs:=RS.ap h.c.ss
 have k:One x.c.vc:=RS.ap h.c.sc
 have l:=h.n.one
 have m:=a.ap
 have i:=a.le
 refine Spec.body Tryz.func84 rfl Tryz.results84 Tryz.ntmps84 rfl ?_
 refine .sr<|.ag rfl<|.zs ?_
 refine .fX mixed (by kernel_rfl) ?_
 refine .mo rfl<|.nc rfl<|.fa rfl<|.fa rfl<|.lo rfl<|.q (.bJ a) ?_
 refine .mo rfl<|.nc rfl<|.fa rfl<|.lo rfl<|.mo rfl ?_
 refine .nc rfl<|.fa rfl<|.fa rfl<|.lo rfl ?_
 refine .q (.i64 (x.b-e) .sub ⟨by omega,by omega,by omega⟩) ?_
 refine .q .gtr<|.az rfl ?_
 refine .ret (aM rfl ?_)
 ·refine⟨congrArg _ ?_,rfl⟩
  rw[decide_eq_decide]
  omega
theorem PN{ps:List bQ}{p:bQ}(h:fg ps p.k=none)(k:bc):fg (ps++[p]) k=if k=p.k then some ps.length else fg ps k:=by
 unfold fg at h⊢
 rw[List.findIdx?_append]
 by_cases e:k=p.k
 ·subst e
  rw[h,if_pos rfl]
  simp[List.findIdx?_cons]
 ·rw[if_neg e]
  have a:decide (p.k=k)=false:=decide_eq_false λh=>e h.symm
  simp[List.findIdx?_cons,a]
theorem jg.add{ps:List aF}{p:aF}{va:Value}{T:aB}{M:List (bc×Nat)}(b:MS Ae kX va (dR p.k ps.length M) T)(a:∀k,dl k M=fg (ps.map aF.plain) k)(h:fg (ps.map aF.plain) p.k=none):jg (ps++[p]) va T:=
 ⟨_,b,λk=>by
  rw[qg,a,List.map_append,List.map_cons,List.map_nil,PN h]
  rw[List.length_map]
  rfl⟩
def xJ(x:XC)(R:aD)(xb:Nat)(ps:List aF)(e:Nat)(va:Value)(k:bc)(u:Value)(H':aV):Prop:=∃ps' vp Ta To,H'=[x.iW xb va vp e,Ta,To]/\u=.int .i64 ((eB x.c.plain x.num (ps.map aF.plain) k).2:Nat)/\ps'.map aF.plain=(eB x.c.plain x.num (ps.map aF.plain) k).1/\jg ps' va Ta/\OS 95 8 aF.enc vp ps' To/\∃l,ps'=ps++l/\∀p∈l,p.is R
theorem Be(x:XC)(R:aD)(h:x.ok R)(xb:Nat)(ps:List aF)(e:Nat)(va t:Value)(g m:aB)(hA:jg ps va g)(G:OS 95 8 aF.enc t ps m)(hl:ps.length<=3000000)(k:bc):
  Spec prog 83 [pT xb,.agg [.string k.os,.string k.oi].toArray,.string k.rel] R [x.iW xb va t e,g,m] (xJ x R xb ps e va k):=by
 have U:∀u D,xJ x R xb ps e va k u D↔∃ps' t g m,D=[x.iW xb va t e,g,m]/\u=.int .i64 ((eB x.c.plain x.num (ps.map aF.plain) k).2:Nat)/\ps'.map aF.plain=(eB x.c.plain x.num (ps.map aF.plain) k).1/\jg ps' va g/\OS 95 8 aF.enc t ps' m/\∃l,ps'=ps++l/\∀p∈l,p.is R:=λ_ _=>Iff.rfl
 have a1:=BZ x.c R h.c k.os k.rel
 have i1:One x.c.vs:=RS.ap h.c.ss
 have i2:One x.c.vc:=RS.ap h.c.sc
 have i3:=h.n.one
 have hn:=h.n
 have a8:=Po x.c.plain x.num h.nl
 obtain⟨M,F,L⟩:=hA
 have iv:=F.one
 have ip:=G.ap
 have a5:∀i,fg (ps.map aF.plain) k=some i->eB x.c.plain x.num (ps.map aF.plain) k=(ps.map aF.plain,i):=λi O=>by unfold eB;rw[O]
 have a6:fg (ps.map aF.plain) k=none->eB x.c.plain x.num (ps.map aF.plain) k=(ps.map aF.plain++[one x.c.plain x.num k],ps.length):=λO=>by unfold eB;rw[O];simp
 have a4:=λ(p:aF) (T:aB)=>jg.add (ps:=ps) (p:=p) (va:=va) (T:=T) (M:=M)
 have b1:one x.c.plain x.num k=match bX x.c.plain.all ⟨k.os,k.rel⟩with
  |none=>⟨k,false,[],0,[],[]⟩
  |some i=>⟨k,true,(x.c.plain.all.map (·.2.nodes)).getD i [],x.num.getD i 0,[],[]⟩:=rfl
 have N:=h.c.all
 have b5:=λ(p:gp) (s:cj) (r:ca)=>pe (c:=x.c) (p:=p) (s:=s) (r:=r)
 obtain⟨i0,ok,b3,Z⟩:∃(i:Nat) (ok:Bool),[((dl k M).map kX).getD (kX 0),Value.bool (dl k M).isSome]=[kX i,.bool ok]/\fg (ps.map aF.plain) k=if ok then some i else none:=by
  rw[L k]
  cases fg (ps.map aF.plain) k with
  |none=>exact⟨0,false,rfl,rfl⟩
  |some i=>exact⟨i,true,rfl,rfl⟩
 refine Spec.body Tryz.func83 rfl Tryz.results83 Tryz.ntmps83 rfl ?_
 refine .sr ?_
 refine .bW rfl (λb4=>?_)
 refine .ag rfl<|.z<|.q (.aL rfl)<|.mo rfl ?_
 refine .q .cN ?_
 refine .bN (λb7=>?_)
 refine .bH rfl rfl<|.zs<|.seq ?_
 refine .fX mixed (by kernel_rfl) ?_
 refine .mo rfl<|.nc rfl<|.fa rfl<|.lo rfl<|.q (.aL rfl) ?_
 refine .q (.cast (.qf F.rx rfl rfl) (congrArg (λl:List Value=>Value.tuple l.toArray) b3)) ?_
 refine .mo rfl<|.q .extract<|.q .extract<|.ag rfl<|.ag rfl<|.z<|.mo rfl<|.zn ?_
 refine .cond rfl (λK=>?_) λK=>?_
 have b2:ok=true:=K
 subst b2
 have V:=a5 i0 Z
 refine .sr<|.mo rfl<|.az rfl ?_
 refine .ret (aI (bk _ (.one (.tmp rfl)) (aH [2,2,2]) ?_))
 ·refine(U _ _).2 ⟨ps,t,g,m,?_,?_,?_,⟨M,F,L⟩,G,[],by simp,λp I=>(by cases I)⟩
  ·simp[take,bL]
  ·rw[V]
  ·rw[V]
 have b0:ok=false:=K
 subst b0
 have Y:fg (ps.map aF.plain) k=none:=Z
 have W:=a6 Y
 refine .kn<|.seq ?_
 refine bx.cL [(0,_),(2,_),(4,_),(7,_)] kE.c.c.c.c (X:=Nat×ca×Bool) (λy=>nA x.c ⟨k.os,k.rel⟩ y.2.1 y.2.2/\bZ y.2.1.enc) (λy E=>(10,.pointer (some ⟨y.1,0,none⟩))::(11,.bool y.2.2)::E) (λy=>[[(y.1,.cells y.2.1.enc.toArray 167 (0,0))],bl b7 k.enc 269,bl b4 [.string k.os,.string k.oi] 44,x.iW xb va t e,g,m]) ?_ ?_
 refine .dp [12] mixed ?_
 refine .tO 0 rfl .move<|.tO 1 rfl (.nilCheck rfl)<|.tO 2 rfl (.fieldAddr rfl) ?_
 refine .tO 3 rfl (.loadT rfl) ?_
 refine .tO 4 rfl (.fieldAddr rfl)<|.tO 5 rfl (.cE rfl)<|.tO 6 rfl .move ?_
 refine RA.je 7 11 rfl rfl (by kernel_rfl) rfl ?_ ?_
 refine .ba ((a1.mono λu D f=>⟨f.2,f.1⟩).weaken cU) (λu f=>?_)
 obtain⟨r,v,rfl,a⟩:=f
 have B:bZ r.enc:=by
  unfold nA at a
  cases hf:bX x.c.plain.all ⟨k.os,k.rel⟩with
  |none=>rw[hf]at a;obtain⟨_,rfl⟩:=a;exact⟨by simp[ca.enc,ca.zero,ap]⟩
  |some j=>rw[hf]at a;obtain⟨_,p,s,A,w,Q⟩:=a;exact⟨((N _ (aZ A)).all _ (aZ w)).cJ⟩
 refine .nil (Next.sub ?_)
 refine .tO 8 rfl .move<|.tO 9 rfl .extract<|.tK 10 rfl .extract ?_
 refine .sT 11 rfl ?_
 refine .bN (λJ=>?_)
 refine .nil (Next.sub ?_)
 refine .sT 12 rfl ?_
 refine .bH rfl rfl ?_
 refine .nil (Next.mod rfl ?_)
 refine .tK 13 rfl .assign ?_
 refine RA.nil (by kernel_rfl) ?_
 ·exact ay (J,r,v) ⟨a,B⟩ kE.c.c.c.c.c.c rH
 refine .bN (λJ=>?_)
 refine .nil (Next.sub ?_)
 refine .sT 7 rfl ?_
 refine .ba ((a1.mono λu D f=>⟨f.2,f.1⟩).weaken cU) (λu f=>?_)
 obtain⟨r,v,rfl,a⟩:=f
 have B:bZ r.enc:=by
  unfold nA at a
  cases hf:bX x.c.plain.all ⟨k.os,k.rel⟩with
  |none=>rw[hf]at a;obtain⟨_,rfl⟩:=a;exact⟨by simp[ca.enc,ca.zero,ap]⟩
  |some j=>rw[hf]at a;obtain⟨_,p,s,A,w,Q⟩:=a;exact⟨((N _ (aZ A)).all _ (aZ w)).cJ⟩
 refine .nil (Next.sub ?_)
 refine .tO 8 rfl .move<|.tO 9 rfl .extract<|.tK 10 rfl .extract ?_
 refine .sT 12 rfl ?_
 refine .bH rfl rfl ?_
 refine .nil (Next.mod rfl ?_)
 refine .tK 13 rfl .assign ?_
 refine RA.nil (by kernel_rfl) ?_
 ·exact ay (J,r,v) ⟨a,B⟩ kE.c.c.c.c.c.c rH
 intro y hy
 obtain⟨bb,r,v⟩:=y
 obtain⟨a,B⟩:=hy
 simp only at a B⊢
 obtain⟨C,a9,a7⟩:∃C,(dl (⟨k.os,k.rel⟩:Ty) (mz x.c.plain x.num)).getD 0=C/\((dl (⟨k.os,k.rel⟩:Ty) (mz x.c.plain x.num)).map kX).getD (kX 0)=kX C:=by
  cases dl (⟨k.os,k.rel⟩:Ty) (mz x.c.plain x.num)with
  |none=>exact⟨0,rfl,rfl⟩
  |some i=>exact⟨i,rfl,rfl⟩
 obtain⟨a0,H⟩:one x.c.plain x.num k=⟨k,v,r.r.nodes,C,[],[]⟩/\RS R 5 Nd.enc r.vn r.r.nodes:=by
  rw[b1, <-a9,a8]
  unfold nA at a
  cases hf:bX x.c.plain.all ⟨k.os,k.rel⟩with
  |none=>rw[hf]at a;obtain⟨rfl,rfl⟩:=a;exact⟨rfl,RS.gL⟩
  |some j=>
   rw[hf]at a
   obtain⟨rfl,p,s,A,w,Q⟩:=a
   refine⟨?_,((N _ (aZ A)).all _ (aZ w)).d⟩
   have:=b5 p s r A w
   rw[Q]at this
   simp only[List.getD_eq_getElem?_getD,List.getElem?_map,this]
   rfl
 obtain⟨vt,vd,r⟩:=r
 simp only at a0 H
 have b8:One vd:=H.ap
 obtain⟨pd,cd,rfl⟩:=H.val
 refine ax<|.seq ?_
 refine .dU 11 mixed (by kernel_rfl) ?_
 conv=>arg 6;dsimp only[List.take]
 refine .mo rfl<|.nc rfl<|.fa rfl<|.lo rfl<|.q (.aL rfl)<|.mo rfl ?_
 refine .nc rfl<|.fa rfl<|.fa rfl<|.lo rfl<|.q (.dN G) ?_
 refine .nil ?_
 refine .update (key:=k) (u:=ps.length) F rfl rfl rfl (λa3 S _=>?_)
 refine .zs<|.dp [22,26] mixed ?_
 refine .tK 0 rfl .move<|.tO 1 rfl .move<|.tO 2 rfl (.nilCheck rfl)<|.tO 3 rfl (.fieldAddr rfl)<|.tO 4 rfl (.fieldAddr rfl)<|.tO 5 rfl (.cE rfl)<|.tO 6 rfl (.aL rfl)<|.tO 7 rfl .move<|.tO 8 rfl .move<|.tO 9 rfl (.fieldAddr rfl)<|.tO 10 rfl (.cE rfl)<|.tO 11 rfl .move<|.tO 12 rfl (.nilCheck rfl)<|.tO 13 rfl (.fieldAddr rfl)<|.tO 14 rfl (.cE rfl)<|.tO 15 rfl (.fieldAddr rfl)<|.tO 16 rfl (.cE rfl)<|.tO 17 rfl .move ?_
 refine .tO 18 rfl .cN ?_
 refine .hJ 19 rfl (.oU (hn.mono λb o hb=>.inl hb) rfl rfl (key:=(⟨k.os,k.rel⟩:Ty)) a7) (by kernel_rfl) ?_
 refine .tO 20 rfl .cN ?_
 refine .sT 21 rfl ?_
 refine .dM (λb6=>?_)
 refine .nil (Next.sub ?_)
 refine .sT 22 rfl ?_
 refine .append G (RS.lits (xs:=[(⟨k,v,.slice pd r.nodes.length cd,r.nodes,sZ,[],sZ,[],C⟩:aF)]) rfl (by simp[aF.enc]) (by simp[aF.enc,ap])) (by simp only[List.length_singleton];omega) (λv5 T5 a2=>?_)
 have i5:=a2.ap
 refine .nil (Next.mod rfl ?_)
 refine .tK 23 rfl (.lq rfl) ?_
 refine .tK 24 rfl (.eF rfl) ?_
 refine .tK 25 rfl (.eF rfl) ?_
 refine .sT 26 rfl ?_
 refine .dw rfl rfl ?_
 refine .nil (Next.mod rfl ?_)
 refine RA.nil (by kernel_rfl) ?_
 refine ax<|.seq ?_
 refine .fX mixed (by kernel_rfl) ?_
 refine .mo rfl<|.nc rfl<|.fa rfl<|.lo rfl<|.q (.aL rfl)<|.q (.oU S.rx rfl rfl (key:=k) rfl) ?_
 refine .az rfl ?_
 refine .ret (bk _ (.one (.tmp rfl)) (aH [4,4,4]) ?_)
 ·refine(U _ _).2 ⟨_,v5,a3,T5,?_,?_,?_,a4 _ _ S L Y,a2,_,rfl,λp I=>?_⟩
  ·simp[take,bL,du,XC.cells]
  ·rw[W,qg,if_pos rfl];rfl
  ·rw[W,a0,List.map_append];rfl
  ·rw[List.mem_singleton]at I
   subst I
   exact⟨H,RS.gL,NN.nil⟩
theorem SH{a:cv}(h:∀t∈a.1,gm t):ls isWord a=match dB qE a with
  |none=>([],a)
  |some s=>([(gZ isWord s).1],(gZ isWord s).2):=by
 unfold ls
 cases hh:dB qE a with
 |none=>rfl
 |some s=>
  simp only
  rw[rK,pQ (λt b=>h t ((ju hh).1.mem ((we s).mem b))) (by simp)]
theorem Pg{a:cv}(h:∀t∈a.1,gm t):nb isWord a=match dB qF a with
  |none=>([⟨1,⟨#[]⟩,⟨#[]⟩,0,0⟩],a)
  |some s=>fN [] s:=by
 unfold nb
 cases hh:dB qF a with
 |none=>rfl
 |some s=>
  simp only
  rw[Ee (λt b=>h t ((ju hh).1.mem b))]
theorem OW{s:ByteArray}{a:cv}(h:∀t∈a.1,gm t):∀t∈(gw s a).1,gm t:=λt b=>h t ((oY s a).mem b)
theorem Ou{a:cv}(h:∀t∈a.1,gm t):(gZ isWord a).1.fits:=by
 unfold gZ
 split
 ·exact⟨Nat.zero_le _,Nat.zero_le _⟩
 ·exact⟨rO h,rO (OW λt b=>h t ((lE a).mem b))⟩
theorem NI{b:cv}(h:∀t∈b.1,gm t):∀x∈(fN [] b).1,x.fits:=by
 unfold fN
 split
 ·intro x a
  rw[List.nil_append,List.mem_singleton]at a
  subst a
  exact⟨Nat.zero_le _,Nat.zero_le _⟩
 ·intro x a
  rw[List.nil_append,List.mem_singleton]at a
  subst a
  exact⟨rO h,Nat.zero_le _⟩
section
variable{R:aD}
theorem Bp(f:Nat)(i:cv)(T:aB)(S:dP R f i T):Spec prog 204 [pT f] R [T] λu H'=>∃T' Tn,H'=[T',Tn]/\∃r:ca,u=.agg r.enc.toArray/\r.is (sg Tn)/\r.r=(ng isWord i).1/\dP R f (ng isWord i).2 T':=by
 have a7:ng isWord i=(⟨(dD isWord i).1,(ls isWord (dD isWord i).2).1,(nb isWord (ls isWord (dD isWord i).2).2).1⟩,gw xw (nb isWord (ls isWord (dD isWord i).2).2).2):=rfl
 have Z:=rO (W:=isWord) S.ok
 have I:∀t∈(dD isWord i).2.1,gm t:=λt e=>S.ok t ((lE i).mem e)
 have n:=SH I
 have B:∀t∈(ls isWord (dD isWord i).2).2.1,gm t:=λt e=>I t ((CA _).mem e)
 have k:=Pg B
 rw[a7]
 clear a7
 obtain⟨ws,b0⟩:∃ws,ws=dD isWord i:=⟨_,rfl⟩
 have Y:=rP f i T R S
 rw[<-b0]at Z I n B k Y⊢
 clear b0
 obtain⟨K,L⟩:=ws
 simp only at Z I n B k Y⊢
 obtain⟨tt,a9⟩:∃tt,tt=ls isWord L:=⟨_,rfl⟩
 rw[<-a9]at n B k⊢
 clear a9
 obtain⟨a0,C⟩:=tt
 simp only at B k⊢
 obtain⟨nn,a6⟩:∃nn,nn=nb isWord C:=⟨_,rfl⟩
 rw[<-a6]at k⊢
 clear a6
 obtain⟨J,s3⟩:=nn
 simp only
 refine Spec.body Tryz.func204 rfl Tryz.results204 Tryz.ntmps204 rfl ?_
 refine .sr ?_
 refine .bN (λO=>?_)
 refine .z<|.mo rfl ?_
 refine .cY (R:=R) Y (λu T1 g=>?_)
 obtain⟨rfl,b1⟩:=g
 refine .q .cN ?_
 refine .dM (λA=>?_)
 refine .q .cN ?_
 refine .bN (λQ=>?_)
 refine .bH rfl rfl<|.zs<|.sr<|.mo rfl ?_
 refine .cY (R:=R) (ob f L _ R b1 qE) (λu M g=>?_)
 obtain⟨rfl,j⟩:=g
 refine .zn ?_
 refine bx.cL [(0,_),(2,_),(3,_)] kE.c.c.c (X:=Value×aB×aB) (λy=>OS 249 2 Ty.enc y.1 a0 y.2.1/\dP R f C y.2.2/\∀t∈a0,t.fits) (λ_ E=>E) (λy=>[y.2.2,y.2.1,bl Q [.string K,y.1,.slice (some ⟨A,0,none⟩) 1 1] 167,bl A (Nd.enc ⟨1,⟨#[]⟩,⟨#[]⟩,0,0⟩) 199,bl O [.string ⟨#[]⟩,sZ,sZ] 167]) ?_ ?_
 refine .cond rfl (λD=>?_) λD=>?_
 obtain⟨s,w⟩:=Option.isSome_iff_exists.1 D
 rw[w]at j n
 simp only[Option.getD_some,Prod.mk.injEq]at j n
 obtain⟨rfl,rfl⟩:=n
 have a4:=Ou j.ok
 refine bx.le (dL.refl _) aW.ff ?_
 refine .seq ?_
 refine bx.cL [(0,_),(2,_),(3,_)] kE.c.c.c (X:=Value×aB×aB) (λy=>OS 249 2 Ty.enc y.1 [(gZ isWord s).1] y.2.1/\dP R f (gZ isWord s).2 y.2.2) (λ_ E=>E) (λy=>[y.2.2,y.2.1,bl Q [.string K,y.1,.slice (some ⟨A,0,none⟩) 1 1] 167,bl A (Nd.enc ⟨1,⟨#[]⟩,⟨#[]⟩,0,0⟩) 199,bl O [.string ⟨#[]⟩,sZ,sZ] 167]) ?_ ?_
 refine .dp [3,5,7] mixed ?_
 refine .tK 0 rfl (.eF rfl) ?_
 refine .tO 2 rfl .move ?_
 refine RA.je 1 3 rfl rfl (by kernel_rfl) rfl ?_ ?_
 refine .lo rfl ?_
 refine .nil (Next.sub ?_)
 refine .sT 3 rfl ?_
 refine .cY (R:=R) (Ai f s _ j) (λu l g=>?_)
 obtain⟨rfl,a⟩:=g
 refine .nil (Next.mod rfl ?_)
 refine .sT 4 rfl ?_
 refine .dM (λa1=>?_)
 refine .nil (Next.mod rfl ?_)
 refine .sT 5 rfl ?_
 refine .append (OS.nil (E:=249) (sz:=2) (enc:=Ty.enc)) (RS.lits (xs:=[(gZ isWord s).1]) rfl (by simp[Ty.enc]) (by simp[Ty.enc,ap])) (by simp only[List.length_singleton,List.length_nil];omega) (λp m h=>?_)
 have i5:=h.ap
 refine .nil (Next.mod rfl ?_)
 refine .tK 6 rfl (.eF rfl) ?_
 refine .sT 7 rfl ?_
 refine .dw rfl rfl ?_
 refine .nil (Next.mod rfl ?_)
 refine RA.nil (by kernel_rfl) ?_
 ·exact ay (p,m,l) ⟨h,a⟩ kE.c.c.c (aH [5,1,1,1,1])
 refine .cY (R:=R) (Ai f s _ j) (λu l g=>?_)
 obtain⟨rfl,a⟩:=g
 refine .nil (Next.mod rfl ?_)
 refine RA.je 1 4 rfl rfl (by kernel_rfl) rfl ?_ ?_
 refine .lo rfl ?_
 refine .nil (Next.mod rfl ?_)
 refine .sT 4 rfl ?_
 refine .dM (λa1=>?_)
 refine .nil (Next.mod rfl ?_)
 refine .sT 5 rfl ?_
 refine .append (OS.nil (E:=249) (sz:=2) (enc:=Ty.enc)) (RS.lits (xs:=[(gZ isWord s).1]) rfl (by simp[Ty.enc]) (by simp[Ty.enc,ap])) (by simp only[List.length_singleton,List.length_nil];omega) (λp m h=>?_)
 have i5:=h.ap
 refine .nil (Next.mod rfl ?_)
 refine .tK 6 rfl (.eF rfl) ?_
 refine .sT 7 rfl ?_
 refine .dw rfl rfl ?_
 refine .nil (Next.mod rfl ?_)
 refine RA.nil (by kernel_rfl) ?_
 ·exact ay (p,m,l) ⟨h,a⟩ kE.c.c.c (aH [5,1,1,1,1])
 refine .dM (λa1=>?_)
 refine .nil (Next.mod rfl ?_)
 refine .sT 1 rfl ?_
 refine .lo rfl ?_
 refine .nil (Next.mod rfl ?_)
 refine .sT 5 rfl ?_
 refine .append (OS.nil (E:=249) (sz:=2) (enc:=Ty.enc)) (RS.lits (xs:=[(gZ isWord s).1]) rfl (by simp[Ty.enc]) (by simp[Ty.enc,ap])) (by simp only[List.length_singleton,List.length_nil];omega) (λp m h=>?_)
 have i5:=h.ap
 refine .nil (Next.mod rfl ?_)
 refine .tK 6 rfl (.eF rfl) ?_
 refine .sT 7 rfl ?_
 refine .dw rfl rfl ?_
 refine .nil (Next.mod rfl ?_)
 refine RA.nil (by kernel_rfl) ?_
 ·exact ay (p,m,l) ⟨h,a⟩ kE.c.c.c (aH [5,1,1,1,1])
 intro y hy
 obtain⟨p,m,l⟩:=y
 obtain⟨h,a⟩:=hy
 simp only at h a⊢
 have i5:=h.ap
 refine ax<|.block ?_
 refine .cx [(0,_),(2,_),(3,_)] (X:=aB) (λT=>dP R f (gZ isWord s).2 T) (λ_ E=>E) (λT G=>T::G) (λ_=>0) l a kE.c.c.c rH ?_
 rintro N H
 refine .seq<|.sr<|.mo rfl ?_
 refine .cY (R:=R) (pO f _ _ H pL (by simp)) (λu T6 g=>?_)
 obtain⟨rfl,a2⟩:=g
 refine .zn<|.cS<|.exit<|bq<|bz<|bs ?_
 ·first
   |exact ay (p,m,T6) ⟨h,a2,λt e=>by rw[List.mem_singleton]at e;subst e;exact a4⟩ kE.c.c.c rH
   |exact ay (sZ,[],M) ⟨OS.nil,j,λt e=>(by cases e)⟩ kE.c.c.c (aW.ff.trans (aH [4,0,0,0,0]))
 have w:dB qE L=none:=by
  cases hh:dB qE L with
  |none=>rfl
  |some x=>rw[hh]at D;cases D
 rw[w]at j n
 simp only[Option.getD_none,Prod.mk.injEq]at j n
 obtain⟨rfl,rfl⟩:=n
 refine .skip ?_
 ·first
   |exact ay (p,m,T6) ⟨h,a2,λt e=>by rw[List.mem_singleton]at e;subst e;exact a4⟩ kE.c.c.c rH
   |exact ay (sZ,[],M) ⟨OS.nil,j,λt e=>(by cases e)⟩ kE.c.c.c (aW.ff.trans (aH [4,0,0,0,0]))
 intro x hx
 obtain⟨vt,Tt,M⟩:=x
 obtain⟨U,j,a8⟩:=hx
 simp only at U j a8⊢
 have it:=U.ap
 refine ax<|.seq<|.sr<|.mo rfl ?_
 refine .cY (R:=R) (ob f C _ R j qF) (λu l g=>?_)
 obtain⟨rfl,a⟩:=g
 refine .zn ?_
 refine bx.cL [(0,_),(2,_),(3,_)] kE.c.c.c (X:=Value×aB×aB) (λy=>OS 199 5 Nd.enc y.1 J y.2.1/\dP R f s3 y.2.2/\∀t∈J,t.fits) (λ_ E=>E) (λy=>[y.2.2,y.2.1,Tt,bl Q [.string K,vt,y.1] 167,bl O [.string ⟨#[]⟩,sZ,sZ] 167]) ?_ ?_
 refine .cond rfl (λF=>?_) λF=>?_
 obtain⟨s,w⟩:=Option.isSome_iff_exists.1 F
 rw[w]at a k
 simp only[Option.getD_some]at a k
 have a3:=NI a.ok
 obtain⟨rfl,rfl⟩:J=(fN [] s).1/\s3=(fN [] s).2:=by rw[<-k];exact⟨rfl,rfl⟩
 refine bx.le (dL.refl _) aW.ff ?_
 refine .region<|.mo rfl ?_
 refine .call [1,0] ((Ef (R:=R) f s _ a (sZ) [] [] OS.nil (by simp)).weaken cU) (λu H' g=>?_)
 obtain⟨N,Tn,rfl,v,H⟩:=g
 have i7:=v.ap
 conv=>arg 8;simp only[rest,bL,List.cons_append,List.nil_append]
 refine .fa rfl<|.dw rfl rfl<|.nil ?_
 ·first
   |exact ay (_,Tn,N) ⟨v,H,a3⟩ (((kE.d rfl).d rfl).d rfl) (aH [0,0,0,0,1])
   |exact ay (.slice (some ⟨A,0,none⟩) 1 1,_,l) ⟨OS.lits (xs:=[(⟨1,⟨#[]⟩,⟨#[]⟩,0,0⟩:Nd)]) rfl (by simp[Nd.enc]) (by simp[Nd.enc,ap]),a,λt e=>by rw[List.mem_singleton]at e;subst e;exact⟨Nat.zero_le _,Nat.zero_le _⟩⟩ (((kE.d rfl).d rfl).d rfl) (aH [0,2,0,0,0])
 have w:dB qF C=none:=by
  cases hh:dB qF C with
  |none=>rfl
  |some x=>rw[hh]at F;cases F
 rw[w]at a k
 simp only[Option.getD_none,Prod.mk.injEq]at a k
 obtain⟨rfl,rfl⟩:=k
 refine .skip ?_
 ·first
   |exact ay (_,Tn,N) ⟨v,H,a3⟩ (((kE.d rfl).d rfl).d rfl) (aH [0,0,0,0,1])
   |exact ay (.slice (some ⟨A,0,none⟩) 1 1,_,l) ⟨OS.lits (xs:=[(⟨1,⟨#[]⟩,⟨#[]⟩,0,0⟩:Nd)]) rfl (by simp[Nd.enc]) (by simp[Nd.enc,ap]),a,λt e=>by rw[List.mem_singleton]at e;subst e;exact⟨Nat.zero_le _,Nat.zero_le _⟩⟩ (((kE.d rfl).d rfl).d rfl) (aH [0,2,0,0,0])
 intro x hx
 obtain⟨vn,Tn,l⟩:=x
 obtain⟨v,a,a5⟩:=hx
 simp only at v a a5⊢
 have b5:=v.ap
 refine ax<|.sr<|.mo rfl ?_
 refine .cY (R:=R) (tL f _ _ R a xw) (λu m b4=>?_)
 refine .z<|.q (.aL rfl)<|.bH rfl rfl<|.zn ?_
 refine .ret (bk _ (.one (.eI rfl rfl)) ((aH [0,0,0]).trans (aW.ez (H':=[m,Tn++Tt]) (by simp[take,bL]))) ?_)
 ·exact⟨_,_,rfl,⟨vt,vn,⟨K,a0,J⟩⟩,rfl,⟨Z,U.sg.mono λb o V=>gE V,v.sg.mono λb o V=>iE V,a8,a5⟩,rfl,b4⟩
end
section
variable{R:aD}
theorem Cc(j:Nat)(g:cv)(T:aB)(V:dP R j g T)(M:g.1.length<=1000000):Spec prog 157 [pT j] R [T] λu H'=>∃T' Ts,H'=[T',Ts]/\∃s:cj,u=.agg s.enc.toArray/\s.is (sg Ts)/\s.plain=(mC isWord g).1/\dP R j (mC isWord g).2 T':=by
 have a1:mC isWord g=(⟨(dD isWord g).1,(nh isWord ((gw lU (dD isWord g).2).1.length+1) [] (gw lU (dD isWord g).2)).1⟩,gw xv (nh isWord ((gw lU (dD isWord g).2).1.length+1) [] (gw lU (dD isWord g).2)).2):=rfl
 have a3:=rO (W:=isWord) V.ok
 have a2:=rP j g T R V
 have Z:(gw lU (dD isWord g).2).1.length<=1000000:=Nat.le_trans (Nat.le_trans (oY _ _).len (lE g).len) M
 rw[a1]
 clear a1
 generalize dD isWord g=ws at *
 obtain⟨N,H⟩:=ws
 simp only at a3 a2 Z⊢
 obtain⟨O,a0⟩:∃O,O=nh isWord ((gw lU H).1.length+1) [] (gw lU H):=⟨_,rfl⟩
 rw[<-a0]
 refine Spec.body Tryz.func157 rfl Tryz.results157 Tryz.ntmps157 rfl ?_
 refine .sr ?_
 refine .bN (λS=>?_)
 refine .z<|.mo rfl ?_
 refine .cY (R:=R) a2 (λu T1 h=>?_)
 obtain⟨rfl,a4⟩:=h
 refine .q .cN ?_
 refine .bN (λU=>?_)
 refine .bH rfl rfl<|.z<|.mo rfl ?_
 refine .cY (R:=R) (tL j _ _ R a4 lU) (λu T2 a5=>?_)
 refine .zs<|.block ?_
 refine .cx [(0,_),(2,_),(3,_)] (X:=Nat×List ca×cv×Value×(aB×aB×aB)) (λy=>dP R j y.2.2.1 y.2.2.2.2.1/\OS 167 3 ca.enc y.2.2.2.1 y.2.1 y.2.2.2.2.2.1/\(∀r∈y.2.1,r.is (sg y.2.2.2.2.2.2))/\nh isWord y.1 (y.2.1.map (·.r)) y.2.2.1=O/\y.2.2.1.1.length+1<=y.1/\y.2.1.length+y.2.2.1.1.length<=1000000) (λ_ E=>E) (λy _=>[y.2.2.2.2.1,y.2.2.2.2.2.1,y.2.2.2.2.2.2,bl U [.string N,y.2.2.2.1] 164,bl S [.string ⟨#[]⟩,sZ] 164]) (λy=>y.1) ((gw lU H).1.length+1,[],gw lU H,sZ,(T2,[],[])) ⟨a5,OS.nil,λr a=>(by cases a),a0.symm,Nat.le_refl _,by simpa using Z⟩ kE.c.c.c (aW.ja.trans (aH [4,0,0,0,0])) (G:=[]) ?_
 rintro⟨f,L,s,vL,⟨T,To,I⟩⟩ ⟨Y,C,K,w,hf,M⟩
 simp only at Y C K w hf M⊢
 have io:=C.ap
 obtain⟨J,rfl⟩:∃J,f=J+1:=⟨f-1,by omega⟩
 rw[nh]at w
 refine .seq<|.sr<|.mo rfl ?_
 refine .cY (R:=R) (ob j s _ R Y uD) (λu T3 h=>?_)
 obtain⟨rfl,A⟩:=h
 refine .zn ?_
 refine .cond rfl (λD=>?_) λD=>?_
 obtain⟨z,F⟩:=Option.isSome_iff_exists.1 D
 rw[F]at A w
 simp only[Option.getD_some]at A w
 have b0:=(ju F).2.1
 have a9:=(Bo (W:=isWord) z).len
 refine .kn<|.block ?_
 refine bx.cL [(0,_),(2,_),(3,_)] kE.c.c.c (X:=ca×Value×(aB×aB×aB)) (λy=>dP R j (ng isWord z).2 y.2.2.1/\OS 167 3 ca.enc y.2.1 (L++[y.1]) y.2.2.2.1/\y.1.is (sg y.2.2.2.2)/\y.1.r=(ng isWord z).1) (λ_ E=>E) (λy=>[y.2.2.1,y.2.2.2.1,y.2.2.2.2,I,bl U [.string N,y.2.1] 164,bl S [.string ⟨#[]⟩,sZ] 164]) ?_ ?_
 refine .dp [3,5,7] mixed ?_
 refine .tK 0 rfl (.eF rfl) ?_
 refine .tO 2 rfl .move ?_
 refine RA.je 1 3 rfl rfl (by kernel_rfl) rfl ?_ ?_
 refine .lo rfl ?_
 refine .nil (Next.sub ?_)
 refine .sT 3 rfl ?_
 refine .call [0] ((Bp (R:=R) j z _ A).weaken cU) (λu H' h=>?_)
 obtain⟨p,v,rfl,r,rfl,a,l,k⟩:=h
 have ir:bZ r.enc:=⟨a.cJ⟩
 conv=>arg 8;simp only[rest,bL,List.cons_append,List.nil_append]
 have a8:One r.vt:=a.t.ap
 have a7:One r.vn:=a.d.ap
 refine .nil (Next.mod rfl ?_)
 refine .sT 4 rfl ?_
 refine .dM (λQ=>?_)
 refine .nil (Next.mod rfl ?_)
 refine .sT 5 rfl ?_
 refine .append C (RS.lits (xs:=[r]) rfl (by simp[ca.enc]) (λy m u h=>by rw[List.mem_singleton]at m;subst m;exact a.cJ u h)) (by simp only[List.length_singleton];omega) (λn i e=>?_)
 have i5:=e.ap
 refine .nil (Next.mod rfl ?_)
 refine .tK 6 rfl (.eF rfl) ?_
 refine .sT 7 rfl ?_
 refine .dw rfl rfl ?_
 refine .nil (Next.mod rfl ?_)
 refine RA.nil (by kernel_rfl) ?_
 ·first
   |exact ay (r,n,(p,i,v)) ⟨k,e,a,l⟩ kE.c.c.c (aH [1,2,1,1,1,1])
   |exact ay (r,n,(p,i,v)) ⟨k,e,a,l⟩ kE.c.c.c (aH [0,1,0,0,0,0])
 refine .call [0] ((Bp (R:=R) j z _ A).weaken cU) (λu H' h=>?_)
 obtain⟨p,v,rfl,r,rfl,a,l,k⟩:=h
 have ir:bZ r.enc:=⟨a.cJ⟩
 conv=>arg 8;simp only[rest,bL,List.cons_append,List.nil_append]
 have a8:One r.vt:=a.t.ap
 have a7:One r.vn:=a.d.ap
 refine .nil (Next.mod rfl ?_)
 refine RA.je 1 4 rfl rfl (by kernel_rfl) rfl ?_ ?_
 refine .lo rfl ?_
 refine .nil (Next.mod rfl ?_)
 refine .sT 4 rfl ?_
 refine .dM (λQ=>?_)
 refine .nil (Next.mod rfl ?_)
 refine .sT 5 rfl ?_
 refine .append C (RS.lits (xs:=[r]) rfl (by simp[ca.enc]) (λy m u h=>by rw[List.mem_singleton]at m;subst m;exact a.cJ u h)) (by simp only[List.length_singleton];omega) (λn i e=>?_)
 have i5:=e.ap
 refine .nil (Next.mod rfl ?_)
 refine .tK 6 rfl (.eF rfl) ?_
 refine .sT 7 rfl ?_
 refine .dw rfl rfl ?_
 refine .nil (Next.mod rfl ?_)
 refine RA.nil (by kernel_rfl) ?_
 ·first
   |exact ay (r,n,(p,i,v)) ⟨k,e,a,l⟩ kE.c.c.c (aH [1,2,1,1,1,1])
   |exact ay (r,n,(p,i,v)) ⟨k,e,a,l⟩ kE.c.c.c (aH [0,1,0,0,0,0])
 refine .dM (λQ=>?_)
 refine .nil (Next.mod rfl ?_)
 refine .sT 1 rfl ?_
 refine .lo rfl ?_
 refine .nil (Next.mod rfl ?_)
 refine .sT 5 rfl ?_
 refine .append C (RS.lits (xs:=[r]) rfl (by simp[ca.enc]) (λy m u h=>by rw[List.mem_singleton]at m;subst m;exact a.cJ u h)) (by simp only[List.length_singleton];omega) (λn i e=>?_)
 have i5:=e.ap
 refine .nil (Next.mod rfl ?_)
 refine .tK 6 rfl (.eF rfl) ?_
 refine .sT 7 rfl ?_
 refine .dw rfl rfl ?_
 refine .nil (Next.mod rfl ?_)
 refine RA.nil (by kernel_rfl) ?_
 ·first
   |exact ay (r,n,(p,i,v)) ⟨k,e,a,l⟩ kE.c.c.c (aH [1,2,1,1,1,1])
   |exact ay (r,n,(p,i,v)) ⟨k,e,a,l⟩ kE.c.c.c (aH [0,1,0,0,0,0])
 intro y m
 obtain⟨r,n,⟨p,i,v⟩⟩:=y
 obtain⟨k,e,a,l⟩:=m
 simp only at k e a l⊢
 refine bf ?_
 ·exact aP (J,L++[r],(ng isWord z).2,n,(p,i,v++I)) ⟨k,e,λq hq=>by
   rcases List.mem_append.1 hq with hq|hq
   ·exact(K q hq).mono λb o B=>gE B
   ·rw[List.mem_singleton]at hq
    subst hq
    exact a.mono λb o B=>iE B,by simp only;rw[List.map_append,List.map_cons,List.map_nil,l];exact w,by simp only;omega,by simp only[List.length_append,List.length_singleton];omega⟩ (by simp only;omega) kE.c.c.c (aW.ez (by simp))
 have F:dB uD s=none:=by
  cases hh:dB uD s with
  |none=>rfl
  |some x=>rw[hh]at D;cases D
 rw[F]at A w
 simp only[Option.getD_none]at A w
 refine .exit<|bq<|bz<|bs<|ax<|.sr<|.mo rfl ?_
 refine .cY (R:=R) (tL j _ _ R A xv) (λu i a6=>?_)
 refine .z<|.q (.aL rfl)<|.bH rfl rfl<|.zn ?_
 refine .ret (bk _ (.one (.eI rfl rfl)) ((aH [0,0,0]).trans (aW.ez (H':=[i,To++I]) (by simp[take,bL]))) ?_)
 ·exact⟨_,_,rfl,⟨N,vL,L⟩,rfl,⟨a3,C.sg.mono λb o B=>iE B,λr a=>(K r a).mono λb o B=>gE B⟩,by rw[<-w];rfl,by rw[<-w];exact a6⟩
theorem DU (m : Nat) (F : cv) (T : aB) (hI : dP R m F T) (hn : F.1.length <= 1000000) : Spec prog 99 [pT m] R [T] λ u H' => ∃ T' Ts, H' = [T', Ts] /\ ∃ c : bM, u = .agg c.enc.toArray /\ c.is (sg Ts) /\ c.plain = ⟨(kP isWord (F.1.length + 1) [] F).1, []⟩ /\ dP R m (kP isWord (F.1.length + 1) [] F).2 T' := by
 obtain⟨a2,a5⟩:∃a2,a2=kP isWord (F.1.length+1) [] F:=⟨_,rfl⟩
 rw[<-a5]
 refine Spec.body Tryz.func99 rfl Tryz.results99 Tryz.ntmps99 rfl ?_
 refine .sr ?_
 refine .bN (λY=>?_)
 refine .z ?_
 refine .bN (λZ=>?_)
 refine .zs<|.block ?_
 refine .cx [(0,_),(2,_),(3,_)] (X:=Nat×List cj×cv×Value×(aB×aB×aB)) (λy=>dP R m y.2.2.1 y.2.2.2.2.1/\OS 164 2 cj.enc y.2.2.2.1 y.2.1 y.2.2.2.2.2.1/\(∀r∈y.2.1,r.is (sg y.2.2.2.2.2.2))/\kP isWord y.1 (y.2.1.map cj.plain) y.2.2.1=a2/\y.2.2.1.1.length+1<=y.1/\y.2.1.length+y.2.2.1.1.length<=1000000) (λ_ E=>E) (λy _=>[y.2.2.2.2.1,y.2.2.2.2.2.1,y.2.2.2.2.2.2,bl Z [y.2.2.2.1,sZ] 25,bl Y [sZ,sZ] 25]) (λy=>y.1) (F.1.length+1,[],F,sZ,(T,[],[])) ⟨hI,OS.nil,λr a=>(by cases a),a5.symm,Nat.le_refl _,by simpa using hn⟩ kE.c.c.c (aW.ja.trans (aH [4,0,0,0,0])) (G:=[]) ?_
 rintro⟨f,L,s,V,⟨T,Q,J⟩⟩ ⟨O,I,M,j,hf,hn⟩
 simp only at O I M j hf hn⊢
 have io:=I.ap
 obtain⟨D,rfl⟩:∃D,f=D+1:=⟨f-1,by omega⟩
 rw[kP]at j
 obtain⟨⟨v2,a4,a0⟩,a6⟩:=O
 have O:dP R m s T:=⟨⟨v2,a4,a0⟩,a6⟩
 have i2:=a0.ap
 have b4:PS T (pT m) [v2,.bool s.2]:=PS.of (E:=215) (fr:=(0,0)) (by rw[a4];simp)
 refine .seq<|.seq ?_
 refine bx.cL [(0,_),(2,_),(3,_)] kE.c.c.c (X:=Unit) (λ_=>True) (λ_ E=>(16,.bool (!s.2&&decide (0<s.1.length)))::E) (λ_=>[T,Q,J,bl Z [V,sZ] 25,bl Y [sZ,sZ] 25]) ?_ ?_
 refine .region<|.mo rfl<|.nc rfl<|.fa rfl<|.lo rfl<|.q .not<|.mo rfl ?_
 refine .split (t:=9) rfl (λe=>?_) (λe=>?_)
 refine .gT e<|.mo rfl<|.gT e<|.nc rfl<|.gT e<|.fa rfl<|.gT e<|.lo rfl<|.gT e<|.q (.bJ a0) ?_
 refine .gT e<|.q .gtr<|.q (.aO e) ?_
 refine .nil ?_
 ·first
   |exact ay () trivial (kE.c.c.c.bP rfl (by rw[e];simp)) rH
   |exact ay () trivial (kE.c.c.c.bP rfl (by rw[e];rfl)) rH
 refine .gF e<|.gF e<|.gF e<|.gF e<|.gF e<|.gF e<|.q (.aN e) ?_
 refine .nil ?_
 ·first
   |exact ay () trivial (kE.c.c.c.bP rfl (by rw[e];simp)) rH
   |exact ay () trivial (kE.c.c.c.bP rfl (by rw[e];rfl)) rH
 intro y A
 refine ax ?_
 refine .cond rfl (λH=>?_) λH=>?_
 simp only[Bool.and_eq_true,Bool.not_eq_true',decide_eq_true_eq]at H
 have a1:¬(s.2=true\/s.1=[]):=by
  rintro(h|h)
  ·rw[H.1]at h;cases h
  ·rw[h]at H;simp at H
 rw[if_neg a1]at j
 refine .kn<|.block<|.block<|.sr<|.mo rfl ?_
 refine .cY (R:=R) (ob m s _ R O uC) (λu T3 g=>?_)
 obtain⟨rfl,K⟩:=g
 refine .az rfl ?_
 refine .cond rfl (λS=>?_) λS=>?_
 obtain⟨z,U⟩:=Option.isSome_iff_exists.1 S
 rw[U]at K j
 simp only[Option.getD_some]at K j
 have b1:=(ju U).2.1
 have b0:=(R1 (W:=isWord) z).len
 refine bx.cL [(0,_),(2,_),(3,_)] kE.c.c.c (X:=cj×Value×(aB×aB×aB)) (λy=>dP R m (mC isWord z).2 y.2.2.1/\OS 164 2 cj.enc y.2.1 (L++[y.1]) y.2.2.2.1/\y.1.is (sg y.2.2.2.2)/\y.1.plain=(mC isWord z).1) (λ_ E=>E) (λy=>[y.2.2.1,y.2.2.2.1,y.2.2.2.2,J,bl Z [y.2.1,sZ] 25,bl Y [sZ,sZ] 25]) ?_ ?_
 refine .dp [3,5,7] mixed ?_
 refine .tK 0 rfl (.eF rfl) ?_
 refine .tO 2 rfl .move ?_
 refine RA.je 1 3 rfl rfl (by kernel_rfl) rfl ?_ ?_
 refine .lo rfl ?_
 refine .nil (Next.sub ?_)
 refine .sT 3 rfl ?_
 refine .call [0] ((Cc (R:=R) m z _ K (by omega)).weaken cU) (λu H' g=>?_)
 obtain⟨n,C,rfl,r,rfl,a,w,k⟩:=g
 have ir:bZ r.enc:=⟨a.cJ⟩
 conv=>arg 8;simp only[rest,bL,List.cons_append,List.nil_append]
 have a8:One r.v:=a.rs.ap
 refine .nil (Next.mod rfl ?_)
 refine .sT 4 rfl ?_
 refine .dM (λa3=>?_)
 refine .nil (Next.mod rfl ?_)
 refine .sT 5 rfl ?_
 refine .append I (RS.lits (xs:=[r]) rfl (by simp[cj.enc]) (λy A u g=>by rw[List.mem_singleton]at A;subst A;exact a.cJ u g)) (by simp only[List.length_singleton];omega) (λB l i=>?_)
 have i5:=i.ap
 refine .nil (Next.mod rfl ?_)
 refine .tK 6 rfl (.eF rfl) ?_
 refine .sT 7 rfl ?_
 refine .dw rfl rfl ?_
 refine .nil (Next.mod rfl ?_)
 refine RA.nil (by kernel_rfl) ?_
 ·first
   |exact ay (r,B,(n,l,C)) ⟨k,i,a,w⟩ kE.c.c.c (aH [1,2,1,1,1,1])
   |exact ay (r,B,(n,l,C)) ⟨k,i,a,w⟩ kE.c.c.c (aH [0,1,0,0,0,0])
 refine .call [0] ((Cc (R:=R) m z _ K (by omega)).weaken cU) (λu H' g=>?_)
 obtain⟨n,C,rfl,r,rfl,a,w,k⟩:=g
 have ir:bZ r.enc:=⟨a.cJ⟩
 conv=>arg 8;simp only[rest,bL,List.cons_append,List.nil_append]
 have a8:One r.v:=a.rs.ap
 refine .nil (Next.mod rfl ?_)
 refine RA.je 1 4 rfl rfl (by kernel_rfl) rfl ?_ ?_
 refine .lo rfl ?_
 refine .nil (Next.mod rfl ?_)
 refine .sT 4 rfl ?_
 refine .dM (λa3=>?_)
 refine .nil (Next.mod rfl ?_)
 refine .sT 5 rfl ?_
 refine .append I (RS.lits (xs:=[r]) rfl (by simp[cj.enc]) (λy A u g=>by rw[List.mem_singleton]at A;subst A;exact a.cJ u g)) (by simp only[List.length_singleton];omega) (λB l i=>?_)
 have i5:=i.ap
 refine .nil (Next.mod rfl ?_)
 refine .tK 6 rfl (.eF rfl) ?_
 refine .sT 7 rfl ?_
 refine .dw rfl rfl ?_
 refine .nil (Next.mod rfl ?_)
 refine RA.nil (by kernel_rfl) ?_
 ·first
   |exact ay (r,B,(n,l,C)) ⟨k,i,a,w⟩ kE.c.c.c (aH [1,2,1,1,1,1])
   |exact ay (r,B,(n,l,C)) ⟨k,i,a,w⟩ kE.c.c.c (aH [0,1,0,0,0,0])
 refine .dM (λa3=>?_)
 refine .nil (Next.mod rfl ?_)
 refine .sT 1 rfl ?_
 refine .lo rfl ?_
 refine .nil (Next.mod rfl ?_)
 refine .sT 5 rfl ?_
 refine .append I (RS.lits (xs:=[r]) rfl (by simp[cj.enc]) (λy A u g=>by rw[List.mem_singleton]at A;subst A;exact a.cJ u g)) (by simp only[List.length_singleton];omega) (λB l i=>?_)
 have i5:=i.ap
 refine .nil (Next.mod rfl ?_)
 refine .tK 6 rfl (.eF rfl) ?_
 refine .sT 7 rfl ?_
 refine .dw rfl rfl ?_
 refine .nil (Next.mod rfl ?_)
 refine RA.nil (by kernel_rfl) ?_
 ·first
   |exact ay (r,B,(n,l,C)) ⟨k,i,a,w⟩ kE.c.c.c (aH [1,2,1,1,1,1])
   |exact ay (r,B,(n,l,C)) ⟨k,i,a,w⟩ kE.c.c.c (aH [0,1,0,0,0,0])
 intro y A
 obtain⟨r,B,⟨n,l,C⟩⟩:=y
 obtain⟨k,i,a,w⟩:=A
 simp only at k i a w⊢
 refine bf (bf ?_)
 ·first
   |exact aP (D,L++[r],(mC isWord z).2,B,(n,l,C++J)) ⟨k,i,λq hq=>by
     rcases List.mem_append.1 hq with hq|hq
     ·exact(M q hq).mono λb o p=>gE p
     ·rw[List.mem_singleton]at hq
      subst hq
      exact a.mono λb o p=>iE p,by simp only;rw[List.map_append,List.map_cons,List.map_nil,w];exact j,by simp only;omega,by simp only[List.length_append,List.length_singleton];omega⟩ (by simp only;omega) kE.c.c.c (aW.ez (by simp))
   |exact aP (D,L,jq,V,(_,Q,J)) ⟨dP.nil,I,M,by
     obtain⟨N,rfl⟩:∃N,D=N+1:=⟨D-1,by omega⟩
     simp only
     rw[kP,if_pos (.inl rfl)]
     exact j,by simp only[jq,List.length_nil];omega,by simp only[jq,List.length_nil];omega⟩ (by simp only;omega) (((kE.d rfl).d rfl).d rfl) rH
 have U:dB uC s=none:=by
  cases hh:dB uC s with
  |none=>rfl
  |some x=>rw[hh]at S;cases S
 rw[U]at K j
 simp only[Option.getD_none]at K j
 refine .sr<|.mo rfl ?_
 refine .cY (R:=R) (pO m s _ K uE (by simp)) (λu n g=>?_)
 obtain⟨rfl,k⟩:=g
 refine .az rfl<|.cS<|.region<|.mo rfl ?_
 obtain⟨⟨v3,rfl,a7⟩,a9⟩:=k
 have i3:=a7.ap
 refine .cY (R:=R) (s8 m v3 s.2 R) (λu l g=>?_)
 subst g
 refine .nil<|bf<|bf ?_
 ·first
   |exact aP (D,L++[r],(mC isWord z).2,B,(n,l,C++J)) ⟨k,i,λq hq=>by
     rcases List.mem_append.1 hq with hq|hq
     ·exact(M q hq).mono λb o p=>gE p
     ·rw[List.mem_singleton]at hq
      subst hq
      exact a.mono λb o p=>iE p,by simp only;rw[List.map_append,List.map_cons,List.map_nil,w];exact j,by simp only;omega,by simp only[List.length_append,List.length_singleton];omega⟩ (by simp only;omega) kE.c.c.c (aW.ez (by simp))
   |exact aP (D,L,jq,V,(_,Q,J)) ⟨dP.nil,I,M,by
     obtain⟨N,rfl⟩:∃N,D=N+1:=⟨D-1,by omega⟩
     simp only
     rw[kP,if_pos (.inl rfl)]
     exact j,by simp only[jq,List.length_nil];omega,by simp only[jq,List.length_nil];omega⟩ (by simp only;omega) (((kE.d rfl).d rfl).d rfl) rH
 have a1:s.2=true\/s.1=[]:=by
  cases hs:s.2 with
  |true=>exact .inl rfl
  |false=>
   rw[hs]at H
   simp at H
   exact .inr H
 rw[if_pos a1]at j
 refine .exit<|bq<|bz<|bs<|ax<|.sr<|.q (.aL rfl)<|.bH rfl rfl<|.zn ?_
 refine .ret (bk _ (.one (.eI rfl rfl)) ((aH [0,0,0]).trans (aW.ez (H':=[T,Q++J]) (by simp[take,bL]))) ?_)
 ·exact⟨_,_,rfl,⟨V,sZ,L,[]⟩,rfl,⟨I.sg.mono λb o p=>iE p,RS.gL,λr a=>(M r a).mono λb o p=>gE p,λr a=>(by cases a)⟩,by rw[<-j];rfl,by rw[<-j];exact O⟩
theorem O4(v:Value)(L:List eQ)(h:RS R 3 eQ.enc v L)(m:∀t∈L,gm t):Spec prog 98 [v] R [] λu H'=>u=.bool false/\H'=[]:=by
 have r:=h.ap
 have p:=h.le
 refine Spec.body Tryz.func98 rfl Tryz.results98 Tryz.ntmps98 rfl ?_
 refine .sr<|.ag rfl<|.z<|.ag rfl<|.zs<|.sr<|.mo rfl<|.q (.bJ h) ?_
 refine .mo rfl<|.zn<|.block ?_
 refine .cx [(6,_),(7,_)] (X:=Nat) (λi=>i<=L.length) (λi E=>(8,iN i)::(3,.int .i64 0)::E) (λ_ G=>G) (λi=>L.length-i) 0 (Nat.zero_le _) kE.c.c.c.c rH ?_
 rintro i o
 refine .sr<|.q .lss<|.zs ?_
 refine .cond rfl (λg=>?_) λg=>?_
 have k:i<L.length:=cr g
 obtain⟨t,l⟩:=bR k
 have d:=m t (aZ l)
 refine .kn<|.seq<|.block<|.sr ?_
 refine .bC i h l (λs=>?_)
 refine .q (.aL rfl) ?_
 refine .bN (λf=>?_)
 refine .bH rfl rfl<|.zs<|.block<|.seq ?_
 refine bx.cL [(3,_),(5,_),(6,_),(7,_),(8,_)] kE.c.c.c.c.c (X:=Unit) (λ_=>True) (λ_ E=>(12,.bool false)::E) (λ_=>[bl f t.enc 291]) ?_ ?_
 refine .region<|.fa rfl<|.lo rfl<|.q .bK<|.mo rfl ?_
 refine .split (t:=16) rfl (λa=>?_) (λa=>?_)
 refine .gT a<|.fa rfl<|.gT a<|.lo rfl<|.gT a<|.q .dW<|.q (.aO a) ?_
 refine .ag rfl<|.nil ?_
 ·exact ay () trivial (kE.c.c.c.c.c.bP rfl (by unfold gm at d;have e:pM=(⟨#[40]⟩:ByteArray):=rfl;grind)) rH
 refine .gF a<|.gF a<|.gF a<|.q (.aN a) ?_
 refine .ag rfl<|.nil ?_
 ·exact ay () trivial (kE.c.c.c.c.c.bP rfl (by unfold gm at d;have e:pM=(⟨#[40]⟩:ByteArray):=rfl;grind)) rH
 intro y n
 refine ax<|.cS<|.seq ?_
 refine bx.cL [(3,_),(6,_),(7,_),(8,_)] kE.c.c.c.c (X:=Unit) (λ_=>True) (λ_ E=>(23,.bool false)::E) (λ_=>[bl f t.enc 291]) ?_ ?_
 refine .region<|.fa rfl<|.lo rfl<|.q .bK<|.mo rfl ?_
 refine .split (t:=27) rfl (λb=>?_) (λb=>?_)
 refine .gT b<|.fa rfl<|.gT b<|.lo rfl<|.gT b<|.q .dW<|.q (.aO b) ?_
 refine .ag rfl<|.nil ?_
 ·exact ay () trivial (kE.c.c.c.c.bP rfl (by unfold gm at d;have e:qH=(⟨#[41]⟩:ByteArray):=rfl;grind)) rH
 refine .gF b<|.gF b<|.gF b<|.q (.aN b) ?_
 refine .ag rfl<|.nil ?_
 ·exact ay () trivial (kE.c.c.c.c.bP rfl (by unfold gm at d;have e:qH=(⟨#[41]⟩:ByteArray):=rfl;grind)) rH
 intro y n
 refine ax<|.cS<|.skip<|bf<|ax<|.sr<|.mo rfl<|.q .gtr<|.zn ?_
 refine .cond rfl (λj=>?_) λj=>?_
 ·simp at j
 refine .skip<|bf<|ax<|.region ?_
 refine .ia (i+1) .add ?_
 refine .mo rfl<|.nil ?_
 ·exact aP (i+1) k (by omega) kE.c.c.c.c (aW.none _)
 refine .exit<|bq<|bz<|bs<|ax<|.sr<|.az rfl ?_
 refine .ret (bk _ (.one (.tmp rfl)) (aW.none _) ?_)
 ·exact⟨rfl,rfl⟩
theorem PE(s:ByteArray)(D:s.size<=16384)(g:Pl s)(L:List eQ)(r:rB s=some L)(l:∀t∈L,gm t)(y:L.length<=1000000)(C:List Sp)(n:kP isWord (L.length+1) [] (L,false)=(C,([],false)))(A:(⟨C,[]⟩:Cf).jL isWord=false):
  Spec prog 47 [.string s] R [] λu H'=>∃T,H'=[T]/\∃c:bM,u=.tuple [.agg c.enc.toArray,.int .i64 0].toArray/\c.is (sg T)/\c.plain=⟨C,[]⟩:=by
 refine Spec.body Tryz.func47 rfl Tryz.results47 Tryz.ntmps47 rfl ?_
 refine .sr ?_
 refine .bN (λH=>?_)
 refine .ag rfl<|.z<|.mo rfl ?_
 refine .cK (OB s D g L r _) (λu G a=>?_)
 obtain⟨v,rfl,e⟩:=a
 obtain⟨E,m,rfl,_⟩:=e.shape
 refine .mo rfl<|.q .extract<|.q .extract<|.ag rfl<|.ag rfl<|.zs<|.block<|.sr<|.mo rfl<|.q .dS<|.az rfl ?_
 refine .cond rfl (λj=>?_) λj=>?_
 ·simp at j
 refine .sr<|.mo rfl ?_
 refine .ba (O4 _ L (e.sg.nt) l) (λu a=>?_)
 subst a
 refine .az rfl<|.cS<|.skip<|bf<|ax<|.sr<|.mo rfl ?_
 refine .q .cN ?_
 refine .bW rfl (λi=>?_)
 refine .ag rfl<|.z<|.mo rfl ?_
 refine .call [0] (DU (T := rL i (.slice E L.length m) false) i (L, false) ⟨⟨_, rfl, e.rs λ p g => .inr (by simp [rest, bL, g])⟩, l⟩ y) (λ u H' a => ?_)
 obtain⟨F,h,rfl,c,rfl,d,f,k⟩:=a
 rw[n]at f k
 obtain⟨⟨O,rfl,B⟩,_⟩:=k
 have J:=B.ap
 have K:One c.vs:=RS.ap d.ss
 have M:One c.vc:=RS.ap d.sc
 have N:bZ c.enc:=⟨d.cJ⟩
 conv=>arg 8;simp only[rest,bL,List.cons_append,List.nil_append]
 refine .bN (λI=>?_)
 refine .bH rfl rfl<|.zs<|.block<|.sr<|.mo rfl<|.nc rfl<|.fa rfl<|.lo rfl<|.az rfl<|.cS<|.sr<|.q (.aL rfl) ?_
 refine .ba (CJ c _ (d.mono λb o w=>.inr (by have x:(b,o)∈h:=w;simp[x]))) (λu a=>?_)
 subst a
 rw[f,A]
 refine .q .not<|.az rfl<|.cS<|.skip<|bf<|ax<|.sr<|.q (.aL rfl)<|.bH rfl rfl<|.az rfl ?_
 refine .ret (bk _ (.two (.eI rfl rfl) (.tmp rfl)) (aH [2]) ?_)
 ·exact⟨h,rfl,c,rfl,d,f⟩
end
def pS(c:Cf)(k:bc)(l:List Sub):List ByteArray:=((l.filter (allowed c k)).filter λs=> !decide (s.us=⟨#[]⟩)).map (·.us)
def pG(c:Cf)(k:bc)(l:List Sub):List Sub:=(l.filter (allowed c k)).filter λs=>decide (s.us=⟨#[]⟩)
theorem SL{c:Cf}{k:bc}{l:List Sub}{i:Nat}{s:Sub}(h:l[i]? =some s):pS c k (l.take (i+1))=pS c k (l.take i)++if allowed c k s=true/\s.us≠⟨#[]⟩then [s.us]else []:=by
 rw[dT h]
 unfold pS
 rw[List.filter_append,List.filter_append,List.map_append]
 congr 1
 by_cases a:allowed c k s=true<;>by_cases b:s.us=⟨#[]⟩<;>simp[a,b]
theorem RE{c:Cf}{k:bc}{l:List Sub}{i:Nat}{s:Sub}(h:l[i]? =some s):pG c k (l.take (i+1))=pG c k (l.take i)++if allowed c k s=true/\s.us=⟨#[]⟩then [s]else []:=by
 rw[dT h]
 unfold pG
 rw[List.filter_append,List.filter_append]
 congr 1
 by_cases a:allowed c k s=true<;>by_cases b:s.us=⟨#[]⟩<;>simp[a,b]
theorem XC.Cm{x:XC}{R:aD}(h:x.ok R)(k:bc):(x.sub k).length<=512:=by
 unfold XC.sub
 split
 ·rw[List.length_map]
  have a:=List.length_filter_le (λy:bB=>y.there x.rev&&decide (y.t.cQ=k)) x.L
  have b:=h.l.pm.length_eq
  have c:=h.len
  omega
 ·simp
theorem Cn(x:XC)(R:aD)(h:x.ok R)(xb:Nat)(va U:Value)(e:Nat) [iv:One va] [ip:One U] [pc:PC R (pT xb) (x.cells va U e)](k:bc):
  Spec prog 145 [pT xb,.agg [.string k.os,.string k.oi].toArray,.string k.rel] R [] λu H'=>∃Tu Ts,H'=[Tu,Ts]/\∃wu ws,u=.tuple [wu,ws].toArray/\OS 9 1 hZ wu (iH x.c.plain x.sub k) Tu/\OS 117 4 Sub.enc ws (fP x.c.plain x.sub k) Ts:=by
 have Z:=C8 x.c R h.c
 have i1:One x.c.vs:=RS.ap h.c.ss
 have i2:One x.c.vc:=RS.ap h.c.sc
 have i3:=h.n.one
 obtain⟨ps,vf,vr,Mf,Mr,W⟩:=h.s
 have b3:=XC.Cm h k
 have hl:=h.l
 have b1:=h.len
 have Y:iH x.c.plain x.sub k=pS x.c.plain k (x.sub k):=rfl
 have V:fP x.c.plain x.sub k=pG x.c.plain k (x.sub k):=rfl
 have a4:x.sub k=if scan x.S x.rev then(x.L.filter λy=>y.there x.rev&&decide (y.t.cQ=k)).map (·.t.sub)else []:=rfl
 have a6:∀i,(pS x.c.plain k ((x.sub k).take i)).length<=512:=λi=>by
  unfold pS
  rw[List.length_map]
  refine Nat.le_trans (List.length_filter_le _ _) (Nat.le_trans (List.length_filter_le _ _) ?_)
  rw[List.length_take];omega
 have a2:∀i,(pG x.c.plain k ((x.sub k).take i)).length<=512:=λi=>by
  unfold pG
  refine Nat.le_trans (List.length_filter_le _ _) (Nat.le_trans (List.length_filter_le _ _) ?_)
  rw[List.length_take];omega
 have a5:=λ(l:List Sub) (i:Nat) (s:Sub) (h:l[i]? =some s)=>SL (c:=x.c.plain) (k:=k) h
 have a3:=λ(l:List Sub) (i:Nat) (s:Sub) (h:l[i]? =some s)=>RE (c:=x.c.plain) (k:=k) h
 rw[Y,V]
 generalize hL:x.sub k=l at *
 refine Spec.body Tryz.func145 rfl Tryz.results145 Tryz.ntmps145 rfl ?_
 refine .sr ?_
 refine .bW rfl (λb4=>?_)
 refine .ag rfl<|.ag rfl<|.z<|.ag rfl<|.z<|.ag rfl<|.zs<|.seq<|.dp [] mixed ?_
 refine .tO 0 rfl .move<|.tO 1 rfl (.nilCheck rfl)<|.tO 2 rfl (.fieldAddr rfl)<|.tO 3 rfl (.cE rfl)<|.tO 4 rfl (.aL rfl)<|.tO 5 rfl .move<|.tO 6 rfl .move<|.tO 7 rfl (.nilCheck rfl)<|.tO 8 rfl (.fieldAddr rfl)<|.tO 9 rfl (.cE rfl)<|.tO 12 rfl .move ?_
 refine .sT 10 rfl ?_
 refine .cK ((SV.Sd (W.mono λb o N=>.inl N) (by omega) k x.rev hl).weaken λb o N=>N) (λu a7 J=>?_)
 rw[<-a4]at J
 have iu:=J.ap
 refine .nil (Next.sub ?_)
 refine .tO 11 rfl (.dN J) ?_
 refine RA.nil (by kernel_rfl) ?_
 refine ax<|.block ?_
 refine .cx [(0,_),(2,_),(4,_),(22,_),(23,_)] (X:=Nat×Value×Value×aB×aB) (λy=>y.1<=l.length/\OS 9 1 hZ y.2.1 (pS x.c.plain k (l.take y.1)) y.2.2.2.1/\OS 117 4 Sub.enc y.2.2.1 (pG x.c.plain k (l.take y.1)) y.2.2.2.2) (λy E=>(24,iN y.1)::(8,y.2.1)::(9,y.2.2.1)::E) (λy G=>y.2.2.2.1::y.2.2.2.2::G) (λy=>l.length-y.1) (0,sZ,sZ,[],[]) ⟨Nat.zero_le _,OS.nil,OS.nil⟩ kE.c.c.c.c.c.c.c.c aW.ja ?_
 rintro⟨i,F,D,Tu,Ts⟩ ⟨hi,f,d⟩
 simp only at hi f d⊢
 have b6:=f.ap
 have b7:=d.ap
 refine .sr<|.q .lss<|.zs ?_
 refine .cond rfl (λK=>?_) λK=>?_
 have g:i<l.length:=cr K
 obtain⟨s,Q⟩:=bR g
 have b5:=a6 i
 have b2:=a2 i
 have m:=a5 l i s Q
 have j:=a3 l i s Q
 obtain⟨a,v,p,r⟩:=s
 refine .kn<|.seq<|.block<|.sr ?_
 refine .bo i J Q (λb8=>?_)
 refine .q (.aL rfl) ?_
 refine .bN (λa8=>?_)
 refine .bH rfl rfl<|.zn<|.block<|.seq ?_
 refine .dU 8 mixed (by kernel_rfl) ?_
 conv=>arg 6;dsimp only[List.take]
 refine .mo rfl<|.nc rfl<|.fa rfl<|.q (.loadT rfl) ?_
 refine .q (.aL rfl)<|.mo rfl<|.q (.aL rfl) ?_
 refine .q .cN ?_
 refine .nil ?_
 refine .ba ((Z ⟨k.os,k.oi,k.rel,a,v,p,r⟩).weaken cU) (λw hw=>?_)
 subst hw
 refine .q .dS<|.az rfl ?_
 refine .cond rfl (λH=>?_) λH=>?_
 have a1:allowed x.c.plain k ⟨a,v,p,r⟩=false:=by
  cases hq:allowed x.c.plain k ⟨a,v,p,r⟩with
  |false=>rfl
  |true=>
   have:allowed x.c.plain (⟨k.os,k.oi,k.rel,a,v,p,r⟩:aC).cQ (⟨k.os,k.oi,k.rel,a,v,p,r⟩:aC).sub=true:=hq
   rw[this]at H;simp at H
 rw[if_neg (by rw[a1];simp),List.append_nil]at m j
 refine .skip<|bf<|bf<|ax<|.region ?_
 refine .ia (i+1) .add ?_
 refine .mo rfl<|.nil ?_
 ·first
   |exact aP (i+1,C,D,B,Ts) ⟨g,A,by rw[j];exact d⟩ (by simp only;omega) kE.c.c.c.c.c.c.c.c (aW.drop [0,0] _)
   |exact aP (i+1,F,C,Tu,B) ⟨g,by rw[m];exact f,A⟩ (by simp only;omega) kE.c.c.c.c.c.c.c.c (aW.drop [0,0] _)
   |exact aP (i+1,F,D,Tu,Ts) ⟨g,by rw[m];exact f,by rw[j];exact d⟩ (by simp only;omega) kE.c.c.c.c.c.c.c.c (aW.drop [0] _)
 have T:allowed x.c.plain k ⟨a,v,p,r⟩=true:=by
  cases hq:allowed x.c.plain k ⟨a,v,p,r⟩with
  |true=>rfl
  |false=>
   have:allowed x.c.plain (⟨k.os,k.oi,k.rel,a,v,p,r⟩:aC).cQ (⟨k.os,k.oi,k.rel,a,v,p,r⟩:aC).sub=false:=hq
   rw[this]at H;simp at H
 refine .sr<|.fa rfl<|.lo rfl<|.q .gv<|.az rfl ?_
 refine .cond rfl (λM=>?_) λM=>?_
 have I:a≠⟨#[]⟩:=by simpa using M
 rw[if_pos ⟨T,I⟩]at m
 rw[if_neg (λO=>I O.2),List.append_nil]at j
 refine .region<|.mo rfl<|.fa rfl<|.lo rfl ?_
 refine .jT (λb0=>?_)
 refine .append f (RS.lits (xs:=[a]) rfl (by simp[hZ]) (by simp[hZ,ap])) (by simp only[List.length_singleton];omega) (λC B A=>?_)
 rw[<-m]at A
 refine .ag rfl<|.nil<|bf<|bf<|ax<|.region ?_
 refine .ia (i+1) .add ?_
 refine .mo rfl<|.nil ?_
 ·first
   |exact aP (i+1,C,D,B,Ts) ⟨g,A,by rw[j];exact d⟩ (by simp only;omega) kE.c.c.c.c.c.c.c.c (aW.drop [0,0] _)
   |exact aP (i+1,F,C,Tu,B) ⟨g,by rw[m];exact f,A⟩ (by simp only;omega) kE.c.c.c.c.c.c.c.c (aW.drop [0,0] _)
   |exact aP (i+1,F,D,Tu,Ts) ⟨g,by rw[m];exact f,by rw[j];exact d⟩ (by simp only;omega) kE.c.c.c.c.c.c.c.c (aW.drop [0] _)
 have I:a=⟨#[]⟩:=by simpa using M
 rw[if_neg (λO=>O.2 I),List.append_nil]at m
 rw[if_pos ⟨T,I⟩]at j
 refine .region<|.mo rfl<|.q (.aL rfl) ?_
 refine .dM (λa9=>?_)
 refine .append d (RS.lits (xs:=[(⟨a,v,p,r⟩:Sub)]) rfl (by simp[Sub.enc]) (by simp[Sub.enc,ap])) (by simp only[List.length_singleton];omega) (λC B A=>?_)
 rw[<-j]at A
 refine .ag rfl<|.nil<|bf<|bf<|ax<|.region ?_
 refine .ia (i+1) .add ?_
 refine .mo rfl<|.nil ?_
 ·first
   |exact aP (i+1,C,D,B,Ts) ⟨g,A,by rw[j];exact d⟩ (by simp only;omega) kE.c.c.c.c.c.c.c.c (aW.drop [0,0] _)
   |exact aP (i+1,F,C,Tu,B) ⟨g,by rw[m];exact f,A⟩ (by simp only;omega) kE.c.c.c.c.c.c.c.c (aW.drop [0,0] _)
   |exact aP (i+1,F,D,Tu,Ts) ⟨g,by rw[m];exact f,by rw[j];exact d⟩ (by simp only;omega) kE.c.c.c.c.c.c.c.c (aW.drop [0] _)
 refine .exit<|bq<|bz<|bs<|ax<|.sr<|.mo rfl<|.mo rfl<|.ag rfl<|.az rfl ?_
 refine .ret (bk _ (.two (.tmp rfl) (.tmp rfl)) (aH [0,0]) ?_)
 ·have a0:i=l.length:=by have:=bA K;omega
  subst a0
  rw[List.take_length]at f d
  exact⟨Tu,Ts,by simp[take,bL],F,D,rfl,f,d⟩
structure me(x:XC)(R:aD)(ps:List aF)(va:Value)(ks:List bc)(ps':List aF)(vp:Value)(Ta To:aB)(vo:Value)(Tl:aB):Prop where
 l:OS 3 1 cW vo (dq x.c.plain x.num (ps.map aF.plain) ks).2 Tl
 eq:ps'.map aF.plain=(dq x.c.plain x.num (ps.map aF.plain) ks).1
 at_:jg ps' va Ta
 o:OS 95 8 aF.enc vp ps' To
 gr:∃l,ps'=ps++l/\∀p∈l,p.is R
theorem me.len{x:XC}{R:aD}{ps a:List aF}{va g f:Value}{ks:List bc}{b e d:aB}(h:me x R ps va ks a g b e f d):a.length=(dq x.c.plain x.num (ps.map aF.plain) ks).1.length:=by rw[<-h.eq,List.length_map]
theorem me.next{x:XC}{R:aD}{ps d b:List aF}{va D s C r:Value}{ks:List bc}{i:Nat}{k:bc}{t v f m u j:aB}(h:me x R ps va (ks.take i) d D t v C u)(z:ks[i]? =some k)
  (e:b.map aF.plain=(eB x.c.plain x.num (d.map aF.plain) k).1)(a:jg b va f)(o:OS 95 8 aF.enc s b m)(g:∃l,b=d++l/\∀p∈l,p.is R)
  (q:OS 3 1 cW r ((dq x.c.plain x.num (ps.map aF.plain) (ks.take i)).2++[(eB x.c.plain x.num (d.map aF.plain) k).2]) j):me x R ps va (ks.take (i+1)) b s f m r j:=by
 have n:=xS (c:=x.c.plain) (num:=x.num) z (ps.map aF.plain)
 rw[h.eq]at e q
 refine⟨by rw[n];exact q,by rw[n];exact e,a,o,?_⟩
 obtain⟨A,rfl,w⟩:=h.gr
 obtain⟨B,rfl,y⟩:=g
 refine⟨A++B,by rw[List.append_assoc],λp hp=>?_⟩
 rcases List.mem_append.1 hp with hp|hp
 ·exact w p hp
 ·exact y p hp
def xE(x:XC)(R:aD)(xb:Nat)(ps:List aF)(e:Nat)(va:Value)(ks:List bc)(u:Value)(H':aV):Prop:=∃ps' vp Ta To Tl,H'=[Tl,x.iW xb va vp e,Ta,To]/\me x R ps va ks ps' vp Ta To u Tl
theorem Ow(x:XC)(R:aD)(h:x.ok R)(xb:Nat)(ps:List aF)(e:Nat)(va j:Value)(m p:aB)(hA:jg ps va m)(hO:OS 95 8 aF.enc j ps p)(k:bc)(H:List Value)(n:Nd) [ie:bZ H]
  (hl:(dq x.c.plain x.num (ps.map aF.plain) (ej x.c.plain x.sub k n)).1.length<=3000000)(b1:H.length=5):
  Spec prog 146 [pT xb,.agg (.string k.os:: .string k.oi:: .string k.rel::H).toArray,.agg n.enc.toArray] R [x.iW xb va j e,m,p] (xE x R xb ps e va (ej x.c.plain x.sub k n)):=by
 obtain⟨x3,x4,x5,x6,x7,rfl⟩:∃a b c d f,H=[a,b,c,d,f]:=by
  match H,b1 with
  |[a,b,c,d,f],_=>exact⟨a,b,c,d,f,rfl⟩
 have c9:bZ (Value.string k.os:: .string k.oi:: .string k.rel::[x3,x4,x5,x6,x7]):=⟨λu hu=>by
  simp only[List.mem_cons,List.not_mem_nil,or_false]at hu
  rcases hu with rfl|rfl|rfl|hu
  ·rfl
  ·rfl
  ·rfl
  ·exact ie.h u (by simpa using hu)⟩
 have a9:=Cn x
 have a4:=Be x R h xb
 have i1:One x.c.vs:=RS.ap h.c.ss
 have i2:One x.c.vc:=RS.ap h.c.sc
 have i3:=h.n.one
 obtain⟨M0,b0,_⟩:=id hA
 have d0:=b0.one
 have d1:=hO.ap
 have a0:∀ks u H',xE x R xb ps e va ks u H'↔∃ps' j m p w,H'=[w,x.iW xb va j e,m,p]/\me x R ps va ks ps' j m p u w:=λ_ _ _=>Iff.rfl
 have r:ej x.c.plain x.sub k n=if n.kind=1 then(fP x.c.plain x.sub k).map λs=>⟨s.ss,s.si,s.sr⟩
  else if n.kind=3 then(fP x.c.plain x.sub ⟨k.os,k.oi,n.rel⟩).map λs=>⟨s.ss,s.si,n.dy⟩
  else if n.kind=2 then [⟨k.os,k.oi,n.rel⟩]
  else []:=rfl
 generalize c8:ej x.c.plain x.sub k n=ks at *
 have a6:=λi=>xQ (c:=x.c.plain) (num:=x.num) ks i (ps.map aF.plain)
 have b2:=C1 (c:=x.c.plain) (num:=x.num) ks (ps.map aF.plain)
 rw[List.length_map]at b2
 have a7:=λi=>sE (c:=x.c.plain) (num:=x.num) (ks.take i) (ps.map aF.plain)
 have a8:∀k',(fP x.c.plain x.sub k').length<=512:=λk'=>by
  unfold fP fitting
  exact Nat.le_trans (List.length_filter_le _ _) (Nat.le_trans (List.length_filter_le _ _) (XC.Cm h k'))
 have S:me x R ps va (ks.take 0) ps j m p (sZ) []:=⟨OS.nil,by simp[dq],hA,hO,[],by simp,by simp⟩
 refine Spec.gO (H':=[[],x.iW xb va j e,m,p]) (by simp) ?_
 refine Spec.body Tryz.func146 rfl Tryz.results146 Tryz.ntmps146 rfl ?_
 refine .sr ?_
 refine .bW rfl (λb4=>?_)
 refine .bW rfl (λb5=>?_)
 refine .ag rfl<|.z<|.ag rfl<|.zs<|.sr<|.fa rfl<|.lo rfl<|.zn<|.block<|.sr<|.q .bK<|.az rfl ?_
 refine .cond rfl (λh1=>?_) λh1=>?_
 have M:n.kind=1:=cm h1
 rw[if_pos M]at r
 have b9:=a8 k
 refine .sr<|.mo rfl<|.fa rfl<|.q (.loadT rfl) ?_
 refine .fa rfl<|.lo rfl ?_
 refine .call [] (a9 _ (h.mono λb o hb=>.inl hb) xb va j e (pc:=PC.of (E:=190) (fr:=(0,0)) (.inr (by simp[rest]))) k) (λu H' hu=>?_)
 obtain⟨Tu,Ts,rfl,wu,ws,rfl,a1,t⟩:=hu
 have c1:=a1.ap
 have c2:=t.ap
 conv=>arg 8;simp only[rest,bL,List.cons_append,List.nil_append]
 refine .mo rfl<|.q .extract<|.q .extract<|.ag rfl<|.ag rfl<|.z<|.mo rfl<|.q (.dN t) ?_
 refine .mo rfl<|.zn<|.block ?_
 refine .cx [(0,_),(29,_),(30,_)] (X:=Nat×List aF×Value×aB×aB×Value×aB) (λy=>y.1<=(fP x.c.plain x.sub k).length/\me x R ps va (ks.take y.1) y.2.1 y.2.2.1 y.2.2.2.1 y.2.2.2.2.1 y.2.2.2.2.2.1 y.2.2.2.2.2.2) (λy E=>(31,iN y.1)::(7,y.2.2.2.2.2.1)::E) (G:=[Ts,bl b5 n.enc 199,bl b4 (Value.string k.os:: .string k.oi:: .string k.rel::[x3,x4,x5,x6,x7]) 95]) (λy G=>y.2.2.2.2.2.2::x.iW xb va y.2.2.1 e::y.2.2.2.1::y.2.2.2.2.1::G) (λy=>(fP x.c.plain x.sub k).length-y.1) (0,ps,j,m,p,sZ,[]) ⟨Nat.zero_le _,S⟩ kE.c.c.c.c.c (aH [4,4,4,4,1,1,1]) ?_
 rintro⟨i,v,Y,B,D,vo,w⟩ ⟨hi,g⟩
 simp only at hi g⊢
 have io:=g.l.ap
 have c0:=g.o.ap
 have b8:=g.len
 have b7:=a6 i
 have a3:=a7 i
 rw[List.length_take]at a3
 refine .sr<|.q .lss<|.zs ?_
 refine .cond rfl (λh2=>?_) λh2=>?_
 have O:i<(fP x.c.plain x.sub k).length:=by have:=cm h2;omega
 obtain⟨s,Q⟩:=bR O
 have N:ks[i]? =some ⟨s.ss,s.si,s.sr⟩:=by rw[r,List.getElem?_map,Q];rfl
 obtain⟨us,W,V,sr⟩:=s
 refine .kn<|.seq<|.block<|.sr ?_
 refine .bo i t Q (λd2=>?_)
 refine .q (.aL rfl) ?_
 refine .bN (λc3=>?_)
 refine .bH rfl rfl<|.zn<|.region<|.mo rfl<|.mo rfl<|.fa rfl<|.q (.loadT rfl) ?_
 refine .fa rfl<|.lo rfl ?_
 refine .call [2,2,2] ((a4 v e va Y B D g.at_ g.o (by omega) ⟨W,V,sr⟩).weaken cU) (λu H' hu=>?_)
 obtain⟨U,Z,C,F,rfl,rfl,K,I,J,L⟩:=hu
 conv=>arg 8;simp only[rest,bL,List.cons_append,List.nil_append]
 refine .jT (λc5=>?_)
 refine .append g.l (RS.lits (xs:=[(eB x.c.plain x.num (v.map aF.plain) ⟨W,V,sr⟩).2]) rfl (by simp[cW]) (by simp[cW,ap])) (by simp only[List.length_singleton];omega) (λv5 A T=>?_)
 refine .ag rfl<|.nil<|bf<|ax<|.region ?_
 refine .ia (i+1) .add ?_
 refine .mo rfl<|.nil ?_
 ·exact aP (i+1,U,Z,C,F,v5,A) ⟨O,g.next N K I J L T⟩ (by simp only;omega) kE.c.c.c.c.c (aH [5,1,1,1,2,2,2])
 have a2:i=ks.length:=by rw[r,List.length_map];have:=bA h2;omega
 rw[a2,List.take_length]at g
 refine .exit<|bq<|bz<|bs<|bf<|ax<|.sr<|.mo rfl<|.az rfl ?_
 refine .ret (bk _ (.one (.tmp rfl)) (aH [0,0,0,0]) ?_)
 ·exact(a0 _ _ _).2 ⟨v,Y,B,D,w,by simp[take,bL],g⟩
 refine .sr<|.q .bK<|.az rfl ?_
 refine .cond rfl (λh3=>?_) λh3=>?_
 have M:n.kind=2:=cm h3
 rw[if_neg (by omega),if_neg (by omega),if_pos M]at r
 have N:ks[0]? =some ⟨k.os,k.oi,n.rel⟩:=by rw[r];rfl
 have b3:ks.take 1=ks:=by rw[r];rfl
 refine .region<|.mo rfl<|.mo rfl<|.fa rfl<|.q (.loadT rfl) ?_
 refine .fa rfl<|.lo rfl ?_
 refine .call [3,3,3] ((a4 ps e va j m p hA hO (by omega) ⟨k.os,k.oi,n.rel⟩).weaken cU) (λu H' hu=>?_)
 obtain⟨U,Z,C,F,rfl,rfl,K,I,J,L⟩:=hu
 conv=>arg 8;simp only[rest,bL,List.cons_append,List.nil_append]
 refine .jT (λc6=>?_)
 refine .append S.l (RS.lits (xs:=[(eB x.c.plain x.num (ps.map aF.plain) ⟨k.os,k.oi,n.rel⟩).2]) rfl (by simp[cW]) (by simp[cW,ap])) (by simp[dq]) (λv5 A T=>?_)
 have a5:=S.next N K I J L T
 rw[show(0:Nat)+1=1 from rfl,b3]at a5
 refine .ag rfl<|.nil<|bf<|ax<|.sr<|.mo rfl<|.az rfl ?_
 refine .ret (bk _ (.one (.tmp rfl)) (aH [6,1,1,1]) ?_)
 ·exact(a0 _ _ _).2 ⟨U,Z,C,F,A,by simp[take,bL],a5⟩
 refine .sr<|.q .bK<|.az rfl ?_
 refine .cond rfl (λh4=>?_) λh4=>?_
 have M:n.kind=3:=cm h4
 rw[if_neg (by omega),if_pos M]at r
 have b9:=a8 ⟨k.os,k.oi,n.rel⟩
 refine .sr<|.mo rfl<|.fa rfl<|.q (.loadT rfl) ?_
 refine .fa rfl<|.lo rfl ?_
 refine .call [] (a9 _ (h.mono λb o hb=>.inl hb) xb va j e (pc:=PC.of (E:=190) (fr:=(0,0)) (.inr (by simp[rest]))) ⟨k.os,k.oi,n.rel⟩) (λu H' hu=>?_)
 obtain⟨Tu,Ts,rfl,wu,ws,rfl,a1,t⟩:=hu
 have c1:=a1.ap
 have c2:=t.ap
 conv=>arg 8;simp only[rest,bL,List.cons_append,List.nil_append]
 refine .mo rfl<|.q .extract<|.q .extract<|.ag rfl<|.ag rfl<|.z<|.mo rfl<|.q (.dN t) ?_
 refine .mo rfl<|.zn<|.block ?_
 refine .cx [(0,_),(5,_),(67,_),(68,_)] (X:=Nat×List aF×Value×aB×aB×Value×aB) (λy=>y.1<=(fP x.c.plain x.sub ⟨k.os,k.oi,n.rel⟩).length/\me x R ps va (ks.take y.1) y.2.1 y.2.2.1 y.2.2.2.1 y.2.2.2.2.1 y.2.2.2.2.2.1 y.2.2.2.2.2.2) (λy E=>(69,iN y.1)::(7,y.2.2.2.2.2.1)::E) (G:=[Ts,bl b5 n.enc 199,bl b4 (Value.string k.os:: .string k.oi:: .string k.rel::[x3,x4,x5,x6,x7]) 95]) (λy G=>y.2.2.2.2.2.2::x.iW xb va y.2.2.1 e::y.2.2.2.1::y.2.2.2.2.1::G) (λy=>(fP x.c.plain x.sub ⟨k.os,k.oi,n.rel⟩).length-y.1) (0,ps,j,m,p,sZ,[]) ⟨Nat.zero_le _,S⟩ kE.c.c.c.c.c.c (aH [4,4,4,4,1,1,1]) ?_
 rintro⟨i,v,Y,B,D,vo,w⟩ ⟨hi,g⟩
 simp only at hi g⊢
 have io:=g.l.ap
 have c0:=g.o.ap
 have b8:=g.len
 have b7:=a6 i
 have a3:=a7 i
 rw[List.length_take]at a3
 refine .sr<|.q .lss<|.zs ?_
 refine .cond rfl (λh5=>?_) λh5=>?_
 have O:i<(fP x.c.plain x.sub ⟨k.os,k.oi,n.rel⟩).length:=by have:=cm h5;omega
 obtain⟨s,Q⟩:=bR O
 have N:ks[i]? =some ⟨s.ss,s.si,n.dy⟩:=by rw[r,List.getElem?_map,Q];rfl
 obtain⟨us,W,V,sr⟩:=s
 refine .kn<|.seq<|.block<|.sr ?_
 refine .bo i t Q (λd3=>?_)
 refine .q (.aL rfl) ?_
 refine .bN (λc4=>?_)
 refine .bH rfl rfl<|.zn<|.region<|.mo rfl<|.mo rfl<|.fa rfl<|.q (.loadT rfl) ?_
 refine .fa rfl<|.lo rfl ?_
 refine .call [2,2,2] ((a4 v e va Y B D g.at_ g.o (by omega) ⟨W,V,n.dy⟩).weaken cU) (λu H' hu=>?_)
 obtain⟨U,Z,C,F,rfl,rfl,K,I,J,L⟩:=hu
 conv=>arg 8;simp only[rest,bL,List.cons_append,List.nil_append]
 refine .jT (λc7=>?_)
 refine .append g.l (RS.lits (xs:=[(eB x.c.plain x.num (v.map aF.plain) ⟨W,V,n.dy⟩).2]) rfl (by simp[cW]) (by simp[cW,ap])) (by simp only[List.length_singleton];omega) (λv5 A T=>?_)
 refine .ag rfl<|.nil<|bf<|ax<|.region ?_
 refine .ia (i+1) .add ?_
 refine .mo rfl<|.nil ?_
 ·exact aP (i+1,U,Z,C,F,v5,A) ⟨O,g.next N K I J L T⟩ (by simp only;omega) kE.c.c.c.c.c.c (aH [5,1,1,1,2,2,2])
 have a2:i=ks.length:=by rw[r,List.length_map];have:=bA h5;omega
 rw[a2,List.take_length]at g
 refine .exit<|bq<|bz<|bs<|bf<|ax<|.sr<|.mo rfl<|.az rfl ?_
 refine .ret (bk _ (.one (.tmp rfl)) (aH [0,0,0,0]) ?_)
 ·exact(a0 _ _ _).2 ⟨v,Y,B,D,w,by simp[take,bL],g⟩
 have b6:ks=[]:=by
  rw[r,if_neg (bA h1),if_neg (bA h4),if_neg (bA h3)]
 refine .skip<|bf<|ax<|.sr<|.mo rfl<|.az rfl ?_
 refine .ret (bk _ (.one (.tmp rfl)) (aH [2,2,2,2]) ?_)
 ·refine(a0 _ _ _).2 ⟨ps,j,m,p,[],by simp[take,bL],?_⟩
  have:=S
  rw[List.take_zero, <-b6]at this
  exact this
end Go.Proofs.YtdljmchhecoakaaGreat

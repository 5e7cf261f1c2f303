/- What the law 'ReachFinds' uses. No condition. -/
import Derived.Test.YtdljmchhecoakaaGreatKReachFindsA
import Derived.Test.YtdljmchhecoakaaGreatKReachFindsB
import Derived.Test.YtdljmchhecoakaaGreatKReachFindsF
import Derived.Test.YtdljmchhecoakaaGreatKReachFindsH
import Derived.Test.YtdljmchhecoakaaGreatKReachFindsI
import Derived.Test.YtdljmchhecoakaaGreatKReachFindsO
namespace Go.Proofs.YtdljmchhecoakaaGreat
open Tryz (prog)
set_option linter.unusedVariables false
set_option linter.unusedSimpArgs false
set_option maxRecDepth 4000
abbrev iS:=fx×fx×Bool
def iK(e:iS):List Value:=[iN e.1.1,iN e.1.2,iN e.2.1.1,iN e.2.1.2,.bool e.2.2]
instance(e:iS):bW (iK e):=⟨by simp[iK,ap]⟩
def bE.ed(c:bE)(e:iS):Ed:=⟨c.ix e.1,c.ix e.2.1,e.2.2⟩
def EA(c:bE)(ok:Bool)(Es:List iS)(o:Option (List Ed)):Prop:=match o with
 |none=>ok=false
 |some E=>ok=true/\Es.map c.ed=E/\∀e∈Es,c.valid e.1/\c.valid e.2.1
theorem sC{α β:Type}{f:α->Option (List β)}{x:α}:∀{l:List α},x∈l->f x=none->cat f l=none
 |[],hx,_=>by cases hx
 |y::l,hx,h=>by
  rw[cat]
  rcases List.mem_cons.1 hx with rfl|hx
  ·rw[h];rfl
  ·rw[sC hx h]
   cases f y<;>rfl
theorem EA.mD{c:bE}{d f:List iS}{a b:Option (List Ed)}(g:EA c true d a)(h:EA c true f b):EA c true (d++f) (a.bind λx=>b.map (x++ ·)):=by
 cases a with
 |none=>cases g
 |some a=>
  cases b with
  |none=>cases h
  |some b=>
   obtain⟨_,i,j⟩:=g
   obtain⟨_,k,l⟩:=h
   refine⟨rfl,by rw[List.map_append,i,k],λe he=>?_⟩
   rcases List.mem_append.1 he with he|he
   ·exact j e he
   ·exact l e he
theorem EA.nil{c:bE}:EA c true [] (some []):=⟨rfl,rfl,λe a=>(by cases a)⟩
theorem A7{R:aB}{xb:Nat}{vm:Value}{c:bE}(h:IX R xb vm c)(h8:c.oM)(p:fx)(s:bT)(r:bQ)(I:c.aR[p.1]? =some s)(H:s.bI[p.2]? =some r):
  Spec prog 181 [pT xb,.agg (kg p).toArray] R [] λu H'=>∃T,H'=[T]/\∃w Es ok,u=.tuple [w,.bool ok].toArray/\OS 325 5 iK w Es T/\Es.length<=512/\
   EA c ok Es (jN c.plain.all (c.ix p) s.name r.r):=by
 have d3:=ud h p s r I H
 have a8:=λn=>KZ h h8 p s r I H n
 have c6:=h
 obtain⟨b5,d0,a5⟩:=h8 s (aX I) r (aX H)
 have c8:=looked c
 have d7:c.valid p:=⟨s,r,I,H⟩
 have pc:=h.pc
 have om:=h.om
 have a1:=(h.ci.all _ (aX I)).all _ (aX H)
 generalize hA:c.plain.all=A at *
 generalize c7:c.ix p=j0 at *
 have N:jN A j0 s.name r.r=if(findAll A (dN r.r.types)).isSome then cat (λk:Nat=>(r.r.nodes[k]?).bind λn=>eS A j0 s.name r.r ((lK r.r.nodes).getD k false) n) (List.range' 0 r.r.nodes.length)else none:=rfl
 obtain⟨U,Q,r⟩:=r
 have b4:RS R 2 Ty.enc U r.types:=a1.t
 have O:RS R 5 Nd.enc Q r.nodes:=a1.d
 have e7:One U:=b4.ap
 have e6:One Q:=O.ap
 have e4:bW (bQ.enc ⟨U,Q,r⟩):=⟨a1.cH⟩
 have d8:=uw b5
 simp only at b5 d0 a5 N a8 d8⊢
 have e3:(lK r.nodes).length=r.nodes.length:=by unfold lK;rw[qn,List.length_replicate]
 refine Spec.body Tryz.func181 rfl Tryz.results181 Tryz.ntmps181 rfl ?_
 refine .sr ?_
 refine .bX rfl (λb3=>?_)
 refine .ag rfl<|.ag rfl<|.z<|.mo rfl<|.q (.aI rfl) ?_
 refine .bd (d3.weaken cQ) (λu hu=>?_)
 subst hu
 refine .bN (λb6=>?_)
 refine .bG rfl rfl<|.zs<|.sr<|.fa rfl<|.lo rfl ?_
 refine .da (ux U r.types _ b4.rx (by omega)) (λu T2 a3=>?_)
 have e8:=a3.ap
 refine .q (.ej a3) ?_
 refine .mo rfl<|.zn<|.block ?_
 refine .cq [(0,_),(3,_),(6,_),(24,_),(25,_)] (X:=Nat) (λq=>q<=(dN r.types).length/\((dN r.types).take q).all (λt=>(bM A t).isSome)=true) (λq E=>(26,iN q)::E) (λ_ G=>G) (λq=>(dN r.types).length-q) 0 ⟨Nat.zero_le _,rfl⟩ kE.c.c.c.c.c.c rH ?_
 rintro q ⟨hq,M⟩
 refine .sr<|.q .lss<|.zs ?_
 refine .cond rfl (λV=>?_) λV=>?_
 have b1:q<(dN r.types).length:=by have:=cv V;omega
 obtain⟨t,a2⟩:=bU b1
 obtain⟨ps,ok,d1,v⟩:=c8 t
 unfold mA at v
 rw[hA]at v
 refine .kn<|.seq<|.block<|.sr ?_
 refine .bo q a3 a2 (λf1=>?_)
 refine .q (.aI rfl) ?_
 refine .bN (λb8=>?_)
 refine .bG rfl rfl<|.zs<|.dt [10] mixed ?_
 refine .tO 0 rfl .move<|.tO 1 rfl (.nilCheck rfl)<|.tO 2 rfl (.fieldAddr rfl)<|.tO 3 rfl (.cI rfl)<|.tO 4 rfl (.aI rfl) ?_
 refine .gM 5 rfl (.cast (.nL (c6.rm.nO λb o hb=>.inl hb) rfl rfl) (congrArg (λl:List Value=>Value.tuple l.toArray) d1)) (by kernel_rfl) ?_
 refine .tO 6 rfl .move<|.tO 7 rfl .extract<|.tK 8 rfl .extract ?_
 refine .sT 9 rfl ?_
 refine .bN (λb9=>?_)
 refine .nil (Next.sub ?_)
 refine .sT 10 rfl ?_
 refine .bG rfl rfl ?_
 refine .nil (Next.mod rfl ?_)
 refine .tK 11 rfl .assign ?_
 refine RA.nil (by kernel_rfl) ?_
 refine aw<|.sr<|.mo rfl<|.q .not<|.zn ?_
 refine .cond rfl (λW=>?_) λW=>?_
 refine .sr<|.ag rfl<|.az rfl ?_
 refine .ret (bg (aF (cz (bg (aF (bj _ (.two (.tmp rfl) (.tmp rfl)) bf.ja ?_))))))
 ·refine⟨[],rfl,_,[],false,rfl,OS.nil,by simp,?_⟩
  have F:ok=false:=by simpa using W
  have hj:bM A t=none:=by
   cases f:bM A t with
   |none=>rfl
   |some j=>rw[f]at v;rw[v.1]at F;cases F
  rw[N,w9 (aX a2) hj]
  rfl
 have f:(bM A t).isSome=true:=by
  have L:ok=true:=by simpa using W
  cases f:bM A t with
  |none=>rw[f]at v;rw[v]at L;cases L
  |some j=>rfl
 refine .skip<|ba<|aw<|.region ?_
 refine .ia (q+1) .add ?_
 refine .mo rfl<|.nil ?_
 ·exact bi (q+1) ⟨b1,lL a2 M f⟩ (by omega) kE.c.c.c.c.c.c (aY [2,2,2,2])
 have c5:(findAll A (dN r.types)).isSome=true:=by
  have i:=qz A (dN r.types)
  rw[dD (gV V)]at M
  cases f:findAll A (dN r.types)with
  |none=>rw[f]at i;rw[show _=false from i]at M;cases M
  |some o=>rfl
 rw[if_pos c5]at N
 rw[N]
 generalize hg:(λk:Nat=>(r.nodes[k]?).bind λn=>eS A j0 s.name r ((lK r.nodes).getD k false) n)=g at *
 refine .exit<|bq<|bz<|br<|aw<|.sr<|.fa rfl<|.lo rfl ?_
 refine .da (Ag Q r.nodes _ O.rx a5 (by omega)) (λu T9 b7=>?_)
 have e9:=b7.ap
 refine .ag rfl<|.z<|.ag rfl<|.zs<|.sr<|.fa rfl<|.lo rfl<|.q (.bD O) ?_
 refine .mo rfl<|.zn<|.block ?_
 refine .cq [(0,_),(3,_),(11,_),(46,_),(47,_)] (X:=Nat×Value×List iS×aA) (λy=>y.1<=r.nodes.length/\OS 325 5 iK y.2.1 y.2.2.1 y.2.2.2/\y.2.2.1.length<=8*y.1/\EA c true y.2.2.1 (cat g (List.range' 0 y.1))) (λy E=>(48,iN y.1)::(12,y.2.1)::E) (λy G=>y.2.2.2::G) (λy=>r.nodes.length-y.1) (0,sZ,[],[]) ⟨Nat.zero_le _,OS.nil,by simp,EA.nil⟩ kE.c.c.c.c.c.c.c bf.gw ?_
 rintro⟨m,vo,Es,To⟩ ⟨hm,K,c2,hE⟩
 simp only at hm K c2 hE⊢
 have io:=K.ap
 refine .sr<|.q .lss<|.zs ?_
 refine .cond rfl (λY=>?_) λY=>?_
 have a7:m<r.nodes.length:=cg Y
 obtain⟨n,a9⟩:=bU a7
 obtain⟨J,a4⟩:∃b,(lK r.nodes)[m]? =some b:=⟨_,bB (by omega)⟩
 have a6:g m=eS A j0 s.name r J n:=by
  rw[<-hg]
  simp only[a9,Option.bind_some]
  rw[List.getD_eq_getElem?_getD,a4]
  rfl
 have d4:List.range' 0 (m+1)=List.range' 0 m++[m]:=by rw[List.range'_1_concat];simp
 refine .kn<|.seq<|.block<|.sr<|.mo rfl ?_
 refine .bA m O a9 (λf2=>?_)
 refine .q (.aI rfl) ?_
 refine .bN (λc1=>?_)
 refine .ag rfl<|.bG rfl rfl<|.z<|.mo rfl<|.q (.aI rfl)<|.q (.aI rfl) ?_
 refine .da ((a8 n).weaken cQ) (λu T4 d6=>?_)
 obtain⟨w4,S,ok,rfl,a0,e2,a⟩:=d6
 have i4:=a0.ap
 refine .mo rfl<|.q .extract<|.q .extract<|.ag rfl<|.ag rfl<|.zs<|.sr<|.mo rfl<|.q .not<|.zn ?_
 refine .cond rfl (λZ=>?_) λZ=>?_
 refine .sr<|.ag rfl<|.az rfl ?_
 refine .ret (aF (bg (aF (cz (bg (aF (bj _ (.two (.tmp rfl) (.tmp rfl)) bf.ja ?_)))))))
 ·refine⟨[],rfl,_,[],false,rfl,OS.nil,by simp,?_⟩
  have F:ok=false:=by simpa using Z
  have B:targets A s.name r.types n=none:=by
   cases B:targets A s.name r.types n with
   |none=>rfl
   |some C=>rw[B]at a;rw[a.1]at F;cases F
  rw[sC (x:=m) (by rw[List.mem_range'_1];omega) (by rw[a6];unfold eS;rw[B];rfl)]
  rfl
 have L:ok=true:=by simpa using Z
 subst L
 obtain⟨C,d5,c3,c4⟩:∃C,targets A s.name r.types n=some C/\S.map c.ix=C/\∀q∈S,c.valid q:=by
  cases B:targets A s.name r.types n with
  |none=>rw[B]at a;cases a
  |some C=>rw[B]at a;exact⟨C,rfl,a.2.1,a.2.2⟩
 refine .kn<|.sr<|.mo rfl<|.q (.ej a0) ?_
 refine .mo rfl<|.zn<|.block ?_
 refine .cq [(0,_),(3,_),(11,_),(13,_),(46,_),(47,_),(48,_),(62,_),(63,_)] (X:=Nat×Value×aA) (λy=>y.1<=S.length/\OS 325 5 iK y.2.1 (Es++(S.take y.1).map λq=>((p,q,J):iS)) y.2.2) (λy E=>(64,iN y.1)::(12,y.2.1)::E) (λy G=>T4::bl c1 n.enc 199::y.2.2::G) (λy=>S.length-y.1) (0,vo,To) ⟨Nat.zero_le _,by simpa using K⟩ kE.c.c.c.c.c.c.c.c.c.c.c rH ?_
 rintro⟨q,v3,T3⟩ ⟨d2,D⟩
 simp only at d2 D⊢
 have e5:=D.ap
 refine .sr<|.q .lss<|.zs ?_
 refine .cond rfl (λi=>?_) λi=>?_
 have b2:q<S.length:=cg i
 obtain⟨d9,b0⟩:=bU b2
 refine .kn<|.seq<|.block<|.sr ?_
 refine .bo q a0 b0 (λf3=>?_)
 refine .q (.aI rfl) ?_
 refine .bN (λe0=>?_)
 refine .bG rfl rfl<|.zn<|.dt [9] mixed ?_
 refine .tO 0 rfl .move<|.tO 1 rfl (.aI rfl)<|.tO 2 rfl (.aI rfl)<|.tO 3 rfl .move<|.tO 4 rfl .move ?_
 refine RA.bo 5 rfl m b7 a4 rfl rfl rfl (by kernel_rfl) (λf4=>?_)
 refine .tO 6 rfl (.cI rfl) ?_
 refine .tO 7 rfl .cO ?_
 refine .sT 8 rfl ?_
 refine .dA (λe1=>?_)
 refine .nil (Next.sub ?_)
 refine .sT 9 rfl ?_
 refine .append D (RS.lits (xs:=[((p,d9,J):iS)]) rfl (by simp[iK]) (by simp[iK,ap])) (by simp only[List.length_append,List.length_map,List.length_take,List.length_singleton];omega) (λv1 T1 c0=>?_)
 have f0:=c0.ap
 refine .nil (Next.mod rfl ?_)
 refine .tK 10 rfl .assign ?_
 refine RA.nil (by kernel_rfl) ?_
 refine ba<|aw<|.region ?_
 refine .ia (q+1) .add ?_
 refine .mo rfl<|.nil ?_
 ·exact bi (q+1,v1,T1) ⟨b2,by simp only;rw[dS b0,List.map_append, <-List.append_assoc];exact c0⟩ (by simp only;omega) kE.c.c.c.c.c.c.c.c.c.c.c (aY [2,2,2,2,2,2,2])
 rw[dD (gV i)]at D
 refine .exit<|bq<|bz<|br<|ba<|aw<|.region ?_
 refine .ia (m+1) .add ?_
 refine .mo rfl<|.nil ?_
 ·exact bi (m+1,v3,Es++S.map (λq=>((p,q,J):iS)),T3) ⟨a7,D,by simp only[List.length_append,List.length_map];omega,by
   simp only
   rw[d4,oF]
   refine hE.mD ?_
   rw[cat,a6]
   unfold eS
   rw[d5]
   simp only[cat,Option.map_some,Option.bind_some,List.append_nil]
   refine⟨rfl,?_,λe he=>?_⟩
   ·rw[<-c3,List.map_map,List.map_map]
    congr 1
    funext q
    simp only[Function.comp_def,bE.ed,c7]
   ·obtain⟨q,hq,rfl⟩:=List.mem_map.1 he
    exact⟨d7,c4 q hq⟩⟩ (by simp only;omega) kE.c.c.c.c.c.c.c (aY [2,2,2,2,2])
 have c9:m=r.nodes.length:=by have:=bC Y;omega
 refine .exit<|bq<|bz<|br<|aw<|.sr<|.mo rfl<|.ag rfl<|.az rfl ?_
 refine .ret (bj _ (.two (.tmp rfl) (.tmp rfl)) (.one [0] _) ?_)
 ·refine⟨To,by simp[take],vo,Es,true,rfl,K,by omega,?_⟩
  rw[<-c9]
  exact hE
theorem wT{c:bE}(h:pV c.eY):c.oM:=λs b r a=>h (s.name,r) (List.mem_flatMap.2 ⟨s,b,List.mem_map.2 ⟨r,a,rfl⟩⟩)
theorem MY{R:aB}{xb:Nat}{vm:Value}{c:bE}(h:IX R xb vm c)(h8:c.oM)(t:c.fW):
  Spec prog 122 [pT xb] R [] λu H'=>∃T,H'=[T]/\∃w Es ok,u=.tuple [w,.bool ok].toArray/\OS 325 5 iK w Es T/\Es.length<=131072/\EA c ok Es c.plain.kF:=by
 have b4:=λp s r a J=>A7 h h8 p s r a J
 have b7:=h
 have c1:=looked c
 have pc:=h.pc
 have om:=h.om
 have L:=h.ci.ss
 have K:=h.ci.sc
 have i1:=L.ap
 have i2:=K.ap
 have d3:=L.le
 have d2:=K.le
 have b3:=h.ci.all
 have b1:=ny c.plain
 have d6:=t.eY
 have c0:c.plain.all.length=c.eY.length:=by rw[<-mT,List.length_map]
 have c6:c.plain.aR.length=c.aR.length:=by unfold bE.plain;simp
 have c4:∀(i:Nat) (s:bT),c.aR[i]? =some s->c.plain.aR[i]? =some s.plain:=λi s a=>mX a
 have c7:=λ(p:fx) (s:bT) (r:bQ)=>mU (c:=c) (p:=p) (s:=s) (r:=r)
 have W:c.plain.kF=if rK c.plain then cat (λp:Nat×(ByteArray×Rl)=>jN c.plain.all p.1 p.2.1 p.2.2) (iY 0 c.plain.all)else none:=rfl
 have a9:rK c.plain=c.scopes.all λs:Sc=>(bM c.plain.all ⟨s.jd,s.rel⟩).isSome:=rfl
 have b8:∀i k,c.ix (i,k)=cA c.plain.aR i+k:=λ_ _=>rfl
 generalize hA:c.plain.all=A at *
 generalize V:cA c.plain.aR=of at *
 generalize hg:(λp:Nat×(ByteArray×Rl)=>jN A p.1 p.2.1 p.2.2)=g at *
 have c2:of 0=0:=by rw[<-V];cases c.plain.aR<;>rfl
 refine Spec.body Tryz.func122 rfl Tryz.results122 Tryz.ntmps122 rfl ?_
 refine .sr<|.ag rfl<|.ag rfl<|.z<|.ag rfl<|.zs<|.sr<|.mo rfl<|.nc rfl<|.fa rfl<|.fa rfl<|.lo rfl<|.q (.bD L) ?_
 refine .mo rfl<|.zn<|.block ?_
 refine .cq [(0,_),(18,_),(19,_)] (X:=Nat×Value×List iS×aA) (λy=>y.1<=c.aR.length/\OS 325 5 iK y.2.1 y.2.2.1 y.2.2.2/\y.2.2.1.length<=512*of y.1/\EA c true y.2.2.1 (cat g (iY 0 (A.take (of y.1))))) (λy E=>(20,iN y.1)::(4,y.2.1)::E) (λy G=>y.2.2.2::G) (λy=>c.aR.length-y.1) (0,sZ,[],[]) ⟨Nat.zero_le _,OS.nil,by simp,by simp only;rw[c2];exact EA.nil⟩ kE.c.c.c.c.c bf.gw ?_
 rintro⟨i,M,Es,F⟩ ⟨hi,m,n,f⟩
 simp only at hi m n f⊢
 have io:=m.ap
 refine .sr<|.q .lss<|.zs ?_
 refine .cond rfl (λN=>?_) λN=>?_
 have a5:i<c.aR.length:=cg N
 obtain⟨⟨e,v,d⟩,a⟩:=bU a5
 have b0:=b3 _ (aX a)
 have Z:RS R 3 bQ.enc v d:=b0.rs
 have d7:=Z.ap
 have d4:=Z.le
 have d8:bW (bT.enc ⟨e,v,d⟩):=⟨b0.cH⟩
 have a8:=c4 i _ a
 have a7:=mW a8
 have a6:=qZ a8
 rw[V,show(bT.plain ⟨e,v,d⟩).bI.length=d.length by simp[bT.plain]]at a7 a6
 rw[b1,c0]at a6
 refine .kn<|.seq<|.block<|.sr<|.mo rfl ?_
 refine .bA i L a (λe0=>?_)
 refine .q (.aI rfl) ?_
 refine .bN (λb6=>?_)
 refine .ag rfl<|.bG rfl rfl<|.z<|.fa rfl<|.lo rfl<|.q (.bD Z) ?_
 refine .mo rfl<|.zn<|.block ?_
 refine .cq [(0,_),(5,_),(18,_),(19,_),(20,_),(27,_)] (X:=Nat×Value×List iS×aA) (λy=>y.1<=d.length/\OS 325 5 iK y.2.1 y.2.2.1 y.2.2.2/\y.2.2.1.length<=512*(of i+y.1)/\EA c true y.2.2.1 (cat g (iY 0 (A.take (of i+y.1))))) (λy E=>(28,iN y.1)::(4,y.2.1)::E) (λy G=>bl b6 (bT.enc ⟨e,v,d⟩) 164::y.2.2.2::G) (λy=>d.length-y.1) (0,M,Es,F) ⟨Nat.zero_le _,m,n,f⟩ kE.c.c.c.c.c.c.c.c rH ?_
 rintro⟨k,M,Es,F⟩ ⟨hk,m,n,f⟩
 simp only at hk m n f⊢
 have io:=m.ap
 refine .sr<|.q .lss<|.zs ?_
 refine .cond rfl (λO=>?_) λO=>?_
 have a4:k<d.length:=cg O
 obtain⟨r,J⟩:=bU a4
 have a1:=b4 (i,k) _ r a J
 have H:=c7 (i,k) _ r a J
 rw[b8]at a1 H
 have a2:g (of i+k,(e,r.r))=jN A (of i+k) e r.r:=by rw[<-hg]
 have d5:of i+k<A.length:=(List.getElem?_eq_some_iff.1 H).1
 refine .kn<|.seq<|.block<|.sr<|.mo rfl<|.ag rfl<|.z<|.mo rfl<|.mo rfl<|.mo rfl ?_
 refine .q .cO ?_
 refine .da (a1.weaken cQ) (λu T4 c8=>?_)
 obtain⟨w4,Fs,ok,rfl,a0,d1,B⟩:=c8
 have i4:=a0.ap
 refine .mo rfl<|.q .extract<|.q .extract<|.ag rfl<|.ag rfl<|.zs<|.sr<|.mo rfl<|.q .not<|.zn ?_
 refine .cond rfl (λQ=>?_) λQ=>?_
 refine .sr<|.ag rfl<|.az rfl ?_
 refine .ret (aF (bg (aF (cz (bg (bg (aF (cz (bg (aF (bj _ (.two (.tmp rfl) (.tmp rfl)) bf.ja ?_)))))))))))
 ·refine⟨[],rfl,_,[],false,rfl,OS.nil,by simp,?_⟩
  have D:ok=false:=by simpa using Q
  rw[W]
  split
  ·rw[sC (x:=(of i+k,(e,r.r))) (by have:=sM (i:=0) H;rwa [Nat.zero_add]at this) (by
    rw[a2]
    cases hrc:jN A (of i+k) e r.r with
    |none=>rfl
    |some o=>rw[show jN A (of i+k) (⟨e,v,d⟩:bT).name r.r=some o from hrc]at B;rw[B.1]at D;cases D)]
   rfl
  ·rfl
 have I:ok=true:=by simpa using Q
 subst I
 refine .kn<|.region<|.mo rfl<|.mo rfl ?_
 refine .append m a0.rx (by omega) (λv1 T1 b2=>?_)
 have d9:=b2.ap
 refine .ag rfl<|.nil<|ba<|aw<|.region ?_
 refine .ia (k+1) .add ?_
 refine .mo rfl<|.nil ?_
 ·exact bi (k+1,v1,Es++Fs,T1) ⟨a4,b2,by simp only[List.length_append];omega,by
   simp only
   rw[show of i+(k+1)=of i+k+1 by omega,sL H,oF]
   refine f.mD ?_
   rw[cat,Nat.zero_add,show g (of i+k,(⟨e,v,d⟩:bT).name,r.r)=jN A (of i+k) e r.r from a2]
   revert B
   generalize jN A (of i+k) (⟨e,v,d⟩:bT).name r.r=o
   intro B
   cases o with
   |none=>exact B
   |some o=>simpa[cat]using B⟩ (by simp only;omega) kE.c.c.c.c.c.c.c.c (aY [1,1,1])
 have b9:k=d.length:=by have:=bC O;omega
 rw[b9, <-a7]at n f
 refine .exit<|bq<|bz<|br<|ba<|aw<|.region ?_
 refine .ia (i+1) .add ?_
 refine .mo rfl<|.nil ?_
 ·exact bi (i+1,M,Es,F) ⟨a5,m,n,f⟩ (by simp only;omega) kE.c.c.c.c.c (aY [1])
 have b5:i=c.aR.length:=by have:=bC N;omega
 have c3:of i=A.length:=by rw[b5, <-c6, <-V, <-b1];rfl
 rw[c3,List.take_length]at f
 refine .exit<|bq<|bz<|br<|aw<|.seq<|.sr<|.mo rfl<|.nc rfl<|.fa rfl<|.fa rfl<|.lo rfl<|.q (.bD K) ?_
 refine .mo rfl<|.zn<|.block ?_
 refine .cq [(0,_),(4,_),(50,_),(51,_)] (X:=Nat) (λj=>j<=c.scopes.length/\(c.scopes.take j).all (λs:Sc=>(bM A ⟨s.jd,s.rel⟩).isSome)=true) (λj E=>(52,iN j)::E) (λ_ G=>G) (λj=>c.scopes.length-j) 0 ⟨Nat.zero_le _,rfl⟩ kE.c.c.c.c.c rH ?_
 rintro j ⟨hj,Y⟩
 refine .sr<|.q .lss<|.zs ?_
 refine .cond rfl (λS=>?_) λS=>?_
 have a3:j<c.scopes.length:=cg S
 obtain⟨s,a⟩:=bU a3
 obtain⟨ps,ok,c5,C⟩:=c1 (⟨s.jd,s.rel⟩:Ty)
 unfold mA at C
 rw[hA]at C
 refine .kn<|.seq<|.block<|.sr ?_
 refine .bA j K a (λe1=>?_)
 refine .q (.aI rfl) ?_
 refine .bN (λc9=>?_)
 refine .bG rfl rfl<|.zs<|.dt [15] mixed ?_
 refine .tO 0 rfl .move<|.tO 1 rfl (.nilCheck rfl)<|.tO 2 rfl (.fieldAddr rfl)<|.tO 3 rfl (.cI rfl)<|.tO 4 rfl (.fieldAddr rfl)<|.tO 5 rfl (.fieldAddr rfl)<|.tO 6 rfl (.cI rfl)<|.tO 7 rfl (.fieldAddr rfl)<|.tO 8 rfl (.cI rfl) ?_
 refine .tO 9 rfl .cO ?_
 refine .gM 10 rfl (.cast (.nL (b7.rm.nO λb o hb=>.inl hb) rfl rfl) (congrArg (λl:List Value=>Value.tuple l.toArray) c5)) (by kernel_rfl) ?_
 refine .tO 11 rfl .move<|.tO 12 rfl .extract<|.tK 13 rfl .extract ?_
 refine .sT 14 rfl ?_
 refine .bN (λd0=>?_)
 refine .nil (Next.sub ?_)
 refine .sT 15 rfl ?_
 refine .bG rfl rfl ?_
 refine .nil (Next.mod rfl ?_)
 refine .tK 16 rfl .assign ?_
 refine RA.nil (by kernel_rfl) ?_
 refine aw<|.sr<|.mo rfl<|.q .not<|.zn ?_
 refine .cond rfl (λU=>?_) λU=>?_
 refine .sr<|.ag rfl<|.az rfl ?_
 refine .ret (bg (aF (cz (bg (aF (bj _ (.two (.tmp rfl) (.tmp rfl)) bf.ja ?_))))))
 ·refine⟨[],rfl,_,[],false,rfl,OS.nil,by simp,?_⟩
  have D:ok=false:=by simpa using U
  have hj:bM A ⟨s.jd,s.rel⟩=none:=by
   cases t:bM A ⟨s.jd,s.rel⟩with
   |none=>rfl
   |some j=>rw[t]at C;rw[C.1]at D;cases D
  rw[W,a9,kd a (by rw[hj];rfl)]
  rfl
 have t:(bM A ⟨s.jd,s.rel⟩).isSome=true:=by
  have I:ok=true:=by simpa using U
  cases t:bM A ⟨s.jd,s.rel⟩with
  |none=>rw[t]at C;rw[C]at I;cases I
  |some j=>rfl
 refine .skip<|ba<|aw<|.region ?_
 refine .ia (j+1) .add ?_
 refine .mo rfl<|.nil ?_
 ·exact bi (j+1) ⟨a3,lL a Y t⟩ (by omega) kE.c.c.c.c.c (aY [2])
 refine .exit<|bq<|bz<|br<|aw<|.sr<|.mo rfl<|.ag rfl<|.az rfl ?_
 refine .ret (bj _ (.two (.tmp rfl) (.tmp rfl)) (.one [0] _) ?_)
 ·refine⟨F,by simp[take],M,Es,true,rfl,m,Nat.le_trans n (Nat.mul_le_mul_left 512 (show of i<=256 by omega)),?_⟩
  rw[dD (gV S)]at Y
  rw[W,a9,Y,if_pos rfl]
  exact f
abbrev kz:=fP×aA
def Aa(w:Value)(LL:List kz)(To:aA):Prop:=OS 182 1 fe w (LL.map (·.1)) To/\∀q∈LL,OS 3 1 dc q.1.1 q.1.2 q.2
def mC(w:Value)(LL:List kz)(T:aA):Prop:=∃To,T=To++LL.flatMap (·.2)/\Aa w LL To
theorem KG{α:Type}{l:List α}{i:Nat}{x:α}(h:l[i]? =some x):∃A B,l=A++x::B/\A.length=i/\∀y,l.set i y=A++y::B:=by
 refine⟨l.take i,l.drop (i+1),?_,?_,λy=>?_⟩
 ·have:=v8 h
  rw[<-this,List.take_append_drop]
 ·rw[List.length_take];have:=(List.getElem?_eq_some_iff.1 h).1;omega
 ·exact List.set_eq_take_append_cons_drop.trans (if_pos (List.getElem?_eq_some_iff.1 h).1)
theorem Mm(w:Value)(d:List kz)(T:aA)(h:mC w d T)(e:iS)(a b:Nat)(t K:kz)(s:d[e.1.1]? =some t)(B:d[e.2.1.1]? =some K)(r:t.1.2[e.1.2]? =some a)(i:K.1.2[e.2.1.2]? =some b)(a1:b<=1000000000)(R:aB):
  Spec prog 182 [w,.agg (iK e).toArray] R [T] λu H'=>∃T',H'=[T']/\((u=.bool false/\b+(if e.2.2 then 1 else 0)<=a/\mC w d T')\/(u=.bool true/\a<b+(if e.2.2 then 1 else 0)/\∃Tn,mC w (d.set e.1.1 ((t.1.1,t.1.2.set e.1.2 (b+(if e.2.2 then 1 else 0))),Tn)) T')):=by
 obtain⟨f,rfl,g,n⟩:=h
 obtain⟨⟨k,l⟩,⟨v,C⟩,j⟩:=e
 obtain⟨⟨D,S⟩,V⟩:=t
 obtain⟨⟨F,U⟩,Z⟩:=K
 simp only at s B r i⊢
 have m:=n _ (aX s)
 have A:=n _ (aX B)
 simp only at m A
 have iw:=g.ap
 have a4:One D:=m.ap
 have a5:One F:=A.ap
 have I:(d.map (·.1))[k]? =some (D,S):=by rw[List.getElem?_map,s];rfl
 have Q:(d.map (·.1))[v]? =some (F,U):=by rw[List.getElem?_map,B];rfl
 have O:∀(q:kz),q∈d->∀p∈q.2,p∈d.flatMap (·.2):=λq hq p Y=>List.mem_flatMap.2 ⟨q,hq,Y⟩
 obtain⟨L,M,y,a0,J⟩:=KG s
 have a2:RC R [f,d.flatMap (·.2)] (eR D (l*1)) (dc a):=⟨(m.pc r).mono λb o i=>.inr (by have:=O _ (aX s) _ i;simp[this])⟩
 have a3:RC R [f,d.flatMap (·.2)] (eR F (C*1)) (dc b):=⟨(A.pc i).mono λb o i=>.inr (by have:=O _ (aX B) _ i;simp[this])⟩
 have a6:PS f (eR w (k*1)) (fe (D,S)):=⟨g.pc I⟩
 have a7:PS f (eR w (v*1)) (fe (F,U)):=⟨g.pc Q⟩
 refine Spec.gx (H':=[f,d.flatMap (·.2)]) (by simp) ?_
 refine Spec.body Tryz.func182 rfl Tryz.results182 Tryz.ntmps182 rfl ?_
 refine .sr ?_
 refine .bX rfl (λN=>?_)
 refine .ag rfl<|.zs ?_
 refine .fq mixed (by kernel_rfl) ?_
 refine .mo rfl<|.fa rfl<|.fa rfl<|.lo rfl<|.q (.bA v g.sg Q rfl rfl rfl) ?_
 refine .lo rfl<|.fa rfl<|.fa rfl<|.lo rfl<|.q (.bA C A.sg i rfl rfl rfl) ?_
 refine .lo rfl<|.ag rfl<|.zs<|.sr<|.fa rfl<|.lo rfl<|.zn ?_
 refine bp.cP [(0,_),(3,_)] kE.c.c (X:=Unit) (λ_=>True) (λ_ E=>(5,.int .i64 ((b+(if j then 1 else 0):Nat):Int))::E) (λ_=>[bl N (iK ((k,l),(v,C),j)) 325,f,d.flatMap (·.2)]) ?_ ?_
 refine .cond rfl (λG=>?_) λG=>?_
 refine .region<|.mo rfl ?_
 refine .ia (b+1) .add ?_
 refine .ag rfl<|.nil ?_
 ·exact aE () trivial (kE.c.c.lQ rfl (by have h:j=_:=G;simp[h])) rH
 refine .skip ?_
 ·exact aE () trivial (kE.c.c.lQ rfl (by have h:j=_:=G;simp[h])) rH
 intro x hx
 refine aw<|.seq<|.seq ?_
 refine .fq mixed (by kernel_rfl) ?_
 refine .mo rfl<|.fa rfl<|.fa rfl<|.lo rfl<|.q (.bA k g.sg I rfl rfl rfl) ?_
 refine .lo rfl<|.fa rfl<|.fa rfl<|.lo rfl<|.q (.bA l m.sg r rfl rfl rfl) ?_
 refine .lo rfl<|.mo rfl<|.q .geq<|.zn ?_
 refine .cond rfl (λH=>?_) λH=>?_
 refine .sr<|.az rfl ?_
 refine .ret (aF (bj _ (.one (.tmp rfl)) (.one [1,1] _) ?_))
 ·refine⟨_,rfl,.inl ⟨rfl,by have:=cv H;omega,f,by simp[take,bF],g,n⟩⟩
 refine .kn<|.seq ?_
 refine .dF 11 mixed (by kernel_rfl) ?_
 conv=>arg 6;dsimp only[List.take]
 refine .mo rfl<|.fa rfl<|.fa rfl<|.lo rfl<|.q (.bA k g.sg I rfl rfl rfl) ?_
 refine .lo rfl<|.fa rfl<|.fa rfl<|.lo rfl<|.mo rfl<|.q (.bA l m.sg r rfl rfl rfl) ?_
 refine .nil ?_
 refine .sub (H':=[bl N (iK ((k,l),(v,C),j)) 325,f,V,L.flatMap (·.2)++M.flatMap (·.2)]) (bf.eT (by
  rw[y]
  simp only[List.flatMap_append,List.flatMap_cons,List.flatten_cons,List.flatten_nil,List.append_nil]
  refine .append_left _ (.append_left _ ?_)
  rw[<-List.append_assoc, <-List.append_assoc]
  exact List.perm_append_comm.append_right _)) ?_
 refine .kP l m r (b+(if j then 1 else 0)) (λTn W=>?_)
 refine .z<|.az rfl ?_
 refine .ret (bj _ (.one (.tmp rfl)) ((aY [1,1,1]).trans (bf.eT (H':=[f++(L.flatMap (·.2)++(Tn++M.flatMap (·.2)))]) (by simp only[take,bF,List.getD_cons_zero,List.getD_cons_succ,List.flatten_cons,List.flatten_nil,List.append_nil];refine .append_left _ ?_;rw[<-List.append_assoc, <-List.append_assoc];exact List.perm_append_comm.append_right _))) ?_)
 ·refine⟨_,rfl,.inr ⟨rfl,by have:=bC H;omega,Tn,f,?_,?_,λq hq=>?_⟩⟩
  ·rw[J];simp
  ·refine g.congr ?_
   rw[J,y]
   simp[fe]
  ·rw[J]at hq
   rcases List.mem_append.1 hq with hq|hq
   ·exact n q (by rw[y];exact List.mem_append_left _ hq)
   ·rcases List.mem_cons.1 hq with rfl|hq
    ·exact W
    ·exact n q (by rw[y];exact List.mem_append_right _ (List.mem_cons_of_mem _ hq))
theorem uk{c:bE}{X:List Nat}{p:fx}(g:c.valid p)(i:X.length=total c.plain.aR):∃s:Sp,c.plain.aR[p.1]? =some s/\p.2<s.bI.length/\(rows c.plain.aR X)[p.1]? =some ((X.drop (cA c.plain.aR p.1)).take s.bI.length)/\c.ix p<X.length/\
  ((X.drop (cA c.plain.aR p.1)).take s.bI.length)[p.2]? =some (X.getD (c.ix p) 0):=by
 obtain⟨s,r,f,e⟩:=g
 have a:=mX f
 have d:=(List.getElem?_eq_some_iff.1 (yF e)).1
 have h:=qZ a
 have b:c.ix p<X.length:=by unfold bE.ix;omega
 refine⟨s.plain,a,d,mZ a,b,?_⟩
 rw[List.getElem?_take,if_pos d,List.getElem?_drop,List.getD_eq_getElem?_getD]
 unfold bE.ix at b⊢
 rw[bB b]
 rfl
theorem Mk{c:bE}(w:Value)(a:List kz)(T:aA)(h:mC w a T)(X:List Nat)(j:X.length=total c.plain.aR)(k:a.map (·.1.2)=rows c.plain.aR X)(e:iS)(s:c.valid e.1/\c.valid e.2.1)(D:∀x∈X,x<=1000000000)(R:aB):
  Spec prog 182 [w,.agg (iK e).toArray] R [T] λu H'=>∃T',H'=[T']/\∃ch LL',u=.bool ch/\ch=decide (fA X (c.ed e)≠X)/\mC w LL' T'/\LL'.map (·.1.2)=rows c.plain.aR (fA X (c.ed e)):=by
 obtain⟨Q,t,v,y,z,A⟩:=uk s.1 j
 obtain⟨S,U,V,K,L,M⟩:=uk s.2 j
 have p:∀{i:Nat} {o:List Nat},(rows c.plain.aR X)[i]? =some o->∃q:kz,a[i]? =some q/\q.1.2=o:=λ{i o} b=>by
  rw[<-k,List.getElem?_map]at b
  cases hq:a[i]? with
  |none=>rw[hq]at b;cases b
  |some q=>rw[hq]at b;exact⟨q,rfl,by simpa using b⟩
 obtain⟨I,F,r⟩:=p y
 obtain⟨J,G,H⟩:=p K
 have C:X.getD (c.ix e.2.1) 0<=1000000000:=D _ (by rw[List.getD_eq_getElem?_getD,bB L];exact List.getElem_mem _)
 have O:X.getD (c.ix e.1) 0=X.getD (c.ed e).f 0:=rfl
 refine(Mm w a T h e (X.getD (c.ix e.1) 0) (X.getD (c.ix e.2.1) 0) I J F G (by rw[r];exact A) (by rw[H];exact M) C R).mono λu H' m=>?_
 obtain⟨T',rfl,m⟩:=m
 refine⟨T',rfl,?_⟩
 rcases m with⟨rfl,B,g⟩|⟨rfl,B,N,g⟩
 ·have d:fA X (c.ed e)=X:=if_neg (by show ¬X.getD (c.ix e.1) 0<X.getD (c.ix e.2.1) 0+_;unfold Ed.w bE.ed;simp only;omega)
  refine⟨false,a,rfl,?_,g,?_⟩
  ·rw[d];simp
  ·rw[d];exact k
 ·have d:fA X (c.ed e)=X.set (c.ix e.1) (X.getD (c.ix e.2.1) 0+if e.2.2 then 1 else 0):=if_pos (by show X.getD (c.ix e.1) 0<X.getD (c.ix e.2.1) 0+_;unfold Ed.w bE.ed;simp only;omega)
  refine⟨true,_,rfl,?_,g,?_⟩
  ·rw[d,eq_comm,decide_eq_true_iff]
   intro E
   have:=congrArg (λl:List Nat=>l.getD (c.ix e.1) 0) E
   rw[mI _ _ _ _ z,if_pos rfl]at this
   omega
  ·rw[d]
   have:=yT (n:=X) (x:=X.getD (c.ix e.2.1) 0+if e.2.2 then 1 else 0) t v j
   unfold bE.ix at this⊢
   rw[this,List.map_set,k,r]
theorem Ml{A X:List Nat}{e:Ed}(d:∀i,A.getD i 0<=X.getD i 0)(l:X.length=A.length)(k:e.f<X.length):fA X e≠A↔(X≠A\/fA X e≠X):=by
 have c:=λi=>rA X e k i
 constructor
 ·intro h
  by_cases g:X=A
  ·exact .inr (by rw[g]at h⊢;exact h)
  ·exact .inl g
 ·rintro(h|h) b
  ·refine h (mM l λi _=>?_)
   have j:=d i
   have a:=c i
   rw[b]at a
   omega
  ·refine h (mM (by rw[nT]) λi _=>?_)
   have j:=d i
   have a:=c i
   rw[b]at a⊢
   omega
theorem Mi{X:List Nat}{e:Ed}{b:Nat}(h:∀x∈X,x<=b):∀x∈fA X e,x<=b+1:=by
 intro x hx
 unfold fA at hx
 split at hx
 ·rcases List.mem_or_eq_of_mem_set hx with hx|rfl
  ·have:=h x hx;omega
  ·have a:X.getD e.t 0<=b:=by
    rw[List.getD_eq_getElem?_getD]
    cases hq:X[e.t]? with
    |none=>exact Nat.zero_le _
    |some q=>exact h q (aX hq)
   have c:e.w<=1:=by unfold Ed.w;split<;>omega
   omega
 ·have:=h x hx;omega
theorem Nq{R:aB}{xb:Nat}{vm:Value}{c:bE}(h:IX R xb vm c)(hf:c.fW)(ve:Value)(a:List iS)(O:RS R 5 iK ve a)(c0:a.length<=131072)(N:∀e∈a,c.valid e.1/\c.valid e.2.1):
  Spec prog 123 [pT xb,ve] R [] λu H'=>∃T,H'=[T]/\match settle (a.map c.ed) (total c.plain.aR+1) (List.replicate (total c.plain.aR) 0)with
   |none=>u=.tuple [sZ,.bool false].toArray
   |some A=>∃w ll,u=.tuple [w,.bool true].toArray/\NN (sg T) w ll/\ll.map (·.2)=rows c.plain.aR A:=by
 have d0:=h
 have pc:=h.pc
 have om:=h.om
 have B:=h.ci.ss
 have i1:=B.ap
 have i2:One c.vc:=RS.ap h.ci.sc
 have e5:=B.le
 have e6:=hf.1
 have c6:=h.ci.all
 have f4:=ny c.plain
 have e4:c.plain.all.length=c.eY.length:=by rw[<-mT,List.length_map]
 have f0:=hf.eY
 have f2:c.plain.aR.length=c.aR.length:=by unfold bE.plain;simp
 have d6:∀(i:Nat) (s:bT),c.aR[i]? =some s->c.plain.aR[i]? =some s.plain:=λi s t=>mX t
 have e0:=yU c.plain.aR
 have d8:=λw Q T hh X v hr e N hb R=>Mk (c:=c) w Q T hh X v hr e N hb R
 have e1:=uC c.plain.aR 0
 have c8:∀e∈a,(c.ed e).f<total c.plain.aR:=λe he=>by
  obtain⟨s,_,H,_,r,_⟩:=uk (X:=List.replicate (total c.plain.aR) 0) (N e he).1 (by simp)
  rw[List.length_replicate]at r
  exact r
 have f8:=O.ap
 have e8:=O.le
 have f3:total c.plain.aR<=256:=by omega
 generalize f5:total c.plain.aR=tot at *
 refine Spec.body Tryz.func123 rfl Tryz.results123 Tryz.ntmps123 rfl ?_
 refine .sr<|.ag rfl<|.ag rfl<|.z<|.mo rfl<|.nc rfl<|.fa rfl<|.fa rfl<|.lo rfl<|.q (.bD B) ?_
 refine .makeSlice (enc:=fe) c.aR.length ((sZ,[]):fP) rfl rfl (by decide) (by simp[fe,ap]) rfl rfl (by omega) (by omega) (λS T6 c3=>?_)
 refine .ag rfl<|.zs<|.sr<|.mo rfl<|.nc rfl<|.fa rfl<|.fa rfl<|.lo rfl<|.q (.bD B) ?_
 refine .mo rfl<|.zn<|.block ?_
 refine .cq [(0,_),(1,_),(6,_),(23,_),(24,_)] (X:=Nat×List kz×aA) (λy=>y.1<=c.aR.length/\y.2.1.length=y.1/\OS 182 1 fe (.slice (some ⟨S,0,none⟩) c.aR.length c.aR.length) (y.2.1.map (·.1)++List.replicate (c.aR.length-y.1) ((sZ,[]):fP)) y.2.2/\(∀q∈y.2.1,OS 3 1 dc q.1.1 q.1.2 q.2)/\y.2.1.map (·.1.2)=((c.plain.aR.take y.1).map λs=>List.replicate s.bI.length 0)) (λy E=>(25,iN y.1)::E) (λy G=>y.2.2::y.2.1.flatMap (·.2)::G) (λy=>c.aR.length-y.1) (0,[],T6) (G:=[]) ⟨Nat.zero_le _,rfl,by simp only[List.map_nil,List.nil_append,Nat.sub_zero];exact c3,λq hq=>(by cases hq),by simp⟩ kE.c.c.c.c.c.c ((aY [0]).trans (bf.eT (by simp[take]))) ?_
 rintro⟨i,D,To⟩ ⟨hi,a0,l,hI,Z⟩
 simp only at hi a0 l hI Z⊢
 refine .sr<|.q .lss<|.zs ?_
 refine .cond rfl (λU=>?_) λU=>?_
 have b3:i<c.aR.length:=cg U
 obtain⟨⟨sn,sv,d⟩,t⟩:=bU b3
 have b7:=c6 _ (aX t)
 have a4:RS R 3 bQ.enc sv d:=b7.rs
 have f6:=a4.ap
 have e7:=a4.le
 have f7:bW (bT.enc ⟨sn,sv,d⟩):=⟨b7.cH⟩
 have f1:d.length<=16:=hf.2 _ (aX t)
 have d5:=d6 i _ t
 obtain⟨k,hk⟩:∃k,c.aR.length-i=k+1:=⟨c.aR.length-i-1,by omega⟩
 have d2:c.aR.length-(i+1)=k:=by omega
 rw[hk]at l
 have a5:(D.map (·.1)).length=i:=by rw[List.length_map,a0]
 obtain⟨z,hz⟩:∃z,(D.map (·.1)++List.replicate (k+1) ((sZ,[]):fP))[i]? =some z:=⟨_,bB (by rw[List.length_append,a5,List.length_replicate];omega)⟩
 refine .kn<|.seq<|.block<|.sr<|.mo rfl ?_
 refine .bA i B t (λf9=>?_)
 refine .q (.aI rfl) ?_
 refine .bN (λb8=>?_)
 refine .ag rfl<|.bG rfl rfl<|.zn<|.region<|.mo rfl<|.mo rfl<|.fa rfl<|.lo rfl<|.q (.bD a4) ?_
 refine .makeSlice (enc:=dc) d.length 0 rfl rfl (by decide) (by simp[dc,ap]) rfl rfl (by omega) (by omega) (λbn Tn c4=>?_)
 refine .bo i l hz (λg0=>?_)
 refine .kP i l hz ((.slice (some ⟨bn,0,none⟩) d.length d.length,List.replicate d.length 0):fP) (λF a6=>?_)
 rw[pK a5]at a6
 refine .nil<|ba<|aw<|.region ?_
 refine .ia (i+1) .add ?_
 refine .mo rfl<|.nil ?_
 ·exact bi (i+1,D++[((.slice (some ⟨bn,0,none⟩) d.length d.length,List.replicate d.length 0),Tn)],F) ⟨b3,by simp[a0],by simp only;rw[d2,List.map_append];exact a6,λq hq=>by
   rcases List.mem_append.1 hq with hq|hq
   ·exact hI q hq
   ·rw[List.mem_singleton]at hq;subst hq;exact c4,by simp only;rw[dS d5,List.map_append,List.map_append,Z];simp[bT.plain]⟩ (by simp only;omega) kE.c.c.c.c.c.c ((aY [2,2,0]).trans (bf.eT (by simp[take,bF])))
 have c9:i=c.aR.length:=by have:=bC U;omega
 have b9:D.map (·.1.2)=rows c.plain.aR (List.replicate tot 0):=by
  rw[e0,Z,dD (by omega)]
 rw[c9,Nat.sub_self]at l
 simp only[List.replicate_zero,List.append_nil]at l
 refine .exit<|bq<|bz<|br<|aw<|.seq<|.sr<|.mo rfl<|.nc rfl<|.fa rfl<|.lo rfl ?_
 refine .q (.xL (d0.rm.nO λb o hb=>.inl hb) rfl) ?_
 rw[e1]
 refine .ia (tot+1) .add ?_
 refine .mo rfl<|.zn<|.block ?_
 refine .cq [(1,_),(6,_),(43,_)] (X:=Nat×List Nat×List kz×aA) (λy=>y.1<=tot+1/\y.2.1.length=tot/\mC (.slice (some ⟨S,0,none⟩) c.aR.length c.aR.length) y.2.2.1 y.2.2.2/\y.2.2.1.map (·.1.2)=rows c.plain.aR y.2.1/\(∀x∈y.2.1,x<=y.1*a.length)/\settle (a.map c.ed) (tot+1) (List.replicate tot 0)=settle (a.map c.ed) (tot+1-y.1) y.2.1) (λy E=>(44,iN y.1)::E) (λy _=>[y.2.2.2]) (λy=>tot+1-y.1) (0,List.replicate tot 0,D,To++(D.flatMap (·.2)++[])) (G:=[]) ⟨Nat.zero_le _,by simp,⟨To,by simp,l,hI⟩,b9,λx g=>by rw[List.eq_of_mem_replicate g];exact Nat.zero_le _,rfl⟩ kE.c.c.c.c (bf.one [0,0] _) ?_
 rintro⟨m,A,Q,T⟩ ⟨hm,Y,a7,b5,a9,M⟩
 simp only at hm Y a7 b5 a9 M⊢
 refine .sr<|.q .lss<|.zs ?_
 refine .cond rfl (λH=>?_) λH=>?_
 have d4:m<tot+1:=by have:=cv H;omega
 have e9:m*a.length<=256*131072:=Nat.mul_le_mul (by omega) c0
 refine .kn<|.seq<|.block<|.sr<|.ag rfl<|.zs<|.sr<|.mo rfl<|.q (.bD O) ?_
 refine .mo rfl<|.zn<|.block ?_
 refine .cq [(1,_),(6,_),(43,_),(44,_),(46,_),(47,_)] (X:=Nat×List Nat×List kz×aA) (λy=>y.1<=a.length/\y.2.1=((a.take y.1).map c.ed).foldl fA A/\y.2.1.length=tot/\mC (.slice (some ⟨S,0,none⟩) c.aR.length c.aR.length) y.2.2.1 y.2.2.2/\y.2.2.1.map (·.1.2)=rows c.plain.aR y.2.1/\(∀x∈y.2.1,x<=m*a.length+y.1)/\∀i,A.getD i 0<=y.2.1.getD i 0) (λy E=>(48,iN y.1)::(9,.bool (decide (y.2.1≠A)))::E) (λy _=>[y.2.2.2]) (λy=>a.length-y.1) (0,A,Q,T) (G:=[]) ⟨Nat.zero_le _,rfl,Y,a7,b5,λx g=>a9 x g,λi=>Nat.le_refl _⟩ ((kE.c.c.c.c.c.c.bL rfl (by simp)).cons rfl) rH ?_
 rintro⟨j,X,C,TX⟩ ⟨hj,v,n,I,L,K,a3⟩
 simp only at hj v n I L K a3⊢
 refine .sr<|.q .lss<|.zs ?_
 refine .cond rfl (λV=>?_) λV=>?_
 have b2:j<a.length:=cg V
 obtain⟨e,a2⟩:=bU b2
 have b1:=aX a2
 have d9:=d8 _ C TX I X n L e (N e b1) (λx g=>by have:=K x g;omega)
 have b0:=c8 e b1
 refine .kn<|.seq<|.block<|.sr ?_
 refine .bA j O a2 (λg1=>?_)
 refine .q (.aI rfl) ?_
 refine .bN (λe3=>?_)
 refine .bG rfl rfl<|.z<|.mo rfl<|.q (.aI rfl) ?_
 refine .cV (d9 R) (λu F hu=>?_)
 obtain⟨ch,L1,rfl,c7,c5,d7⟩:=hu
 refine .zn ?_
 refine bp.cP [(1,_),(6,_),(43,_),(44,_),(46,_),(47,_),(48,_)] kE.c.c.c.c.c.c.c (X:=Unit) (λ_=>True) (λ_ E=>(9,.bool (decide (X≠A)||ch))::E) (λ_=>[F]) ?_ ?_
 refine .cond rfl (λr=>?_) λr=>?_
 refine .region<|.ag rfl<|.nil ?_
 ·exact aE () trivial (kE.c.c.c.c.c.c.c.bL rfl (by simp[r])) (aY [1])
 refine .skip ?_
 ·exact aE () trivial (kE.c.c.c.c.c.c.c.bL rfl (by simp[r])) (aY [1])
 intro x g
 refine ba<|aw<|.region ?_
 refine .ia (j+1) .add ?_
 refine .mo rfl<|.nil ?_
 ·exact bi (j+1,fA X (c.ed e),L1,F) ⟨b2,by simp only;rw[dS a2,List.map_append,List.foldl_append, <-v];rfl,by simp only;rw[nT,n],c5,d7,λy hy=>by have:=Mi K y hy;simp only;omega,λi=>Nat.le_trans (a3 i) (rA X _ (by rw[n];exact b0) i)⟩ (by simp only;omega) ((kE.c.c.c.c.c.c.bL rfl (by
   simp only
   rw[c7, <-Bool.decide_or]
   exact decide_eq_decide.2 (Ml a3 (by rw[n,Y]) (by rw[n];exact b0)).symm)).cons rfl) rH
 have d1:j=a.length:=by have:=bC V;omega
 have a1:X=pass (a.map c.ed) A:=by rw[v,d1,List.take_length];rfl
 refine .exit<|bq<|bz<|br<|aw<|.sr<|.mo rfl<|.q .not<|.zn ?_
 refine .cond rfl (λW=>?_) λW=>?_
 have J:X=A:=Decidable.not_not.1 (show ¬¬X=A by simpa using W)
 refine .sr<|.mo rfl<|.ag rfl<|.az rfl ?_
 refine .ret (bg (aF (cz (bg (aF (bj _ (.two (.tmp rfl) (.tmp rfl)) (.one [0] _) ?_))))))
 ·refine⟨_,rfl,?_⟩
  rw[M,show tot+1-m=tot+1-(m+1)+1 by omega,settle,if_pos (by rw[<-a1];exact J)]
  obtain⟨e2,a8,c2,c1⟩:=I
  refine⟨_,C.map (·.1),rfl,⟨c2.rs λp hp=>?_,λq hq=>?_⟩,?_⟩
  ·show p∈_
   simp[take,a8,hp]
  ·obtain⟨q2,b4,rfl⟩:=List.mem_map.1 hq
   refine(c1 q2 b4).rs λp hp=>?_
   show p∈_
   have:p∈C.flatMap (·.2):=List.mem_flatMap.2 ⟨q2,b4,hp⟩
   simp only[take,a8,List.getD_cons_zero,List.flatten_cons,List.flatten_nil,List.append_nil]
   exact List.mem_append_right _ this
  ·rw[List.map_map, <-J]
   exact L
 have J:X≠A:=by simpa using W
 refine .skip<|ba<|aw<|.region ?_
 refine .ia (m+1) .add ?_
 refine .mo rfl<|.nil ?_
 ·exact bi (m+1,X,C,TX) ⟨d4,n,I,L,λx g=>by have h6:=K x g;simp only;rw[Nat.add_mul];omega,by
   simp only
   rw[M,show tot+1-m=tot+1-(m+1)+1 by omega,settle,if_neg (by rw[<-a1];exact J), <-a1]⟩ (by simp only;omega) kE.c.c.c.c rH
 refine .exit<|bq<|bz<|br<|aw<|.sr<|.ag rfl<|.az rfl ?_
 refine .ret (bj _ (.two (.tmp rfl) (.tmp rfl)) (.one [0] _) ?_)
 ·refine⟨_,rfl,?_⟩
  have d3:m=tot+1:=by have:=bC H;omega
  rw[M,d3,Nat.sub_self,settle]
theorem Nn{c:bE}{k:Nat}{E:List Ed}(h:c.plain.all.length=k):settle E (k+1) (List.replicate k 0)=settle E (c.plain.all.length+1) (List.replicate c.plain.all.length 0):=by rw[h]
def SA(c:bE)(ok:Bool)(w:Value)(T:aA)(o:Option (List Nat)):Prop:=match o with
 |none=>ok=false
 |some A=>ok=true/\∃ll,NN (sg T) w ll/\ll.map (·.2)=rows c.plain.aR A
theorem Ll(c:bE)(R:aB)(h:c.is R):Spec prog 67 [.agg c.enc.toArray] R [] λu H'=>∃T,H'=[T]/\∃w ll,u=.tuple [w,.int .i64 (c.plain.numbers isWord cX).1].toArray/\NN (sg T) w ll/\ll.map (·.2)=(c.plain.numbers isWord cX).2:=by
 rw[<-Lk]
 have hR:=Md c R h
 have Z:=K7 c R h
 have a2:=qy (c:=c)
 have a:c.plain.qX isWord cX=if c.plain.right isWord cX=false then((4:Int),([]:List (List Nat)))else if ¬c.plain.dG then(10,[])else match c.plain.kF with|none=>(14,[])|some E=>match settle E (c.plain.all.length+1) (List.replicate c.plain.all.length 0)with|none=>(15,[])|some n=>(0,rows c.plain.aR n):=rfl
 have a1:=λ(R:aB) xb vm (H:IX R xb vm c) U F=>MY (R:=R) (xb:=xb) (vm:=vm) H U F
 have a5:=λ(R:aB) xb vm (H:IX R xb vm c) F ve f a8 hl hv=>Nq (R:=R) (xb:=xb) (vm:=vm) H F ve f a8 hl hv
 have a6:=ny c.plain
 have i1:One c.vs:=RS.ap h.ss
 have i2:One c.vc:=RS.ap h.sc
 generalize a9:c.plain.qX isWord cX=nn at *
 refine Spec.body Tryz.func67 rfl Tryz.results67 Tryz.ntmps67 rfl ?_
 refine .sr ?_
 refine .bX rfl (λb1=>?_)
 refine .ag rfl<|.ag rfl<|.zs<|.sr<|.q (.aI rfl) ?_
 refine .bd (hR.weaken cQ) (λu x=>?_)
 subst x
 refine .q .not<|.zn ?_
 refine .cond rfl (λk=>?_) λk=>?_
 refine .sr<|.ag rfl<|.az rfl ?_
 refine .ret (aF (bj _ (.two (.tmp rfl) (.tmp rfl)) bf.ja ?_))
 ·refine⟨[],rfl,sZ,[],?_,.nil,?_⟩
  ·rw[a,if_pos (by simpa using k)]
  ·rw[a,if_pos (by simpa using k)];rfl
 have Q:c.plain.right isWord cX=true:=by simpa using k
 obtain⟨N,a0⟩:=a2 Q
 rw[if_neg (by rw[Q];simp)]at a
 refine .kn<|.sr<|.q (.aI rfl) ?_
 refine .da (Z.weaken cQ) (λu J x=>?_)
 obtain⟨o,m,rfl,y,x⟩:∃(o:Option Addr) (m:Bool),u=.tuple [.pointer o,.bool m].toArray/\m=decide c.plain.dG/\(m=true->∃xb,o=some ⟨xb,0,none⟩/\oy xb c J):=by
  rcases x with⟨i,xb,rfl,X⟩|⟨i,rfl⟩
  ·exact⟨_,true,rfl,(decide_eq_true i).symm,λ_=>⟨xb,rfl,X⟩⟩
  ·exact⟨_,false,rfl,(decide_eq_false i).symm,λG=>(by cases G)⟩
 refine .mo rfl<|.q .extract<|.q .extract<|.ag rfl<|.ag rfl<|.zs<|.sr<|.mo rfl<|.q .not<|.zn ?_
 refine .cond rfl (λt=>?_) λt=>?_
 refine .sr<|.ag rfl<|.az rfl ?_
 refine .ret (aF (bj _ (.two (.tmp rfl) (.tmp rfl)) bf.ja ?_))
 ·have d:m=false:=by simpa using t
  rw[d]at y
  have i:¬c.plain.dG:=bC y.symm
  refine⟨[],rfl,sZ,[],?_,.nil,?_⟩
  ·rw[a,if_pos i]
  ·rw[a,if_pos i];rfl
 have O:m=true:=by simpa using t
 obtain⟨xb,rfl,Y⟩:=x O
 rw[O]at y
 have i:c.plain.dG:=cv y.symm
 rw[if_neg (λG=>G i)]at a
 obtain⟨vm,K⟩:=Y.view h
 refine .kn<|.sr<|.mo rfl ?_
 refine .da ((a1 _ xb vm K (wT a0) N).weaken λb o hb=>hb.elim .inl λhb=>.inr (by simp[hb])) (λu S a7=>?_)
 obtain⟨w6,f,I,rfl,M,a3,j⟩:=a7
 have i6:=M.ap
 refine .mo rfl<|.q .extract<|.q .extract<|.ag rfl<|.ag rfl<|.zs<|.sr<|.mo rfl<|.q .not<|.zn ?_
 refine .cond rfl (λv=>?_) λv=>?_
 have d:I=false:=by simpa using v
 have D:c.plain.kF=none:=by
  cases he:c.plain.kF with
  |none=>rfl
  |some E=>rw[he]at j;rw[j.1]at d;cases d
 rw[D]at a
 simp only at a
 refine .sr<|.ag rfl<|.az rfl ?_
 refine .ret (aF (bj _ (.two (.tmp rfl) (.tmp rfl)) bf.ja ?_))
 ·refine⟨[],rfl,sZ,[],?_,.nil,?_⟩
  ·rw[a]
  ·rw[a];rfl
 have d:I=true:=by simpa using v
 obtain⟨E,D,V,W⟩:∃E,c.plain.kF=some E/\f.map c.ed=E/\∀e∈f,c.valid e.1/\c.valid e.2.1:=by
  cases he:c.plain.kF with
  |none=>rw[he]at j;rw[show I=false from j]at d;cases d
  |some E=>rw[he]at j;exact⟨E,rfl,j.2.1,j.2.2⟩
 subst V
 rw[D]at a
 simp only at a
 rw[<-Nn a6.symm]at a
 refine .kn<|.sr<|.mo rfl<|.mo rfl ?_
 refine .da ((a5 _ xb vm (K.mono (R':=λb o=>R b o\/(b,o)∈J\/(b,o)∈S) λb o hb=>hb.elim .inl λhb=>.inr (.inl hb)) N w6 f (M.rs λp hp=>.inr (.inr hp)) a3 W).weaken λb o hb=>hb.elim .inl λhb=>.inr (by rcases hb with hb|hb<;>simp[hb])) (λu B z=>?_)
 obtain⟨s,r,rfl,l⟩:∃(s:Value) (r:Bool),u=.tuple [s,.bool r].toArray/\SA c r s B (settle (f.map c.ed) (total c.plain.aR+1) (List.replicate (total c.plain.aR) 0)):=by
  cases g:settle (f.map c.ed) (total c.plain.aR+1) (List.replicate (total c.plain.aR) 0)with
  |none=>rw[g]at z;exact⟨_,_,z,rfl⟩
  |some A=>rw[g]at z;obtain⟨w,ll,k,t,v⟩:=z;exact⟨w,true,k,rfl,ll,t,v⟩
 refine .mo rfl<|.q .extract<|.q .extract<|.ag rfl<|.ag rfl<|.zs<|.sr<|.mo rfl<|.q .not<|.zn ?_
 refine .cond rfl (λC=>?_) λC=>?_
 have d:r=false:=by simpa using C
 have g:settle (f.map c.ed) (total c.plain.aR+1) (List.replicate (total c.plain.aR) 0)=none:=by
  cases g:settle (f.map c.ed) (total c.plain.aR+1) (List.replicate (total c.plain.aR) 0)with
  |none=>rfl
  |some A=>rw[g]at l;rw[l.1]at d;cases d
 rw[g]at a
 simp only at a
 refine .sr<|.ag rfl<|.az rfl ?_
 refine .ret (aF (bj _ (.two (.tmp rfl) (.tmp rfl)) bf.ja ?_))
 ·refine⟨[],rfl,sZ,[],?_,.nil,?_⟩
  ·rw[a]
  ·rw[a];rfl
 have d:r=true:=by simpa using C
 obtain⟨A,g,ll,L,a4⟩:∃A,settle (f.map c.ed) (total c.plain.aR+1) (List.replicate (total c.plain.aR) 0)=some A/\∃ll,NN (sg B) s ll/\ll.map (·.2)=rows c.plain.aR A:=by
  cases g:settle (f.map c.ed) (total c.plain.aR+1) (List.replicate (total c.plain.aR) 0)with
  |none=>rw[g]at l;rw[show r=false from l]at d;cases d
  |some A=>rw[g]at l;exact⟨A,rfl,l.2⟩
 rw[g]at a
 simp only at a
 have i9:One s:=L.rs.ap
 refine .kn<|.sr<|.mo rfl<|.ag rfl<|.az rfl ?_
 refine .ret (bj _ (.two (.tmp rfl) (.tmp rfl)) (.one [0] _) ?_)
 ·refine⟨B,by simp[take],s,ll,?_,L,?_⟩
  ·rw[a]
  ·rw[a];exact a4
def oN(r:Rl):Rl:=⟨r.name,r.types.take 9,r.nodes.take 66⟩
def qx(s:Sp):Sp:=⟨short s.name 40,(s.bI.take 6).map oN⟩
def gC(c:Cf):Cf:=⟨(c.aR.take 5).map qx,c.scopes.take 5⟩
theorem bQ.is.taken{R:aB}{i g d c:Value}{r:Rl}(h:bQ.is R ⟨i,g,r⟩){R':aB}(j:∀b o,R b o->R' b o){n m:Nat}(f:RS R' 2 Ty.enc d (r.types.take n))(e:RS R' 5 Nd.enc c (r.nodes.take m)):bQ.is R' ⟨d,c,⟨r.name,r.types.take n,r.nodes.take m⟩⟩:=
 ⟨h.n,f,e,λx a=>h.ft x (List.mem_of_mem_take a),λx a=>h.fd x (List.mem_of_mem_take a)⟩
theorem JZ(c:bE)(R:aB)(h:c.is R):Spec prog 22 [.agg c.enc.toArray] R [] λu H'=>∃T,H'=[T]/\∃c':bE,u=.agg c'.enc.toArray/\c'.is (λb o=>R b o\/(b,o)∈T)/\c'.plain=gC c.plain:=by
 obtain⟨vs,vc,K,A⟩:=c
 have J:=h.ss
 have Z:=h.sc
 have i1:=J.ap
 have i2:=Z.ap
 simp only at J Z i1 i2
 have e0:=J.le
 have d9:=Z.le
 refine Spec.body Tryz.func22 rfl Tryz.results22 Tryz.ntmps22 rfl ?_
 refine .sr ?_
 refine .bX rfl (λO=>?_)
 refine .bN (λQ=>?_)
 refine .z ?_
 refine .q .cO ?_
 refine .bN (λD=>?_)
 refine .bG rfl rfl<|.zs<|.sr<|.az rfl<|.block ?_
 refine .cq [(1,_),(2,_),(3,_)] (X:=Nat×Value×List bT×aA×aA) (λy=>(y.1<=5/\y.1<=K.length)/\OS 164 2 bT.enc y.2.1 y.2.2.1 y.2.2.2.1/\(∀s∈y.2.2.1,s.is (λb o=>R b o\/(b,o)∈y.2.2.2.2))/\y.2.2.1.map (·.plain)=((K.take y.1).map (·.plain)).map qx) (λy E=>(4,iN y.1)::E) (λy G=>y.2.2.2.1::y.2.2.2.2::bl D [y.2.1,sZ] 25::G) (λy=>5-y.1) (0,sZ,[],[],[]) ⟨⟨by simp,by simp⟩,OS.nil,λs a=>(by cases a),by simp⟩ kE.c.c.c.c bf.gJ ?_
 rintro⟨i,w,L,M,C⟩ ⟨⟨c0,hi⟩,hO,f,V⟩
 simp only at c0 hi hO f V⊢
 have io:=hO.ap
 have d8:L.length=i:=by have:=congrArg List.length V;rw[List.length_map,List.length_map,List.length_map,List.length_take]at this;omega
 refine .seq<|.seq ?_
 refine bp.cP [(1,_),(2,_),(3,_),(4,_)] kE.c.c.c.c (X:=Unit) (λ_=>True) (λ_ E=>(21,.bool (decide (i<K.length/\i<5)))::E) (λ_=>[M,C,bl D [w,sZ] 25,bl Q [sZ,sZ] 25,bl O [vs,vc] 25]) ?_ ?_
 refine .region<|.mo rfl<|.fa rfl<|.lo rfl<|.q (.bD J) ?_
 refine .q .lss<|.mo rfl ?_
 refine .split (t:=18) rfl (λH=>?_) (λH=>?_)
 refine .gT H<|.mo rfl<|.gT H<|.q .lss<|.q (.aO H) ?_
 refine .nil ?_
 ·exact aE () trivial (kE.c.c.c.c.bL rfl (by clear f;grind)) rH
 refine .gF H<|.gF H<|.q (.aK H) ?_
 refine .nil ?_
 ·exact aE () trivial (kE.c.c.c.c.bL rfl (by clear f;grind)) rH
 intro y l
 refine aw ?_
 refine .cond rfl (λh1=>?_) λh1=>?_
 obtain⟨b0,c8⟩:=cv h1
 obtain⟨⟨B,sv,m⟩,a⟩:=bU b0
 have b6:=h.all _ (aX a)
 have a6:RS R 3 bQ.enc sv m:=b6.rs
 have e5:=a6.ap
 have e1:=a6.le
 refine .kn<|.seq<|.block<|.sr<|.fa rfl<|.lo rfl<|.mo rfl ?_
 refine .bA i J a (λf0=>?_)
 refine .fa rfl<|.lo rfl ?_
 refine .bd (Nx B 40 _) (λu hu=>?_)
 subst hu
 refine .q .cO ?_
 refine .bN (λb5=>?_)
 refine .bG rfl rfl<|.zs<|.sr<|.az rfl<|.block ?_
 refine .cq [(1,_),(2,_),(3,_),(4,_),(5,_)] (X:=Nat×Value×List bQ×aA) (λy=>(y.1<=6/\y.1<=m.length)/\OS 167 3 bQ.enc y.2.1 y.2.2.1 y.2.2.2/\(∀r∈y.2.2.1,r.is R)/\y.2.2.1.map (·.r)=((m.take y.1).map (·.r)).map oN) (λy E=>(6,iN y.1)::E) (λy G=>y.2.2.2::bl b5 [.string (short B 40),y.2.1] 164::G) (λy=>6-y.1) (0,sZ,[],[]) ⟨⟨by simp,by simp⟩,OS.nil,λs a=>(by cases a),by simp⟩ kE.c.c.c.c.c.c bf.gw ?_
 rintro⟨k,w2,L2,T2⟩ ⟨⟨c5,hk⟩,a2,U,a1⟩
 simp only at c5 hk a2 U a1⊢
 have c9:=a2.ap
 have d7:L2.length=k:=by have:=congrArg List.length a1;rw[List.length_map,List.length_map,List.length_map,List.length_take]at this;omega
 refine .seq<|.seq ?_
 refine bp.cP [(1,_),(2,_),(3,_),(4,_),(5,_),(6,_)] kE.c.c.c.c.c.c (X:=Unit) (λ_=>True) (λ_ E=>(44,.bool (decide (k<m.length/\k<6)))::E) (λ_=>[T2,bl b5 [.string (short B 40),w2] 164,M,C,bl D [w,sZ] 25,bl Q [sZ,sZ] 25,bl O [vs,vc] 25]) ?_ ?_
 refine .region<|.mo rfl<|.fa rfl<|.lo rfl<|.mo rfl ?_
 refine .bA i J a (λf1=>?_)
 refine .fa rfl<|.lo rfl<|.q (.bD a6) ?_
 refine .q .lss<|.mo rfl ?_
 refine .split (t:=41) rfl (λI=>?_) (λI=>?_)
 refine .gT I<|.mo rfl<|.gT I<|.q .lss<|.q (.aO I) ?_
 refine .nil ?_
 ·exact aE () trivial (kE.c.c.c.c.c.c.bL rfl (by clear f U;grind)) rH
 refine .gF I<|.gF I<|.q (.aK I) ?_
 refine .nil ?_
 ·exact aE () trivial (kE.c.c.c.c.c.c.bL rfl (by clear f U;grind)) rH
 intro y l
 refine aw ?_
 refine .cond rfl (λh2=>?_) λh2=>?_
 obtain⟨a9,c7⟩:=cv h2
 obtain⟨⟨vt,vn,r⟩,Y⟩:=bU a9
 have a5:=b6.all _ (aX Y)
 have a7:RS R 2 Ty.enc vt r.types:=a5.t
 have a4:RS R 5 Nd.enc vn r.nodes:=a5.d
 have e6:=a7.ap
 have e4:=a4.ap
 have e2:bW (bQ.enc ⟨vt,vn,r⟩):=⟨a5.cH⟩
 refine .kn<|.seq<|.block<|.sr<|.fa rfl<|.lo rfl<|.mo rfl ?_
 refine .bA i J a (λf2=>?_)
 refine .fa rfl<|.lo rfl<|.mo rfl ?_
 refine .bA k a6 Y (λf3=>?_)
 refine .q (.aI rfl) ?_
 refine .bN (λb7=>?_)
 refine .bG rfl rfl<|.zs<|.sr<|.fa rfl<|.lo rfl<|.q (.bD a7) ?_
 refine .q .gtr<|.zn ?_
 refine bp.cP [(1,_),(2,_),(3,_),(4,_),(5,_),(6,_),(7,_)] kE.c.c.c.c.c.c.c (X:=Value) (λv=>RS R 2 Ty.enc v (r.types.take 9)) (λ_ E=>E) (λv=>[bl b7 [.string r.name,v,vn] 167,T2,bl b5 [.string (short B 40),w2] 164,M,C,bl D [w,sZ] 25,bl Q [sZ,sZ] 25,bl O [vs,vc] 25]) ?_ ?_
 refine .cond rfl (λh3=>?_) λh3=>?_
 refine .region<|.fa rfl<|.lo rfl ?_
 refine .lE 0 9 a7 rfl ⟨_,rfl⟩ (by omega) (by have:=cv h3;omega) (λv2 a0=>?_)
 have d0:=a0.ap
 refine .fa rfl<|.dm rfl rfl<|.nil ?_
 ·exact aE v2 (by simpa using a0) kE.c.c.c.c.c.c.c rH
 refine .skip ?_
 ·exact aE vt (by rw[dD (gV h3)];exact a7) kE.c.c.c.c.c.c.c rH
 intro x hx
 have b9:RS R 2 Ty.enc x (r.types.take 9):=hx
 clear hx
 obtain⟨xt,rfl⟩:∃z,z=x:=⟨_,rfl⟩
 have e8:=b9.ap
 refine aw<|.seq<|.sr<|.fa rfl<|.lo rfl<|.q (.bD a4) ?_
 refine .q .gtr<|.zn ?_
 refine bp.cP [(1,_),(2,_),(3,_),(4,_),(5,_),(6,_),(7,_)] kE.c.c.c.c.c.c.c (X:=Value) (λv=>RS R 5 Nd.enc v (r.nodes.take 66)) (λ_ E=>E) (λv=>[bl b7 [.string r.name,xt,v] 167,T2,bl b5 [.string (short B 40),w2] 164,M,C,bl D [w,sZ] 25,bl Q [sZ,sZ] 25,bl O [vs,vc] 25]) ?_ ?_
 refine .cond rfl (λh4=>?_) λh4=>?_
 refine .region<|.fa rfl<|.lo rfl ?_
 refine .lE 0 66 a4 rfl ⟨_,rfl⟩ (by omega) (by have:=cv h4;omega) (λv2 a0=>?_)
 have d0:=a0.ap
 refine .fa rfl<|.dm rfl rfl<|.nil ?_
 ·exact aE v2 (by simpa using a0) kE.c.c.c.c.c.c.c rH
 refine .skip ?_
 ·exact aE vn (by rw[dD (gV h4)];exact a4) kE.c.c.c.c.c.c.c rH
 intro x hx
 have b8:RS R 5 Nd.enc x (r.nodes.take 66):=hx
 have e7:=b8.ap
 have b4:bQ.is R ⟨xt,x,oN r⟩:=a5.taken (λb o e=>e) b9 b8
 refine aw<|.sr<|.fa rfl<|.lo rfl<|.az rfl<|.region<|.mo rfl<|.q (.aI rfl) ?_
 refine .dA (λd2=>?_)
 refine .append a2 (RS.lits (xs:=[(⟨xt,x,oN r⟩:bQ)]) rfl (by simp[bQ.enc]) (by intro y l;rw[List.mem_singleton]at l;subst l;exact b4.cH)) (by simp only[List.length_singleton];omega) (λv5 N g=>?_)
 have i5:=g.ap
 refine .fa rfl<|.dm rfl rfl<|.nil<|ba<|aw<|.region<|.mo rfl ?_
 refine .ia (k+1) .add ?_
 refine .ag rfl<|.nil ?_
 ·exact bi (k+1,v5,L2++[⟨xt,x,oN r⟩],N) ⟨⟨c7,a9⟩,g,λq hq=>by
   rcases List.mem_append.1 hq with hq|hq
   ·exact U q hq
   ·rw[List.mem_singleton]at hq;subst hq;exact b4,by simp only;rw[dS Y,List.map_append,List.map_append,List.map_append,a1];rfl⟩ (by simp only;omega) kE.c.c.c.c.c.c (aY [2,2,2,2,2,2,2])
 refine .exit<|bq<|bz<|br<|aw<|.sr<|.fa rfl<|.lo rfl<|.az rfl<|.region<|.mo rfl<|.q (.aI rfl) ?_
 refine .dA (λd3=>?_)
 refine .append hO (RS.lits (xs:=[(⟨short B 40,w2,L2⟩:bT)]) rfl (by simp[bT.enc]) (by intro y l u hu;rw[List.mem_singleton]at l;subst l;simp only[bT.enc,List.mem_cons,List.not_mem_nil,or_false]at hu;rcases hu with rfl|rfl;rfl;exact c9.h)) (by simp only[List.length_singleton];omega) (λv5 N g=>?_)
 have i5:=g.ap
 refine .fa rfl<|.dm rfl rfl<|.nil<|ba<|aw<|.region<|.mo rfl ?_
 refine .ia (i+1) .add ?_
 refine .ag rfl<|.nil ?_
 ·exact bi (i+1,v5,L++[⟨short B 40,w2,L2⟩],N,T2++C) ⟨⟨c8,b0⟩,g,λq hq=>by
   rcases List.mem_append.1 hq with hq|hq
   ·exact(f q hq).mono λb o e=>e.elim .inl λe=>.inr (List.mem_append_right _ e)
   ·rw[List.mem_singleton]at hq
    subst hq
    refine⟨?_,a2.rs λp W=>.inr (List.mem_append_left _ W),λr Y=>(U r Y).mono λb o e=>.inl e⟩
    have:=Nw (s:=B) (n:=40)
    simp only
    omega,by
   simp only
   rw[dS a,List.map_append,List.map_append,List.map_append,V]
   have c6:m.take k=m.take 6:=by
    have d5:=bC h2
    by_cases h6:k=6
    ·rw[h6]
    ·rw[dD (show m.length<=k by omega),dD (show m.length<=6 by omega)]
   simp only[List.map_cons,List.map_nil]
   congr 1
   unfold bT.plain qx
   simp only
   rw[a1,c6]
   simp[List.map_take]⟩ (by simp only;omega) kE.c.c.c.c ((aY [3,1,2,2,2,2]).trans (bf.eT (by simp[take,bF,dh,bE.enc])))
 have c1:K.take i=K.take 5:=by
  have d4:=bC h1
  by_cases S:i=5
  ·rw[S]
  ·rw[dD (show K.length<=i by omega),dD (show K.length<=5 by omega)]
 rw[c1]at V
 refine .exit<|bq<|bz<|br<|aw<|.seq<|.sr<|.az rfl<|.block ?_
 refine .cq [(1,_),(2,_),(3,_)] (X:=Nat×Value×aA) (λy=>(y.1<=5/\y.1<=A.length)/\OS 169 4 Sc.enc y.2.1 (A.take y.1) y.2.2) (λy E=>(10,iN y.1)::E) (λy G=>y.2.2::M::C::bl D [w,y.2.1] 25::G) (λy=>5-y.1) (0,sZ,[]) ⟨⟨by simp,by simp⟩,OS.nil⟩ kE.c.c.c.c bf.gw ?_
 rintro⟨j,w3,T3⟩ ⟨⟨c2,hj⟩,a3⟩
 simp only at c2 hj a3⊢
 have e3:=a3.ap
 refine .seq<|.seq ?_
 refine bp.cP [(1,_),(2,_),(3,_),(10,_)] kE.c.c.c.c (X:=Unit) (λ_=>True) (λ_ E=>(94,.bool (decide (j<A.length/\j<5)))::E) (λ_=>[T3,M,C,bl D [w,w3] 25,bl Q [sZ,sZ] 25,bl O [vs,vc] 25]) ?_ ?_
 refine .region<|.mo rfl<|.fa rfl<|.lo rfl<|.q (.bD Z) ?_
 refine .q .lss<|.mo rfl ?_
 refine .split (t:=91) rfl (λF=>?_) (λF=>?_)
 refine .gT F<|.mo rfl<|.gT F<|.q .lss<|.q (.aO F) ?_
 refine .nil ?_
 ·exact aE () trivial (kE.c.c.c.c.bL rfl (by clear f;grind)) rH
 refine .gF F<|.gF F<|.q (.aK F) ?_
 refine .nil ?_
 ·exact aE () trivial (kE.c.c.c.c.bL rfl (by clear f;grind)) rH
 intro y l
 refine aw ?_
 refine .cond rfl (λS=>?_) λS=>?_
 obtain⟨a8,c4⟩:=cv S
 obtain⟨s,a⟩:=bU a8
 refine .kn<|.seq<|.block<|.sr<|.fa rfl<|.lo rfl<|.az rfl<|.region<|.mo rfl<|.fa rfl<|.lo rfl<|.mo rfl ?_
 refine .bA j Z a (λe9=>?_)
 refine .q (.aI rfl) ?_
 refine .dA (λd1=>?_)
 refine .append a3 (RS.lits (xs:=[s]) rfl (by simp[Sc.enc]) (by simp[Sc.enc,ap])) (by simp only[List.length_take,List.length_singleton];omega) (λv5 N g=>?_)
 have i5:=g.ap
 refine .fa rfl<|.dm rfl rfl<|.nil<|ba<|aw<|.region<|.mo rfl ?_
 refine .ia (j+1) .add ?_
 refine .ag rfl<|.nil ?_
 ·exact bi (j+1,v5,N) ⟨⟨c4,a8⟩,by simp only;rw[dS a];exact g⟩ (by simp only;omega) kE.c.c.c.c (aY [1,1,1,1,1,1])
 refine .exit<|bq<|bz<|br<|aw<|.sr<|.q (.aI rfl)<|.bG rfl rfl<|.zn ?_
 refine .ret (bj _ (.one (.ei rfl rfl)) (.one [1,1,0] _) ?_)
 ·refine⟨_,rfl,⟨w,w3,L,A.take j⟩,rfl,⟨hO.rs λp W=>.inr (by simp[take,bF,W]),a3.rs λp W=>.inr (by simp[take,bF,W]),λs a=>(f s a).mono λb o e=>e.elim .inl λe=>.inr (by simp[take,bF,e]),λs a=>h.fc s (List.mem_of_mem_take a)⟩,?_⟩
  have c3:A.take j=A.take 5:=by
   have d6:=bC S
   by_cases h6:j=5
   ·rw[h6]
   ·rw[dD (show A.length<=j by omega),dD (show A.length<=5 by omega)]
  unfold bE.plain gC
  simp only
  rw[V,c3,List.map_take]
namespace LIN
theorem mF(v:Value)(xs:List Nat)(R:aB)(h:RS R 1 dc v xs)(i:xs.length<=1000000):
  Spec prog 143 [v] R [] λv' H'=>∃T,H'=[T]/\OS 3 1 dc v' xs T:=by
 obtain⟨b,d,rfl⟩:=h.val
 have f:∀H,RS (Rx R H) 1 dc (.slice b xs.length d) xs:=λH=>h.rx
 refine Spec.gx (H':=[[]]) (by simp) ?_
 refine Spec.body Tryz.func143 rfl Tryz.results143 Tryz.ntmps143 rfl ?_
 refine .sr<|.ag rfl<|.zs<|.sr<|.mo rfl<|.q (.qp rfl rfl) ?_
 refine .zn ?_
 refine .cond rfl (λa=>?_) λa=>?_
 refine .sr<|.az rfl ?_
 refine .ret (aF (bj _ (.one (.tmp rfl)) (.one [0] _) ?_))
 ·obtain rfl:b=none:=by simpa using a
  have:=h.qW
  subst this
  exact⟨[],rfl,OS.nil⟩
 refine .kn<|.sr ?_
 refine .qj (λg=>?_)
 refine .mo rfl ?_
 refine .append (OS.empty (enc:=dc) (sz:=1)) (f _) (by simp;omega) (λv' c e=>?_)
 refine .az rfl ?_
 refine .ret (bj _ (.one (.tmp rfl)) (.one [0] _) ?_)
 ·exact⟨c,by simp[take],by simpa using e⟩
end LIN
def bE.sU(c:bE):Prop:=c.fW/\c.oM/\c.scopes.length<=16
theorem wU{c:bE}(h:c.plain.right isWord cX=true):c.sU:=by
 obtain⟨b,d⟩:=qy h
 refine⟨b,wT d,?_⟩
 have a:c.plain.im isWord=false:=by
  unfold Cf.right at h
  simp only[Bool.and_eq_true,Bool.not_eq_true']at h
  exact h.2
 rw[oY]at a
 simp only[Bool.or_eq_false_iff,decide_eq_false_iff_not,Nat.not_lt]at a
 exact a.1.2
theorem vU(c:bE)(R:aB)(h:c.is R)(hf:c.sU):Spec prog 68 [.agg c.enc.toArray] R [] λu H'=>∃T,H'=[T]/\∃c':bE,u=.agg c'.enc.toArray/\c'.is (sg T)/\c'.plain=c.plain:=by
 obtain⟨⟨b4,a4⟩,h8,b0⟩:=hf
 obtain⟨vs,vc,O,a7⟩:=c
 have F:=h.ss
 have a0:=h.sc
 have i1:=F.ap
 have i2:=a0.ap
 simp only at F a0 i1 i2 b4 a4 b0
 have c4:=F.le
 refine Spec.body Tryz.func68 rfl Tryz.results68 Tryz.ntmps68 rfl ?_
 refine .sr ?_
 refine .bX rfl (λb1=>?_)
 refine .bN (λb2=>?_)
 refine .z ?_
 refine .bN (λb3=>?_)
 refine .zs<|.sr<|.fa rfl<|.lo rfl<|.q (.bD F) ?_
 refine .mo rfl<|.zn<|.block ?_
 refine .cq [(1,_),(2,_),(3,_),(10,_),(11,_)] (X:=Nat×Value×List bT×aA×aA) (λy=>y.1<=O.length/\OS 164 2 bT.enc y.2.1 y.2.2.1 y.2.2.2.1/\(∀s∈y.2.2.1,s.is (sg y.2.2.2.2))/\y.2.2.1.map (·.plain)=(O.take y.1).map (·.plain)) (λy E=>(12,iN y.1)::E) (λy G=>y.2.2.2.1::y.2.2.2.2::bl b3 [y.2.1,sZ] 25::G) (λy=>O.length-y.1) (0,sZ,[],[],[]) ⟨by simp,OS.nil,λs e=>(by cases e),by simp⟩ kE.c.c.c.c.c.c bf.gJ ?_
 rintro⟨i,w,L,To,Ti⟩ ⟨hi,J,Y,C⟩
 simp only at hi J Y C⊢
 have io:=J.ap
 have c3:L.length=i:=by have:=congrArg List.length C;rw[List.length_map,List.length_map,List.length_take]at this;omega
 refine .sr<|.q .lss<|.zs ?_
 refine .cond rfl (λV=>?_) λV=>?_
 have a2:i<O.length:=cg V
 obtain⟨⟨x,sv,j⟩,e⟩:=bU a2
 have N:=h.all _ (aX e)
 have M:RS R 3 bQ.enc sv j:=N.rs
 have c8:=M.ap
 have c5:=M.le
 have d0:bW (bT.enc ⟨x,sv,j⟩):=⟨N.cH⟩
 have a9:=a4 _ (aX e)
 simp only at a9
 refine .kn<|.seq<|.block<|.sr ?_
 refine .bA i F e (λd4=>?_)
 refine .q (.aI rfl) ?_
 refine .bN (λb5=>?_)
 refine .bG rfl rfl<|.z<|.fa rfl<|.lo rfl ?_
 refine .q .cO ?_
 refine .bN (λb6=>?_)
 refine .bG rfl rfl<|.zs<|.sr<|.fa rfl<|.lo rfl<|.q (.bD M) ?_
 refine .mo rfl<|.zn<|.block ?_
 refine .cq [(1,_),(2,_),(3,_),(6,_),(10,_),(11,_),(12,_),(20,_),(21,_)] (X:=Nat×Value×List bQ×aA×aA) (λy=>y.1<=j.length/\OS 167 3 bQ.enc y.2.1 y.2.2.1 y.2.2.2.1/\(∀r∈y.2.2.1,r.is (sg y.2.2.2.2))/\y.2.2.1.map (·.r)=(j.take y.1).map (·.r)) (λy E=>(22,iN y.1)::E) (λy G=>y.2.2.2.1::y.2.2.2.2::bl b6 [.string x,y.2.1] 164::G) (λy=>j.length-y.1) (0,sZ,[],[],[]) ⟨by simp,OS.nil,λs e=>(by cases e),by simp⟩ kE.c.c.c.c.c.c.c.c.c.c bf.gJ ?_
 rintro⟨k,w2,A,T2,S⟩ ⟨hk,K,Z,D⟩
 simp only at hk K Z D⊢
 have b9:=K.ap
 have c2:A.length=k:=by have:=congrArg List.length D;rw[List.length_map,List.length_map,List.length_take]at this;omega
 refine .sr<|.q .lss<|.zs ?_
 refine .cond rfl (λW=>?_) λW=>?_
 have a1:k<j.length:=cg W
 obtain⟨⟨vt,vn,r⟩,l⟩:=bU a1
 have m:=N.all _ (aX l)
 have a5:RS R 2 Ty.enc vt r.types:=m.t
 have a3:RS R 5 Nd.enc vn r.nodes:=m.d
 have c9:=a5.ap
 have c7:=a3.ap
 have c6:bW (bQ.enc ⟨vt,vn,r⟩):=⟨m.cH⟩
 obtain⟨b7,a8,_⟩:=h8 _ (aX e) _ (aX l)
 simp only at b7 a8
 refine .kn<|.seq<|.block<|.sr ?_
 refine .bA k M l (λd5=>?_)
 refine .q (.aI rfl) ?_
 refine .bN (λb8=>?_)
 refine .bG rfl rfl<|.zn ?_
 refine bp.cP [(1,_),(2,_),(3,_),(6,_),(10,_),(11,_),(12,_),(20,_),(21,_),(22,_)] kE.c.c.c.c.c.c.c.c.c.c (X:=(Value×aA)×(Value×aA)×(Value×aA)) (λy=>OS 167 3 bQ.enc y.1.1 (A++[(⟨y.2.1.1,y.2.2.1,r⟩:bQ)]) y.1.2/\OS 249 2 Ty.enc y.2.1.1 r.types y.2.1.2/\OS 199 5 Nd.enc y.2.2.1 r.nodes y.2.2.2) (λ_ E=>E) (λy=>[y.1.2,y.2.1.2,y.2.2.2,S,bl b6 [.string x,y.1.1] 164,bl b5 (bT.enc ⟨x,sv,j⟩) 164,To,Ti,bl b3 [w,sZ] 25,bl b2 [sZ,sZ] 25,bl b1 [vs,vc] 25]) ?_ ?_
 refine .dt [12,14] mixed ?_
 refine .tO 0 rfl (.fieldAddr rfl)<|.tO 1 rfl (.cI rfl)<|.tO 2 rfl (.fieldAddr rfl)<|.tO 3 rfl (.cI rfl)<|.tO 4 rfl (.fieldAddr rfl)<|.tO 5 rfl (.cI rfl)<|.tO 7 rfl (.fieldAddr rfl)<|.tO 8 rfl (.cI rfl) ?_
 refine .sT 6 rfl ?_
 refine .da (LTY.mF vt r.types _ a5.rx (by omega)) (λut U v=>?_)
 obtain⟨pt,ct,rfl,_⟩:=v.shape
 have d3:=v.ap
 refine .nil (Next.sub ?_)
 refine .sT 9 rfl ?_
 refine .da (LND.mF vn r.nodes _ a3.rx (by omega)) (λun Q p=>?_)
 obtain⟨pn,cn,rfl,_⟩:=p.shape
 have d2:=p.ap
 refine .nil (Next.sub ?_)
 refine .tO 10 rfl .cO ?_
 refine .sT 11 rfl ?_
 refine .dA (λc0=>?_)
 refine .nil (Next.sub ?_)
 refine .sT 12 rfl ?_
 refine .append K (RS.lits (xs:=[(⟨.slice pt r.types.length ct,.slice pn r.nodes.length cn,r⟩:bQ)]) rfl (by simp[bQ.enc]) (by intro y g u H;rw[List.mem_singleton]at g;subst g;simp only[bQ.enc,List.mem_cons,List.not_mem_nil,or_false]at H;rcases H with rfl|rfl|rfl<;>rfl)) (by simp only[List.length_singleton];omega) (λI B f=>?_)
 have i5:=f.ap
 refine .nil (Next.mod rfl ?_)
 refine .tK 13 rfl (.eE rfl) ?_
 refine .sT 14 rfl ?_
 refine .dm rfl rfl ?_
 refine .nil (Next.mod rfl ?_)
 refine RA.nil (by kernel_rfl) ?_
 ·exact aE ((I,B),(_,U),(_,Q)) ⟨f,v,p⟩ ((((((((((kE.d rfl).d rfl).d rfl).d rfl).d rfl).d rfl).d rfl).d rfl).d rfl).d rfl) (aY [4,2,1,2,2,2,2,2,2,2,2])
 intro y g
 obtain⟨⟨I,B⟩,⟨ut,U⟩,⟨un,Q⟩⟩:=y
 obtain⟨f,v,p⟩:=g
 simp only at f v p⊢
 have i5:=f.ap
 refine ba<|aw<|.region ?_
 refine .ia (k+1) .add ?_
 refine .mo rfl<|.nil ?_
 ·exact bi (k+1,I,A++[⟨ut,un,r⟩],B,U++(Q++S)) ⟨a1,f,λq hq=>by
   rcases List.mem_append.1 hq with hq|hq
   ·exact(Z q hq).mono λb o a=>fO (fO a)
   ·rw[List.mem_singleton]at hq
    subst hq
    exact⟨m.n,v.sg.mono λb o a=>gy a,p.sg.mono λb o a=>fO (gy a),m.ft,m.fd⟩,by simp only;rw[dS l,List.map_append,List.map_append,D];rfl⟩ (by simp only;omega) kE.c.c.c.c.c.c.c.c.c.c (bf.eT (by simp[dh,bE.enc,bT.enc]))
 rw[dD (gV W)]at D
 refine .exit<|bq<|bz<|br<|aw<|.region<|.fa rfl<|.lo rfl<|.q (.aI rfl) ?_
 refine .dA (λc1=>?_)
 refine .append J (RS.lits (xs:=[(⟨x,w2,A⟩:bT)]) rfl (by simp[bT.enc]) (by intro y g u H;rw[List.mem_singleton]at g;subst g;simp only[bT.enc,List.mem_cons,List.not_mem_nil,or_false]at H;rcases H with rfl|rfl;rfl;exact b9.h)) (by simp only[List.length_singleton];omega) (λI B f=>?_)
 have i5:=f.ap
 refine .fa rfl<|.dm rfl rfl<|.nil<|ba<|aw<|.region ?_
 refine .ia (i+1) .add ?_
 refine .mo rfl<|.nil ?_
 ·exact bi (i+1,I,L++[⟨x,w2,A⟩],B,T2++(S++Ti)) ⟨a2,f,λq hq=>by
   rcases List.mem_append.1 hq with hq|hq
   ·exact(Y q hq).mono λb o a=>fO (fO a)
   ·rw[List.mem_singleton]at hq
    subst hq
    exact⟨N.n,K.sg.mono λb o a=>gy a,λr l=>(Z r l).mono λb o a=>fO (gy a)⟩,by
   simp only
   rw[dS e,List.map_append,List.map_append,C]
   simp only[List.map_cons,List.map_nil]
   congr 1
   unfold bT.plain
   simp only
   rw[D]⟩ (by simp only;omega) kE.c.c.c.c.c.c ((aY [5,1,1,3,3,3,3]).trans (bf.eT (by simp[take,bF,dh,bE.enc])))
 rw[dD (gV V)]at C
 refine .exit<|bq<|bz<|br<|aw<|.sr<|.fa rfl<|.lo rfl ?_
 refine .da (LSC.mF vc a7 _ a0.rx (by omega)) (λuc Tc a6=>?_)
 have d1:=a6.ap
 refine .fa rfl<|.dm rfl rfl<|.z<|.q (.aI rfl)<|.bG rfl rfl<|.zn ?_
 refine .ret (bj _ (.one (.ei rfl rfl)) (.one [1,1,0] _) ?_)
 ·refine⟨_,rfl,⟨w,uc,L,a7⟩,rfl,⟨J.sg.mono λb o a=>?_,a6.sg.mono λb o a=>?_,λs e=>(Y s e).mono λb o a=>?_,h.fc⟩,?_⟩
  ·simp only[take,bF,List.getD_cons_zero,List.getD_cons_succ,List.flatten_cons,List.flatten_nil,List.append_nil];exact gy a
  ·simp only[take,bF,List.getD_cons_zero,List.getD_cons_succ,List.flatten_cons,List.flatten_nil,List.append_nil];exact fO (fO a)
  ·simp only[take,bF,List.getD_cons_zero,List.getD_cons_succ,List.flatten_cons,List.flatten_nil,List.append_nil];exact fO (gy a)
  ·unfold bE.plain;simp only;rw[C]
def bQ.zero:bQ:=⟨sZ,sZ,⟨⟨#[]⟩,[],[]⟩⟩
def lH(c:bE)(t:Ty)(r:bQ)(ok:Bool):Prop:=match bM c.plain.all t with
 |none=>ok=false/\r=bQ.zero
 |some j=>ok=true/\∃p s,c.aR[p.1]? =some s/\s.bI[p.2]? =some r/\c.ix p=j
theorem xc{l:List (ByteArray×Rl)}{t:Ty}(h:∀j x,j<l.length->l[j]? =some x->dL x≠t):bM l t=none:=by
 unfold bM
 rw[List.findIdx?_eq_none_iff]
 intro x b
 obtain⟨j,a,e⟩:=List.mem_iff_getElem.1 b
 have:=h j x a (by rw[bB a,e])
 simpa using this
theorem xd{l:List (ByteArray×Rl)}{t:Ty}{i:Nat}{x:ByteArray×Rl}(d:l[i]? =some x)(b:dL x=t)(h:∀j y,j<i->l[j]? =some y->dL y≠t):bM l t=some i:=by
 obtain⟨c,e⟩:=List.getElem?_eq_some_iff.1 d
 unfold bM
 rw[List.findIdx?_eq_some_iff_getElem]
 refine⟨c,by rw[e];exact decide_eq_true b,λj a=>?_⟩
 have:=h j _ a (bB (by omega))
 simpa using this
theorem zm(c:bE)(R:aB)(h:c.is R)(f b:ByteArray):Spec prog 144 [.agg c.enc.toArray,.string f,.string b] R [] λu H'=>H'=[]/\∃r ok,u=.tuple [.agg r.enc.toArray,.bool ok].toArray/\lH c ⟨f,b⟩ r ok:=by
 have B:=h.ss
 have i1:=B.ap
 have i2:One c.vc:=RS.ap h.sc
 have b2:=B.le
 have a2:=h.all
 have a8:=ny c.plain
 have a7:c.plain.aR.length=c.aR.length:=by unfold bE.plain;simp
 have a6:∀(i:Nat) (s:bT),c.aR[i]? =some s->c.plain.aR[i]? =some s.plain:=λi s g=>mX g
 have a9:=λ(p:fx) (s:bT) (r:bQ)=>mU (c:=c) (p:=p) (s:=s) (r:=r)
 have S:∀i k,c.ix (i,k)=cA c.plain.aR i+k:=λ_ _=>rfl
 have Q:∀r ok,lH c ⟨f,b⟩ r ok=(match bM c.plain.all ⟨f,b⟩with
  |none=>ok=false/\r=bQ.zero
  |some j=>ok=true/\∃p s,c.aR[p.1]? =some s/\s.bI[p.2]? =some r/\c.ix p=j):=λ_ _=>rfl
 generalize hA:c.plain.all=A at *
 generalize J:cA c.plain.aR=of at *
 have a3:of 0=0:=by rw[<-J];cases c.plain.aR<;>rfl
 refine Spec.body Tryz.func144 rfl Tryz.results144 Tryz.ntmps144 rfl ?_
 refine .sr ?_
 refine .bX rfl (λY=>?_)
 refine .bN (λZ=>?_)
 refine .ag rfl<|.zs<|.sr<|.fa rfl<|.lo rfl<|.q (.bD B) ?_
 refine .mo rfl<|.zn<|.block ?_
 refine .cq [(1,_),(2,_),(6,_),(13,_),(14,_)] (X:=Nat) (λi=>i<=c.aR.length/\∀j x,j<of i->A[j]? =some x->dL x≠⟨f,b⟩) (λi E=>(15,iN i)::E) (λ_ G=>G) (λi=>c.aR.length-i) 0 ⟨Nat.zero_le _,λj x o=>by rw[a3]at o;omega⟩ kE.c.c.c.c.c.c rH ?_
 rintro i ⟨hi,V⟩
 refine .sr<|.q .lss<|.zs ?_
 refine .cond rfl (λH=>?_) λH=>?_
 have U:i<c.aR.length:=cg H
 obtain⟨⟨m,C,e⟩,g⟩:=bU U
 have N:=a2 _ (aX g)
 have w:RS R 3 bQ.enc C e:=N.rs
 have b8:=w.ap
 have b4:=w.le
 have c1:bW (bT.enc ⟨m,C,e⟩):=⟨N.cH⟩
 have a5:=a6 i _ g
 have a4:=mW a5
 rw[J,show(bT.plain ⟨m,C,e⟩).bI.length=e.length by simp[bT.plain]]at a4
 refine .kn<|.seq<|.block<|.sr ?_
 refine .bA i B g (λc2=>?_)
 refine .q (.aI rfl) ?_
 refine .bN (λb9=>?_)
 refine .bG rfl rfl<|.z<|.fa rfl<|.lo rfl<|.q (.bD w) ?_
 refine .mo rfl<|.zn<|.block ?_
 refine .cq [(1,_),(2,_),(6,_),(9,_),(13,_),(14,_),(15,_),(20,_),(21,_)] (X:=Nat) (λk=>k<=e.length/\∀j x,j<of i+k->A[j]? =some x->dL x≠⟨f,b⟩) (λk E=>(22,iN k)::E) (λ_ G=>G) (λk=>e.length-k) 0 ⟨Nat.zero_le _,λj x o=>V j x (by omega)⟩ kE.c.c.c.c.c.c.c.c.c.c rH ?_
 rintro k ⟨hk,L⟩
 refine .sr<|.q .lss<|.zs ?_
 refine .cond rfl (λn=>?_) λn=>?_
 have T:k<e.length:=cg n
 obtain⟨⟨F,D,r⟩,v⟩:=bU T
 have M:=N.all _ (aX v)
 have c0:One F:=RS.ap M.t
 have b7:One D:=RS.ap M.d
 have b5:bW (bQ.enc ⟨F,D,r⟩):=⟨M.cH⟩
 have K:=a9 (i,k) _ _ g v
 rw[S]at K
 refine .kn<|.seq<|.block<|.sr ?_
 refine .bA k w v (λc3=>?_)
 refine .q (.aI rfl) ?_
 refine .bN (λW=>?_)
 refine .bG rfl rfl<|.zs ?_
 refine bp.cP [(1,_),(2,_),(6,_),(9,_),(11,_),(13,_),(14,_),(15,_),(20,_),(21,_),(22,_)] kE.c.c.c.c.c.c.c.c.c.c.c (X:=Unit) (λ_=>True) (λ_ E=>(35,.bool (decide (m=f)&&decide (r.name=b)))::E) (λ_=>[bl W (bQ.enc ⟨F,D,r⟩) 167,bl b9 (bT.enc ⟨m,C,e⟩) 164,bl Z [.string ⟨#[]⟩,sZ,sZ] 167,bl Y c.enc 25]) ?_ ?_
 refine .region<|.fa rfl<|.lo rfl<|.mo rfl<|.q .dI<|.mo rfl ?_
 refine .split (t:=30) rfl (λa=>?_) (λa=>?_)
 refine .gT a<|.fa rfl<|.gT a<|.lo rfl<|.gT a<|.mo rfl<|.gT a<|.q .dI<|.q (.aO a) ?_
 refine .nil ?_
 ·exact aE () trivial (kE.c.c.c.c.c.c.c.c.c.c.c.bL rfl (by simp[n,a])) rH
 refine .gF a<|.gF a<|.gF a<|.gF a<|.q (.aK a) ?_
 refine .nil ?_
 ·exact aE () trivial (kE.c.c.c.c.c.c.c.c.c.c.c.bL rfl (by simp[n,a])) rH
 intro y hy
 refine aw ?_
 refine .cond rfl (λI=>?_) λI=>?_
 refine .sr<|.q (.aI rfl)<|.bG rfl rfl<|.az rfl ?_
 refine .ret (bg (aF (cz (bg (bg (aF (cz (bg (aF (bj _ (.two (.ei rfl rfl) (.tmp rfl)) (.none _) ?_))))))))))
 ·refine⟨rfl,⟨F,D,r⟩,true,rfl,?_⟩
  have O:m=f/\r.name=b:=by simpa using I
  rw[Q,xd K (show(⟨m,r.name⟩:Ty)=_ by rw[O.1,O.2]) L]
  exact⟨rfl,(i,k),_,g,v,S i k⟩
 refine .skip<|ba<|aw<|.region ?_
 refine .ia (k+1) .add ?_
 refine .mo rfl<|.nil ?_
 ·exact bi (k+1) ⟨T,λj x o l=>by
   rcases Nat.lt_or_ge j (of i+k)with hh|hh
   ·exact L j x hh l
   ·obtain rfl:j=of i+k:=by omega
    rw[K]at l
    cases l
    intro he
    injection he with e1 e2
    have a0:m=f:=e1
    have a1:r.name=b:=e2
    simp[a0,a1]at I⟩ (by omega) kE.c.c.c.c.c.c.c.c.c.c (aY [1,1,1])
 have b1:k=e.length:=by have:=bC n;omega
 refine .exit<|bq<|bz<|br<|ba<|aw<|.region ?_
 refine .ia (i+1) .add ?_
 refine .mo rfl<|.nil ?_
 ·exact bi (i+1) ⟨U,λj x o l=>L j x (by omega) l⟩ (by omega) kE.c.c.c.c.c.c (aY [1,1])
 refine .exit<|bq<|bz<|br<|aw<|.sr ?_
 refine .q .cO ?_
 refine .bG rfl rfl<|.az rfl ?_
 refine .ret (bj _ (.two (.ei rfl rfl) (.tmp rfl)) (.none _) ?_)
 ·refine⟨rfl,bQ.zero,false,rfl,?_⟩
  have b0:of i=A.length:=by
   have:i=c.aR.length:=by have:=bC H;omega
   rw[this, <-a7, <-J, <-a8]
   rfl
  rw[Q,xc λj x o l=>V j x (by omega) l]
  exact⟨rfl,rfl⟩
theorem Nv(t:Ty)(s:Sub)(R:aB):Spec prog 243 [.agg t.enc.toArray,.agg s.enc.toArray] R [] λu H'=>u=.bool (iM s t)/\H'=[]:=by
 obtain⟨e,d⟩:=t
 obtain⟨k,j,h,i⟩:=s
 refine Spec.body Tryz.func243 rfl Tryz.results243 Tryz.ntmps243 rfl ?_
 refine .sr ?_
 refine .bX rfl (λf=>?_)
 refine .bX rfl (λg=>?_)
 refine .ag rfl<|.zs<|.sr<|.fa rfl<|.lo rfl<|.q .ff<|.zn ?_
 refine .cond rfl (λc=>?_) λc=>?_
 refine .sr<|.q (.aI rfl) ?_
 refine .q .cO ?_
 refine .q (.cast (.kZ (xs:=Ty.enc ⟨e,d⟩) (ys:=Ty.enc ⟨⟨#[]⟩,⟨#[]⟩⟩) rfl rfl (Ty.kinds _) (Ty.kinds _)) (congrArg Value.bool (Ty.eq _ _))) ?_
 refine .az rfl ?_
 refine .ret (aF (aH rfl ?_))
 ·refine⟨congrArg _ ?_,rfl⟩
  simp only[iM]
  grind
 refine .kn<|.sr<|.fa rfl<|.lo rfl<|.q .ff<|.mo rfl ?_
 refine .split (t:=14) rfl (λa=>?_) (λa=>?_)
 refine .gT a<|.fa rfl<|.gT a<|.lo rfl<|.gT a<|.fa rfl<|.gT a<|.fa rfl<|.gT a<|.lo rfl<|.gT a<|.q .dI<|.q (.aO a) ?_
 refine .mo rfl ?_
 refine .split (t:=22) rfl (λb=>?_) (λb=>?_)
 refine .gT b<|.fa rfl<|.gT b<|.lo rfl<|.gT b<|.fa rfl<|.gT b<|.lo rfl<|.gT b<|.q .dI<|.q (.aO b) ?_
 refine .az rfl ?_
 refine .ret (aH rfl ?_)
 ·refine⟨congrArg _ ?_,rfl⟩
  simp only[iM]
  grind
 refine .gF b<|.gF b<|.gF b<|.gF b<|.gF b<|.q (.aK b) ?_
 refine .az rfl ?_
 refine .ret (aH rfl ?_)
 ·refine⟨congrArg _ ?_,rfl⟩
  simp only[iM]
  grind
 refine .gF a<|.gF a<|.gF a<|.gF a<|.gF a<|.gF a<|.q (.aK a) ?_
 refine .mo rfl<|.gX<|.gX<|.gX<|.gX<|.gX<|.q .cK<|.az rfl ?_
 refine .ret (aH rfl ?_)
 ·refine⟨congrArg _ ?_,rfl⟩
  simp only[iM]
  grind
theorem Aq(t:Ty)(s:Sub)(b c d:Value)(q:Nat)(R:aB) [pc:PC R (pT q) (b::c::d::s.enc)]:Spec prog 242 [.agg t.enc.toArray,pT q] R [] λu H'=>u=.bool (iM s t)/\H'=[]:=by
 refine Spec.body Tryz.func242 rfl Tryz.results242 Tryz.ntmps242 rfl ?_
 refine .sr ?_
 refine .bX rfl (λe=>?_)
 refine .ag rfl<|.z<|.q (.aI rfl)<|.fa rfl<|.q (.loadT rfl) ?_
 refine .bd (Nv t s _) (λu a=>?_)
 subst a
 refine .az rfl ?_
 refine .ret (aH rfl ?_)
 ·exact⟨rfl,rfl⟩
theorem Ar(c:bE)(R:aB)(h:c.is R)(t:ay):Spec prog 189 [.agg c.enc.toArray,.agg t.enc.toArray] R [] λu H'=>u=.int .i64 (if allowed c.plain t.cE t.sub then 0 else 14)/\H'=[]:=by
 have B:=zm c R h t.os t.rel
 have n:=h.all
 have I:One c.vs:=RS.ap h.ss
 have J:One c.vc:=RS.ap h.sc
 have A:allowed c.plain t.cE t.sub=match bM c.plain.all ⟨t.os,t.rel⟩with
  |none=>false
  |some i=>((c.plain.all.map (·.2.types)).getD i []).any (iM t.sub):=rfl
 refine Spec.body Tryz.func189 rfl Tryz.results189 Tryz.ntmps189 rfl ?_
 refine .sr ?_
 refine .bX rfl (λF=>?_)
 refine .bX rfl (λk=>?_)
 refine .ag rfl<|.z<|.q (.aI rfl)<|.fa rfl<|.fa rfl<|.lo rfl<|.fa rfl<|.lo rfl ?_
 refine .bd ((B.mono λu H' d=>⟨d.2,d.1⟩).weaken cQ) (λu d=>?_)
 obtain⟨r,C,rfl,b⟩:=d
 obtain⟨g,v,l⟩:∃g,RS R 2 Ty.enc r.vt g/\allowed c.plain t.cE t.sub=(C&&g.any (iM t.sub)):=by
  rw[A]
  unfold lH at b
  cases hf:bM c.plain.all ⟨t.os,t.rel⟩with
  |none=>rw[hf]at b;obtain⟨rfl,rfl⟩:=b;exact⟨[],RS.fZ,rfl⟩
  |some j=>
   rw[hf]at b
   obtain⟨rfl,p,s,f,e,o⟩:=b
   refine⟨r.r.types,((n _ (aX f)).all _ (aX e)).t,?_⟩
   have:=mU f e
   rw[o]at this
   simp only[Bool.true_and]
   rw[List.getD_eq_getElem?_getD,List.getElem?_map,this]
   rfl
 have H:bW r.enc:=by
  unfold lH at b
  cases hf:bM c.plain.all ⟨t.os,t.rel⟩with
  |none=>rw[hf]at b;obtain⟨_,rfl⟩:=b;exact⟨by simp[bQ.enc,bQ.zero,ap]⟩
  |some j=>rw[hf]at b;obtain⟨_,p,s,f,e,o⟩:=b;exact⟨((n _ (aX f)).all _ (aX e)).cH⟩
 obtain⟨D,L,r⟩:=r
 simp only at v
 refine .mo rfl<|.q .extract<|.q .extract ?_
 refine .bN (λG=>?_)
 refine .bG rfl rfl<|.ag rfl<|.zs<|.sr<|.mo rfl<|.q .not<|.mo rfl ?_
 refine .split (t:=19) rfl (λa=>?_) (λa=>?_)
 refine .gF a<|.gF a<|.gF a<|.gF a<|.gF a<|.q (.aO a) ?_
 refine .zn<|.gD<|.sr<|.az rfl ?_
 refine .ret (aF (aH rfl ?_))
 ·refine⟨?_,rfl⟩
  rw[l,if_neg (by simp_all)]
 refine .gT a<|.fa rfl<|.gT a<|.lo rfl<|.gT a<|.q .makeFunc<|.gT a ?_
 refine .bd (LTY.iW 242 [pT k] (iM t.sub) D g _ v.rx (λy _ m x=>by
  have K:PC m (pT k) (.string t.os:: .string t.oi:: .string t.rel::t.sub.enc):=PC.of (E:=119) (fr:=(0,0)) (x _ _ (.inr (by simp[ay.enc,Sub.enc,ay.sub])))
  exact Aq y t.sub _ _ _ k m)) (λu d=>?_)
 subst d
 refine .gT a<|.q .not<|.q (.aK a) ?_
 refine .zn ?_
 refine .cond rfl (λw=>?_) λw=>?_
 refine .sr<|.az rfl ?_
 refine .ret (aF (aH rfl ?_))
 ·refine⟨?_,rfl⟩
  rw[l,if_neg (by simp_all)]
 refine .kn<|.sr<|.az rfl ?_
 refine .ret (aH rfl ?_)
 ·refine⟨?_,rfl⟩
  rw[l,if_pos (by simp_all)]
structure dT where
 rev:Int
 c:bE
 vn:Value
 ll:List fP
def dT.enc(e:dT):List Value:=[.int .u64 e.rev,e.c.vs,e.c.vc,e.vn]
structure dT.is(R:aB)(e:dT):Prop where
 c:e.c.is R
 n:NN R e.vn e.ll
 ok:(e.c.plain.numbers isWord cX).1=0
 eq:e.ll.map (·.2)=(e.c.plain.numbers isWord cX).2
theorem dT.is.mono{R R':aB}{e:dT}(h:e.is R)(a:∀b o,R b o->R' b o):e.is R':=⟨h.c.mono a,h.n.mono a,h.ok,h.eq⟩
theorem dT.is.cH{R:aB}{e:dT}(h:e.is R):∀u∈e.enc,ap u=true:=by
 have b:=h.c.ss.ap
 have d:=h.c.sc.ap
 have f:=h.n.rs.ap
 intro u a
 simp only[dT.enc,List.mem_cons,List.not_mem_nil,or_false]at a
 rcases a with rfl|rfl|rfl|rfl
 ·rfl
 ·exact b.h
 ·exact d.h
 ·exact f.h
theorem yR{c:Cf}(h:(c.numbers isWord cX).1=0):c.right isWord cX=true:=by
 cases hr:c.right isWord cX with
 |true=>rfl
 |false=>unfold Cf.numbers at h;rw[if_pos hr]at h;cases h
def HI(hb:Nat)(es:List dT)(gone:Nat)(T:aA):Prop:=∃vl Te Tp,T=(hb,.cells [.bool true,vl,iN gone].toArray 155 (0,0))::(Te++Tp)/\OS 159 4 dT.enc vl es Te/\∀e∈es,e.is (sg Tp)
structure HV(R:aB)(hb:Nat)(vl:Value)(es:List dT)(gone:Nat):Prop where
 pc:PC R (pT hb) [.bool true,vl,iN gone]
 rs:RS R 4 dT.enc vl es
 all:∀e∈es,e.is R
theorem HV.mono{R R':aB}{f:Nat}{g:Value}{c:List dT}{d:Nat}(h:HV R f g c d)(a:∀b o,R b o->R' b o):HV R' f g c d:=⟨h.pc.mono a,h.rs.mono a,λe i=>(h.all e i).mono a⟩
theorem HI.view{a:Nat}{d:List dT}{f:Nat}{T:aA}{R:aB}(h:HI a d f T)(c:∀p∈T,R p.1 p.2):∃vl,HV R a vl d f:=by
 obtain⟨vl,m,g,rfl,j,i⟩:=h
 refine⟨vl,PC.of (E:=155) (fr:=(0,0)) (c (a,_) (by simp)),j.rs λp l=>c p (by simp[l]),λe k=>(i e k).mono λb o a=>c (b,o) ?_⟩
 have:(b,o)∈g:=a
 simp[this]
theorem xu(R:aB):Spec prog 48 [] R [] λu H'=>∃T,H'=[T]/\∃hb,u=pT hb/\HI hb [] 0 T:=by
 refine Spec.body Tryz.func48 rfl Tryz.results48 Tryz.ntmps48 rfl ?_
 refine .sr<|.ag rfl<|.z ?_
 refine .q .cO ?_
 refine .bX rfl (λa=>?_)
 refine .az rfl ?_
 refine .ret (bj _ (.one (.tmp rfl)) (.one [0] _) ?_)
 ·exact⟨_,rfl,a,rfl,sZ,[],[],rfl,OS.nil,λe b=>(by cases b)⟩
section
variable{R:aB}{hb:Nat}{vl:Value}{es:List dT}{gone:Nat}
theorem HV.made(h:HV R hb vl es gone):Spec prog 66 [pT hb] R [] λu H'=>u=.bool true/\H'=[]:=by
 have b:=h.pc
 have a:=h.rs.ap
 refine Spec.body Tryz.func66 rfl Tryz.results66 Tryz.ntmps66 rfl ?_
 refine .sr<|.ag rfl<|.z<|.mo rfl<|.q (.yh rfl rfl) ?_
 refine .mo rfl<|.gt rfl ?_
 refine .mo rfl<|.gt rfl ?_
 refine .nc rfl<|.gt rfl ?_
 refine .fa rfl<|.gt rfl ?_
 refine .lo rfl<|.q .cD<|.az rfl ?_
 refine .ret (aH rfl ?_)
 ·exact⟨rfl,rfl⟩
def hl(es:List dT)(r:Int):Nat->Option Nat
 |0=>none
 |n+1=>match es[n]? with
  |some e=>if e.rev<=r then some n else hl es r n
  |none=>hl es r n
theorem qD{b:List dT}{r:Int}:∀{n i:Nat},hl b r n=some i->i<n/\∃e,b[i]? =some e
 |0,i,h=>by cases h
 |n+1,i,h=>by
  unfold hl at h
  split at h
  ·rename_i e d
   split at h
   ·cases h;exact⟨by omega,e,d⟩
   ·obtain⟨c,a⟩:=qD h;exact⟨by omega,a⟩
  ·obtain⟨c,a⟩:=qD h;exact⟨by omega,a⟩
theorem HV.last(h:HV R hb vl es gone)(r:Int):Spec prog 75 [pT hb,.int .u64 r] R [] λu H'=>u=.int .i64 (fI (hl es r es.length))/\H'=[]:=by
 have w:=h.pc
 have b:=h.rs
 have t:=b.ap
 have o:=b.le
 have k:=h.all
 refine Spec.body Tryz.func75 rfl Tryz.results75 Tryz.ntmps75 rfl ?_
 refine .sr<|.ag rfl<|.zs<|.sr<|.mo rfl ?_
 refine .bd (h.made.weaken cQ) (λu l=>?_)
 subst l
 refine .q .not<|.zn<|.cF<|.kn<|.sr<|.ag rfl<|.zs<|.sr<|.mo rfl<|.nc rfl<|.fa rfl<|.lo rfl<|.q (.bD b) ?_
 refine .mo rfl<|.zn<|.block ?_
 refine .cq [(1,_),(14,_),(15,_)] (X:=Nat) (λi=>i<=es.length) (λi E=>(16,iN i)::(5,.int .i64 (fI (hl es r i)))::E) (λ_ G=>G) (λi=>es.length-i) 0 (Nat.zero_le _) kE.c.c.c.c.c rH ?_
 rintro i n
 refine .sr<|.q .lss<|.zs ?_
 refine .cond rfl (λd=>?_) λd=>?_
 have g:i<es.length:=cg d
 obtain⟨e,f⟩:=bU g
 have p:bW e.enc:=⟨(k e (aX f)).cH⟩
 have j:hl es r (i+1)=if e.rev<=r then some i else hl es r i:=by rw[hl,f]
 refine .kn<|.seq<|.block<|.sr<|.mo rfl ?_
 refine .bA i b f (λv=>?_)
 refine .q (.aI rfl) ?_
 refine .bN (λm=>?_)
 refine .ag rfl<|.bG rfl rfl<|.z<|.fa rfl<|.fa rfl<|.lo rfl<|.mo rfl<|.q .leq<|.zn ?_
 refine bp.cP [(1,_),(14,_),(15,_),(16,_)] kE.c.c.c.c (X:=Unit) (λ_=>True) (λ_ E=>(5,.int .i64 (fI (hl es r (i+1))))::E) (λ_=>[]) ?_ ?_
 refine .cond rfl (λa=>?_) λa=>?_
 refine .region<|.mo rfl<|.ag rfl<|.nil ?_
 ·exact aE () trivial (kE.c.c.c.c.lQ rfl (by rw[j];first|rw[if_pos (cv a)];rfl|rw[if_neg (bC a)])) (bf.none _)
 refine .skip ?_
 ·exact aE () trivial (kE.c.c.c.c.lQ rfl (by rw[j];first|rw[if_pos (cv a)];rfl|rw[if_neg (bC a)])) (bf.none _)
 intro x s
 refine ba<|aw<|.region ?_
 refine .ia (i+1) .add ?_
 refine .mo rfl<|.nil ?_
 ·exact bi (i+1) g (by omega) kE.c.c.c.c.c rH
 refine .exit<|bq<|bz<|br<|aw<|.sr<|.mo rfl<|.az rfl ?_
 refine .ret (aH rfl ?_)
 ·refine⟨?_,rfl⟩
  rw[show i=es.length by have:=bC d;omega]
def sm(es:List dT)(gone:Nat)(r:Int):Int:=match hl es r es.length with
 |none=>0
 |some i=>(gone+i+1:Nat)
def jk(es:List dT)(r:Int):Option dT:=(hl es r es.length).bind λi=>es[i]?
theorem HV.at_(h:HV R hb vl es gone)(r:Int)(x:gone<=1000000/\es.length<=1000000):Spec prog 27 [pT hb,.int .u64 r] R [] λu H'=>∃T,H'=[T]/\∃c':bE,u=.tuple [.agg c'.enc.toArray,.int .i64 (sm es gone r)].toArray/\c'.is (sg T)/\c'.plain=((jk es r).map (·.c.plain)).getD ⟨[],[]⟩:=by
 have L:=h.pc
 have j:=h.rs
 have K:=j.ap
 have G:=j.le
 have t:=h.all
 obtain⟨C,D⟩:=x
 refine Spec.body Tryz.func27 rfl Tryz.results27 Tryz.ntmps27 rfl ?_
 refine .sr ?_
 refine .bN (λp=>?_)
 refine .ag rfl<|.z<|.mo rfl<|.mo rfl ?_
 refine .bd ((h.last r).weaken cQ) (λu n=>?_)
 subst n
 refine .ag rfl<|.zs<|.sr<|.mo rfl<|.q .lss<|.zn ?_
 refine .cond rfl (λb=>?_) λb=>?_
 have o:hl es r es.length=none:=by
  cases hh:hl es r es.length with
  |none=>rfl
  |some i=>rw[hh]at b;simp only[fI]at b;have:=cv b;omega
 refine .sr ?_
 refine .q .cO ?_
 refine .bG rfl rfl<|.az rfl ?_
 refine .ret (aF (bj _ (.two (.ei rfl rfl) (.tmp rfl)) bf.ja ?_))
 ·refine⟨[],rfl,⟨sZ,sZ,[],[]⟩,?_,⟨RS.fZ,RS.fZ,λs m=>(by cases m),λs m=>(by cases m)⟩,?_⟩
  ·unfold sm;rw[o];rfl
  ·unfold jk;rw[o];rfl
 obtain⟨i,g⟩:∃i,hl es r es.length=some i:=by
  cases hh:hl es r es.length with
  |none=>rw[hh]at b;simp[fI]at b
  |some i=>exact⟨i,rfl⟩
 obtain⟨F,e,f⟩:=qD g
 have l:=t e (aX f)
 have H:bW e.enc:=⟨l.cH⟩
 have v:=vU e.c R l.c (wU (yR l.ok))
 have w:fI (hl es r es.length)=(i:Int):=by rw[g];rfl
 have M:=j.pc f
 rw[w]
 refine .kn<|.seq ?_
 refine bp.cP [(4,_)] kE.c (X:=bE×aA) (λy=>y.1.is (sg y.2)/\y.1.plain=e.c.plain) (λ_ E=>(5,.int .i64 ((gone+i+1:Nat):Int))::E) (λy=>[y.2,bl p y.1.enc 25]) ?_ ?_
 refine .dt [17] mixed ?_
 refine .tO 0 rfl .move<|.tO 1 rfl (.nilCheck rfl)<|.tO 2 rfl (.fieldAddr rfl)<|.tO 3 rfl (.cI rfl)<|.tO 4 rfl .move ?_
 refine .tO 5 rfl (.bA i j f rfl rfl rfl) ?_
 refine .tO 6 rfl (.fieldAddr rfl)<|.tO 7 rfl (.fieldAddr rfl) ?_
 refine .tO 8 rfl (.loadT rfl) ?_
 refine .tK 10 rfl .move ?_
 refine .tK 11 rfl (.mS rfl) ?_
 refine .tK 12 rfl (.eE rfl) ?_
 refine .tK 13 rfl (.cI rfl)<|.tK 14 rfl .move ?_
 refine .take 15 rfl (.i64 ((gone+i:Nat):Int) .add ⟨by omega,by omega,by omega⟩) (by kernel_rfl) ?_
 refine .take 16 rfl (.i64 ((gone+i+1:Nat):Int) .add ⟨by omega,by omega,by omega⟩) (by kernel_rfl) ?_
 refine .sT 9 rfl ?_
 refine .da (v.weaken cQ) (λu k n=>?_)
 obtain⟨c',rfl,a,d⟩:=n
 have B:bW c'.enc:=⟨a.cH⟩
 have I:One c'.vs:=RS.ap a.ss
 have J:One c'.vc:=RS.ap a.sc
 refine .nil (Next.sub ?_)
 refine .sT 17 rfl ?_
 refine .bG rfl rfl ?_
 refine .nil (Next.mod rfl ?_)
 refine .tK 18 rfl .assign ?_
 refine RA.nil (by kernel_rfl) ?_
 ·exact aE (c',k) ⟨a,d⟩ kE.c.c (by first|exact bf.refl _|exact bf.pick [0,0] _|exact aY [1,0])
 intro y A
 obtain⟨c',k⟩:=y
 obtain⟨a,d⟩:=A
 simp only at a d⊢
 refine aw ?_
 refine .ret (bj _ (.two (.ei rfl rfl) (.tmp rfl)) (.one [0] _) ?_)
 ·refine⟨k,by simp[take],c',?_,a,?_⟩
  ·unfold sm;rw[g]
  ·unfold jk;rw[g,Option.bind_some,f];exact d
end
theorem HV.numbers{R:aB}{d:Nat}{vl:Value}{a:List dT}{O:Nat}(h:HV R d vl a O)(r:Int)(W:∀e∈a,e.ll.length<=1000000/\∀q∈e.ll,q.2.length<=1000000):Spec prog 82 [pT d,.int .u64 r] R [] λu H'=>∃T,H'=[T]/\∃ll,NN (sg T) u ll/\ll.map (·.2)=((jk a r).map λe=>e.ll.map (·.2)).getD []:=by
 have pc:=h.pc
 have B:=h.rs
 have il:=B.ap
 have a4:=B.le
 have Q:=h.all
 refine Spec.body Tryz.func82 rfl Tryz.results82 Tryz.ntmps82 rfl ?_
 refine .sr<|.ag rfl<|.z<|.mo rfl<|.mo rfl ?_
 refine .bd ((h.last r).weaken cQ) (λu l=>?_)
 subst l
 refine .ag rfl<|.zs<|.sr<|.mo rfl<|.q .lss<|.zn ?_
 refine .cond rfl (λg=>?_) λg=>?_
 have s:hl a r a.length=none:=by
  cases hh:hl a r a.length with
  |none=>rfl
  |some i=>rw[hh]at g;simp only[fI]at g;have:=cv g;omega
 refine .sr<|.az rfl ?_
 refine .ret (aF (bj _ (.one (.tmp rfl)) bf.ja ?_))
 ·refine⟨[],rfl,[],.nil,?_⟩
  unfold jk;rw[s];rfl
 obtain⟨i,x⟩:∃i,hl a r a.length=some i:=by
  cases hh:hl a r a.length with
  |none=>rw[hh]at g;simp[fI]at g
  |some i=>exact⟨i,rfl⟩
 obtain⟨a2,e,p⟩:=qD x
 have w:=Q e (aX p)
 have s:=w.n
 have A:=s.rs
 have inr:=A.ap
 obtain⟨a3,V⟩:=W e (aX p)
 have a5:One e.c.vs:=RS.ap w.c.ss
 have a6:One e.c.vc:=RS.ap w.c.sc
 have S:fI (hl a r a.length)=(i:Int):=by rw[x];rfl
 rw[S]
 refine .kn<|.sr<|.ag rfl<|.zs<|.sr<|.mo rfl<|.nc rfl<|.fa rfl<|.lo rfl<|.mo rfl ?_
 refine .bA i B p (λa7=>?_)
 refine .fa rfl<|.lo rfl<|.q (.bD A) ?_
 refine .mo rfl<|.zn<|.block ?_
 refine .cq [(21,_),(22,_)] (X:=Nat×Value×List fP×aA×aA) (λy=>y.1<=e.ll.length/\OS 182 1 fe y.2.1 y.2.2.1 y.2.2.2.1/\(∀q∈y.2.2.1,RS (sg y.2.2.2.2) 1 dc q.1 q.2)/\y.2.2.1.map (·.2)=(e.ll.take y.1).map (·.2)) (λy E=>(23,iN y.1)::(6,y.2.1)::E) (λy G=>y.2.2.2.1::y.2.2.2.2::G) (λy=>e.ll.length-y.1) (0,sZ,[],[],[]) ⟨Nat.zero_le _,OS.nil,λq f=>(by cases f),rfl⟩ kE.c.c.c.c bf.gJ ?_
 rintro⟨k,vo,L,N,C⟩ ⟨U,m,v,j⟩
 simp only at U m v j⊢
 have io:=m.ap
 have a1:L.length=k:=by have:=congrArg List.length j;rw[List.length_map,List.length_map,List.length_take]at this;omega
 refine .sr<|.q .lss<|.zs ?_
 refine .cond rfl (λt=>?_) λt=>?_
 have F:k<e.ll.length:=cg t
 obtain⟨q,f⟩:=bU F
 have H:=s.all q (aX f)
 have iq:=H.ap
 refine .kn<|.seq<|.block<|.sr ?_
 refine .bA k A f (λa8=>?_)
 refine .lo rfl<|.az rfl<|.region<|.mo rfl<|.mo rfl ?_
 refine .da (LIN.mF q.1 q.2 _ H.rx (V q (aX f))) (λu K l=>?_)
 have iu:=l.ap
 obtain⟨J,D,rfl,_⟩:=l.shape
 refine .iV (λa0=>?_)
 refine .append m (RS.lits (xs:=[((.slice J q.2.length D,q.2):fP)]) rfl (by simp[fe]) (by simp[fe,ap])) (by simp only[List.length_singleton];omega) (λZ M I=>?_)
 have i5:=I.ap
 refine .ag rfl<|.nil<|ba<|aw<|.region ?_
 refine .ia (k+1) .add ?_
 refine .mo rfl<|.nil ?_
 ·exact bi (k+1,Z,L++[(.slice J q.2.length D,q.2)],M,K++C) ⟨F,I,λY hq'=>by
   rcases List.mem_append.1 hq' with hq'|hq'
   ·exact(v Y hq').mono λb o d=>fO d
   ·rw[List.mem_singleton]at hq'
    subst hq'
    exact l.sg.mono λb o d=>gy d,by simp only;rw[dS f,List.map_append,List.map_append,j];rfl⟩ (by simp only;omega) kE.c.c.c.c ((aY [2,1,1]).trans (bf.eT (by simp[take,bF])))
 refine .exit<|bq<|bz<|br<|aw<|.sr<|.mo rfl<|.az rfl ?_
 refine .ret (bj _ (.one (.tmp rfl)) (.one [0,0] _) ?_)
 ·refine⟨N++C,by simp[take,bF],L,⟨m.sg.mono λb o d=>gy d,λq f=>(v q f).mono λb o d=>fO d⟩,?_⟩
  rw[dD (gV t)]at j
  unfold jk;rw[x,Option.bind_some,p,j];rfl
def mJ(es:List dT)(rev:Int)(c:Cf):Int:=
 if(es.getLast?.map λe=>decide (rev<=e.rev)).getD false then 12 else if(c.numbers isWord cX).1≠0 then(c.numbers isWord cX).1 else if 16<=es.length then 8 else 0
theorem xo(f:Nat)(d:List dT)(j:Nat)(T:aA)(h:HI f d j T)(c0:d.length<=1000)(rev:Int)(c:bE)(R:aB)(C:c.is R):
  Spec prog 20 [pT f,.int .u64 rev,.agg c.enc.toArray] R [T] λu H'=>∃T',H'=[T']/\u=.int .i64 (mJ d rev c.plain)/\(mJ d rev c.plain=0->∃e:dT,e.rev=rev/\e.c.plain=c.plain/\HI f (d++[e]) j T')/\(mJ d rev c.plain≠0->HI f d j T'):=by
 have b6:=Ll c R C
 have b0:=vU c R C
 have i1:One c.vs:=RS.ap C.ss
 have i2:One c.vc:=RS.ap C.sc
 obtain⟨l,m,g,rfl,k,x⟩:=h
 have il:=k.ap
 have b7:(c.plain.numbers isWord cX).1=0->c.sU:=λv=>wU (yR v)
 have D:mJ d rev c.plain=if(d.getLast?.map λe=>decide (rev<=e.rev)).getD false then 12 else if(c.plain.numbers isWord cX).1≠0 then(c.plain.numbers isWord cX).1 else if 16<=d.length then 8 else 0:=rfl
 generalize hk:mJ d rev c.plain=kc at *
 generalize a6:c.plain.numbers isWord cX=nn at *
 have a9:∀F:aB,(∀p∈((f,.cells [.bool true,l,iN j].toArray 155 (0,0))::(m++g):aA),F p.1 p.2)->HV F f l d j:=λF N=>by
  refine⟨PC.of (E:=155) (fr:=(0,0)) (N (f,_) (by simp)),k.rs λp hp=>N p (by simp[hp]),λe he=>(x e he).mono λb o f=>N (b,o) ?_⟩
  have:(b,o)∈g:=f
  simp[this]
 have O:∀w,HI f d j w↔∃l m g,w=(f,.cells [.bool true,l,iN j].toArray 155 (0,0))::(m++g)/\OS 159 4 dT.enc l d m/\∀e∈d,e.is (sg g):=λ_=>Iff.rfl
 refine Spec.gx (H':=[bl f [.bool true,l,iN j] 155,m,g]) (by simp) ?_
 refine Spec.body Tryz.func20 rfl Tryz.results20 Tryz.ntmps20 rfl ?_
 refine .sr ?_
 refine .bX rfl (λb5=>?_)
 refine .ag rfl<|.zs<|.block<|.sr<|.mo rfl ?_
 refine .bd (HV.made (a9 _ λp hp=>.inr (by
  rcases List.mem_cons.1 hp with rfl|hp
  ·simp
  ·rcases List.mem_append.1 hp with hp|hp<;>simp[hp]))) (λu V=>?_)
 subst V
 refine .q .not<|.az rfl<|.cF<|.seq ?_
 refine bp.cP [(0,_),(1,_),(5,_)] kE.c.c.c (X:=Unit) (λ_=>True) (λ_ E=>(13,.bool ((d.getLast?.map λe=>decide (rev<=e.rev)).getD false))::E) (λ_=>[bl b5 c.enc 25,bl f [.bool true,l,iN j] 155,m,g]) ?_ ?_
 refine .fq mixed (by kernel_rfl) ?_
 refine .mo rfl<|.nc rfl<|.fa rfl<|.lo rfl<|.q (.ej k) ?_
 refine .q .gtr<|.mo rfl ?_
 refine .split (t:=20) rfl (λa=>?_) (λa=>?_)
 obtain⟨n,hn⟩:∃n,d.length=n+1:=⟨d.length-1,by have:=cv a;omega⟩
 obtain⟨J,S⟩:∃e,d[n]? =some e:=⟨_,bB (by omega)⟩
 have a4:d.getLast? =some J:=by rw[List.getLast?_eq_getElem?,hn];exact S
 have b1:=x J (aX S)
 have c3:bW J.enc:=⟨b1.cH⟩
 refine .gT a<|.mo rfl<|.gT a<|.mo rfl<|.gT a<|.nc rfl<|.gT a<|.fa rfl<|.gT a<|.lo rfl<|.gT a<|.mo rfl<|.gT a ?_
 refine .nc rfl<|.gT a<|.fa rfl<|.gT a<|.lo rfl<|.gT a<|.q (.ej k) ?_
 refine .gT a ?_
 refine .q (.i64 (n:Int) .sub ⟨by omega,by omega,by omega⟩) ?_
 refine .gT a ?_
 refine .bo n k S (λc4=>?_)
 refine .gT a<|.fa rfl<|.gT a<|.fa rfl<|.gT a<|.lo rfl<|.gT a<|.q .leq<|.q (.aO a) ?_
 refine .ag rfl<|.nil ?_
 ·exact aE () trivial (kE.c.c.c.bL rfl (by first|rfl|(rw[a4];rfl))) rH
 have b4:d=[]:=List.eq_nil_of_length_eq_zero (by have:=bC a;omega)
 subst b4
 refine .gF a<|.gF a<|.gF a<|.gF a<|.gF a<|.gF a<|.gF a<|.gF a<|.gF a<|.gF a<|.gF a<|.gF a<|.gF a<|.gF a<|.gF a<|.gF a<|.q (.aK a) ?_
 refine .ag rfl<|.nil ?_
 ·exact aE () trivial (kE.c.c.c.bL rfl (by first|rfl|(rw[a4];rfl))) rH
 intro y hy
 refine aw ?_
 refine .cond rfl (λz=>?_) λz=>?_
 refine .sr<|.az rfl ?_
 refine .ret (bg (aF (bj _ (.one (.tmp rfl)) (.one [1,1,1] _) ?_)))
 ·have r:((d.getLast?.map λe=>decide (rev<=e.rev)).getD false)=true:=z
  have i:kc=12:=by rw[D,if_pos r]
  have U:kc≠0:=by rw[i];decide
  exact⟨_,rfl,by rw[i],λs=>absurd s U,λ_=>(O _).2 ⟨l,m,g,by simp[take,bF],k,x⟩⟩
 refine .skip<|ba<|aw<|.sr<|.q (.aI rfl) ?_
 refine .da (b6.weaken cQ) (λu T7 b8=>?_)
 obtain⟨w7,ll,rfl,M,b2⟩:=b8
 have i7:=M.rs.ap
 refine .mo rfl<|.q .extract<|.q .extract<|.ag rfl<|.ag rfl<|.zs<|.block<|.sr<|.mo rfl<|.q .dQ<|.az rfl ?_
 refine .cond rfl (λK=>?_) λK=>?_
 have a5:nn.1≠0:=by simpa using K
 refine .sr<|.mo rfl<|.az rfl ?_
 refine .ret (bg (aF (bj _ (.one (.tmp rfl)) (.one [2,2,2] _) ?_)))
 ·have r:((d.getLast?.map λe=>decide (rev<=e.rev)).getD false)=false:=z
  have i:kc=nn.1:=by rw[D,if_neg (by rw[r];simp),if_pos a5]
  exact⟨_,rfl,by rw[i],λs=>absurd (i.symm.trans s) a5,λ_=>(O _).2 ⟨l,m,g,by simp[take,bF],k,x⟩⟩
 have v:nn.1=0:=by simpa using K
 refine .sr<|.mo rfl<|.nc rfl<|.fa rfl<|.lo rfl<|.q (.ej k) ?_
 refine .q .geq<|.az rfl ?_
 refine .cond rfl (λL=>?_) λL=>?_
 refine .sr<|.az rfl ?_
 refine .ret (bg (aF (bj _ (.one (.tmp rfl)) (.one [2,2,2] _) ?_)))
 ·have r:((d.getLast?.map λe=>decide (rev<=e.rev)).getD false)=false:=z
  have i:kc=8:=by rw[D,if_neg (by rw[r];simp),if_neg (by rw[v];simp),if_pos (by have:=cv L;omega)]
  have U:kc≠0:=by rw[i];decide
  exact⟨_,rfl,by rw[i],λs=>absurd s U,λ_=>(O _).2 ⟨l,m,g,by simp[take,bF],k,x⟩⟩
 have b3:¬16<=d.length:=by have:=bC L;omega
 have r:((d.getLast?.map λe=>decide (rev<=e.rev)).getD false)=false:=z
 have i:kc=0:=by rw[D,if_neg (by rw[r];simp),if_neg (by rw[v];simp),if_neg b3]
 refine .skip<|ba<|aw<|.seq ?_
 refine bp.cP [] (dx.nil _) (X:=Value×aA×dT×aA) (λy=>OS 159 4 dT.enc y.1 (d++[y.2.2.1]) y.2.1/\y.2.2.1.is (sg y.2.2.2)/\y.2.2.1.rev=rev/\y.2.2.1.c.plain=c.plain) (λ_ E=>E) (λy=>[bl f [.bool true,y.1,iN j] 155,y.2.1,y.2.2.2,g]) ?_ ?_
 refine .dt [12,15] mixed ?_
 refine .tK 0 rfl .move<|.tO 1 rfl .move<|.tO 2 rfl (.nilCheck rfl)<|.tO 3 rfl (.fieldAddr rfl)<|.tO 4 rfl (.cI rfl)<|.tO 5 rfl .move<|.tO 6 rfl (.aI rfl)<|.tO 9 rfl .move ?_
 refine .sT 7 rfl ?_
 refine .da ((b0 (b7 v)).weaken cQ) (λu H V=>?_)
 obtain⟨I,rfl,A,Q⟩:=V
 have c1:One I.vs:=RS.ap A.ss
 have c2:One I.vc:=RS.ap A.sc
 obtain⟨ps,cs,Y⟩:=A.ss.val
 obtain⟨pc,cc,Z⟩:=A.sc.val
 obtain⟨pw,cw,a0⟩:=M.rs.val
 obtain⟨c6,c5,a8,a7⟩:=I
 simp only at Y Z a0
 subst Y Z a0
 refine .nil (Next.sub ?_)
 refine .tO 8 rfl .cO ?_
 refine .tO 10 rfl .cO ?_
 refine .sT 11 rfl ?_
 refine .dA (λb9=>?_)
 refine .nil (Next.sub ?_)
 refine .sT 12 rfl ?_
 refine .append k (RS.lits (xs:=[(⟨rev,⟨.slice ps a8.length cs,.slice pc a7.length cc,a8,a7⟩,.slice pw ll.length cw,ll⟩:dT)]) rfl (by simp[dT.enc]) (by simp[dT.enc,ap])) (by simp only[List.length_singleton];omega) (λW G B=>?_)
 have i5:=B.ap
 refine .nil (Next.mod rfl ?_)
 refine .tK 13 rfl (.mS rfl) ?_
 refine .tK 14 rfl (.eE rfl) ?_
 refine .sT 15 rfl ?_
 refine .dm rfl rfl ?_
 refine .nil (Next.mod rfl ?_)
 refine RA.nil (by kernel_rfl) ?_
 ·exact aE (W,G,_,H++T7) ⟨B,⟨A.mono λb o f=>gy f,M.mono λb o f=>fO f,by simp only;rw[Q,a6];exact v,by simp only;rw[Q,a6];exact b2⟩,rfl,Q⟩ (dx.nil _) (by first|exact(aY [4,4,1,1,2]).trans (bf.eT (by simp[take,bF,dh]))|exact(aY [3,3,0,1,2]).trans (bf.eT (by simp[take,bF,dh])))
 intro y hy
 obtain⟨W,G,e5,H⟩:=y
 obtain⟨B,a1,a3,a2⟩:=hy
 simp only at B a1 a3 a2⊢
 refine aw<|.sr<|.az rfl ?_
 refine .ret (bj _ (.one (.tmp rfl)) (.one [0,0,0,0] _) ?_)
 ·refine⟨_,rfl,by rw[i],λ_=>⟨e5,a3,a2,W,G,H++g,by simp[take,bF],B,λe he=>?_⟩,λs=>absurd i s⟩
  rcases List.mem_append.1 he with he|he
  ·exact(x e he).mono λb o f=>fO f
  ·rw[List.mem_singleton]at he
   subst he
   exact a1.mono λb o f=>gy f
theorem LS(a b:bk)(R:aB):Spec prog 169 [.agg a.enc.toArray,.agg b.enc.toArray] R [] λv H'=>v=.bool (ek a b)/\H'=[]:=by
 refine Spec.body Tryz.func169 rfl Tryz.results169 Tryz.ntmps169 rfl ?_
 refine .sr ?_
 refine .bX rfl (λf=>?_)
 refine .bX rfl (λg=>?_)
 refine .ag rfl<|.z<|.fa rfl<|.q (.loadT rfl) ?_
 refine .fa rfl<|.q (.loadT rfl) ?_
 refine .bd (Mo a.t b.t _) (λv e=>?_)
 subst e
 refine .mo rfl ?_
 refine .split (t:=10) rfl (λc=>?_) (λc=>?_)
 refine .gF c<|.gF c<|.gF c<|.gF c<|.gF c<|.gF c<|.cN rfl ?_
 refine .cN rfl ?_
 refine .cN rfl ?_
 refine .cN rfl ?_
 refine .cN rfl ?_
 refine .gF c<|.q (.aO c) ?_
 refine .az rfl ?_
 refine .ret (aH rfl ?_)
 ·refine⟨congrArg _ ?_,rfl⟩
  unfold ek
  simp_all
 refine .gT c<|.fa rfl<|.gT c<|.q (.loadT rfl) ?_
 refine .gT c<|.fa rfl<|.gT c<|.q (.loadT rfl) ?_
 refine .gT c<|.q (.kZ rfl rfl (ay.kinds a.t) (ay.kinds b.t)) ?_
 rw[show dU (List.take 7 (List.drop 0 a.enc)) (List.take 7 (List.drop 0 b.enc))=decide (a.t=b.t)from ay.eq a.t b.t]
 refine .gT c<|.mo rfl ?_
 refine .split (t:=16) rfl (λd=>?_) (λd=>?_)
 refine .gT d<|.fa rfl<|.gT d<|.lo rfl<|.gT d<|.fa rfl<|.gT d<|.lo rfl<|.gT d<|.q .lss<|.gT c<|.q (.aO d) ?_
 refine .q (.aK c) ?_
 refine .az rfl ?_
 refine .ret (aH rfl ?_)
 ·refine⟨congrArg _ ?_,rfl⟩
  unfold ek
  simp_all
 refine .gF d<|.gF d<|.gF d<|.gF d<|.gF d<|.gT c<|.q (.aK d) ?_
 refine .q (.aK c) ?_
 refine .az rfl ?_
 refine .ret (aH rfl ?_)
 ·refine⟨congrArg _ ?_,rfl⟩
  unfold ek
  simp_all
theorem Me(v:Value)(l:List bk)(t:bk)(R:aB)(h:RS R 9 bk.enc v l)(hl:l.length<=100000):
    Spec prog 110 [v,.agg t.enc.toArray] R [] λu H'=>∃T,H'=[T]/\OS 226 9 bk.enc u (fX ek t l) T:=by
  obtain⟨J,I,rfl⟩:=h.val
  refine Spec.gx (H':=[[]]) (by simp) ?_
  refine Spec.body Tryz.func110 rfl Tryz.results110 Tryz.ntmps110 rfl ?_
  refine .sr ?_
  refine .bX rfl (λm=>?_)
  refine .ag rfl<|.z<|.ag rfl<|.z<|.ag rfl<|.zs<|.sr<|.az rfl<|.block ?_
  refine .loop (X:=Nat×Value×aA) (λy=>y.1<=l.length/\OS 226 9 bk.enc y.2.1 (jq ek t (l.take y.1)) y.2.2) (λy=>[(0,.slice J l.length I),(3,pT m),(5,y.2.1),(6,.bool ((l.take y.1).any (ek t))),(7,iN y.1)]) (λy=>[bl m t.enc 226,y.2.2]) (λy=>l.length-y.1) (0,sZ,[]) ⟨Nat.zero_le _,OS.nil⟩ kE.c.c.c.c.c rH ?_
  rintro⟨i,D,s⟩ ⟨N,e⟩
  simp only at N e⊢
  have io:=e.ap
  have M:(jq ek t (l.take i)).length<=100001:=Nat.le_trans xm (by rw[List.length_take];omega)
  refine .seq<|.sr<|.mo rfl<|.mo rfl<|.q (.bD h) ?_
  refine .q .lss<|.zn ?_
  refine .cond rfl (λA=>?_) λA=>?_
  have H:i<l.length:=cg A
  obtain⟨x,f⟩:=bU H
  have E:=Ki (lt:=ek) (p:=t) f
  refine .kn<|.seq<|.block<|.seq ?_
  refine bp.cut (X:=Value×aA) (λz=>OS 226 9 bk.enc z.1 (lS ek t (l.take i) x) z.2) (λz=>[(0,.slice J l.length I),(3,pT m),(5,z.1),(6,.bool ((l.take (i+1)).any (ek t))),(7,iN i)]) (λz=>[bl m t.enc 226,z.2]) ?_ ?_
  refine .seq ?_
  refine .dF 8 mixed (by kernel_rfl) ?_
  conv=>arg 6;dsimp only[List.take]
  refine .mo rfl<|.q .not<|.mo rfl ?_
  refine .split (t:=16) rfl (λa=>?_) (λa=>?_)
  refine .gT a<|.q (.aI rfl)<|.gT a<|.mo rfl<|.gT a<|.mo rfl<|.gT a ?_
  refine .bA i h f (λa0=>?_)
  refine .gT a<|.q (.aI rfl)<|.nil<|.gT a ?_
  refine .bd (LS t x _) (λv Q=>?_)
  subst Q
  refine .q (.aO a) ?_
  refine .zn ?_
  refine .cond rfl (λn=>?_) λn=>?_
  first|have C:=Kj f a n|skip
  refine .sr<|.mo rfl<|.q (.aI rfl) ?_
  refine .dA (λW=>?_)
  refine .append e (RS.lits (xs:=[t]) rfl (by simp[bk.enc,ay.enc]) (by simp[bk.enc,ay.enc,ap])) (by simp only[List.length_singleton];omega) (λr k g=>?_)
  refine .az rfl<|.region<|.ag rfl<|.nil ?_
  ·first
      |(obtain⟨d,b⟩:=C
        exact aE (r,k) (by simp only;rw[d];exact g) (by simp only;rw[b];exact kE.c.c.c.c.c) (aY [1,1]))
      |(obtain⟨d,b⟩:=j
        exact aE (D,s) (by simp only;rw[d];simpa using e) (by simp only;rw[b];exact kE.c.c.c.c.c) rH)
  first|have j:=s9 (p:=t) f (.inr n)|skip
  refine .skip ?_
  ·first
      |(obtain⟨d,b⟩:=C
        exact aE (r,k) (by simp only;rw[d];exact g) (by simp only;rw[b];exact kE.c.c.c.c.c) (aY [1,1]))
      |(obtain⟨d,b⟩:=j
        exact aE (D,s) (by simp only;rw[d];simpa using e) (by simp only;rw[b];exact kE.c.c.c.c.c) rH)
  have j:=s9 (p:=t) f (.inl a)
  refine .gF a<|.gF a<|.gF a<|.gF a<|.gF a<|.nil<|.gF a<|.q (.aK a) ?_
  refine .zn<|.cF ?_
  first|have j:=s9 (p:=t) f (.inr n)|skip
  refine .skip ?_
  ·first
      |(obtain⟨d,b⟩:=C
        exact aE (r,k) (by simp only;rw[d];exact g) (by simp only;rw[b];exact kE.c.c.c.c.c) (aY [1,1]))
      |(obtain⟨d,b⟩:=j
        exact aE (D,s) (by simp only;rw[d];simpa using e) (by simp only;rw[b];exact kE.c.c.c.c.c) rH)
  intro y S
  obtain⟨V,L⟩:=y
  have F:OS 226 9 bk.enc V (lS ek t (l.take i) x) L:=S
  have i6:=F.ap
  simp only
  refine aw<|.region<|.mo rfl<|.mo rfl<|.mo rfl ?_
  refine .bA i h f (λa1=>?_)
  refine .q (.aI rfl) ?_
  refine .dA (λY=>?_)
  refine .append F (RS.lits (xs:=[x]) rfl (by simp[bk.enc,ay.enc]) (by simp[bk.enc,ay.enc,ap])) (by have:=xm (lt:=ek) (p:=t) (X:=l.take (i+1));rw[<-E,List.length_take]at this;simp at this⊢;omega) (λU K G=>?_)
  rw[E]at G
  refine .ag rfl<|.nil<|ba<|aw<|.region<|.mo rfl ?_
  refine .ia (i+1) .add ?_
  refine .ag rfl<|.nil ?_
  ·exact bi (i+1,U,K) ⟨H,G⟩ (by simp only;omega) kE.c.c.c.c.c (aY [1,1])
  have O:i=l.length:=by have:=bC A;omega
  subst O
  rw[List.take_length]at e M⊢
  refine .exit<|bq<|bz<|br<|aw<|.seq<|.sr<|.mo rfl<|.q .not<|.zn ?_
  refine .cond rfl (λB=>?_) λB=>?_
  refine .region<|.mo rfl<|.q (.aI rfl) ?_
  refine .dA (λZ=>?_)
  refine .append e (RS.lits (xs:=[t]) rfl (by simp[bk.enc,ay.enc]) (by simp[bk.enc,ay.enc,ap])) (by simp;omega) (λr k g=>?_)
  refine .ag rfl<|.z<|.mo rfl<|.az rfl ?_
  refine .ret (bj _ (.one (.tmp rfl)) ((aY [2])) ?_)
  ·have o:l.any (ek t)=false:=by simpa using B
   refine⟨_,by simp[take,bF];rfl,?_⟩
   have w:jq ek t l=l:=by unfold jq;rw[o];rfl
   rw[w]at g
   rw[Kg o];exact g
  refine .kn<|.sr<|.mo rfl<|.az rfl ?_
  refine .ret (bj _ (.one (.tmp rfl)) ((aY [1])) ?_)
  ·have o:l.any (ek t)=true:=by simpa using B
   refine⟨_,by simp[take,bF];rfl,?_⟩
   have w:jq ek t l=fX ek t l:=by unfold jq;rw[o];rfl
   rw[w]at e;exact e
def ow(L:List bk)(t:ay)(z:Int):Prop:=(∃(j:Nat) (x:bk),z=j/\L[j]? =some x/\x.er t=true/\∀k y,k<j->L[k]? =some y->y.er t=false)\/(z= -1/\dj L t=false)
theorem ow.lt{L:List bk}{t:ay}{z:Int}(h:ow L t z):decide (z<0)= !dj L t:=by
 rcases h with⟨j,x,rfl,b,a,_⟩|⟨rfl,h⟩
 ·rw[decide_eq_false (by omega),dj,List.any_eq_true.2 ⟨x,aX b,a⟩];rfl
 ·rw[h];rfl
theorem ow.ge{L:List bk}{t:ay}{z:Int}(h:ow L t z):decide (0<=z)=dj L t:=by
 have a:=h.lt
 have b:decide (0<=z)= !decide (z<0):=by rw[Bool.eq_iff_iff];simp
 rw[b,a,Bool.not_not]
section
variable{R:aB}{b:Nat}{S:cU}{vL:Value}{L:List bk}
theorem DV.find(h:DV R b S vL L)(t:ay):Spec prog 111 [pT b,.agg t.enc.toArray] R [] λu H'=>(∃z,u=.int .i64 z/\ow L t z)/\H'=[]:=by
 have F:=h.pc
 have B:=h.rs.ap
 have A:=h.rs.le
 obtain⟨G,C,rfl⟩:=h.rs.val
 have n:=h.rs
 refine Spec.body Tryz.func111 rfl Tryz.results111 Tryz.ntmps111 rfl ?_
 refine .sr ?_
 refine .bX rfl (λo=>?_)
 refine .ag rfl<|.zs<|.sr<|.az rfl<|.block ?_
 refine .loop (X:=Nat) (λi=>i<=L.length/\∀k y,k<i->L[k]? =some y->y.er t=false) (λi=>[(0,pT b),(3,pT o),(5,iN i)]) (λ_=>[bl o t.enc 119]) (λi=>L.length-i) 0 ⟨Nat.zero_le _,λk y e=>absurd e (Nat.not_lt_zero _)⟩ kE.c.c.c rH ?_
 rintro i ⟨v,g⟩
 refine .seq<|.sr<|.mo rfl<|.mo rfl<|.nc rfl<|.fa rfl<|.lo rfl<|.q (.bD n) ?_
 refine .q .lss<|.zn ?_
 refine .cond rfl (λl=>?_) λl=>?_
 have m:i<L.length:=cg l
 obtain⟨x,f⟩:=bU m
 refine .kn<|.seq<|.block<|.seq ?_
 refine .fq mixed (by kernel_rfl) ?_
 refine .mo rfl<|.nc rfl<|.fa rfl<|.lo rfl<|.mo rfl ?_
 refine .bA i n f (λD=>?_)
 refine .fa rfl<|.q (.loadT rfl) ?_
 refine .q (.aI rfl)<|.q (.kZ rfl rfl (ay.kinds x.t) (ay.kinds t)) ?_
 rw[show dU (List.take 7 (List.drop 0 x.enc)) t.enc=decide (x.t=t)from ay.eq x.t t]
 refine .mo rfl ?_
 refine .split (t:=25) rfl (λa=>?_) (λa=>?_)
 refine .gT a<|.mo rfl<|.gT a<|.nc rfl<|.gT a<|.fa rfl<|.gT a<|.lo rfl<|.gT a<|.mo rfl<|.gT a ?_
 refine .bA i n f (λE=>?_)
 refine .gT a<|.fa rfl<|.gT a<|.lo rfl<|.gT a<|.q .bO<|.q (.aO a) ?_
 refine .zn ?_
 refine .cond rfl (λr=>?_) λr=>?_
 refine .sr<|.mo rfl<|.az rfl ?_
 refine .ret (bg (aF (cz (bg (aF (aH rfl ?_))))))
 ·exact⟨⟨_,rfl,.inl ⟨i,x,rfl,f,by unfold bk.er;simp_all,g⟩⟩,rfl⟩
 refine .skip<|ba<|aw<|.region<|.mo rfl ?_
 refine .ia (i+1) .add ?_
 refine .ag rfl<|.nil ?_
 ·exact bi (i+1) ⟨m,λk y e d=>by
   rcases Nat.lt_or_eq_of_le (Nat.le_of_lt_succ e)with h3|h3
   ·exact g k y h3 d
   ·subst h3
    rw[f]at d
    cases d
    unfold bk.er
    simp_all⟩ (by omega) kE.c.c.c rH
 refine .gF a<|.gF a<|.gF a<|.gF a<|.gF a<|.gF a<|.gF a<|.gF a<|.gF a<|.q (.aK a) ?_
 refine .zn<|.cF<|.skip<|ba<|aw<|.region<|.mo rfl ?_
 refine .ia (i+1) .add ?_
 refine .ag rfl<|.nil ?_
 ·exact bi (i+1) ⟨m,λk y e d=>by
   rcases Nat.lt_or_eq_of_le (Nat.le_of_lt_succ e)with h3|h3
   ·exact g k y h3 d
   ·subst h3
    rw[f]at d
    cases d
    unfold bk.er
    simp_all⟩ (by omega) kE.c.c.c rH
 refine .exit<|bq<|bz<|br<|aw<|.sr<|.az rfl ?_
 refine .ret (aH rfl ?_)
 ·have w:i=L.length:=by have:=bC l;omega
  refine⟨⟨_,rfl,.inr ⟨rfl,?_⟩⟩,rfl⟩
  unfold dj
  rw[List.any_eq_false]
  intro y d p
  obtain⟨j,s,rfl⟩:=List.mem_iff_getElem.1 d
  have:=g j _ (by omega) (bB s)
  rw[this]at p
  cases p
theorem LV(vm vn vc:Value)(bs no:List ay)(cs:List cx)(R:aB)(s:RS R 7 ay.enc vm bs)(w:RS R 7 ay.enc vn no)(m:RS R 8 cx.enc vc cs)(fm:∀t∈bs,t.fits)(fn:∀t∈no,t.fits)(fc:∀c∈cs,c.t.fits):
  Spec prog 108 [vm,vn,vc] R [] λu H'=>u=.int .i64 (fg bs no cs)/\H'=[]:=by
 have lm:=s.le
 have ln:=w.le
 have lc:=m.le
 obtain⟨D,B,rfl⟩:=s.val
 obtain⟨E,C,rfl⟩:=w.val
 obtain⟨F,A,rfl⟩:=m.val
 refine Spec.body Tryz.func108 rfl Tryz.results108 Tryz.ntmps108 rfl ?_
 refine .sr<|.ag rfl<|.zs<|.sr<|.mo rfl<|.q (.bD m) ?_
 refine .q .gtr<|.mo rfl ?_
 refine .split (t:=15) rfl (λj=>?_) (λj=>?_)
 refine .gF j<|.gF j<|.gF j<|.q (.aO j) ?_
 refine .mo rfl<|.gX<|.gX<|.gX<|.q .cD<|.mo rfl<|.gX<|.gX<|.gX<|.q .cD<|.zn<|.gD ?_
 have f:32<cs.length\/cs.length=0\/32<bs.length\/32<no.length:=by simp_all;try omega
 refine .sr<|.az rfl ?_
 refine .ret (aF (aH rfl ?_))
 ·(refine⟨?_,rfl⟩;rw[mi f];done)
 refine .gT j<|.mo rfl<|.gT j<|.q (.bD m) ?_
 refine .gT j<|.q .bO<|.q (.aK j) ?_
 refine .mo rfl ?_
 refine .split (t:=20) rfl (λl=>?_) (λl=>?_)
 refine .gF l<|.gF l<|.gF l<|.q (.aO l) ?_
 refine .mo rfl<|.gX<|.gX<|.gX<|.q .cD<|.zn<|.gD ?_
 have f:32<cs.length\/cs.length=0\/32<bs.length\/32<no.length:=by simp_all;try omega
 refine .sr<|.az rfl ?_
 refine .ret (aF (aH rfl ?_))
 ·(refine⟨?_,rfl⟩;rw[mi f];done)
 refine .gT l<|.mo rfl<|.gT l<|.q (.bD s) ?_
 refine .gT l<|.q .gtr<|.q (.aK l) ?_
 refine .mo rfl ?_
 refine .split (t:=25) rfl (λh=>?_) (λh=>?_)
 refine .gF h<|.gF h<|.gF h<|.q (.aO h) ?_
 refine .zn<|.gD ?_
 have f:32<cs.length\/cs.length=0\/32<bs.length\/32<no.length:=by simp_all;try omega
 refine .sr<|.az rfl ?_
 refine .ret (aF (aH rfl ?_))
 ·(refine⟨?_,rfl⟩;rw[mi f];done)
 refine .gT h<|.mo rfl<|.gT h<|.q (.bD w) ?_
 refine .gT h<|.q .gtr<|.q (.aK h) ?_
 refine .zn ?_
 refine .cond rfl (λh1=>?_) λh1=>?_
 have f:32<cs.length\/cs.length=0\/32<bs.length\/32<no.length:=by simp_all;try omega
 refine .sr<|.az rfl ?_
 refine .ret (aF (aH rfl ?_))
 ·(refine⟨?_,rfl⟩;rw[mi f];done)
 have f:¬(32<cs.length\/cs.length=0\/32<bs.length\/32<no.length):=by simp_all;try omega
 refine .kn<|.seq<|.sr<|.az rfl<|.block ?_
 refine .loop (X:=Nat) (λi=>i<=bs.length/\(bs.take i).any (λt=> !ep t)=false) (λi=>[(0,.slice D bs.length B),(1,.slice E no.length C),(2,.slice F cs.length A),(7,iN i)]) (λ_=>[]) (λi=>bs.length-i) 0 ⟨Nat.zero_le _,by simp⟩ kE.c.c.c.c rH ?_
 rintro i ⟨T,p⟩
 refine .seq<|.sr<|.mo rfl<|.mo rfl<|.q (.bD s) ?_
 refine .q .lss<|.zn ?_
 refine .cond rfl (λH=>?_) λH=>?_
 have g:i<bs.length:=cg H
 obtain⟨x,d⟩:=bU g
 refine .kn<|.seq<|.block<|.sr<|.mo rfl<|.mo rfl ?_
 refine .bA i s d (λa2=>?_)
 refine .q (.aI rfl) ?_
 refine .bd (uh x (fm x (aX d)) _) (λv z=>?_)
 subst z
 refine .q .not<|.zn ?_
 refine .cond rfl (λI=>?_) λI=>?_
 have n:fg bs no cs=9:=nZ f (by rw[List.any_eq_true.2 ⟨x,aX d,I⟩];simp)
 refine .sr<|.az rfl ?_
 refine .ret (bg (aF (cz (bg (aF (aH rfl ?_))))))
 ·(refine⟨?_,rfl⟩;rw[n];done)
 refine .skip<|ba<|aw<|.region<|.mo rfl ?_
 refine .ia (i+1) .add ?_
 refine .ag rfl<|.nil ?_
 ·exact bi (i+1) ⟨g,by rw[List.take_add_one,d,List.any_append,p];simp;simpa using I⟩ (by omega) kE.c.c.c.c rH
 have o:i=bs.length:=by have:=bC H;omega
 subst o
 rw[List.take_length]at p
 refine .exit<|bq<|bz<|br<|aw<|.seq<|.sr<|.az rfl<|.block ?_
 refine .loop (X:=Nat) (λi=>i<=no.length/\(no.take i).any (λt=> !ep t)=false) (λi=>[(0,.slice D bs.length B),(1,.slice E no.length C),(2,.slice F cs.length A),(8,iN i)]) (λ_=>[]) (λi=>no.length-i) 0 ⟨Nat.zero_le _,by simp⟩ kE.c.c.c.c rH ?_
 rintro i ⟨T,r⟩
 refine .seq<|.sr<|.mo rfl<|.mo rfl<|.q (.bD w) ?_
 refine .q .lss<|.zn ?_
 refine .cond rfl (λJ=>?_) λJ=>?_
 have g:i<no.length:=cg J
 obtain⟨x,d⟩:=bU g
 refine .kn<|.seq<|.block<|.sr<|.mo rfl<|.mo rfl ?_
 refine .bA i w d (λa3=>?_)
 refine .q (.aI rfl) ?_
 refine .bd (uh x (fn x (aX d)) _) (λv z=>?_)
 subst z
 refine .q .not<|.zn ?_
 refine .cond rfl (λK=>?_) λK=>?_
 have n:fg bs no cs=9:=nZ f (by rw[p,List.any_eq_true.2 ⟨x,aX d,K⟩];simp)
 refine .sr<|.az rfl ?_
 refine .ret (bg (aF (cz (bg (aF (aH rfl ?_))))))
 ·(refine⟨?_,rfl⟩;rw[n];done)
 refine .skip<|ba<|aw<|.region<|.mo rfl ?_
 refine .ia (i+1) .add ?_
 refine .ag rfl<|.nil ?_
 ·exact bi (i+1) ⟨g,by rw[List.take_add_one,d,List.any_append,r];simp;simpa using K⟩ (by omega) kE.c.c.c.c rH
 have o:i=no.length:=by have:=bC J;omega
 subst o
 rw[List.take_length]at r
 refine .exit<|bq<|bz<|br<|aw<|.seq<|.sr<|.az rfl<|.block ?_
 refine .loop (X:=Nat) (λi=>i<=cs.length/\(cs.take i).any (λc=> !ep c.t)=false) (λi=>[(0,.slice D bs.length B),(1,.slice E no.length C),(2,.slice F cs.length A),(9,iN i)]) (λ_=>[]) (λi=>cs.length-i) 0 ⟨Nat.zero_le _,by simp⟩ kE.c.c.c.c rH ?_
 rintro i ⟨T,Q⟩
 refine .seq<|.sr<|.mo rfl<|.mo rfl<|.q (.bD m) ?_
 refine .q .lss<|.zn ?_
 refine .cond rfl (λL=>?_) λL=>?_
 have g:i<cs.length:=cg L
 obtain⟨x,d⟩:=bU g
 refine .kn<|.seq<|.block<|.sr<|.mo rfl<|.mo rfl ?_
 refine .bA i m d (λa4=>?_)
 refine .fa rfl<|.q (.loadT rfl) ?_
 refine .bd (uh x.t (fc x (aX d)) _) (λv z=>?_)
 subst z
 refine .q .not<|.zn ?_
 refine .cond rfl (λM=>?_) λM=>?_
 have n:fg bs no cs=9:=nZ f (by rw[p,r,List.any_eq_true.2 ⟨x,aX d,M⟩];simp)
 refine .sr<|.az rfl ?_
 refine .ret (bg (aF (cz (bg (aF (aH rfl ?_))))))
 ·(refine⟨?_,rfl⟩;rw[n];done)
 refine .skip<|ba<|aw<|.region<|.mo rfl ?_
 refine .ia (i+1) .add ?_
 refine .ag rfl<|.nil ?_
 ·exact bi (i+1) ⟨g,by rw[List.take_add_one,d,List.any_append,Q];simp;simpa using M⟩ (by omega) kE.c.c.c.c rH
 have o:i=cs.length:=by have:=bC L;omega
 subst o
 rw[List.take_length]at Q
 have V:∀c∈cs,ep c.t=true:=λc n=>by
  have:=List.any_eq_false.1 Q c n
  simpa using this
 refine .exit<|bq<|bz<|br<|aw<|.seq<|.sr<|.az rfl<|.block ?_
 refine .loop (X:=Nat) (λi=>i<=cs.length/\((cs.take i).map (·.t)).Nodup) (λi=>[(0,.slice D bs.length B),(1,.slice E no.length C),(2,.slice F cs.length A),(10,iN i)]) (λ_=>[]) (λi=>cs.length-i) 0 ⟨Nat.zero_le _,by simp⟩ kE.c.c.c.c rH ?_
 rintro i ⟨T,S⟩
 refine .seq<|.sr<|.mo rfl<|.mo rfl<|.q (.bD m) ?_
 refine .q .lss<|.zn ?_
 refine .cond rfl (λN=>?_) λN=>?_
 have g:i<cs.length:=cg N
 obtain⟨x,d⟩:=bU g
 have a1:(cs.take (i+1)).map (·.t)=(cs.take i).map (·.t)++[x.t]:=by rw[List.take_add_one,d,Option.toList_some,List.map_append];rfl
 refine .kn<|.seq<|.block<|.sr<|.az rfl<|.block ?_
 refine .loop (X:=Nat) (λk=>k<=i/\x.t∉(cs.take k).map (·.t)) (λk=>[(0,.slice D bs.length B),(1,.slice E no.length C),(2,.slice F cs.length A),(10,iN i),(11,iN k)]) (λ_=>[]) (λk=>i-k) 0 ⟨Nat.zero_le _,by simp⟩ kE.c.c.c.c.c rH ?_
 rintro k ⟨hk,W⟩
 refine .seq<|.sr<|.mo rfl<|.mo rfl<|.q .lss<|.zn ?_
 refine .cond rfl (λO=>?_) λO=>?_
 have Z:k<i:=cg O
 obtain⟨y,U⟩:∃x,cs[k]? =some x:=⟨_,bB (by omega)⟩
 refine .kn<|.seq<|.block<|.seq ?_
 refine .fq mixed (by kernel_rfl) ?_
 refine .mo rfl<|.mo rfl ?_
 refine .bA i m d (λa5=>?_)
 refine .fa rfl<|.q (.loadT rfl) ?_
 refine .mo rfl<|.mo rfl ?_
 refine .bA k m U (λa6=>?_)
 refine .fa rfl<|.q (.loadT rfl) ?_
 refine .q (.kZ rfl rfl (ay.kinds x.t) (ay.kinds y.t)) ?_
 rw[show dU (List.take 7 (List.drop 1 x.enc)) (List.take 7 (List.drop 1 y.enc))=decide (x.t=y.t)from ay.eq x.t y.t]
 refine .zn ?_
 refine .cond rfl (λG=>?_) λG=>?_
 have n:fg bs no cs=2:=by
  rw[rG f p r V true ?_];rfl
  rw[eq_comm,Bool.not_eq_true',decide_eq_false_iff_not]
  intro hn
  have:=List.pairwise_iff_getElem.1 hn k i (by simp;omega) (by simp;omega) Z
  rw[List.getElem_map,List.getElem_map,(List.getElem?_eq_some_iff.1 d).2,(List.getElem?_eq_some_iff.1 U).2]at this
  exact this (cv G).symm
 refine .sr<|.az rfl ?_
 refine .ret (bg (aF (cz (bg (bg (aF (cz (bg (aF (aH rfl ?_))))))))))
 ·(refine⟨?_,rfl⟩;rw[n];done)
 refine .skip<|ba<|aw<|.region<|.mo rfl ?_
 refine .ia (k+1) .add ?_
 refine .ag rfl<|.nil ?_
 ·exact bi (k+1) ⟨Z,by
   rw[List.take_add_one,U,Option.toList_some,List.map_append,List.mem_append,not_or]
   exact⟨W,by simpa using G⟩⟩ (by omega) kE.c.c.c.c.c rH
 have a0:k=i:=by have:=bC O;omega
 subst a0
 refine .exit<|bq<|bz<|br<|ba<|aw<|.region<|.mo rfl ?_
 refine .ia (k+1) .add ?_
 refine .ag rfl<|.nil ?_
 ·exact bi (k+1) ⟨g,by
   rw[a1,List.nodup_append]
   exact⟨S,by simp,λa ha b Y=>by simp only[List.mem_singleton]at Y;subst Y;exact λe=>W (e▸ha)⟩⟩ (by omega) kE.c.c.c.c rH
 have o:i=cs.length:=by have:=bC N;omega
 subst o
 rw[List.take_length]at S
 refine .exit<|bq<|bz<|br<|aw<|.sr<|.az rfl ?_
 refine .ret (aH rfl ?_)
 ·(refine⟨?_,rfl⟩;rw[rG f p r V false (by simp[S])];rfl)
end
theorem nF{α:Type}{p:α->Bool}{l:List α}{i:Nat}{x:α}(h:(l.take i).any p=false)(b:l[i]? =some x)(a:p x=false):(l.take (i+1)).any p=false:=by
 rw[List.take_add_one,b,List.any_append,h]
 simp[a]
theorem zo{L:List bk}{head:Int}{bs no:List ay}{cs:List cx}(h:(bs.any (λt=> !dj L t)||no.any (λt=>dj L t))=true):eI L head bs no cs=13:=by unfold eI;rw[if_pos h]
theorem Nt{L:List bk}{head:Int}{bs no:List ay}{cs:List cx}(a:bs.any (λt=> !dj L t)=false)(b:no.any (λt=>dj L t)=false)(h:cs.any (λc=>c.put&&dj L c.t)=true):eI L head bs no cs=10:=by unfold eI;rw[a,b,if_neg (by simp),if_pos h]
theorem Nr{L:List bk}{head:Int}{bs no:List ay}{cs:List cx}(a:bs.any (λt=> !dj L t)=false)(b:no.any (λt=>dj L t)=false)(d:cs.any (λc=>c.put&&dj L c.t)=false)(h:cs.any (λc=> !c.put&& !dj L c.t)=true):eI L head bs no cs=11:=by unfold eI;rw[a,b,if_neg (by simp),if_neg (by rw[d];simp),if_pos h]
theorem Nu{L:List bk}{head:Int}{bs no:List ay}{cs:List cx}(a:bs.any (λt=> !dj L t)=false)(b:no.any (λt=>dj L t)=false)(d:cs.any (λc=>c.put&&dj L c.t)=false)(e:cs.any (λc=> !c.put&& !dj L c.t)=false):eI L head bs no cs=if 4611686018427387903<=head\/4096<L.length+eN cs/\0<eN cs then 8 else 0:=by unfold eI;rw[a,b,if_neg (by simp),if_neg (by rw[d];simp),if_neg (by rw[e];simp)]
theorem Ma{R:aB}{b:Nat}{S:cU}{vL:Value}{L:List bk}(h:DV R b S vL L)(a4:L.length<=5000)(vm vn vc:Value)(bs no:List ay)(cs:List cx)(E:RS R 7 ay.enc vm bs)(F:RS R 7 ay.enc vn no)(m:RS R 8 cx.enc vc cs)(a3:cs.length<=1000):
  Spec prog 109 [pT b,vm,vn,vc] R [] λu H'=>u=.int .i64 (eI L S.head bs no cs)/\H'=[]:=by
 have pc:=h.pc
 have a6:=h.rs.ap
 obtain⟨pw,a7,rfl⟩:=h.rs.val
 have a0:=h.rs
 have lm:=E.le
 have ln:=F.le
 have lc:=m.le
 obtain⟨M,J,rfl⟩:=E.val
 obtain⟨N,K,rfl⟩:=F.val
 obtain⟨O,I,rfl⟩:=m.val
 refine Spec.body Tryz.func109 rfl Tryz.results109 Tryz.ntmps109 rfl ?_
 refine .sr<|.ag rfl<|.zs<|.sr<|.az rfl<|.block ?_
 refine .loop (X:=Nat) (λi=>i<=bs.length/\(bs.take i).any (λt=> !dj L t)=false) (λi=>[(0,pT b),(1,.slice M bs.length J),(2,.slice N no.length K),(3,.slice O cs.length I),(9,iN i)]) (λ_=>[]) (λi=>bs.length-i) 0 ⟨Nat.zero_le _,by simp⟩ kE.c.c.c.c.c rH ?_
 rintro i ⟨hi,y⟩
 refine .seq<|.sr<|.mo rfl<|.mo rfl<|.q (.bD E) ?_
 refine .q .lss<|.zn ?_
 refine .cond rfl (λQ=>?_) λQ=>?_
 have j:i<bs.length:=cg Q
 obtain⟨x,e⟩:=bU j
 refine .kn<|.seq<|.block<|.sr<|.mo rfl<|.mo rfl<|.mo rfl ?_
 refine .bA i E e (λa8=>?_)
 refine .q (.aI rfl) ?_
 refine .bd ((h.mono λb o n=>.inl n).find x) (λv s=>?_)
 obtain⟨z,rfl,w⟩:=s
 have k:=w.lt
 refine .q .lss<|.zn ?_
 refine .cond rfl (λT=>?_) λT=>?_
 have p:eI L S.head bs no cs=13:=zo (by rw[List.any_eq_true.2 ⟨x,aX e,by rw[<-k];exact T⟩];simp)
 refine .sr<|.az rfl ?_
 refine .ret (bg (aF (cz (bg (aF (aH rfl ?_))))))
 ·(refine⟨?_,rfl⟩;rw[p];done)
 refine .skip<|ba<|aw<|.region<|.mo rfl ?_
 refine .ia (i+1) .add ?_
 refine .ag rfl<|.nil ?_
 ·exact bi (i+1) ⟨j,nF y e (by rw[<-k];exact T)⟩ (by omega) kE.c.c.c.c.c (aY [])
 have r:i=bs.length:=by have:=bC Q;omega
 subst r
 rw[List.take_length]at y
 refine .exit<|bq<|bz<|br<|aw<|.seq<|.sr<|.az rfl<|.block ?_
 refine .loop (X:=Nat) (λi=>i<=no.length/\(no.take i).any (λt=>dj L t)=false) (λi=>[(0,pT b),(1,.slice M bs.length J),(2,.slice N no.length K),(3,.slice O cs.length I),(10,iN i)]) (λ_=>[]) (λi=>no.length-i) 0 ⟨Nat.zero_le _,by simp⟩ kE.c.c.c.c.c rH ?_
 rintro i ⟨hi,B⟩
 refine .seq<|.sr<|.mo rfl<|.mo rfl<|.q (.bD F) ?_
 refine .q .lss<|.zn ?_
 refine .cond rfl (λU=>?_) λU=>?_
 have j:i<no.length:=cg U
 obtain⟨x,e⟩:=bU j
 refine .kn<|.seq<|.block<|.sr<|.mo rfl<|.mo rfl<|.mo rfl ?_
 refine .bA i F e (λa9=>?_)
 refine .q (.aI rfl) ?_
 refine .bd ((h.mono λb o n=>.inl n).find x) (λv s=>?_)
 obtain⟨z,rfl,w⟩:=s
 have k:=w.ge
 refine .q .geq<|.zn ?_
 refine .cond rfl (λV=>?_) λV=>?_
 have p:eI L S.head bs no cs=13:=zo (by rw[y,List.any_eq_true.2 ⟨x,aX e,by rw[<-k];exact V⟩];rfl)
 refine .sr<|.az rfl ?_
 refine .ret (bg (aF (cz (bg (aF (aH rfl ?_))))))
 ·(refine⟨?_,rfl⟩;rw[p];done)
 refine .skip<|ba<|aw<|.region<|.mo rfl ?_
 refine .ia (i+1) .add ?_
 refine .ag rfl<|.nil ?_
 ·exact bi (i+1) ⟨j,nF B e (by rw[<-k];exact V)⟩ (by omega) kE.c.c.c.c.c (aY [])
 have r:i=no.length:=by have:=bC U;omega
 subst r
 rw[List.take_length]at B
 refine .exit<|bq<|bz<|br<|aw<|.seq<|.sr<|.az rfl<|.block ?_
 refine .loop (X:=Nat) (λi=>i<=cs.length/\(cs.take i).any (λc=>c.put&&dj L c.t)=false) (λi=>[(0,pT b),(1,.slice M bs.length J),(2,.slice N no.length K),(3,.slice O cs.length I),(11,iN i)]) (λ_=>[]) (λi=>cs.length-i) 0 ⟨Nat.zero_le _,by simp⟩ kE.c.c.c.c.c rH ?_
 rintro i ⟨hi,C⟩
 refine .seq<|.sr<|.mo rfl<|.mo rfl<|.q (.bD m) ?_
 refine .q .lss<|.zn ?_
 refine .cond rfl (λW=>?_) λW=>?_
 have j:i<cs.length:=cg W
 obtain⟨x,e⟩:=bU j
 refine .kn<|.seq<|.block<|.sr<|.mo rfl<|.mo rfl ?_
 refine .bA i m e (λb0=>?_)
 refine .fa rfl<|.lo rfl<|.mo rfl ?_
 refine .split (t:=51) rfl (λd=>?_) (λd=>?_)
 refine .gT d<|.mo rfl<|.gT d<|.mo rfl<|.gT d<|.mo rfl<|.gT d ?_
 refine .bA i m e (λb1=>?_)
 refine .gT d<|.fa rfl<|.gT d<|.q (.loadT rfl) ?_
 refine .gT d ?_
 refine .bd ((h.mono λb o n=>.inl n).find x.t) (λv s=>?_)
 obtain⟨z,rfl,w⟩:=s
 have k:=w.ge
 refine .gT d<|.q .geq<|.q (.aO d) ?_
 refine .zn ?_
 refine .cond rfl (λY=>?_) λY=>?_
 have p:eI L S.head bs no cs=10:=Nt y B (List.any_eq_true.2 ⟨x,aX e,by rw[<-k,d];exact Y⟩)
 refine .sr<|.az rfl ?_
 refine .ret (bg (aF (cz (bg (aF (aH rfl ?_))))))
 ·(refine⟨?_,rfl⟩;rw[p];done)
 refine .skip<|ba<|aw<|.region<|.mo rfl ?_
 refine .ia (i+1) .add ?_
 refine .ag rfl<|.nil ?_
 ·exact bi (i+1) ⟨j,nF C e (by rw[<-k,d];exact Y)⟩ (by omega) kE.c.c.c.c.c (aY [])
 refine .gF d<|.gF d<|.gF d<|.gF d<|.gF d<|.gF d<|.gF d<|.gF d<|.q (.aK d) ?_
 refine .zn<|.cF<|.skip<|ba<|aw<|.region<|.mo rfl ?_
 refine .ia (i+1) .add ?_
 refine .ag rfl<|.nil ?_
 ·exact bi (i+1) ⟨j,nF C e (by rw[d];rfl)⟩ (by omega) kE.c.c.c.c.c (aY [])
 have r:i=cs.length:=by have:=bC W;omega
 subst r
 rw[List.take_length]at C
 refine .exit<|bq<|bz<|br<|aw<|.sr<|.mo rfl<|.nc rfl<|.fa rfl<|.lo rfl<|.q (.bD a0) ?_
 refine .ag rfl<|.zs<|.sr<|.az rfl<|.block ?_
 refine .loop (X:=Nat) (λi=>i<=cs.length/\(cs.take i).any (λc=> !c.put&& !dj L c.t)=false) (λi=>[(0,pT b),(1,.slice M bs.length J),(2,.slice N no.length K),(3,.slice O cs.length I),(12,.int .i64 ((L.length+eN (cs.take i):Nat):Int)),(13,iN i)]) (λ_=>[]) (λi=>cs.length-i) 0 ⟨Nat.zero_le _,by simp⟩ kE.c.c.c.c.c.c rH ?_
 rintro i ⟨hi,D⟩
 have a5:eN (cs.take i)<=1000:=by unfold eN;exact Nat.le_trans (List.length_filter_le _ _) (by rw[List.length_take];omega)
 refine .seq<|.sr<|.mo rfl<|.mo rfl<|.q (.bD m) ?_
 refine .q .lss<|.zn ?_
 refine .cond rfl (λZ=>?_) λZ=>?_
 have j:i<cs.length:=cg Z
 obtain⟨x,e⟩:=bU j
 have H:=zB e
 refine .kn<|.seq<|.block<|.seq<|.sr<|.mo rfl<|.mo rfl ?_
 refine .bA i m e (λb2=>?_)
 refine .fa rfl<|.lo rfl<|.q .not<|.mo rfl ?_
 refine .split (t:=78) rfl (λa=>?_) (λa=>?_)
 refine .gT a<|.mo rfl<|.gT a<|.mo rfl<|.gT a<|.mo rfl<|.gT a ?_
 refine .bA i m e (λb3=>?_)
 refine .gT a<|.fa rfl<|.gT a<|.q (.loadT rfl) ?_
 refine .gT a ?_
 refine .bd ((h.mono λb o n=>.inl n).find x.t) (λv s=>?_)
 obtain⟨z,rfl,w⟩:=s
 have k:=w.lt
 refine .gT a<|.q .lss<|.q (.aO a) ?_
 refine .zn ?_
 refine .cond rfl (λh8=>?_) λh8=>?_
 have p:eI L S.head bs no cs=11:=Nr y B C (List.any_eq_true.2 ⟨x,aX e,by rw[<-k,a];exact h8⟩)
 refine .sr<|.az rfl ?_
 refine .ret (aF (bg (aF (cz (bg (aF (aH rfl ?_)))))))
 ·(refine⟨?_,rfl⟩;rw[p];done)
 refine .kn<|.sr<|.mo rfl<|.mo rfl ?_
 refine .bA i m e (λa2=>?_)
 refine .fa rfl<|.lo rfl<|.zn ?_
 refine .cond rfl (λl=>?_) λl=>?_
 have A:L.length+eN (cs.take (i+1))=L.length+eN (cs.take i)+1:=by rw[H,if_pos l];rfl
 refine .region<|.mo rfl ?_
 refine .ia (L.length+eN (cs.take i)+1) .add ?_
 refine .ag rfl<|.nil<|ba<|aw<|.region<|.mo rfl ?_
 refine .ia (i+1) .add ?_
 refine .ag rfl<|.nil ?_
 ·(exfalso;rw[l]at a;cases a;done)
 have A:L.length+eN (cs.take (i+1))=L.length+eN (cs.take i):=by rw[H,if_neg (by rw[l];simp)];rfl
 refine .skip<|ba<|aw<|.region<|.mo rfl ?_
 refine .ia (i+1) .add ?_
 refine .ag rfl<|.nil ?_
 ·(refine bi (i+1) ⟨j,nF D e ?_⟩ (by omega) (by simp only[A];exact kE.c.c.c.c.c.c) (aY []);rw[<-k,a];exact h8)
 refine .gF a<|.gF a<|.gF a<|.gF a<|.gF a<|.gF a<|.gF a<|.gF a<|.q (.aK a) ?_
 refine .zn<|.cF<|.kn<|.sr<|.mo rfl<|.mo rfl ?_
 refine .bA i m e (λa2=>?_)
 refine .fa rfl<|.lo rfl<|.zn ?_
 refine .cond rfl (λl=>?_) λl=>?_
 have A:L.length+eN (cs.take (i+1))=L.length+eN (cs.take i)+1:=by rw[H,if_pos l];rfl
 refine .region<|.mo rfl ?_
 refine .ia (L.length+eN (cs.take i)+1) .add ?_
 refine .ag rfl<|.nil<|ba<|aw<|.region<|.mo rfl ?_
 refine .ia (i+1) .add ?_
 refine .ag rfl<|.nil ?_
 ·(refine bi (i+1) ⟨j,nF D e ?_⟩ (by omega) (by simp only[A];exact kE.c.c.c.c.c.c) (aY []);rw[l];rfl)
 have A:L.length+eN (cs.take (i+1))=L.length+eN (cs.take i):=by rw[H,if_neg (by rw[l];simp)];rfl
 refine .skip<|ba<|aw<|.region<|.mo rfl ?_
 refine .ia (i+1) .add ?_
 refine .ag rfl<|.nil ?_
 ·(exfalso;rw[l]at a;cases a;done)
 have r:i=cs.length:=by have:=bC Z;omega
 subst r
 rw[List.take_length]at D
 rw[List.take_length]
 have G:=Nu (head:=S.head) y B C D
 refine .exit<|bq<|bz<|br<|aw<|.seq<|.sr<|.mo rfl<|.nc rfl<|.fa rfl<|.lo rfl<|.q .geq<|.mo rfl ?_
 refine .split (t:=100) rfl (λg=>?_) (λg=>?_)
 refine .gF g<|.gF g<|.gF g<|.cN rfl ?_
 refine .cN rfl ?_
 refine .cN rfl ?_
 refine .cN rfl ?_
 refine .cN rfl ?_
 refine .cN rfl ?_
 refine .cN rfl ?_
 refine .gF g<|.q (.aO g) ?_
 refine .zn<|.gD<|.sr<|.az rfl ?_
 refine .ret (aF (aH rfl ?_))
 ·(refine⟨?_,rfl⟩;rw[G];congr 1;split<;>first|rfl|(exfalso;simp_all;done)|(exfalso;simp_all;omega))
 refine .gT g<|.mo rfl<|.gT g<|.q .gtr<|.gT g<|.mo rfl ?_
 refine .split (t:=103) rfl (λf=>?_) (λf=>?_)
 refine .gT f<|.mo rfl<|.gT f<|.mo rfl<|.gT f<|.nc rfl<|.gT f<|.fa rfl<|.gT f<|.lo rfl<|.gT f<|.q (.bD a0) ?_
 refine .gT f<|.q .gtr<|.gT g<|.q (.aO f) ?_
 refine .q (.aK g) ?_
 refine .zn ?_
 refine .cond rfl (λa1=>?_) λa1=>?_
 refine .sr<|.az rfl ?_
 refine .ret (aF (aH rfl ?_))
 ·(refine⟨?_,rfl⟩;rw[G];congr 1;split<;>first|rfl|(exfalso;simp_all;done)|(exfalso;simp_all;omega))
 refine .kn<|.sr<|.az rfl ?_
 refine .ret (aH rfl ?_)
 ·(refine⟨?_,rfl⟩;rw[G];congr 1;split<;>first|rfl|(exfalso;simp_all;done)|(exfalso;simp_all;omega))
 refine .gF f<|.gF f<|.gF f<|.gF f<|.gF f<|.gF f<|.gF f<|.gT g<|.q (.aK f) ?_
 refine .q (.aK g) ?_
 refine .zn<|.cF<|.kn<|.sr<|.az rfl ?_
 refine .ret (aH rfl ?_)
 ·(refine⟨?_,rfl⟩;rw[G];congr 1;split<;>first|rfl|(exfalso;simp_all;done)|(exfalso;simp_all;omega))
def DO(b:Nat)(S:cU)(T:aA):Prop:=∃vL L TL,T=(b,.cells [vL,.int .u64 S.head,.int .u64 S.dE].toArray 103 (0,0))::TL/\OS 226 9 bk.enc vL L TL/\RL S L
theorem DO.view{b:Nat}{S:cU}{T:aA}{R:aB}(h:DO b S T)(a:∀p∈T,R p.1 p.2):∃vL L,DV R b S vL L/\RL S L:=by
 obtain⟨vL,L,f,rfl,c,d⟩:=h
 exact⟨vL,L,⟨PC.of (E:=103) (fr:=(0,0)) (a (b,_) (by simp)),c.rs λp e=>a p (by simp[e])⟩,d⟩
theorem RL.len{S:cU}(a:fv S){L:List bk}(h:RL S L):L.length<=4096:=by rw[h.pm.length_eq];exact a.len
theorem MU(b:Nat)(S:cU)(T:aA)(h:DO b S T)(g:fv S)(vm vn vc:Value)(bs no:List ay)(cs:List cx)(R:aB)(D:RS R 7 ay.enc vm bs)(F:RS R 7 ay.enc vn no)(a:RS R 8 cx.enc vc cs)(fm:∀t∈bs,t.fits)(fn:∀t∈no,t.fits)(fc:∀c∈cs,c.t.fits)(a5:cs.length<=1000):
  Spec prog 58 [pT b,vm,vn,vc] R [T] λu H'=>∃T',H'=[T']/\u=.tuple [.int .u64 (if fB S bs no cs=0 then S.head+1 else 0),.int .i64 (fB S bs no cs)].toArray/\DO b (gL S bs no cs) T':=by
 have a0:=g.h0
 have a1:=g.h1
 have a2:=g.h2
 have h0:=h
 obtain⟨pm,km,rfl⟩:=D.val
 obtain⟨pn,kn,rfl⟩:=F.val
 obtain⟨pv,kc,rfl⟩:=a.val
 obtain⟨c1,L0,a3,W⟩:=h.view (R:=Rx R [T]) λp hp=>.inr (by simp[hp])
 have b2:=W.len g
 refine Spec.body Tryz.func58 rfl Tryz.results58 Tryz.ntmps58 rfl ?_
 refine .sr<|.ag rfl<|.ag rfl<|.z<|.mo rfl<|.mo rfl<|.mo rfl ?_
 refine .bd (LV _ _ _ bs no cs _ D.rx F.rx a.rx fm fn fc) (λv n=>?_)
 subst n
 refine .ag rfl<|.zs<|.sr<|.mo rfl<|.q .bO<|.zn ?_
 refine bp.cut (X:=Unit) (λ_=>True) (λ_=>[(0,pT b),(1,.slice pm bs.length km),(2,.slice pn no.length kn),(3,.slice pv cs.length kc),(10,.int .i64 (fB S bs no cs))]) (λ_=>[T]) ?_ ?_
 refine .cond rfl (λw=>?_) λw=>?_
 have G:fg bs no cs=0:=by simpa using w
 have s:eI L0 S.head bs no cs=fB S bs no cs:=by rw[rI G,Ns W.pm]
 refine .region<|.mo rfl<|.mo rfl<|.mo rfl<|.mo rfl ?_
 refine .bd (Ma a3 (by omega) _ _ _ bs no cs D.rx F.rx a.rx a5) (λv n=>?_)
 subst n
 refine .ag rfl<|.nil ?_
 ·exact aE () trivial (by rw[<-s];exact kE.c.c.c.c.c) rH
 have G:fg bs no cs≠0:=by simpa using w
 have s:fg bs no cs=fB S bs no cs:=by rw[uu G]
 refine .skip ?_
 ·exact aE () trivial (by rw[<-s];exact kE.c.c.c.c.c) rH
 intro x hx
 skip
 refine aw<|.seq<|.sr<|.mo rfl<|.q .dQ<|.zn ?_
 refine .cond rfl (λA=>?_) λA=>?_
 have f:fB S bs no cs≠0:=by simpa using A
 refine .sr<|.mo rfl<|.ag rfl<|.az rfl ?_
 refine .ret (aF (bj _ (.two (.tmp rfl) (.tmp rfl)) (.one [0] _) ?_))
 ·exact⟨T,by simp[take],by rw[if_neg f],by rw[pM f];exact h0⟩
 have f:fB S bs no cs=0:=by simpa using A
 have K:=rJ f
 have b4:=K.head
 obtain⟨vL,L,O,rfl,V,U⟩:=h
 have b6:=V.ap
 refine .kn<|.sr ?_
 refine .sub (H':=[bl b [vL,.int .u64 S.head,.int .u64 S.dE] 103,O]) (bf.eT (by simp)) ?_
 refine .mo rfl<|.mo rfl<|.nc rfl<|.fa rfl<|.lo rfl ?_
 refine .q (.u64 (S.head+1) .add ⟨rfl,by omega,by omega⟩) ?_
 refine .nc rfl<|.fa rfl<|.dm rfl rfl<|.zs<|.sr<|.az rfl<|.block ?_
 refine .loop (X:=Nat×Value×List bk×aA) (λy=>y.1<=cs.length/\OS 226 9 bk.enc y.2.1 y.2.2.1 y.2.2.2/\RL ⟨(cs.take y.1).foldl (eH (S.head+1)) S.rows,S.head+1,S.dE⟩ y.2.2.1) (λy=>[(0,pT b),(3,.slice pv cs.length kc),(11,iN y.1)]) (λy=>[bl b [y.2.1,.int .u64 (S.head+1),.int .u64 S.dE] 103,y.2.2.2]) (λy=>cs.length-y.1) (0,vL,L,O) ⟨Nat.zero_le _,V,⟨U.pm,U.st⟩⟩ kE.c.c.c rH ?_
 rintro⟨i,M,N,Q⟩ ⟨hi,e,o⟩
 simp only at hi e o⊢
 have b5:=e.ap
 have b3:=o.len (g.fold (K.take i))
 have lc:=a.le
 refine .seq<|.sr<|.mo rfl<|.mo rfl<|.q (.bD a) ?_
 refine .q .lss<|.zn ?_
 refine .cond rfl (λB=>?_) λB=>?_
 have H:i<cs.length:=cg B
 obtain⟨c,l⟩:=bU H
 have c0:=a.pc l
 obtain⟨m,a6⟩:=RL.next g K l o
 refine .kn<|.seq<|.block<|.sr<|.mo rfl<|.mo rfl ?_
 refine .bA i a l (λb7=>?_)
 refine .fa rfl<|.lo rfl<|.zn ?_
 refine .cond rfl (λC=>?_) λC=>?_
 refine .dt [18] mixed ?_
 refine .tO 0 rfl .move<|.tO 1 rfl .move<|.tO 2 rfl (.nilCheck rfl)<|.tO 3 rfl (.fieldAddr rfl)<|.tO 4 rfl (.cI rfl)<|.tO 5 rfl .move<|.tO 6 rfl .move ?_
 refine .tO 7 rfl (.bA i a l rfl rfl rfl) ?_
 refine .tO 8 rfl (.fieldAddr rfl) ?_
 refine .tO 9 rfl (.loadT rfl) ?_
 refine .tO 10 rfl .move<|.tO 11 rfl (.nilCheck rfl)<|.tO 12 rfl (.fieldAddr rfl)<|.tO 13 rfl (.cI rfl) ?_
 refine .tO 14 rfl .cO ?_
 refine .sT 15 rfl ?_
 refine .da (Me _ N ⟨c.t,S.head+1,0⟩ _ e.rx (by omega)) (λu Tn hu=>?_)
 have iu:=hu.ap
 refine .nil (Next.sub ?_)
 refine .tO 16 rfl (.nilCheck rfl)<|.tO 17 rfl (.fieldAddr rfl) ?_
 refine .sT 18 rfl ?_
 refine .dm rfl rfl ?_
 refine .nil (Next.mod rfl ?_)
 refine RA.nil (by kernel_rfl) ?_
 refine ba<|aw<|.region<|.mo rfl ?_
 refine .ia (i+1) .add ?_
 refine .ag rfl<|.nil ?_
 ·exact bi (i+1,u,_,Tn) ⟨H,by simp only;exact hu,by simp only;unfold nR at m;rw[if_pos C]at m;exact m⟩ (by simp only;omega) (((kE.d rfl).d rfl).d rfl) (aY [1,0])
 obtain⟨j,x,r,J,b0,b1⟩:=a6 C
 refine .sr<|.mo rfl<|.mo rfl<|.mo rfl ?_
 refine .bA i a l (λb8=>?_)
 refine .fa rfl<|.q (.loadT rfl) ?_
 refine .bd (DV.find (S:=⟨[],S.head+1,S.dE⟩) ⟨PC.of (E:=103) (fr:=(0,0)) (.inr (by simp)),e.rx⟩ c.t) (λv n=>?_)
 obtain⟨z,rfl,hz⟩:=n
 obtain rfl:z=(j:Int):=by
  rcases hz with⟨k,y,rfl,hy,Y,a9⟩|⟨_,I⟩
  ·rcases Nat.lt_trichotomy k j with h9|h9|h9
   ·rw[b0 k y h9 hy]at Y;cases Y
   ·rw[h9]
   ·rw[a9 j x h9 r]at J;cases J
  ·unfold dj at I
   rw[List.any_eq_true.2 ⟨x,aX r,J⟩]at I
   cases I
 refine .az rfl ?_
 refine .dF 11 mixed (by kernel_rfl) ?_
 conv=>arg 6;dsimp only[List.take]
 refine .mo rfl<|.nc rfl<|.fa rfl<|.lo rfl<|.mo rfl<|.mo rfl ?_
 refine .nc rfl<|.fa rfl<|.lo rfl ?_
 refine .bo j e r (λb9=>?_)
 refine .fa rfl<|.nil ?_
 refine .nj (k:=8) (cs:=[.int .u64 (S.head+1)]) (z':=⟨x.t,x.fr,S.head+1⟩) j e r rfl rfl rfl rfl rfl (by simp[ap]) rfl (by simp) (λTd a4=>?_)
 refine .nil<|ba<|aw<|.region<|.mo rfl ?_
 refine .ia (i+1) .add ?_
 refine .ag rfl<|.nil ?_
 ·exact bi (i+1,M,_,Td) ⟨H,by simp only;exact a4,by simp only;rw[b1]at m;exact m⟩ (by simp only;omega) (((kE.d rfl).d rfl).d rfl) (aY [0,0])
 refine .exit<|bq<|bz<|br<|aw<|.sr<|.mo rfl<|.nc rfl<|.fa rfl<|.lo rfl<|.ag rfl<|.az rfl ?_
 refine .ret (bj _ (.two (.tmp rfl) (.tmp rfl)) ((bf.eT (H':=[(b,.cells [M,.int .u64 (S.head+1),.int .u64 S.dE].toArray 103 (0,0))::Q]) (by simp))) ?_)
 ·have a8:i=cs.length:=by have:=bC B;omega
  subst a8
  have a7:=o.write f
  have Z:(gL S bs no cs).head=S.head+1/\(gL S bs no cs).dE=S.dE:=by unfold gL;rw[if_pos f];exact⟨rfl,rfl⟩
  exact⟨_,rfl,by rw[f];rfl,M,N,Q,by rw[Z.1,Z.2],e,a7⟩
structure kA where
 c:bE
 vw:Value
 calls:List eW
def kA.enc(w:kA):List Value:=[w.c.vs,w.c.vc,w.vw]
structure kA.is(R:aB)(w:kA):Prop where
 c:w.c.is R
 rs:RS R 12 eW.enc w.vw w.calls
 all:∀d∈w.calls,d.is R
theorem Ow{S:cU}(d:fv S)(bs no:List ay)(cs:List cx):(gL S bs no cs).rows.length<=S.rows.length+32:=by
 by_cases h:fB S bs no cs=0
 ·rw[zH d h]
  have b:fg bs no cs=0:=by
   unfold fB at h
   split at h
   ·rename_i a;exact absurd h a
   ·rename_i a;simpa using a
  have e:cs.length<=32:=by
   unfold fg at b
   split at b
   ·cases b
   ·omega
  simp only[List.length_append,List.length_map,news]
  have:=List.length_filter_le (λc:cx=>c.put) cs
  omega
 ·rw[pM h];omega
theorem fv.new:fv ⟨[],0,0⟩:=⟨λx a=>(by cases a),List.Pairwise.nil,by simp,Int.le_refl _,Int.le_refl _,by decide⟩
theorem xr(c:Cf):mJ [] 0 c=(c.numbers isWord cX).1:=by
 unfold mJ
 simp only[List.getLast?_nil,Option.map_none,Option.getD_none,Bool.false_eq_true,if_false,List.length_nil]
 by_cases h:(c.numbers isWord cX).1=0
 ·rw[if_neg (by rw[h];simp),h];rfl
 ·rw[if_pos h]
def z7(R:aB)(w:kA)(u:Value)(H:aN):Prop:=∃Tc Th Ts Tx hb g x e S,∃c:bE,H=[Tc,Th,Ts,Tx]/\u=.tuple [pT hb,pT g,.agg c.enc.toArray,pT x,.bool true].toArray/\
 c.is (λb o=>R b o\/(b,o)∈Tc)/\c.plain=gC w.c.plain/\((gC w.c.plain).numbers isWord cX).1=0/\dT.rev e=0/\(dT.c e).plain=gC w.c.plain/\HI hb [e] 0 Th/\SI g S Ts/\fv S/\DO x S Tx/\S.rows.length<=512
theorem KQ(w:kA)(R:aB)(h:w.is R):Spec prog 14 [.agg w.enc.toArray] R [] λu H'=>z7 R w u H'\/
  ∃T c,∃x:Nat,H'=[T]/\u=.tuple [.pointer none,.pointer none,.agg (bE.enc c).toArray,pT x,.bool false].toArray/\c.is (λb o=>R b o\/(b,o)∈T)/\c.plain=gC w.c.plain/\((gC w.c.plain).numbers isWord cX).1≠0:=by
 obtain⟨c,vw,a4⟩:=w
 have I:=h.c
 have M:=h.rs
 have Z:=h.all
 simp only at I M Z⊢
 have i1:One c.vs:=RS.ap I.ss
 have i2:One c.vc:=RS.ap I.sc
 have i3:=M.ap
 have a9:=xr (gC c.plain)
 refine Spec.body Tryz.func14 rfl Tryz.results14 Tryz.ntmps14 rfl ?_
 refine .sr ?_
 refine .bX rfl (λb1=>?_)
 refine .ag rfl<|.ag rfl ?_
 refine .bN (λb4=>?_)
 refine .ag rfl<|.ag rfl<|.z<|.fa rfl<|.q (.loadT rfl) ?_
 refine .da ((JZ c R I).weaken cQ) (λu Tc a=>?_)
 obtain⟨n,rfl,r,J⟩:=a
 have ic:bW n.enc:=⟨r.cH⟩
 have c7:One n.vs:=RS.ap r.ss
 have c8:One n.vc:=RS.ap r.sc
 refine .bN (λb7=>?_)
 refine .bG rfl rfl<|.z<|.q (.aI rfl) ?_
 refine .da ((uj n _ r).weaken λb o j=>j.elim .inl λj=>.inr (by simp[j])) (λu Tn a=>?_)
 obtain⟨wn,d3,rfl,a7,c4⟩:=a
 rw[J]
 have c9:One wn:=a7.rs.ap
 refine .mo rfl<|.q .extract<|.q .extract<|.ag rfl<|.ag rfl<|.z ?_
 refine .da (xu _) (λu Th a=>?_)
 obtain⟨j,rfl,hH⟩:=a
 refine .da (zt _) (λu A a=>?_)
 obtain⟨g,rfl,v⟩:=a
 refine .q .cO ?_
 refine .bX rfl (λD=>?_)
 refine .ag rfl<|.ag rfl<|.ag rfl<|.zs<|.sr<|.mo rfl<|.q .dQ<|.mo rfl ?_
 refine .split (t:=29) rfl (λk=>?_) (λk=>?_)
 have b9:((gC c.plain).numbers isWord cX).1≠0:=by simpa using k
 refine .gF k<|.gF k<|.gF k<|.gF k<|.q (.aO k) ?_
 refine .zn<|.gD<|.seq<|.dt [4] mixed ?_
 refine .tO 0 rfl (.aI rfl)<|.tK 1 rfl .move<|.tO 2 rfl .assign<|.tO 3 rfl .assign ?_
 refine .sT 4 rfl ?_
 refine .bG rfl rfl ?_
 refine .nil (Next.mod rfl ?_)
 refine .tK 5 rfl .assign<|.tK 6 rfl .assign ?_
 refine RA.nil (by kernel_rfl) ?_
 refine aw ?_
 refine .ret (aF (bj _ (.sX (.tmp rfl) (.tmp rfl) (.ei rfl rfl) (.tmp rfl) (.tmp rfl)) (.one [5] _) ?_))
 ·exact .inr ⟨_,n,_,rfl,rfl,r.mono λb o j=>j.elim .inl λj=>.inr (by simp[take,bF,j]),J,b9⟩
 have O:((gC c.plain).numbers isWord cX).1=0:=by simpa using k
 refine .gT k<|.mo rfl<|.gT k<|.q (.aI rfl)<|.gT k ?_
 refine .vE (xo j [] 0 Th hH (by simp) 0 n _ (r.mono λb o j=>j.elim .inl λj=>.inr (by simp[j]))) (λu a1 a=>?_)
 rw[J,a9]at a
 obtain⟨rfl,a5,c0⟩:=a
 refine .gT k<|.q .dQ<|.q (.aK k) ?_
 refine .zn ?_
 refine .cond rfl (λL=>?_) λL=>?_
 refine .seq<|.dt [4] mixed ?_
 refine .tO 0 rfl (.aI rfl)<|.tK 1 rfl .move<|.tO 2 rfl .assign<|.tO 3 rfl .assign ?_
 refine .sT 4 rfl ?_
 refine .bG rfl rfl ?_
 refine .nil (Next.mod rfl ?_)
 refine .tK 5 rfl .assign<|.tK 6 rfl .assign ?_
 refine RA.nil (by kernel_rfl) ?_
 refine aw ?_
 refine .ret (aF (bj _ (.sX (.tmp rfl) (.tmp rfl) (.ei rfl rfl) (.tmp rfl) (.tmp rfl)) (.one [5] _) ?_))
 ·exfalso
  rw[O]at L
  simp at L
 obtain⟨e,b6,b5,Y⟩:=a5 O
 rw[List.nil_append]at Y
 refine .kn<|.sr<|.fa rfl<|.lo rfl ?_
 refine .da (JY _ a4 16 (by omega) _ R M.rx Z) (λu a0 a=>?_)
 obtain⟨F,l,b3,b2⟩:=a
 have c6:=l.ap
 have c3:F.length<=16:=by rw[b2];exact Nat.min_le_right _ _
 refine .ag rfl<|.zs<|.sr<|.az rfl<|.block ?_
 refine .cq [(4,_),(7,_),(10,_),(11,_),(12,_),(13,_)] (X:=Nat×cU×aA×aA) (λy=>y.1<=F.length/\SI g y.2.1 y.2.2.1/\fv y.2.1/\DO D y.2.1 y.2.2.2/\y.2.1.rows.length<=32*y.1) (λy E=>(14,iN y.1)::E) (λy G=>a0::y.2.2.2::y.2.2.1::G) (λy=>F.length-y.1) (0,⟨[],0,0⟩,A,bl D [sZ,.int .u64 0,.int .u64 0] 103) ⟨Nat.zero_le _,v,fv.new,⟨_,[],[],rfl,OS.nil,RL.new⟩,by simp⟩ kE.c.c.c.c.c.c.c rH ?_
 rintro⟨i,S,A,K⟩ ⟨hi,v,p,H,b8⟩
 simp only at hi v p H b8⊢
 refine .seq<|.sr<|.mo rfl<|.mo rfl<|.q (.ej l) ?_
 refine .q .lss<|.zn ?_
 refine .cond rfl (λW=>?_) λW=>?_
 have N:i<F.length:=cg W
 obtain⟨d,m⟩:=bU N
 obtain⟨f,c1,c2,b0⟩:=b3 d (aX m)
 obtain⟨dk,U,V,Q,df,dr,B,C,s⟩:=d
 have c5:=Ow p B C s
 have d0:One U:=RS.ap f.hm
 have d1:One V:=RS.ap f.hn
 have d2:One Q:=RS.ap f.hc
 refine .kn<|.seq<|.block<|.sr<|.mo rfl<|.mo rfl ?_
 refine .bo i l m (λd4=>?_)
 refine .fa rfl<|.lo rfl<|.q .bO<|.zn ?_
 refine .cond rfl (λh3=>?_) λh3=>?_
 refine .seq ?_
 refine .dF 16 mixed (by kernel_rfl) ?_
 conv=>arg 6;dsimp only[List.take]
 refine .mo rfl<|.mo rfl<|.mo rfl ?_
 refine .bo i l m (λd5=>?_)
 refine .fa rfl<|.lo rfl<|.mo rfl<|.mo rfl ?_
 refine .bo i l m (λd6=>?_)
 refine .fa rfl<|.lo rfl<|.mo rfl<|.mo rfl ?_
 refine .bo i l m (λd7=>?_)
 refine .fa rfl<|.lo rfl<|.nil ?_
 refine .cV (Ox g S A v p U V Q B C s _ f.hm f.hn f.hc f.fm f.fn f.fc) (λu a2 a=>?_)
 obtain⟨rfl,a8⟩:=a
 refine .zn ?_
 refine .dF 16 mixed (by kernel_rfl) ?_
 conv=>arg 6;dsimp only[List.take]
 refine .mo rfl<|.mo rfl<|.mo rfl ?_
 refine .bo i l m (λd8=>?_)
 refine .fa rfl<|.lo rfl<|.mo rfl<|.mo rfl ?_
 refine .bo i l m (λd9=>?_)
 refine .fa rfl<|.lo rfl<|.mo rfl<|.mo rfl ?_
 refine .bo i l m (λe0=>?_)
 refine .fa rfl<|.lo rfl<|.nil ?_
 refine .cV (MU D S K H p U V Q B C s _ f.hm f.hn f.hc f.fm f.fn f.fc (by have h9:s.length<=34:=b0;omega)) (λu a3 a=>?_)
 obtain⟨rfl,a6⟩:=a
 refine .nil<|ba<|aw<|.region<|.mo rfl ?_
 refine .ia (i+1) .add ?_
 refine .ag rfl<|.nil ?_
 ·exact bi (i+1,gL S B C s,a2,a3) ⟨N,a8,p.write B C s,a6,by simp only;omega⟩ (by simp only;omega) kE.c.c.c.c.c.c.c rH
 refine .skip<|ba<|aw<|.region<|.mo rfl ?_
 refine .ia (i+1) .add ?_
 refine .ag rfl<|.nil ?_
 ·exact bi (i+1,S,A,K) ⟨N,v,p,H,by simp only;omega⟩ (by simp only;omega) kE.c.c.c.c.c.c.c rH
 refine .exit<|bq<|bz<|br<|aw<|.seq<|.dt [6] mixed ?_
 refine .tO 0 rfl .move<|.tO 1 rfl .move<|.tO 2 rfl (.aI rfl)<|.tK 3 rfl .move<|.tO 4 rfl .assign<|.tO 5 rfl .assign ?_
 refine .sT 6 rfl ?_
 refine .bG rfl rfl ?_
 refine .nil (Next.mod rfl ?_)
 refine .tK 7 rfl .assign<|.tK 8 rfl .assign ?_
 refine RA.nil (by kernel_rfl) ?_
 refine aw ?_
 refine .ret (bj _ (.sX (.tmp rfl) (.tmp rfl) (.ei rfl rfl) (.tmp rfl) (.tmp rfl)) (aY [6,3,2,1]) ?_)
 ·exact .inl ⟨Tc,a1,A,K,j,g,D,e,S,n,rfl,rfl,r,J,O,b6,b5,Y,v,p,H,by omega⟩
abbrev jB(n:Nat):Value:=iN n
def kL(c:Cf)(num:List Nat):List (Ty×Nat):=(c.all.map dL).zip num
theorem Lj(c:Cf)(num:List Nat)(a:num.length=c.all.length)(t:Ty):(db t (kL c num)).getD 0=match bM c.all t with|none=>0|some i=>num.getD i 0:=by
 unfold kL bM
 generalize c.all=A at *
 induction A generalizing num with
 |nil=>simp[db]
 |cons x A ih=>
  cases num with
  |nil=>simp at a
  |cons n num=>
   have:=ih num (by simpa using a)
   rw[List.map_cons,List.zip_cons_cons,db,List.findIdx?_cons]
   by_cases e:t=dL x
   ·subst e;simp
   ·rw[if_neg e,this]
    have b:decide (dL x=t)=false:=decide_eq_false λh=>e h.symm
    rw[b]
    cases List.findIdx? (λx=>decide (dL x=t)) A with
    |none=>rfl
    |some i=>rfl
theorem tH(c:bE)(R:aB)(h:c.is R)(hu:c.plain.dG)(w:Value)(N:List fP)(num:List Nat)(U:NN R w N)(a9:N.map (·.2)=rows c.plain.aR num)(W:num.length=c.plain.all.length):
  Spec prog 81 [.agg c.enc.toArray,w] R [] λu H'=>∃T,H'=[T]/\MS kJ jB u (kL c.plain num) T:=by
 have o:=h.ss
 have i1:=o.ap
 have i2:One c.vc:=RS.ap h.sc
 have c2:=o.le
 have a5:=h.all
 have a0:=U.rs
 have iw:=a0.ap
 have b0:=U.all
 have b6:=ny c.plain
 have b5:c.plain.aR.length=c.aR.length:=by unfold bE.plain;simp
 have a2:∀(i:Nat) (s:bT),c.aR[i]? =some s->c.plain.aR[i]? =some s.plain:=λi s f=>mX f
 have b8:=λ(p:fx) (s:bT) (r:bQ)=>mU (c:=c) (p:=p) (s:=s) (r:=r)
 have a7:∀i k,c.ix (i,k)=cA c.plain.aR i+k:=λ_ _=>rfl
 have c0:(c.plain.all.map dL).Nodup:=hu.2.1
 have I:kL c.plain num=(c.plain.all.map dL).zip num:=rfl
 generalize hA:c.plain.all=A at *
 generalize hQ:kL c.plain num=Q at *
 have a4:Q.length=A.length:=by rw[I];simp[W]
 have a3:Q.map (·.1)=A.map dL:=by rw[I];exact List.map_fst_zip (by simp[W])
 have b4:∀i s,c.aR[i]? =some s->∃v,N[i]? =some (v,(num.drop (cA c.plain.aR i)).take s.bI.length):=λi s f=>by
  have g:=mZ (n:=num) (a2 i s f)
  rw[<-a9,List.getElem?_map,show s.plain.bI.length=s.bI.length by simp[bT.plain]]at g
  obtain⟨⟨v,r⟩,j,O⟩:=Option.map_eq_some_iff.1 g
  exact⟨v,by rw[j];simp only at O;rw[O]⟩
 generalize C:cA c.plain.aR=of at *
 have b1:of 0=0:=by rw[<-C];cases c.plain.aR<;>rfl
 refine Spec.body Tryz.func81 rfl Tryz.results81 Tryz.ntmps81 rfl ?_
 refine .sr ?_
 refine .bX rfl (λb2=>?_)
 refine .ag rfl<|.z ?_
 refine .makeMap (λB=>?_)
 refine .ag rfl<|.zs<|.sr<|.fa rfl<|.lo rfl<|.q (.bD o) ?_
 refine .mo rfl<|.zn<|.block ?_
 refine .cq [(1,_),(5,_),(12,_),(13,_)] (X:=Nat×aA) (λy=>y.1<=c.aR.length/\MS kJ jB (.map (some B)) (Q.take (of y.1)) y.2) (λy E=>(14,iN y.1)::E) (λy G=>y.2::G) (λy=>c.aR.length-y.1) (0,[(B,.map #[] 0)]) ⟨Nat.zero_le _,by rw[b1];exact MS.nil⟩ kE.c.c.c.c.c rH ?_
 rintro⟨i,T⟩ ⟨hi,b⟩
 simp only at hi b⊢
 refine .sr<|.q .lss<|.zs ?_
 refine .cond rfl (λg=>?_) λg=>?_
 have Y:i<c.aR.length:=cg g
 obtain⟨⟨l,x,a⟩,f⟩:=bU Y
 have M:=a5 _ (aX f)
 have m:RS R 3 bQ.enc x a:=M.rs
 have c6:=m.ap
 have c3:=m.le
 have c8:bW (bT.enc ⟨l,x,a⟩):=⟨M.cH⟩
 have a1:=mW (a2 i _ f)
 rw[C,show(bT.plain ⟨l,x,a⟩).bI.length=a.length by simp[bT.plain]]at a1
 obtain⟨vr,H⟩:=b4 i _ f
 simp only at H
 have L:=b0 _ (aX H)
 simp only at L
 have c9:One vr:=L.ap
 refine .kn<|.seq<|.block<|.sr<|.mo rfl ?_
 refine .bA i o f (λd0=>?_)
 refine .q (.aI rfl) ?_
 refine .bN (λb7=>?_)
 refine .ag rfl<|.bG rfl rfl<|.z<|.fa rfl<|.lo rfl<|.q (.bD m) ?_
 refine .mo rfl<|.zn<|.block ?_
 refine .cq [(1,_),(5,_),(6,_),(7,_),(12,_),(13,_),(14,_),(20,_),(21,_)] (X:=Nat×aA) (λy=>y.1<=a.length/\MS kJ jB (.map (some B)) (Q.take (of i+y.1)) y.2) (λy E=>(22,iN y.1)::E) (G:=[bl b2 c.enc 25]) (λy G=>bl b7 (bT.enc ⟨l,x,a⟩) 164::y.2::G) (λy=>a.length-y.1) (0,T) ⟨Nat.zero_le _,b⟩ kE.c.c.c.c.c.c.c.c.c.c rH ?_
 rintro⟨k,T⟩ ⟨hk,b⟩
 simp only at hk b⊢
 refine .sr<|.q .lss<|.zs ?_
 refine .cond rfl (λj=>?_) λj=>?_
 have F:k<a.length:=cg j
 obtain⟨⟨vt,vn,r⟩,J⟩:=bU F
 have K:=M.all _ (aX J)
 have c7:One vt:=RS.ap K.t
 have c5:One vn:=RS.ap K.d
 have c4:bW (bQ.enc ⟨vt,vn,r⟩):=⟨K.cH⟩
 have D:=b8 (i,k) _ _ f J
 rw[a7]at D
 have c1:of i+k<A.length:=(List.getElem?_eq_some_iff.1 D).1
 obtain⟨n,Z⟩:∃n,num[of i+k]? =some n:=⟨_,bB (by omega)⟩
 have b3:((num.drop (of i)).take a.length)[k]? =some n:=by rw[List.getElem?_take_of_lt F,List.getElem?_drop];exact Z
 have V:Q[of i+k]? =some (⟨l,r.name⟩,n):=by
  rw[I,List.getElem?_zip_eq_some]
  exact⟨by rw[List.getElem?_map,D];rfl,Z⟩
 refine .kn<|.seq<|.block<|.sr<|.mo rfl ?_
 refine .bA k m J (λd1=>?_)
 refine .q (.aI rfl) ?_
 refine .bN (λb9=>?_)
 refine .ag rfl<|.bG rfl rfl<|.zn ?_
 refine .dF 13 mixed (by kernel_rfl) ?_
 conv=>arg 6;dsimp only[List.take]
 refine .mo rfl<|.fa rfl<|.lo rfl<|.fa rfl<|.lo rfl ?_
 refine .q .cO ?_
 refine .mo rfl<|.mo rfl ?_
 refine .bA i a0 H (λd2=>?_)
 refine .lo rfl<|.mo rfl ?_
 refine .bA k L b3 (λd3=>?_)
 refine .lo rfl<|.nil ?_
 refine .update (key:=(⟨l,r.name⟩:Ty)) (u:=n) b rfl rfl rfl (λT2 S _=>?_)
 rw[lj (λhm=>by
  obtain⟨q,hq,e⟩:=List.mem_iff_getElem.1 hm
  rw[List.length_map,List.length_take]at hq
  rw[List.getElem_map,List.getElem_take]at e
  have g:(Q.map (·.1))[of i+k]? =some ⟨l,r.name⟩:=by rw[List.getElem?_map,V];rfl
  have j:(Q.map (·.1))[q]? =some ⟨l,r.name⟩:=by rw[List.getElem?_map,bB (by omega),Option.map_some,e]
  exact lp (show q<of i+k by omega) g j rfl (by rw[a3];exact c0)), <-dS V]at S
 refine .nil<|ba<|aw<|.region ?_
 refine .ia (k+1) .add ?_
 refine .mo rfl<|.nil ?_
 ·exact bi (k+1,T2) ⟨F,S⟩ (by simp only;omega) kE.c.c.c.c.c.c.c.c.c.c (aY [1,1,1])
 have a8:k=a.length:=by have:=bC j;omega
 rw[a8, <-a1]at b
 refine .exit<|bq<|bz<|br<|ba<|aw<|.region ?_
 refine .ia (i+1) .add ?_
 refine .mo rfl<|.nil ?_
 ·exact bi (i+1,T) ⟨Y,b⟩ (by simp only;omega) kE.c.c.c.c.c (aY [1,1])
 refine .exit<|bq<|bz<|br<|aw<|.sr<|.mo rfl<|.az rfl ?_
 refine .ret (bj _ (.one (.tmp rfl)) (.one [0] _) ?_)
 ·refine⟨_,rfl,?_⟩
  have a6:i=c.aR.length:=by have:=bC g;omega
  have:of i=Q.length:=by
   rw[a6,a4, <-b5, <-C];exact b6
  rw[this,List.take_length]at b
  simpa[take]using b
structure aJ where
 k:aU
 found:Bool
 vn:Value
 nodes:List Nd
 vu:Value
 jA:List ByteArray
 vl:Value
 ll:List fP
 number:Nat
def aJ.enc(p:aJ):List Value:=[.string p.k.os,.string p.k.oi,.string p.k.rel,.bool p.found,p.vn,p.vu,p.vl,iN p.number]
def aJ.plain(p:aJ):cG:=⟨p.k,p.found,p.nodes,p.number,p.jA,p.ll.map (·.2)⟩
structure aJ.is(R:aB)(p:aJ):Prop where
 n:RS R 5 Nd.enc p.vn p.nodes
 u:RS R 1 gG p.vu p.jA
 l:NN R p.vl p.ll
theorem aJ.is.mono{R R':aB}{p:aJ}(h:p.is R)(a:∀b o,R b o->R' b o):p.is R':=⟨h.n.mono a,h.u.mono a,h.l.mono a⟩
theorem aJ.is.cH{R:aB}{p:aJ}(h:p.is R):∀u∈p.enc,ap u=true:=by
 have b:=h.n.ap
 have c:=h.u.ap
 have d:=h.l.rs.ap
 intro u a
 simp only[aJ.enc,List.mem_cons,List.not_mem_nil,or_false]at a
 rcases a with rfl|rfl|rfl|rfl|rfl|rfl|rfl|rfl
 ·rfl
 ·rfl
 ·rfl
 ·rfl
 ·exact b.h
 ·exact c.h
 ·exact d.h
 ·rfl
instance aU.OJ:eP prog 269 (λk:aU=>.agg k.enc.toArray):=eP.agg wI Tryz.underlying269 rfl aU.kinds aU.eq
abbrev xF(k:aU):Value:=.agg k.enc.toArray
structure XC where
 c:bE
 num:List Nat
 vn:Value
 g:Nat
 S:cU
 L:List bk
 rev:Int
 b:Int
def XC.sub(x:XC)(k:aU):List Sub:=if scan x.S x.rev then(x.L.filter λy=>y.there x.rev&&decide (y.t.cE=k)).map (·.t.sub)else []
structure XC.ok(R:aB)(x:XC):Prop where
 c:x.c.is R
 n:RM R kJ jB x.vn (kL x.c.plain x.num)
 nl:x.num.length=x.c.plain.all.length
 s:∃ps vf vr Mf Mr,SV R x.g x.S ps vf vr Mf Mr
 l:RL x.S x.L
 len:x.S.rows.length<=1000
theorem XC.ok.mono{R R':aB}{x:XC}(h:x.ok R)(a:∀b o,R b o->R' b o):x.ok R':=⟨h.c.mono a,h.n.mono a,h.nl,let ⟨ps,vf,vr,Mf,Mr,h1⟩:=h.s;⟨ps,vf,vr,Mf,Mr,h1.mono a⟩,h.l,h.len⟩
def XC.cells(x:XC)(va vp:Value)(e:Nat):List Value:=[x.c.vs,x.c.vc,x.vn,.pointer (some ⟨x.g,0,none⟩),.int .u64 x.rev,va,vp,iN e,.int .i64 x.b]
abbrev XC.gB(x:XC)(xb:Nat)(va vp:Value)(e:Nat):aA:=(bl xb (x.cells va vp e) 190)
def gN(ps:List aJ)(va:Value)(T:aA):Prop:=∃M,MS xF jB va M T/\∀k,db k M=eG (ps.map aJ.plain) k
theorem Ly(x:XC)(R:aB)(h:x.ok R)(xb:Nat)(va d:Value)(e:Nat)(ps:List aJ) [o:One va] [pc:PC R (pT xb) (x.cells va d e)](a:RS R 8 aJ.enc d ps)(g:e<=1000000000000)(f:0<=x.b/\x.b<=9223372036854775807):
  Spec prog 84 [pT xb] R [] λu H'=>u=.bool (decide (x.b<(ps.length+e:Nat)))/\H'=[]:=by
 have j:One x.c.vs:=RS.ap h.c.ss
 have k:One x.c.vc:=RS.ap h.c.sc
 have l:=h.n.one
 have m:=a.ap
 have i:=a.le
 refine Spec.body Tryz.func84 rfl Tryz.results84 Tryz.ntmps84 rfl ?_
 refine .sr<|.ag rfl<|.zs ?_
 refine .fq mixed (by kernel_rfl) ?_
 refine .mo rfl<|.nc rfl<|.fa rfl<|.fa rfl<|.lo rfl<|.q (.bD a) ?_
 refine .mo rfl<|.nc rfl<|.fa rfl<|.lo rfl<|.mo rfl ?_
 refine .nc rfl<|.fa rfl<|.fa rfl<|.lo rfl ?_
 refine .q (.i64 (x.b-e) .sub ⟨by omega,by omega,by omega⟩) ?_
 refine .q .gtr<|.az rfl ?_
 refine .ret (aH rfl ?_)
 ·refine⟨congrArg _ ?_,rfl⟩
  rw[decide_eq_decide]
  omega
theorem LI{ps:List cG}{p:cG}(h:eG ps p.k=none)(k:aU):eG (ps++[p]) k=if k=p.k then some ps.length else eG ps k:=by
 unfold eG at h⊢
 rw[List.findIdx?_append]
 by_cases e:k=p.k
 ·subst e
  rw[h,if_pos rfl]
  simp[List.findIdx?_cons]
 ·rw[if_neg e]
  have a:decide (p.k=k)=false:=decide_eq_false λh=>e h.symm
  simp[List.findIdx?_cons,a]
theorem gN.add{ps:List aJ}{p:aJ}{va:Value}{T:aA}{M:List (aU×Nat)}(b:MS xF jB va (dy p.k ps.length M) T)(a:∀k,db k M=eG (ps.map aJ.plain) k)(h:eG (ps.map aJ.plain) p.k=none):gN (ps++[p]) va T:=
 ⟨_,b,λk=>by
  rw[nN,a,List.map_append,List.map_cons,List.map_nil,LI h]
  rw[List.length_map]
  rfl⟩
def uS(x:XC)(R:aB)(xb:Nat)(ps:List aJ)(e:Nat)(va:Value)(k:aU)(u:Value)(H':aN):Prop:=∃ps' vp Ta To,H'=[x.gB xb va vp e,Ta,To]/\u=.int .i64 ((dZ x.c.plain x.num (ps.map aJ.plain) k).2:Nat)/\ps'.map aJ.plain=(dZ x.c.plain x.num (ps.map aJ.plain) k).1/\gN ps' va Ta/\OS 95 8 aJ.enc vp ps' To/\∃l,ps'=ps++l/\∀p∈l,p.is R
theorem yE(x:XC)(R:aB)(h:x.ok R)(xb:Nat)(ps:List aJ)(e:Nat)(va t:Value)(g m:aA)(hA:gN ps va g)(G:OS 95 8 aJ.enc t ps m)(hl:ps.length<=3000000)(k:aU):
  Spec prog 83 [pT xb,.agg [.string k.os,.string k.oi].toArray,.string k.rel] R [x.gB xb va t e,g,m] (uS x R xb ps e va k):=by
 have U:∀u D,uS x R xb ps e va k u D↔∃ps' t g m,D=[x.gB xb va t e,g,m]/\u=.int .i64 ((dZ x.c.plain x.num (ps.map aJ.plain) k).2:Nat)/\ps'.map aJ.plain=(dZ x.c.plain x.num (ps.map aJ.plain) k).1/\gN ps' va g/\OS 95 8 aJ.enc t ps' m/\∃l,ps'=ps++l/\∀p∈l,p.is R:=λ_ _=>Iff.rfl
 have a1:=zm x.c R h.c k.os k.rel
 have i1:One x.c.vs:=RS.ap h.c.ss
 have i2:One x.c.vc:=RS.ap h.c.sc
 have i3:=h.n.one
 have hn:=h.n
 have a8:=Lj x.c.plain x.num h.nl
 obtain⟨M,F,L⟩:=hA
 have iv:=F.one
 have ip:=G.ap
 have a5:∀i,eG (ps.map aJ.plain) k=some i->dZ x.c.plain x.num (ps.map aJ.plain) k=(ps.map aJ.plain,i):=λi O=>by unfold dZ;rw[O]
 have a6:eG (ps.map aJ.plain) k=none->dZ x.c.plain x.num (ps.map aJ.plain) k=(ps.map aJ.plain++[one x.c.plain x.num k],ps.length):=λO=>by unfold dZ;rw[O];simp
 have a4:=λ(p:aJ) (T:aA)=>gN.add (ps:=ps) (p:=p) (va:=va) (T:=T) (M:=M)
 have b1:one x.c.plain x.num k=match bM x.c.plain.all ⟨k.os,k.rel⟩with
  |none=>⟨k,false,[],0,[],[]⟩
  |some i=>⟨k,true,(x.c.plain.all.map (·.2.nodes)).getD i [],x.num.getD i 0,[],[]⟩:=rfl
 have N:=h.c.all
 have b5:=λ(p:fx) (s:bT) (r:bQ)=>mU (c:=x.c) (p:=p) (s:=s) (r:=r)
 obtain⟨i0,ok,b3,Z⟩:∃(i:Nat) (ok:Bool),[((db k M).map jB).getD (jB 0),Value.bool (db k M).isSome]=[jB i,.bool ok]/\eG (ps.map aJ.plain) k=if ok then some i else none:=by
  rw[L k]
  cases eG (ps.map aJ.plain) k with
  |none=>exact⟨0,false,rfl,rfl⟩
  |some i=>exact⟨i,true,rfl,rfl⟩
 refine Spec.body Tryz.func83 rfl Tryz.results83 Tryz.ntmps83 rfl ?_
 refine .sr ?_
 refine .bX rfl (λb4=>?_)
 refine .ag rfl<|.z<|.q (.aI rfl)<|.mo rfl ?_
 refine .q .cO ?_
 refine .bN (λb7=>?_)
 refine .bG rfl rfl<|.zs<|.seq ?_
 refine .fq mixed (by kernel_rfl) ?_
 refine .mo rfl<|.nc rfl<|.fa rfl<|.lo rfl<|.q (.aI rfl) ?_
 refine .q (.cast (.nL F.rx rfl rfl) (congrArg (λl:List Value=>Value.tuple l.toArray) b3)) ?_
 refine .mo rfl<|.q .extract<|.q .extract<|.ag rfl<|.ag rfl<|.z<|.mo rfl<|.zn ?_
 refine .cond rfl (λK=>?_) λK=>?_
 have b2:ok=true:=K
 subst b2
 have V:=a5 i0 Z
 refine .sr<|.mo rfl<|.az rfl ?_
 refine .ret (aF (bj _ (.one (.tmp rfl)) (aY [2,2,2]) ?_))
 ·refine(U _ _).2 ⟨ps,t,g,m,?_,?_,?_,⟨M,F,L⟩,G,[],by simp,λp I=>(by cases I)⟩
  ·simp[take,bF]
  ·rw[V]
  ·rw[V]
 have b0:ok=false:=K
 subst b0
 have Y:eG (ps.map aJ.plain) k=none:=Z
 have W:=a6 Y
 refine .kn<|.seq ?_
 refine bp.cP [(0,_),(2,_),(4,_),(7,_)] kE.c.c.c.c (X:=Nat×bQ×Bool) (λy=>lH x.c ⟨k.os,k.rel⟩ y.2.1 y.2.2/\bW y.2.1.enc) (λy E=>(10,.pointer (some ⟨y.1,0,none⟩))::(11,.bool y.2.2)::E) (λy=>[[(y.1,.cells y.2.1.enc.toArray 167 (0,0))],bl b7 k.enc 269,bl b4 [.string k.os,.string k.oi] 44,x.gB xb va t e,g,m]) ?_ ?_
 refine .dt [12] mixed ?_
 refine .tO 0 rfl .move<|.tO 1 rfl (.nilCheck rfl)<|.tO 2 rfl (.fieldAddr rfl) ?_
 refine .tO 3 rfl (.loadT rfl) ?_
 refine .tO 4 rfl (.fieldAddr rfl)<|.tO 5 rfl (.cI rfl)<|.tO 6 rfl .move ?_
 refine RA.jS 7 11 rfl rfl (by kernel_rfl) rfl ?_ ?_
 refine .bd ((a1.mono λu D f=>⟨f.2,f.1⟩).weaken cQ) (λu f=>?_)
 obtain⟨r,v,rfl,a⟩:=f
 have B:bW r.enc:=by
  unfold lH at a
  cases hf:bM x.c.plain.all ⟨k.os,k.rel⟩with
  |none=>rw[hf]at a;obtain⟨_,rfl⟩:=a;exact⟨by simp[bQ.enc,bQ.zero,ap]⟩
  |some j=>rw[hf]at a;obtain⟨_,p,s,A,w,Q⟩:=a;exact⟨((N _ (aX A)).all _ (aX w)).cH⟩
 refine .nil (Next.sub ?_)
 refine .tO 8 rfl .move<|.tO 9 rfl .extract<|.tK 10 rfl .extract ?_
 refine .sT 11 rfl ?_
 refine .bN (λJ=>?_)
 refine .nil (Next.sub ?_)
 refine .sT 12 rfl ?_
 refine .bG rfl rfl ?_
 refine .nil (Next.mod rfl ?_)
 refine .tK 13 rfl .assign ?_
 refine RA.nil (by kernel_rfl) ?_
 ·exact aE (J,r,v) ⟨a,B⟩ kE.c.c.c.c.c.c rH
 refine .bN (λJ=>?_)
 refine .nil (Next.sub ?_)
 refine .sT 7 rfl ?_
 refine .bd ((a1.mono λu D f=>⟨f.2,f.1⟩).weaken cQ) (λu f=>?_)
 obtain⟨r,v,rfl,a⟩:=f
 have B:bW r.enc:=by
  unfold lH at a
  cases hf:bM x.c.plain.all ⟨k.os,k.rel⟩with
  |none=>rw[hf]at a;obtain⟨_,rfl⟩:=a;exact⟨by simp[bQ.enc,bQ.zero,ap]⟩
  |some j=>rw[hf]at a;obtain⟨_,p,s,A,w,Q⟩:=a;exact⟨((N _ (aX A)).all _ (aX w)).cH⟩
 refine .nil (Next.sub ?_)
 refine .tO 8 rfl .move<|.tO 9 rfl .extract<|.tK 10 rfl .extract ?_
 refine .sT 12 rfl ?_
 refine .bG rfl rfl ?_
 refine .nil (Next.mod rfl ?_)
 refine .tK 13 rfl .assign ?_
 refine RA.nil (by kernel_rfl) ?_
 ·exact aE (J,r,v) ⟨a,B⟩ kE.c.c.c.c.c.c rH
 intro y hy
 obtain⟨bb,r,v⟩:=y
 obtain⟨a,B⟩:=hy
 simp only at a B⊢
 obtain⟨C,a9,a7⟩:∃C,(db (⟨k.os,k.rel⟩:Ty) (kL x.c.plain x.num)).getD 0=C/\((db (⟨k.os,k.rel⟩:Ty) (kL x.c.plain x.num)).map jB).getD (jB 0)=jB C:=by
  cases db (⟨k.os,k.rel⟩:Ty) (kL x.c.plain x.num)with
  |none=>exact⟨0,rfl,rfl⟩
  |some i=>exact⟨i,rfl,rfl⟩
 obtain⟨a0,H⟩:one x.c.plain x.num k=⟨k,v,r.r.nodes,C,[],[]⟩/\RS R 5 Nd.enc r.vn r.r.nodes:=by
  rw[b1, <-a9,a8]
  unfold lH at a
  cases hf:bM x.c.plain.all ⟨k.os,k.rel⟩with
  |none=>rw[hf]at a;obtain⟨rfl,rfl⟩:=a;exact⟨rfl,RS.fZ⟩
  |some j=>
   rw[hf]at a
   obtain⟨rfl,p,s,A,w,Q⟩:=a
   refine⟨?_,((N _ (aX A)).all _ (aX w)).d⟩
   have:=b5 p s r A w
   rw[Q]at this
   simp only[List.getD_eq_getElem?_getD,List.getElem?_map,this]
   rfl
 obtain⟨vt,vd,r⟩:=r
 simp only at a0 H
 have b8:One vd:=H.ap
 obtain⟨pd,cd,rfl⟩:=H.val
 refine aw<|.seq ?_
 refine .dF 11 mixed (by kernel_rfl) ?_
 conv=>arg 6;dsimp only[List.take]
 refine .mo rfl<|.nc rfl<|.fa rfl<|.lo rfl<|.q (.aI rfl)<|.mo rfl ?_
 refine .nc rfl<|.fa rfl<|.fa rfl<|.lo rfl<|.q (.ej G) ?_
 refine .nil ?_
 refine .update (key:=k) (u:=ps.length) F rfl rfl rfl (λa3 S _=>?_)
 refine .zs<|.dt [22,26] mixed ?_
 refine .tK 0 rfl .move<|.tO 1 rfl .move<|.tO 2 rfl (.nilCheck rfl)<|.tO 3 rfl (.fieldAddr rfl)<|.tO 4 rfl (.fieldAddr rfl)<|.tO 5 rfl (.cI rfl)<|.tO 6 rfl (.aI rfl)<|.tO 7 rfl .move<|.tO 8 rfl .move<|.tO 9 rfl (.fieldAddr rfl)<|.tO 10 rfl (.cI rfl)<|.tO 11 rfl .move<|.tO 12 rfl (.nilCheck rfl)<|.tO 13 rfl (.fieldAddr rfl)<|.tO 14 rfl (.cI rfl)<|.tO 15 rfl (.fieldAddr rfl)<|.tO 16 rfl (.cI rfl)<|.tO 17 rfl .move ?_
 refine .tO 18 rfl .cO ?_
 refine .gM 19 rfl (.mO (hn.mono λb o hb=>.inl hb) rfl rfl (key:=(⟨k.os,k.rel⟩:Ty)) a7) (by kernel_rfl) ?_
 refine .tO 20 rfl .cO ?_
 refine .sT 21 rfl ?_
 refine .dA (λb6=>?_)
 refine .nil (Next.sub ?_)
 refine .sT 22 rfl ?_
 refine .append G (RS.lits (xs:=[(⟨k,v,.slice pd r.nodes.length cd,r.nodes,sZ,[],sZ,[],C⟩:aJ)]) rfl (by simp[aJ.enc]) (by simp[aJ.enc,ap])) (by simp only[List.length_singleton];omega) (λv5 T5 a2=>?_)
 have i5:=a2.ap
 refine .nil (Next.mod rfl ?_)
 refine .tK 23 rfl (.mS rfl) ?_
 refine .tK 24 rfl (.eE rfl) ?_
 refine .tK 25 rfl (.eE rfl) ?_
 refine .sT 26 rfl ?_
 refine .dm rfl rfl ?_
 refine .nil (Next.mod rfl ?_)
 refine RA.nil (by kernel_rfl) ?_
 refine aw<|.seq ?_
 refine .fq mixed (by kernel_rfl) ?_
 refine .mo rfl<|.nc rfl<|.fa rfl<|.lo rfl<|.q (.aI rfl)<|.q (.mO S.rx rfl rfl (key:=k) rfl) ?_
 refine .az rfl ?_
 refine .ret (bj _ (.one (.tmp rfl)) (aY [4,4,4]) ?_)
 ·refine(U _ _).2 ⟨_,v5,a3,T5,?_,?_,?_,a4 _ _ S L Y,a2,_,rfl,λp I=>?_⟩
  ·simp[take,bF,dh,XC.cells]
  ·rw[W,nN,if_pos rfl];rfl
  ·rw[W,a0,List.map_append];rfl
  ·rw[List.mem_singleton]at I
   subst I
   exact⟨H,RS.fZ,NN.nil⟩
theorem Oe{a:bV}(h:∀t∈a.1,fu t):jM isWord a=match dl oh a with
  |none=>([],a)
  |some s=>([(fR isWord s).1],(fR isWord s).2):=by
 unfold jM
 cases hh:dl oh a with
 |none=>rfl
 |some s=>
  simp only
  rw[pi,nw (λt b=>h t ((gY hh).1.mem ((tf s).mem b))) (by simp)]
theorem Lf{a:bV}(h:∀t∈a.1,fu t):lu isWord a=match dl ol a with
  |none=>([⟨1,⟨#[]⟩,⟨#[]⟩,0,0⟩],a)
  |some s=>eX [] s:=by
 unfold lu
 cases hh:dl ol a with
 |none=>rfl
 |some s=>
  simp only
  rw[Bd (λt b=>h t ((gY hh).1.mem b))]
theorem KY{s:ByteArray}{a:bV}(h:∀t∈a.1,fu t):∀t∈(fz s a).1,fu t:=λt b=>h t ((mR s a).mem b)
theorem Kz{a:bV}(h:∀t∈a.1,fu t):(fR isWord a).1.fits:=by
 unfold fR
 split
 ·exact⟨Nat.zero_le _,Nat.zero_le _⟩
 ·exact⟨pp h,pp (KY λt b=>h t ((jW a).mem b))⟩
theorem JK{b:bV}(h:∀t∈b.1,fu t):∀x∈(eX [] b).1,x.fits:=by
 unfold eX
 split
 ·intro x a
  rw[List.nil_append,List.mem_singleton]at a
  subst a
  exact⟨Nat.zero_le _,Nat.zero_le _⟩
 ·intro x a
  rw[List.nil_append,List.mem_singleton]at a
  subst a
  exact⟨pp h,Nat.zero_le _⟩
section
variable{R:aB}
theorem yK(e:Nat)(g:bV)(T:aA)(N:dB R e g T):Spec prog 204 [pT e] R [T] λu H'=>∃T' Tn,H'=[T',Tn]/\∃r:bQ,u=.agg r.enc.toArray/\r.is (sg Tn)/\r.r=(lv isWord g).1/\dB R e (lv isWord g).2 T':=by
 have a4:lv isWord g=(⟨(dq isWord g).1,(jM isWord (dq isWord g).2).1,(lu isWord (jM isWord (dq isWord g).2).2).1⟩,fz uG (lu isWord (jM isWord (dq isWord g).2).2).2):=rfl
 have V:=pp (W:=isWord) N.ok
 have H:∀t∈(dq isWord g).2.1,fu t:=λt k=>N.ok t ((jW g).mem k)
 have n:=Oe H
 have B:∀t∈(jM isWord (dq isWord g).2).2.1,fu t:=λt k=>H t ((zT _).mem k)
 have j:=Lf B
 rw[a4]
 clear a4
 obtain⟨ws,a7⟩:∃ws,ws=dq isWord g:=⟨_,rfl⟩
 have U:=px e g T R N
 rw[<-a7]at V H n B j U⊢
 clear a7
 obtain⟨J,K⟩:=ws
 simp only at V H n B j U⊢
 obtain⟨tt,a6⟩:∃tt,tt=jM isWord K:=⟨_,rfl⟩
 rw[<-a6]at n B j⊢
 clear a6
 obtain⟨a0,C⟩:=tt
 simp only at B j⊢
 obtain⟨nn,a3⟩:∃nn,nn=lu isWord C:=⟨_,rfl⟩
 rw[<-a3]at j⊢
 clear a3
 obtain⟨I,s3⟩:=nn
 simp only
 refine Spec.body Tryz.func204 rfl Tryz.results204 Tryz.ntmps204 rfl ?_
 refine .sr ?_
 refine .bN (λL=>?_)
 refine .z<|.mo rfl ?_
 refine .cV (R:=R) U (λu T1 f=>?_)
 obtain⟨rfl,a8⟩:=f
 refine .q .cO ?_
 refine .dA (λA=>?_)
 refine .q .cO ?_
 refine .bN (λM=>?_)
 refine .bG rfl rfl<|.zs<|.sr<|.mo rfl ?_
 refine .cV (R:=R) (ml e K _ R a8 oh) (λu T2 f=>?_)
 obtain⟨rfl,i⟩:=f
 refine .zn ?_
 refine bp.cP [(0,_),(2,_),(3,_)] kE.c.c.c (X:=Value×aA×aA) (λy=>OS 249 2 Ty.enc y.1 a0 y.2.1/\dB R e C y.2.2/\∀t∈a0,t.fits) (λ_ E=>E) (λy=>[y.2.2,y.2.1,bl M [.string J,y.1,.slice (some ⟨A,0,none⟩) 1 1] 167,bl A (Nd.enc ⟨1,⟨#[]⟩,⟨#[]⟩,0,0⟩) 199,bl L [.string ⟨#[]⟩,sZ,sZ] 167]) ?_ ?_
 refine .cond rfl (λD=>?_) λD=>?_
 obtain⟨s,p⟩:=Option.isSome_iff_exists.1 D
 rw[p]at i n
 simp only[Option.getD_some,Prod.mk.injEq]at i n
 obtain⟨rfl,rfl⟩:=n
 have b4:=Kz i.ok
 refine bp.le (dx.refl _) bf.gw ?_
 refine .seq ?_
 refine bp.cP [(0,_),(2,_),(3,_)] kE.c.c.c (X:=Value×aA×aA) (λy=>OS 249 2 Ty.enc y.1 [(fR isWord s).1] y.2.1/\dB R e (fR isWord s).2 y.2.2) (λ_ E=>E) (λy=>[y.2.2,y.2.1,bl M [.string J,y.1,.slice (some ⟨A,0,none⟩) 1 1] 167,bl A (Nd.enc ⟨1,⟨#[]⟩,⟨#[]⟩,0,0⟩) 199,bl L [.string ⟨#[]⟩,sZ,sZ] 167]) ?_ ?_
 refine .dt [3,5,7] mixed ?_
 refine .tK 0 rfl (.eE rfl) ?_
 refine .tO 2 rfl .move ?_
 refine RA.jS 1 3 rfl rfl (by kernel_rfl) rfl ?_ ?_
 refine .lo rfl ?_
 refine .nil (Next.sub ?_)
 refine .sT 3 rfl ?_
 refine .cV (R:=R) (xJ e s _ i) (λu l f=>?_)
 obtain⟨rfl,a⟩:=f
 refine .nil (Next.mod rfl ?_)
 refine .sT 4 rfl ?_
 refine .dA (λa1=>?_)
 refine .nil (Next.mod rfl ?_)
 refine .sT 5 rfl ?_
 refine .append (OS.nil (E:=249) (sz:=2) (enc:=Ty.enc)) (RS.lits (xs:=[(fR isWord s).1]) rfl (by simp[Ty.enc]) (by simp[Ty.enc,ap])) (by simp only[List.length_singleton,List.length_nil];omega) (λv m h=>?_)
 have Z:=h.ap
 refine .nil (Next.mod rfl ?_)
 refine .tK 6 rfl (.eE rfl) ?_
 refine .sT 7 rfl ?_
 refine .dm rfl rfl ?_
 refine .nil (Next.mod rfl ?_)
 refine RA.nil (by kernel_rfl) ?_
 ·exact aE (v,m,l) ⟨h,a⟩ kE.c.c.c (aY [5,1,1,1,1])
 refine .cV (R:=R) (xJ e s _ i) (λu l f=>?_)
 obtain⟨rfl,a⟩:=f
 refine .nil (Next.mod rfl ?_)
 refine RA.jS 1 4 rfl rfl (by kernel_rfl) rfl ?_ ?_
 refine .lo rfl ?_
 refine .nil (Next.mod rfl ?_)
 refine .sT 4 rfl ?_
 refine .dA (λa1=>?_)
 refine .nil (Next.mod rfl ?_)
 refine .sT 5 rfl ?_
 refine .append (OS.nil (E:=249) (sz:=2) (enc:=Ty.enc)) (RS.lits (xs:=[(fR isWord s).1]) rfl (by simp[Ty.enc]) (by simp[Ty.enc,ap])) (by simp only[List.length_singleton,List.length_nil];omega) (λv m h=>?_)
 have Z:=h.ap
 refine .nil (Next.mod rfl ?_)
 refine .tK 6 rfl (.eE rfl) ?_
 refine .sT 7 rfl ?_
 refine .dm rfl rfl ?_
 refine .nil (Next.mod rfl ?_)
 refine RA.nil (by kernel_rfl) ?_
 ·exact aE (v,m,l) ⟨h,a⟩ kE.c.c.c (aY [5,1,1,1,1])
 refine .dA (λa1=>?_)
 refine .nil (Next.mod rfl ?_)
 refine .sT 1 rfl ?_
 refine .lo rfl ?_
 refine .nil (Next.mod rfl ?_)
 refine .sT 5 rfl ?_
 refine .append (OS.nil (E:=249) (sz:=2) (enc:=Ty.enc)) (RS.lits (xs:=[(fR isWord s).1]) rfl (by simp[Ty.enc]) (by simp[Ty.enc,ap])) (by simp only[List.length_singleton,List.length_nil];omega) (λv m h=>?_)
 have Z:=h.ap
 refine .nil (Next.mod rfl ?_)
 refine .tK 6 rfl (.eE rfl) ?_
 refine .sT 7 rfl ?_
 refine .dm rfl rfl ?_
 refine .nil (Next.mod rfl ?_)
 refine RA.nil (by kernel_rfl) ?_
 ·exact aE (v,m,l) ⟨h,a⟩ kE.c.c.c (aY [5,1,1,1,1])
 intro y hy
 obtain⟨v,m,l⟩:=y
 obtain⟨h,a⟩:=hy
 simp only at h a⊢
 have Z:=h.ap
 refine aw<|.block ?_
 refine .cq [(0,_),(2,_),(3,_)] (X:=aA) (λT=>dB R e (fR isWord s).2 T) (λ_ E=>E) (λT G=>T::G) (λ_=>0) l a kE.c.c.c rH ?_
 rintro T4 O
 refine .seq<|.sr<|.mo rfl ?_
 refine .cV (R:=R) (nr e _ _ O nk (by simp)) (λu T6 f=>?_)
 obtain⟨rfl,b0⟩:=f
 refine .zn<|.cF<|.exit<|bq<|bz<|br ?_
 ·exact aE (v,m,T6) ⟨h,b0,λt k=>by rw[List.mem_singleton]at k;subst k;exact b4⟩ kE.c.c.c rH
 have p:dl oh K=none:=by
  cases hh:dl oh K with
  |none=>rfl
  |some x=>rw[hh]at D;cases D
 rw[p]at i n
 simp only[Option.getD_none,Prod.mk.injEq]at i n
 obtain⟨rfl,rfl⟩:=n
 refine .skip ?_
 ·exact aE (sZ,[],T2) ⟨OS.nil,i,λt k=>(by cases k)⟩ kE.c.c.c (bf.gw.trans (aY [4,0,0,0,0]))
 intro x Y
 obtain⟨vt,Tt,T2⟩:=x
 obtain⟨Q,i,a5⟩:=Y
 simp only at Q i a5⊢
 have it:=Q.ap
 refine aw<|.seq<|.sr<|.mo rfl ?_
 refine .cV (R:=R) (ml e C _ R i ol) (λu l f=>?_)
 obtain⟨rfl,a⟩:=f
 refine .zn ?_
 refine bp.cP [(0,_),(2,_),(3,_)] kE.c.c.c (X:=Value×aA×aA) (λy=>OS 199 5 Nd.enc y.1 I y.2.1/\dB R e s3 y.2.2/\∀t∈I,t.fits) (λ_ E=>E) (λy=>[y.2.2,y.2.1,Tt,bl M [.string J,vt,y.1] 167,bl L [.string ⟨#[]⟩,sZ,sZ] 167]) ?_ ?_
 refine .cond rfl (λF=>?_) λF=>?_
 obtain⟨s,p⟩:=Option.isSome_iff_exists.1 F
 rw[p]at a j
 simp only[Option.getD_some]at a j
 have b1:=JK a.ok
 obtain⟨rfl,rfl⟩:I=(eX [] s).1/\s3=(eX [] s).2:=by rw[<-j];exact⟨rfl,rfl⟩
 refine bp.le (dx.refl _) bf.gw ?_
 refine .region<|.mo rfl ?_
 refine .call [1,0] ((Be (R:=R) e s _ a (sZ) [] [] OS.nil (by simp)).weaken cQ) (λu H' f=>?_)
 obtain⟨T4,Tn,rfl,w,O⟩:=f
 have i7:=w.ap
 conv=>arg 8;simp only[rest,bF,List.cons_append,List.nil_append]
 refine .fa rfl<|.dm rfl rfl<|.nil ?_
 ·exact aE (_,Tn,T4) ⟨w,O,b1⟩ (((kE.d rfl).d rfl).d rfl) (aY [0,0,0,0,1])
 have p:dl ol C=none:=by
  cases hh:dl ol C with
  |none=>rfl
  |some x=>rw[hh]at F;cases F
 rw[p]at a j
 simp only[Option.getD_none,Prod.mk.injEq]at a j
 obtain⟨rfl,rfl⟩:=j
 refine .skip ?_
 ·exact aE (.slice (some ⟨A,0,none⟩) 1 1,_,l) ⟨OS.lits (xs:=[(⟨1,⟨#[]⟩,⟨#[]⟩,0,0⟩:Nd)]) rfl (by simp[Nd.enc]) (by simp[Nd.enc,ap]),a,λt k=>by rw[List.mem_singleton]at k;subst k;exact⟨Nat.zero_le _,Nat.zero_le _⟩⟩ (((kE.d rfl).d rfl).d rfl) (aY [0,2,0,0,0])
 intro x Y
 obtain⟨vn,Tn,l⟩:=x
 obtain⟨w,a,a2⟩:=Y
 simp only at w a a2⊢
 have b5:=w.ap
 refine aw<|.sr<|.mo rfl ?_
 refine .cV (R:=R) (qT e _ _ R a uG) (λu m a9=>?_)
 refine .z<|.q (.aI rfl)<|.bG rfl rfl<|.zn ?_
 refine .ret (bj _ (.one (.ei rfl rfl)) ((aY [0,0,0]).trans (bf.eT (H':=[m,Tn++Tt]) (by simp[take,bF]))) ?_)
 ·exact⟨_,_,rfl,⟨vt,vn,⟨J,a0,I⟩⟩,rfl,⟨V,Q.sg.mono λb o S=>fO S,w.sg.mono λb o S=>gy S,a5,a2⟩,rfl,a9⟩
end
section
variable{R:aB}
theorem zv(i:Nat)(e:bV)(T:aA)(V:dB R i e T)(M:e.1.length<=1000000):Spec prog 157 [pT i] R [T] λu H'=>∃T' Ts,H'=[T',Ts]/\∃s:bT,u=.agg s.enc.toArray/\s.is (sg Ts)/\s.plain=(lz isWord e).1/\dB R i (lz isWord e).2 T':=by
 have a1:lz isWord e=(⟨(dq isWord e).1,(ly isWord ((fz kl (dq isWord e).2).1.length+1) [] (fz kl (dq isWord e).2)).1⟩,fz uF (ly isWord ((fz kl (dq isWord e).2).1.length+1) [] (fz kl (dq isWord e).2)).2):=rfl
 have a3:=pp (W:=isWord) V.ok
 have a2:=px i e T R V
 have Z:(fz kl (dq isWord e).2).1.length<=1000000:=Nat.le_trans (Nat.le_trans (mR _ _).len (jW e).len) M
 rw[a1]
 clear a1
 generalize dq isWord e=ws at *
 obtain⟨N,H⟩:=ws
 simp only at a3 a2 Z⊢
 obtain⟨O,a0⟩:∃O,O=ly isWord ((fz kl H).1.length+1) [] (fz kl H):=⟨_,rfl⟩
 rw[<-a0]
 refine Spec.body Tryz.func157 rfl Tryz.results157 Tryz.ntmps157 rfl ?_
 refine .sr ?_
 refine .bN (λS=>?_)
 refine .z<|.mo rfl ?_
 refine .cV (R:=R) a2 (λu T1 g=>?_)
 obtain⟨rfl,a4⟩:=g
 refine .q .cO ?_
 refine .bN (λU=>?_)
 refine .bG rfl rfl<|.z<|.mo rfl ?_
 refine .cV (R:=R) (qT i _ _ R a4 kl) (λu T2 a5=>?_)
 refine .zs<|.block ?_
 refine .cq [(0,_),(2,_),(3,_)] (X:=Nat×List bQ×bV×Value×(aA×aA×aA)) (λy=>dB R i y.2.2.1 y.2.2.2.2.1/\OS 167 3 bQ.enc y.2.2.2.1 y.2.1 y.2.2.2.2.2.1/\(∀r∈y.2.1,r.is (sg y.2.2.2.2.2.2))/\ly isWord y.1 (y.2.1.map (·.r)) y.2.2.1=O/\y.2.2.1.1.length+1<=y.1/\y.2.1.length+y.2.2.1.1.length<=1000000) (λ_ E=>E) (λy _=>[y.2.2.2.2.1,y.2.2.2.2.2.1,y.2.2.2.2.2.2,bl U [.string N,y.2.2.2.1] 164,bl S [.string ⟨#[]⟩,sZ] 164]) (λy=>y.1) ((fz kl H).1.length+1,[],fz kl H,sZ,(T2,[],[])) ⟨a5,OS.nil,λr a=>(by cases a),a0.symm,Nat.le_refl _,by simpa using Z⟩ kE.c.c.c (bf.gJ.trans (aY [4,0,0,0,0])) (G:=[]) ?_
 rintro⟨f,L,s,vL,⟨T,To,I⟩⟩ ⟨Y,C,K,l,hf,M⟩
 simp only at Y C K l hf M⊢
 have io:=C.ap
 obtain⟨J,rfl⟩:∃J,f=J+1:=⟨f-1,by omega⟩
 rw[ly]at l
 refine .seq<|.sr<|.mo rfl ?_
 refine .cV (R:=R) (ml i s _ R Y rQ) (λu T3 g=>?_)
 obtain⟨rfl,m⟩:=g
 refine .zn ?_
 refine .cond rfl (λD=>?_) λD=>?_
 obtain⟨z,F⟩:=Option.isSome_iff_exists.1 D
 rw[F]at m l
 simp only[Option.getD_some]at m l
 have b0:=(gY F).2.1
 have a9:=(yJ (W:=isWord) z).len
 refine .kn<|.block ?_
 refine bp.cP [(0,_),(2,_),(3,_)] kE.c.c.c (X:=bQ×Value×(aA×aA×aA)) (λy=>dB R i (lv isWord z).2 y.2.2.1/\OS 167 3 bQ.enc y.2.1 (L++[y.1]) y.2.2.2.1/\y.1.is (sg y.2.2.2.2)/\y.1.r=(lv isWord z).1) (λ_ E=>E) (λy=>[y.2.2.1,y.2.2.2.1,y.2.2.2.2,I,bl U [.string N,y.2.1] 164,bl S [.string ⟨#[]⟩,sZ] 164]) ?_ ?_
 refine .dt [3,5,7] mixed ?_
 refine .tK 0 rfl (.eE rfl) ?_
 refine .tO 2 rfl .move ?_
 refine RA.jS 1 3 rfl rfl (by kernel_rfl) rfl ?_ ?_
 refine .lo rfl ?_
 refine .nil (Next.sub ?_)
 refine .sT 3 rfl ?_
 refine .call [0] ((yK (R:=R) i z _ m).weaken cQ) (λu H' g=>?_)
 obtain⟨A,B,rfl,r,rfl,a,v,n⟩:=g
 have ir:bW r.enc:=⟨a.cH⟩
 conv=>arg 8;simp only[rest,bF,List.cons_append,List.nil_append]
 have a8:One r.vt:=a.t.ap
 have a7:One r.vn:=a.d.ap
 refine .nil (Next.mod rfl ?_)
 refine .sT 4 rfl ?_
 refine .dA (λQ=>?_)
 refine .nil (Next.mod rfl ?_)
 refine .sT 5 rfl ?_
 refine .append C (RS.lits (xs:=[r]) rfl (by simp[bQ.enc]) (λy j u g=>by rw[List.mem_singleton]at j;subst j;exact a.cH u g)) (by simp only[List.length_singleton];omega) (λw k h=>?_)
 have i5:=h.ap
 refine .nil (Next.mod rfl ?_)
 refine .tK 6 rfl (.eE rfl) ?_
 refine .sT 7 rfl ?_
 refine .dm rfl rfl ?_
 refine .nil (Next.mod rfl ?_)
 refine RA.nil (by kernel_rfl) ?_
 ·exact aE (r,w,(A,k,B)) ⟨n,h,a,v⟩ kE.c.c.c (aY [1,2,1,1,1,1])
 refine .call [0] ((yK (R:=R) i z _ m).weaken cQ) (λu H' g=>?_)
 obtain⟨A,B,rfl,r,rfl,a,v,n⟩:=g
 have ir:bW r.enc:=⟨a.cH⟩
 conv=>arg 8;simp only[rest,bF,List.cons_append,List.nil_append]
 have a8:One r.vt:=a.t.ap
 have a7:One r.vn:=a.d.ap
 refine .nil (Next.mod rfl ?_)
 refine RA.jS 1 4 rfl rfl (by kernel_rfl) rfl ?_ ?_
 refine .lo rfl ?_
 refine .nil (Next.mod rfl ?_)
 refine .sT 4 rfl ?_
 refine .dA (λQ=>?_)
 refine .nil (Next.mod rfl ?_)
 refine .sT 5 rfl ?_
 refine .append C (RS.lits (xs:=[r]) rfl (by simp[bQ.enc]) (λy j u g=>by rw[List.mem_singleton]at j;subst j;exact a.cH u g)) (by simp only[List.length_singleton];omega) (λw k h=>?_)
 have i5:=h.ap
 refine .nil (Next.mod rfl ?_)
 refine .tK 6 rfl (.eE rfl) ?_
 refine .sT 7 rfl ?_
 refine .dm rfl rfl ?_
 refine .nil (Next.mod rfl ?_)
 refine RA.nil (by kernel_rfl) ?_
 ·exact aE (r,w,(A,k,B)) ⟨n,h,a,v⟩ kE.c.c.c (aY [1,2,1,1,1,1])
 refine .dA (λQ=>?_)
 refine .nil (Next.mod rfl ?_)
 refine .sT 1 rfl ?_
 refine .lo rfl ?_
 refine .nil (Next.mod rfl ?_)
 refine .sT 5 rfl ?_
 refine .append C (RS.lits (xs:=[r]) rfl (by simp[bQ.enc]) (λy j u g=>by rw[List.mem_singleton]at j;subst j;exact a.cH u g)) (by simp only[List.length_singleton];omega) (λw k h=>?_)
 have i5:=h.ap
 refine .nil (Next.mod rfl ?_)
 refine .tK 6 rfl (.eE rfl) ?_
 refine .sT 7 rfl ?_
 refine .dm rfl rfl ?_
 refine .nil (Next.mod rfl ?_)
 refine RA.nil (by kernel_rfl) ?_
 ·exact aE (r,w,(A,k,B)) ⟨n,h,a,v⟩ kE.c.c.c (aY [1,2,1,1,1,1])
 intro y j
 obtain⟨r,w,⟨A,k,B⟩⟩:=y
 obtain⟨n,h,a,v⟩:=j
 simp only at n h a v⊢
 refine ba ?_
 ·exact bi (J,L++[r],(lv isWord z).2,w,(A,k,B++I)) ⟨n,h,λq hq=>by
   rcases List.mem_append.1 hq with hq|hq
   ·exact(K q hq).mono λb o p=>fO p
   ·rw[List.mem_singleton]at hq
    subst hq
    exact a.mono λb o p=>gy p,by simp only;rw[List.map_append,List.map_cons,List.map_nil,v];exact l,by simp only;omega,by simp only[List.length_append,List.length_singleton];omega⟩ (by simp only;omega) kE.c.c.c (bf.eT (by simp))
 have F:dl rQ s=none:=by
  cases hh:dl rQ s with
  |none=>rfl
  |some x=>rw[hh]at D;cases D
 rw[F]at m l
 simp only[Option.getD_none]at m l
 refine .exit<|bq<|bz<|br<|aw<|.sr<|.mo rfl ?_
 refine .cV (R:=R) (qT i _ _ R m uF) (λu k a6=>?_)
 refine .z<|.q (.aI rfl)<|.bG rfl rfl<|.zn ?_
 refine .ret (bj _ (.one (.ei rfl rfl)) ((aY [0,0,0]).trans (bf.eT (H':=[k,To++I]) (by simp[take,bF]))) ?_)
 ·exact⟨_,_,rfl,⟨N,vL,L⟩,rfl,⟨a3,C.sg.mono λb o p=>gy p,λr a=>(K r a).mono λb o p=>fO p⟩,by rw[<-l];rfl,by rw[<-l];exact a6⟩
theorem AV (j : Nat) (m : bV) (T : aA) (hI : dB R j m T) (Y : m.1.length <= 1000000) : Spec prog 99 [pT j] R [T] λ u H' => ∃ T' Ts, H' = [T', Ts] /\ ∃ c : bE, u = .agg c.enc.toArray /\ c.is (sg Ts) /\ c.plain = ⟨(jL isWord (m.1.length + 1) [] m).1, []⟩ /\ dB R j (jL isWord (m.1.length + 1) [] m).2 T' := by
 obtain⟨a1,a4⟩:∃a1,a1=jL isWord (m.1.length+1) [] m:=⟨_,rfl⟩
 rw[<-a4]
 refine Spec.body Tryz.func99 rfl Tryz.results99 Tryz.ntmps99 rfl ?_
 refine .sr ?_
 refine .bN (λU=>?_)
 refine .z ?_
 refine .bN (λV=>?_)
 refine .zs<|.block ?_
 refine .cq [(0,_),(2,_),(3,_)] (X:=Nat×List bT×bV×Value×(aA×aA×aA)) (λy=>dB R j y.2.2.1 y.2.2.2.2.1/\OS 164 2 bT.enc y.2.2.2.1 y.2.1 y.2.2.2.2.2.1/\(∀r∈y.2.1,r.is (sg y.2.2.2.2.2.2))/\jL isWord y.1 (y.2.1.map bT.plain) y.2.2.1=a1/\y.2.2.1.1.length+1<=y.1/\y.2.1.length+y.2.2.1.1.length<=1000000) (λ_ E=>E) (λy _=>[y.2.2.2.2.1,y.2.2.2.2.2.1,y.2.2.2.2.2.2,bl V [y.2.2.2.1,sZ] 25,bl U [sZ,sZ] 25]) (λy=>y.1) (m.1.length+1,[],m,sZ,(T,[],[])) ⟨hI,OS.nil,λr a=>(by cases a),a4.symm,Nat.le_refl _,by simpa using Y⟩ kE.c.c.c (bf.gJ.trans (aY [4,0,0,0,0])) (G:=[]) ?_
 rintro⟨f,L,s,vL,⟨T,S,K⟩⟩ ⟨M,C,O,i,hf,Y⟩
 simp only at M C O i hf Y⊢
 have io:=C.ap
 obtain⟨J,rfl⟩:∃J,f=J+1:=⟨f-1,by omega⟩
 rw[jL]at i
 obtain⟨⟨v2,a3,Z⟩,a5⟩:=M
 have M:dB R j s T:=⟨⟨v2,a3,Z⟩,a5⟩
 have i2:=Z.ap
 have b1:PS T (pT j) [v2,.bool s.2]:=PS.of (E:=215) (fr:=(0,0)) (by rw[a3];simp)
 refine .seq<|.seq ?_
 refine bp.cP [(0,_),(2,_),(3,_)] kE.c.c.c (X:=Unit) (λ_=>True) (λ_ E=>(16,.bool (!s.2&&decide (0<s.1.length)))::E) (λ_=>[T,S,K,bl V [vL,sZ] 25,bl U [sZ,sZ] 25]) ?_ ?_
 refine .region<|.mo rfl<|.nc rfl<|.fa rfl<|.lo rfl<|.q .not<|.mo rfl ?_
 refine .split (t:=9) rfl (λe=>?_) (λe=>?_)
 refine .gT e<|.mo rfl<|.gT e<|.nc rfl<|.gT e<|.fa rfl<|.gT e<|.lo rfl<|.gT e<|.q (.bD Z) ?_
 refine .gT e<|.q .gtr<|.q (.aO e) ?_
 refine .nil ?_
 ·exact aE () trivial (kE.c.c.c.bL rfl (by rw[e];simp)) rH
 refine .gF e<|.gF e<|.gF e<|.gF e<|.gF e<|.gF e<|.q (.aK e) ?_
 refine .nil ?_
 ·exact aE () trivial (kE.c.c.c.bL rfl (by rw[e];simp)) rH
 intro y l
 refine aw ?_
 refine .cond rfl (λw=>?_) λw=>?_
 simp only[Bool.and_eq_true,Bool.not_eq_true',decide_eq_true_eq]at w
 have a0:¬(s.2=true\/s.1=[]):=by
  rintro(h|h)
  ·rw[w.1]at h;cases h
  ·rw[h]at w;simp at w
 rw[if_neg a0]at i
 refine .kn<|.block<|.block<|.sr<|.mo rfl ?_
 refine .cV (R:=R) (ml j s _ R M rP) (λu T3 g=>?_)
 obtain⟨rfl,B⟩:=g
 refine .az rfl ?_
 refine .cond rfl (λN=>?_) λN=>?_
 obtain⟨z,Q⟩:=Option.isSome_iff_exists.1 N
 rw[Q]at B i
 simp only[Option.getD_some]at B i
 have b0:=(gY Q).2.1
 have a9:=(NH (W:=isWord) z).len
 refine bp.cP [(0,_),(2,_),(3,_)] kE.c.c.c (X:=bT×Value×(aA×aA×aA)) (λy=>dB R j (lz isWord z).2 y.2.2.1/\OS 164 2 bT.enc y.2.1 (L++[y.1]) y.2.2.2.1/\y.1.is (sg y.2.2.2.2)/\y.1.plain=(lz isWord z).1) (λ_ E=>E) (λy=>[y.2.2.1,y.2.2.2.1,y.2.2.2.2,K,bl V [y.2.1,sZ] 25,bl U [sZ,sZ] 25]) ?_ ?_
 refine .dt [3,5,7] mixed ?_
 refine .tK 0 rfl (.eE rfl) ?_
 refine .tO 2 rfl .move ?_
 refine RA.jS 1 3 rfl rfl (by kernel_rfl) rfl ?_ ?_
 refine .lo rfl ?_
 refine .nil (Next.sub ?_)
 refine .sT 3 rfl ?_
 refine .call [0] ((zv (R:=R) j z _ B (by omega)).weaken cQ) (λu H' g=>?_)
 obtain⟨A,I,rfl,r,rfl,a,F,n⟩:=g
 have ir:bW r.enc:=⟨a.cH⟩
 conv=>arg 8;simp only[rest,bF,List.cons_append,List.nil_append]
 have a7:One r.v:=a.rs.ap
 refine .nil (Next.mod rfl ?_)
 refine .sT 4 rfl ?_
 refine .dA (λa2=>?_)
 refine .nil (Next.mod rfl ?_)
 refine .sT 5 rfl ?_
 refine .append C (RS.lits (xs:=[r]) rfl (by simp[bT.enc]) (λy l u g=>by rw[List.mem_singleton]at l;subst l;exact a.cH u g)) (by simp only[List.length_singleton];omega) (λH p k=>?_)
 have i5:=k.ap
 refine .nil (Next.mod rfl ?_)
 refine .tK 6 rfl (.eE rfl) ?_
 refine .sT 7 rfl ?_
 refine .dm rfl rfl ?_
 refine .nil (Next.mod rfl ?_)
 refine RA.nil (by kernel_rfl) ?_
 ·exact aE (r,H,(A,p,I)) ⟨n,k,a,F⟩ kE.c.c.c (aY [1,2,1,1,1,1])
 refine .call [0] ((zv (R:=R) j z _ B (by omega)).weaken cQ) (λu H' g=>?_)
 obtain⟨A,I,rfl,r,rfl,a,F,n⟩:=g
 have ir:bW r.enc:=⟨a.cH⟩
 conv=>arg 8;simp only[rest,bF,List.cons_append,List.nil_append]
 have a7:One r.v:=a.rs.ap
 refine .nil (Next.mod rfl ?_)
 refine RA.jS 1 4 rfl rfl (by kernel_rfl) rfl ?_ ?_
 refine .lo rfl ?_
 refine .nil (Next.mod rfl ?_)
 refine .sT 4 rfl ?_
 refine .dA (λa2=>?_)
 refine .nil (Next.mod rfl ?_)
 refine .sT 5 rfl ?_
 refine .append C (RS.lits (xs:=[r]) rfl (by simp[bT.enc]) (λy l u g=>by rw[List.mem_singleton]at l;subst l;exact a.cH u g)) (by simp only[List.length_singleton];omega) (λH p k=>?_)
 have i5:=k.ap
 refine .nil (Next.mod rfl ?_)
 refine .tK 6 rfl (.eE rfl) ?_
 refine .sT 7 rfl ?_
 refine .dm rfl rfl ?_
 refine .nil (Next.mod rfl ?_)
 refine RA.nil (by kernel_rfl) ?_
 ·exact aE (r,H,(A,p,I)) ⟨n,k,a,F⟩ kE.c.c.c (aY [1,2,1,1,1,1])
 refine .dA (λa2=>?_)
 refine .nil (Next.mod rfl ?_)
 refine .sT 1 rfl ?_
 refine .lo rfl ?_
 refine .nil (Next.mod rfl ?_)
 refine .sT 5 rfl ?_
 refine .append C (RS.lits (xs:=[r]) rfl (by simp[bT.enc]) (λy l u g=>by rw[List.mem_singleton]at l;subst l;exact a.cH u g)) (by simp only[List.length_singleton];omega) (λH p k=>?_)
 have i5:=k.ap
 refine .nil (Next.mod rfl ?_)
 refine .tK 6 rfl (.eE rfl) ?_
 refine .sT 7 rfl ?_
 refine .dm rfl rfl ?_
 refine .nil (Next.mod rfl ?_)
 refine RA.nil (by kernel_rfl) ?_
 ·exact aE (r,H,(A,p,I)) ⟨n,k,a,F⟩ kE.c.c.c (aY [1,2,1,1,1,1])
 intro y l
 obtain⟨r,H,⟨A,p,I⟩⟩:=y
 obtain⟨n,k,a,F⟩:=l
 simp only at n k a F⊢
 refine ba (ba ?_)
 ·exact bi (J,L++[r],(lz isWord z).2,H,(A,p,I++K)) ⟨n,k,λq hq=>by
   rcases List.mem_append.1 hq with hq|hq
   ·exact(O q hq).mono λb o D=>fO D
   ·rw[List.mem_singleton]at hq
    subst hq
    exact a.mono λb o D=>gy D,by simp only;rw[List.map_append,List.map_cons,List.map_nil,F];exact i,by simp only;omega,by simp only[List.length_append,List.length_singleton];omega⟩ (by simp only;omega) kE.c.c.c (bf.eT (by simp))
 have Q:dl rP s=none:=by
  cases hh:dl rP s with
  |none=>rfl
  |some x=>rw[hh]at N;cases N
 rw[Q]at B i
 simp only[Option.getD_none]at B i
 refine .sr<|.mo rfl ?_
 refine .cV (R:=R) (nr j s _ B rR (by simp)) (λu A g=>?_)
 obtain⟨rfl,n⟩:=g
 refine .az rfl<|.cF<|.region<|.mo rfl ?_
 obtain⟨⟨v3,rfl,a6⟩,a8⟩:=n
 have i3:=a6.ap
 refine .cV (R:=R) (qw j v3 s.2 R) (λu p g=>?_)
 subst g
 refine .nil<|ba<|ba ?_
 ·exact bi (J,L,je,vL,(_,S,K)) ⟨dB.nil,C,O,by
   obtain⟨f2,rfl⟩:∃f2,J=f2+1:=⟨J-1,by omega⟩
   simp only
   rw[jL,if_pos (.inl rfl)]
   exact i,by simp only[je,List.length_nil];omega,by simp only[je,List.length_nil];omega⟩ (by simp only;omega) (((kE.d rfl).d rfl).d rfl) rH
 have a0:s.2=true\/s.1=[]:=by
  cases hs:s.2 with
  |true=>exact .inl rfl
  |false=>
   rw[hs]at w
   simp at w
   exact .inr w
 rw[if_pos a0]at i
 refine .exit<|bq<|bz<|br<|aw<|.sr<|.q (.aI rfl)<|.bG rfl rfl<|.zn ?_
 refine .ret (bj _ (.one (.ei rfl rfl)) ((aY [0,0,0]).trans (bf.eT (H':=[T,S++K]) (by simp[take,bF]))) ?_)
 ·exact⟨_,_,rfl,⟨vL,sZ,L,[]⟩,rfl,⟨C.sg.mono λb o D=>gy D,RS.fZ,λr a=>(O r a).mono λb o D=>fO D,λr a=>(by cases a)⟩,by rw[<-i];rfl,by rw[<-i];exact M⟩
theorem K6(v:Value)(L:List eu)(h:RS R 3 eu.enc v L)(m:∀t∈L,fu t):Spec prog 98 [v] R [] λu H'=>u=.bool false/\H'=[]:=by
 have r:=h.ap
 have p:=h.le
 refine Spec.body Tryz.func98 rfl Tryz.results98 Tryz.ntmps98 rfl ?_
 refine .sr<|.ag rfl<|.z<|.ag rfl<|.zs<|.sr<|.mo rfl<|.q (.bD h) ?_
 refine .mo rfl<|.zn<|.block ?_
 refine .cq [(6,_),(7,_)] (X:=Nat) (λi=>i<=L.length) (λi E=>(8,iN i)::(3,.int .i64 0)::E) (λ_ G=>G) (λi=>L.length-i) 0 (Nat.zero_le _) kE.c.c.c.c rH ?_
 rintro i o
 refine .sr<|.q .lss<|.zs ?_
 refine .cond rfl (λg=>?_) λg=>?_
 have k:i<L.length:=cg g
 obtain⟨t,l⟩:=bU k
 have d:=m t (aX l)
 refine .kn<|.seq<|.block<|.sr ?_
 refine .bA i h l (λs=>?_)
 refine .q (.aI rfl) ?_
 refine .bN (λf=>?_)
 refine .bG rfl rfl<|.zs<|.block<|.seq ?_
 refine bp.cP [(3,_),(5,_),(6,_),(7,_),(8,_)] kE.c.c.c.c.c (X:=Unit) (λ_=>True) (λ_ E=>(12,.bool false)::E) (λ_=>[bl f t.enc 291]) ?_ ?_
 refine .region<|.fa rfl<|.lo rfl<|.q .bO<|.mo rfl ?_
 refine .split (t:=16) rfl (λa=>?_) (λa=>?_)
 refine .gT a<|.fa rfl<|.gT a<|.lo rfl<|.gT a<|.q .dI<|.q (.aO a) ?_
 refine .ag rfl<|.nil ?_
 ·exact aE () trivial (kE.c.c.c.c.c.bL rfl (by unfold fu at d;have e:np=(⟨#[40]⟩:ByteArray):=rfl;grind)) rH
 refine .gF a<|.gF a<|.gF a<|.q (.aK a) ?_
 refine .ag rfl<|.nil ?_
 ·exact aE () trivial (kE.c.c.c.c.c.bL rfl (by unfold fu at d;have e:np=(⟨#[40]⟩:ByteArray):=rfl;grind)) rH
 intro y n
 refine aw<|.cF<|.seq ?_
 refine bp.cP [(3,_),(6,_),(7,_),(8,_)] kE.c.c.c.c (X:=Unit) (λ_=>True) (λ_ E=>(23,.bool false)::E) (λ_=>[bl f t.enc 291]) ?_ ?_
 refine .region<|.fa rfl<|.lo rfl<|.q .bO<|.mo rfl ?_
 refine .split (t:=27) rfl (λb=>?_) (λb=>?_)
 refine .gT b<|.fa rfl<|.gT b<|.lo rfl<|.gT b<|.q .dI<|.q (.aO b) ?_
 refine .ag rfl<|.nil ?_
 ·exact aE () trivial (kE.c.c.c.c.bL rfl (by unfold fu at d;have e:oq=(⟨#[41]⟩:ByteArray):=rfl;grind)) rH
 refine .gF b<|.gF b<|.gF b<|.q (.aK b) ?_
 refine .ag rfl<|.nil ?_
 ·exact aE () trivial (kE.c.c.c.c.bL rfl (by unfold fu at d;have e:oq=(⟨#[41]⟩:ByteArray):=rfl;grind)) rH
 intro y n
 refine aw<|.cF<|.skip<|ba<|aw<|.sr<|.mo rfl<|.q .gtr<|.zn ?_
 refine .cond rfl (λj=>?_) λj=>?_
 ·simp at j
 refine .skip<|ba<|aw<|.region ?_
 refine .ia (i+1) .add ?_
 refine .mo rfl<|.nil ?_
 ·exact bi (i+1) k (by omega) kE.c.c.c.c (bf.none _)
 refine .exit<|bq<|bz<|br<|aw<|.sr<|.az rfl ?_
 refine .ret (bj _ (.one (.tmp rfl)) (bf.none _) ?_)
 ·exact⟨rfl,rfl⟩
theorem Lz(s:ByteArray)(D:s.size<=16384)(g:Pl s)(L:List eu)(r:oV s=some L)(l:∀t∈L,fu t)(y:L.length<=1000000)(C:List Sp)(n:jL isWord (L.length+1) [] (L,false)=(C,([],false)))(A:(⟨C,[]⟩:Cf).im isWord=false):
  Spec prog 47 [.string s] R [] λu H'=>∃T,H'=[T]/\∃c:bE,u=.tuple [.agg c.enc.toArray,.int .i64 0].toArray/\c.is (sg T)/\c.plain=⟨C,[]⟩:=by
 refine Spec.body Tryz.func47 rfl Tryz.results47 Tryz.ntmps47 rfl ?_
 refine .sr ?_
 refine .bN (λH=>?_)
 refine .ag rfl<|.z<|.mo rfl ?_
 refine .da (KF s D g L r _) (λu G a=>?_)
 obtain⟨v,rfl,e⟩:=a
 obtain⟨E,m,rfl,_⟩:=e.shape
 refine .mo rfl<|.q .extract<|.q .extract<|.ag rfl<|.ag rfl<|.zs<|.block<|.sr<|.mo rfl<|.q .dQ<|.az rfl ?_
 refine .cond rfl (λj=>?_) λj=>?_
 ·simp at j
 refine .sr<|.mo rfl ?_
 refine .bd (K6 _ L (e.sg.ob) l) (λu a=>?_)
 subst a
 refine .az rfl<|.cF<|.skip<|ba<|aw<|.sr<|.mo rfl ?_
 refine .q .cO ?_
 refine .bX rfl (λi=>?_)
 refine .ag rfl<|.z<|.mo rfl ?_
 refine .call [0] (AV (T := pj i (.slice E L.length m) false) i (L, false) ⟨⟨_, rfl, e.rs λ p g => .inr (by simp [rest, bF, g])⟩, l⟩ y) (λ u H' a => ?_)
 obtain⟨F,h,rfl,c,rfl,d,f,k⟩:=a
 rw[n]at f k
 obtain⟨⟨O,rfl,B⟩,_⟩:=k
 have J:=B.ap
 have K:One c.vs:=RS.ap d.ss
 have M:One c.vc:=RS.ap d.sc
 have N:bW c.enc:=⟨d.cH⟩
 conv=>arg 8;simp only[rest,bF,List.cons_append,List.nil_append]
 refine .bN (λI=>?_)
 refine .bG rfl rfl<|.zs<|.block<|.sr<|.mo rfl<|.nc rfl<|.fa rfl<|.lo rfl<|.az rfl<|.cF<|.sr<|.q (.aI rfl) ?_
 refine .bd (zZ c _ (d.mono λb o w=>.inr (by have x:(b,o)∈h:=w;simp[x]))) (λu a=>?_)
 subst a
 rw[f,A]
 refine .q .not<|.az rfl<|.cF<|.skip<|ba<|aw<|.sr<|.q (.aI rfl)<|.bG rfl rfl<|.az rfl ?_
 refine .ret (bj _ (.two (.ei rfl rfl) (.tmp rfl)) (aY [2]) ?_)
 ·exact⟨h,rfl,c,rfl,d,f⟩
end
def nz(c:Cf)(k:aU)(l:List Sub):List ByteArray:=((l.filter (allowed c k)).filter λs=> !decide (s.us=⟨#[]⟩)).map (·.us)
def nh(c:Cf)(k:aU)(l:List Sub):List Sub:=(l.filter (allowed c k)).filter λs=>decide (s.us=⟨#[]⟩)
theorem Oh{c:Cf}{k:aU}{l:List Sub}{i:Nat}{s:Sub}(h:l[i]? =some s):nz c k (l.take (i+1))=nz c k (l.take i)++if allowed c k s=true/\s.us≠⟨#[]⟩then [s.us]else []:=by
 rw[dS h]
 unfold nz
 rw[List.filter_append,List.filter_append,List.map_append]
 congr 1
 by_cases a:allowed c k s=true<;>by_cases b:s.us=⟨#[]⟩<;>simp[a,b]
theorem ND{c:Cf}{k:aU}{l:List Sub}{i:Nat}{s:Sub}(h:l[i]? =some s):nh c k (l.take (i+1))=nh c k (l.take i)++if allowed c k s=true/\s.us=⟨#[]⟩then [s]else []:=by
 rw[dS h]
 unfold nh
 rw[List.filter_append,List.filter_append]
 congr 1
 by_cases a:allowed c k s=true<;>by_cases b:s.us=⟨#[]⟩<;>simp[a,b]
theorem XC.zF{x:XC}{R:aB}(h:x.ok R)(k:aU):(x.sub k).length<=1000:=by
 unfold XC.sub
 split
 ·rw[List.length_map]
  have a:=List.length_filter_le (λy:bk=>y.there x.rev&&decide (y.t.cE=k)) x.L
  have b:=h.l.pm.length_eq
  have c:=h.len
  omega
 ·simp
theorem zG(x:XC)(R:aB)(h:x.ok R)(xb:Nat)(va U:Value)(e:Nat) [iv:One va] [ip:One U] [pc:PC R (pT xb) (x.cells va U e)](k:aU):
  Spec prog 145 [pT xb,.agg [.string k.os,.string k.oi].toArray,.string k.rel] R [] λu H'=>∃Tu Ts,H'=[Tu,Ts]/\∃wu ws,u=.tuple [wu,ws].toArray/\OS 9 1 gG wu (gj x.c.plain x.sub k) Tu/\OS 117 4 Sub.enc ws (fh x.c.plain x.sub k) Ts:=by
 have Z:=Ar x.c R h.c
 have i1:One x.c.vs:=RS.ap h.c.ss
 have i2:One x.c.vc:=RS.ap h.c.sc
 have i3:=h.n.one
 obtain⟨ps,vf,vr,Mf,Mr,W⟩:=h.s
 have b3:=XC.zF h k
 have hl:=h.l
 have b1:=h.len
 have Y:gj x.c.plain x.sub k=nz x.c.plain k (x.sub k):=rfl
 have V:fh x.c.plain x.sub k=nh x.c.plain k (x.sub k):=rfl
 have a4:x.sub k=if scan x.S x.rev then(x.L.filter λy=>y.there x.rev&&decide (y.t.cE=k)).map (·.t.sub)else []:=rfl
 have a6:∀i,(nz x.c.plain k ((x.sub k).take i)).length<=1000:=λi=>by
  unfold nz
  rw[List.length_map]
  refine Nat.le_trans (List.length_filter_le _ _) (Nat.le_trans (List.length_filter_le _ _) ?_)
  rw[List.length_take];omega
 have a2:∀i,(nh x.c.plain k ((x.sub k).take i)).length<=1000:=λi=>by
  unfold nh
  refine Nat.le_trans (List.length_filter_le _ _) (Nat.le_trans (List.length_filter_le _ _) ?_)
  rw[List.length_take];omega
 have a5:=λ(l:List Sub) (i:Nat) (s:Sub) (h:l[i]? =some s)=>Oh (c:=x.c.plain) (k:=k) h
 have a3:=λ(l:List Sub) (i:Nat) (s:Sub) (h:l[i]? =some s)=>ND (c:=x.c.plain) (k:=k) h
 rw[Y,V]
 generalize hL:x.sub k=l at *
 refine Spec.body Tryz.func145 rfl Tryz.results145 Tryz.ntmps145 rfl ?_
 refine .sr ?_
 refine .bX rfl (λb4=>?_)
 refine .ag rfl<|.ag rfl<|.z<|.ag rfl<|.z<|.ag rfl<|.zs<|.seq<|.dt [] mixed ?_
 refine .tO 0 rfl .move<|.tO 1 rfl (.nilCheck rfl)<|.tO 2 rfl (.fieldAddr rfl)<|.tO 3 rfl (.cI rfl)<|.tO 4 rfl (.aI rfl)<|.tO 5 rfl .move<|.tO 6 rfl .move<|.tO 7 rfl (.nilCheck rfl)<|.tO 8 rfl (.fieldAddr rfl)<|.tO 9 rfl (.cI rfl)<|.tO 12 rfl .move ?_
 refine .sT 10 rfl ?_
 refine .da ((SV.NS (W.mono λb o N=>.inl N) (by omega) k x.rev hl).weaken λb o N=>N) (λu a7 J=>?_)
 rw[<-a4]at J
 have iu:=J.ap
 refine .nil (Next.sub ?_)
 refine .tO 11 rfl (.ej J) ?_
 refine RA.nil (by kernel_rfl) ?_
 refine aw<|.block ?_
 refine .cq [(0,_),(2,_),(4,_),(22,_),(23,_)] (X:=Nat×Value×Value×aA×aA) (λy=>y.1<=l.length/\OS 9 1 gG y.2.1 (nz x.c.plain k (l.take y.1)) y.2.2.2.1/\OS 117 4 Sub.enc y.2.2.1 (nh x.c.plain k (l.take y.1)) y.2.2.2.2) (λy E=>(24,iN y.1)::(8,y.2.1)::(9,y.2.2.1)::E) (λy G=>y.2.2.2.1::y.2.2.2.2::G) (λy=>l.length-y.1) (0,sZ,sZ,[],[]) ⟨Nat.zero_le _,OS.nil,OS.nil⟩ kE.c.c.c.c.c.c.c.c bf.gJ ?_
 rintro⟨i,F,D,Tu,Ts⟩ ⟨hi,f,d⟩
 simp only at hi f d⊢
 have b6:=f.ap
 have b7:=d.ap
 refine .sr<|.q .lss<|.zs ?_
 refine .cond rfl (λK=>?_) λK=>?_
 have g:i<l.length:=cg K
 obtain⟨s,Q⟩:=bU g
 have b5:=a6 i
 have b2:=a2 i
 have m:=a5 l i s Q
 have j:=a3 l i s Q
 obtain⟨a,v,p,r⟩:=s
 refine .kn<|.seq<|.block<|.sr ?_
 refine .bo i J Q (λb8=>?_)
 refine .q (.aI rfl) ?_
 refine .bN (λa8=>?_)
 refine .bG rfl rfl<|.zn<|.block<|.seq ?_
 refine .dF 8 mixed (by kernel_rfl) ?_
 conv=>arg 6;dsimp only[List.take]
 refine .mo rfl<|.nc rfl<|.fa rfl<|.q (.loadT rfl) ?_
 refine .q (.aI rfl)<|.mo rfl<|.q (.aI rfl) ?_
 refine .q .cO ?_
 refine .nil ?_
 refine .bd ((Z ⟨k.os,k.oi,k.rel,a,v,p,r⟩).weaken cQ) (λw hw=>?_)
 subst hw
 refine .q .dQ<|.az rfl ?_
 refine .cond rfl (λH=>?_) λH=>?_
 have a1:allowed x.c.plain k ⟨a,v,p,r⟩=false:=by
  cases hq:allowed x.c.plain k ⟨a,v,p,r⟩with
  |false=>rfl
  |true=>
   have:allowed x.c.plain (⟨k.os,k.oi,k.rel,a,v,p,r⟩:ay).cE (⟨k.os,k.oi,k.rel,a,v,p,r⟩:ay).sub=true:=hq
   rw[this]at H;simp at H
 rw[if_neg (by rw[a1];simp),List.append_nil]at m j
 refine .skip<|ba<|ba<|aw<|.region ?_
 refine .ia (i+1) .add ?_
 refine .mo rfl<|.nil ?_
 ·first
   |exact bi (i+1,C,D,B,Ts) ⟨g,A,by rw[j];exact d⟩ (by simp only;omega) kE.c.c.c.c.c.c.c.c (bf.drop [0,0] _)
   |exact bi (i+1,F,C,Tu,B) ⟨g,by rw[m];exact f,A⟩ (by simp only;omega) kE.c.c.c.c.c.c.c.c (bf.drop [0,0] _)
   |exact bi (i+1,F,D,Tu,Ts) ⟨g,by rw[m];exact f,by rw[j];exact d⟩ (by simp only;omega) kE.c.c.c.c.c.c.c.c (bf.drop [0] _)
 have T:allowed x.c.plain k ⟨a,v,p,r⟩=true:=by
  cases hq:allowed x.c.plain k ⟨a,v,p,r⟩with
  |true=>rfl
  |false=>
   have:allowed x.c.plain (⟨k.os,k.oi,k.rel,a,v,p,r⟩:ay).cE (⟨k.os,k.oi,k.rel,a,v,p,r⟩:ay).sub=false:=hq
   rw[this]at H;simp at H
 refine .sr<|.fa rfl<|.lo rfl<|.q .ff<|.az rfl ?_
 refine .cond rfl (λM=>?_) λM=>?_
 have I:a≠⟨#[]⟩:=by simpa using M
 rw[if_pos ⟨T,I⟩]at m
 rw[if_neg (λO=>I O.2),List.append_nil]at j
 refine .region<|.mo rfl<|.fa rfl<|.lo rfl ?_
 refine .iV (λb0=>?_)
 refine .append f (RS.lits (xs:=[a]) rfl (by simp[gG]) (by simp[gG,ap])) (by simp only[List.length_singleton];omega) (λC B A=>?_)
 rw[<-m]at A
 refine .ag rfl<|.nil<|ba<|ba<|aw<|.region ?_
 refine .ia (i+1) .add ?_
 refine .mo rfl<|.nil ?_
 ·first
   |exact bi (i+1,C,D,B,Ts) ⟨g,A,by rw[j];exact d⟩ (by simp only;omega) kE.c.c.c.c.c.c.c.c (bf.drop [0,0] _)
   |exact bi (i+1,F,C,Tu,B) ⟨g,by rw[m];exact f,A⟩ (by simp only;omega) kE.c.c.c.c.c.c.c.c (bf.drop [0,0] _)
   |exact bi (i+1,F,D,Tu,Ts) ⟨g,by rw[m];exact f,by rw[j];exact d⟩ (by simp only;omega) kE.c.c.c.c.c.c.c.c (bf.drop [0] _)
 have I:a=⟨#[]⟩:=by simpa using M
 rw[if_neg (λO=>O.2 I),List.append_nil]at m
 rw[if_pos ⟨T,I⟩]at j
 refine .region<|.mo rfl<|.q (.aI rfl) ?_
 refine .dA (λa9=>?_)
 refine .append d (RS.lits (xs:=[(⟨a,v,p,r⟩:Sub)]) rfl (by simp[Sub.enc]) (by simp[Sub.enc,ap])) (by simp only[List.length_singleton];omega) (λC B A=>?_)
 rw[<-j]at A
 refine .ag rfl<|.nil<|ba<|ba<|aw<|.region ?_
 refine .ia (i+1) .add ?_
 refine .mo rfl<|.nil ?_
 ·first
   |exact bi (i+1,C,D,B,Ts) ⟨g,A,by rw[j];exact d⟩ (by simp only;omega) kE.c.c.c.c.c.c.c.c (bf.drop [0,0] _)
   |exact bi (i+1,F,C,Tu,B) ⟨g,by rw[m];exact f,A⟩ (by simp only;omega) kE.c.c.c.c.c.c.c.c (bf.drop [0,0] _)
   |exact bi (i+1,F,D,Tu,Ts) ⟨g,by rw[m];exact f,by rw[j];exact d⟩ (by simp only;omega) kE.c.c.c.c.c.c.c.c (bf.drop [0] _)
 refine .exit<|bq<|bz<|br<|aw<|.sr<|.mo rfl<|.mo rfl<|.ag rfl<|.az rfl ?_
 refine .ret (bj _ (.two (.tmp rfl) (.tmp rfl)) (aY [0,0]) ?_)
 ·have a0:i=l.length:=by have:=bC K;omega
  subst a0
  rw[List.take_length]at f d
  exact⟨Tu,Ts,by simp[take,bF],F,D,rfl,f,d⟩
structure kw(x:XC)(R:aB)(ps:List aJ)(va:Value)(ks:List aU)(ps':List aJ)(vp:Value)(Ta To:aA)(vo:Value)(Tl:aA):Prop where
 l:OS 3 1 dc vo (dd x.c.plain x.num (ps.map aJ.plain) ks).2 Tl
 eq:ps'.map aJ.plain=(dd x.c.plain x.num (ps.map aJ.plain) ks).1
 at_:gN ps' va Ta
 o:OS 95 8 aJ.enc vp ps' To
 gr:∃l,ps'=ps++l/\∀p∈l,p.is R
theorem kw.len{x:XC}{R:aB}{ps a:List aJ}{va g f:Value}{ks:List aU}{b e d:aA}(h:kw x R ps va ks a g b e f d):a.length=(dd x.c.plain x.num (ps.map aJ.plain) ks).1.length:=by rw[<-h.eq,List.length_map]
theorem kw.next{x:XC}{R:aB}{ps d b:List aJ}{va D s C r:Value}{ks:List aU}{i:Nat}{k:aU}{t v f m u j:aA}(h:kw x R ps va (ks.take i) d D t v C u)(z:ks[i]? =some k)
  (e:b.map aJ.plain=(dZ x.c.plain x.num (d.map aJ.plain) k).1)(a:gN b va f)(o:OS 95 8 aJ.enc s b m)(g:∃l,b=d++l/\∀p∈l,p.is R)
  (q:OS 3 1 dc r ((dd x.c.plain x.num (ps.map aJ.plain) (ks.take i)).2++[(dZ x.c.plain x.num (d.map aJ.plain) k).2]) j):kw x R ps va (ks.take (i+1)) b s f m r j:=by
 have n:=u5 (c:=x.c.plain) (num:=x.num) z (ps.map aJ.plain)
 rw[h.eq]at e q
 refine⟨by rw[n];exact q,by rw[n];exact e,a,o,?_⟩
 obtain⟨A,rfl,w⟩:=h.gr
 obtain⟨B,rfl,y⟩:=g
 refine⟨A++B,by rw[List.append_assoc],λp hp=>?_⟩
 rcases List.mem_append.1 hp with hp|hp
 ·exact w p hp
 ·exact y p hp
def uO(x:XC)(R:aB)(xb:Nat)(ps:List aJ)(e:Nat)(va:Value)(ks:List aU)(u:Value)(H':aN):Prop:=∃ps' vp Ta To Tl,H'=[Tl,x.gB xb va vp e,Ta,To]/\kw x R ps va ks ps' vp Ta To u Tl
theorem KA(x:XC)(R:aB)(h:x.ok R)(xb:Nat)(ps:List aJ)(e:Nat)(va j:Value)(m p:aA)(hA:gN ps va m)(hO:OS 95 8 aJ.enc j ps p)(k:aU)(H:List Value)(n:Nd) [ie:bW H]
  (hl:(dd x.c.plain x.num (ps.map aJ.plain) (eh x.c.plain x.sub k n)).1.length<=3000000)(b1:H.length=5):
  Spec prog 146 [pT xb,.agg (.string k.os:: .string k.oi:: .string k.rel::H).toArray,.agg n.enc.toArray] R [x.gB xb va j e,m,p] (uO x R xb ps e va (eh x.c.plain x.sub k n)):=by
 obtain⟨x3,x4,x5,x6,x7,rfl⟩:∃a b c d f,H=[a,b,c,d,f]:=by
  match H,b1 with
  |[a,b,c,d,f],_=>exact⟨a,b,c,d,f,rfl⟩
 have c9:bW (Value.string k.os:: .string k.oi:: .string k.rel::[x3,x4,x5,x6,x7]):=⟨λu hu=>by
  simp only[List.mem_cons,List.not_mem_nil,or_false]at hu
  rcases hu with rfl|rfl|rfl|hu
  ·rfl
  ·rfl
  ·rfl
  ·exact ie.h u (by simpa using hu)⟩
 have a9:=zG x
 have a4:=yE x R h xb
 have i1:One x.c.vs:=RS.ap h.c.ss
 have i2:One x.c.vc:=RS.ap h.c.sc
 have i3:=h.n.one
 obtain⟨M0,b0,_⟩:=id hA
 have d0:=b0.one
 have d1:=hO.ap
 have a0:∀ks u H',uO x R xb ps e va ks u H'↔∃ps' j m p w,H'=[w,x.gB xb va j e,m,p]/\kw x R ps va ks ps' j m p u w:=λ_ _ _=>Iff.rfl
 have r:eh x.c.plain x.sub k n=if n.kind=1 then(fh x.c.plain x.sub k).map λs=>⟨s.ss,s.si,s.sr⟩
  else if n.kind=3 then(fh x.c.plain x.sub ⟨k.os,k.oi,n.rel⟩).map λs=>⟨s.ss,s.si,n.dw⟩
  else if n.kind=2 then [⟨k.os,k.oi,n.rel⟩]
  else []:=rfl
 generalize c8:eh x.c.plain x.sub k n=ks at *
 have a6:=λi=>u3 (c:=x.c.plain) (num:=x.num) ks i (ps.map aJ.plain)
 have b2:=Aj (c:=x.c.plain) (num:=x.num) ks (ps.map aJ.plain)
 rw[List.length_map]at b2
 have a7:=λi=>pY (c:=x.c.plain) (num:=x.num) (ks.take i) (ps.map aJ.plain)
 have a8:∀k',(fh x.c.plain x.sub k').length<=1000:=λk'=>by
  unfold fh fitting
  exact Nat.le_trans (List.length_filter_le _ _) (Nat.le_trans (List.length_filter_le _ _) (XC.zF h k'))
 have S:kw x R ps va (ks.take 0) ps j m p (sZ) []:=⟨OS.nil,by simp[dd],hA,hO,[],by simp,by simp⟩
 refine Spec.gx (H':=[[],x.gB xb va j e,m,p]) (by simp) ?_
 refine Spec.body Tryz.func146 rfl Tryz.results146 Tryz.ntmps146 rfl ?_
 refine .sr ?_
 refine .bX rfl (λb4=>?_)
 refine .bX rfl (λb5=>?_)
 refine .ag rfl<|.z<|.ag rfl<|.zs<|.sr<|.fa rfl<|.lo rfl<|.zn<|.block<|.sr<|.q .bO<|.az rfl ?_
 refine .cond rfl (λh1=>?_) λh1=>?_
 have M:n.kind=1:=cv h1
 rw[if_pos M]at r
 have b9:=a8 k
 refine .sr<|.mo rfl<|.fa rfl<|.q (.loadT rfl) ?_
 refine .fa rfl<|.lo rfl ?_
 refine .call [] (a9 _ (h.mono λb o hb=>.inl hb) xb va j e (pc:=PC.of (E:=190) (fr:=(0,0)) (.inr (by simp[rest]))) k) (λu H' hu=>?_)
 obtain⟨Tu,Ts,rfl,wu,ws,rfl,a1,t⟩:=hu
 have c1:=a1.ap
 have c2:=t.ap
 conv=>arg 8;simp only[rest,bF,List.cons_append,List.nil_append]
 refine .mo rfl<|.q .extract<|.q .extract<|.ag rfl<|.ag rfl<|.z<|.mo rfl<|.q (.ej t) ?_
 refine .mo rfl<|.zn<|.block ?_
 refine .cq [(0,_),(29,_),(30,_)] (X:=Nat×List aJ×Value×aA×aA×Value×aA) (λy=>y.1<=(fh x.c.plain x.sub k).length/\kw x R ps va (ks.take y.1) y.2.1 y.2.2.1 y.2.2.2.1 y.2.2.2.2.1 y.2.2.2.2.2.1 y.2.2.2.2.2.2) (λy E=>(31,iN y.1)::(7,y.2.2.2.2.2.1)::E) (G:=[Ts,bl b5 n.enc 199,bl b4 (Value.string k.os:: .string k.oi:: .string k.rel::[x3,x4,x5,x6,x7]) 95]) (λy G=>y.2.2.2.2.2.2::x.gB xb va y.2.2.1 e::y.2.2.2.1::y.2.2.2.2.1::G) (λy=>(fh x.c.plain x.sub k).length-y.1) (0,ps,j,m,p,sZ,[]) ⟨Nat.zero_le _,S⟩ kE.c.c.c.c.c (aY [4,4,4,4,1,1,1]) ?_
 rintro⟨i,v,Y,B,D,vo,w⟩ ⟨hi,g⟩
 simp only at hi g⊢
 have io:=g.l.ap
 have c0:=g.o.ap
 have b8:=g.len
 have b7:=a6 i
 have a3:=a7 i
 rw[List.length_take]at a3
 refine .sr<|.q .lss<|.zs ?_
 refine .cond rfl (λh2=>?_) λh2=>?_
 have O:i<(fh x.c.plain x.sub k).length:=by have:=cv h2;omega
 obtain⟨s,Q⟩:=bU O
 have N:ks[i]? =some ⟨s.ss,s.si,s.sr⟩:=by rw[r,List.getElem?_map,Q];rfl
 obtain⟨us,W,V,sr⟩:=s
 refine .kn<|.seq<|.block<|.sr ?_
 refine .bo i t Q (λd2=>?_)
 refine .q (.aI rfl) ?_
 refine .bN (λc3=>?_)
 refine .bG rfl rfl<|.zn<|.region<|.mo rfl<|.mo rfl<|.fa rfl<|.q (.loadT rfl) ?_
 refine .fa rfl<|.lo rfl ?_
 refine .call [2,2,2] ((a4 v e va Y B D g.at_ g.o (by omega) ⟨W,V,sr⟩).weaken cQ) (λu H' hu=>?_)
 obtain⟨U,Z,C,F,rfl,rfl,K,I,J,L⟩:=hu
 conv=>arg 8;simp only[rest,bF,List.cons_append,List.nil_append]
 refine .iV (λc5=>?_)
 refine .append g.l (RS.lits (xs:=[(dZ x.c.plain x.num (v.map aJ.plain) ⟨W,V,sr⟩).2]) rfl (by simp[dc]) (by simp[dc,ap])) (by simp only[List.length_singleton];omega) (λv5 A T=>?_)
 refine .ag rfl<|.nil<|ba<|aw<|.region ?_
 refine .ia (i+1) .add ?_
 refine .mo rfl<|.nil ?_
 ·exact bi (i+1,U,Z,C,F,v5,A) ⟨O,g.next N K I J L T⟩ (by simp only;omega) kE.c.c.c.c.c (aY [5,1,1,1,2,2,2])
 have a2:i=ks.length:=by rw[r,List.length_map];have:=bC h2;omega
 rw[a2,List.take_length]at g
 refine .exit<|bq<|bz<|br<|ba<|aw<|.sr<|.mo rfl<|.az rfl ?_
 refine .ret (bj _ (.one (.tmp rfl)) (aY [0,0,0,0]) ?_)
 ·exact(a0 _ _ _).2 ⟨v,Y,B,D,w,by simp[take,bF],g⟩
 refine .sr<|.q .bO<|.az rfl ?_
 refine .cond rfl (λh3=>?_) λh3=>?_
 have M:n.kind=2:=cv h3
 rw[if_neg (by omega),if_neg (by omega),if_pos M]at r
 have N:ks[0]? =some ⟨k.os,k.oi,n.rel⟩:=by rw[r];rfl
 have b3:ks.take 1=ks:=by rw[r];rfl
 refine .region<|.mo rfl<|.mo rfl<|.fa rfl<|.q (.loadT rfl) ?_
 refine .fa rfl<|.lo rfl ?_
 refine .call [3,3,3] ((a4 ps e va j m p hA hO (by omega) ⟨k.os,k.oi,n.rel⟩).weaken cQ) (λu H' hu=>?_)
 obtain⟨U,Z,C,F,rfl,rfl,K,I,J,L⟩:=hu
 conv=>arg 8;simp only[rest,bF,List.cons_append,List.nil_append]
 refine .iV (λc6=>?_)
 refine .append S.l (RS.lits (xs:=[(dZ x.c.plain x.num (ps.map aJ.plain) ⟨k.os,k.oi,n.rel⟩).2]) rfl (by simp[dc]) (by simp[dc,ap])) (by simp[dd]) (λv5 A T=>?_)
 have a5:=S.next N K I J L T
 rw[show(0:Nat)+1=1 from rfl,b3]at a5
 refine .ag rfl<|.nil<|ba<|aw<|.sr<|.mo rfl<|.az rfl ?_
 refine .ret (bj _ (.one (.tmp rfl)) (aY [6,1,1,1]) ?_)
 ·exact(a0 _ _ _).2 ⟨U,Z,C,F,A,by simp[take,bF],a5⟩
 refine .sr<|.q .bO<|.az rfl ?_
 refine .cond rfl (λh4=>?_) λh4=>?_
 have M:n.kind=3:=cv h4
 rw[if_neg (by omega),if_pos M]at r
 have b9:=a8 ⟨k.os,k.oi,n.rel⟩
 refine .sr<|.mo rfl<|.fa rfl<|.q (.loadT rfl) ?_
 refine .fa rfl<|.lo rfl ?_
 refine .call [] (a9 _ (h.mono λb o hb=>.inl hb) xb va j e (pc:=PC.of (E:=190) (fr:=(0,0)) (.inr (by simp[rest]))) ⟨k.os,k.oi,n.rel⟩) (λu H' hu=>?_)
 obtain⟨Tu,Ts,rfl,wu,ws,rfl,a1,t⟩:=hu
 have c1:=a1.ap
 have c2:=t.ap
 conv=>arg 8;simp only[rest,bF,List.cons_append,List.nil_append]
 refine .mo rfl<|.q .extract<|.q .extract<|.ag rfl<|.ag rfl<|.z<|.mo rfl<|.q (.ej t) ?_
 refine .mo rfl<|.zn<|.block ?_
 refine .cq [(0,_),(5,_),(67,_),(68,_)] (X:=Nat×List aJ×Value×aA×aA×Value×aA) (λy=>y.1<=(fh x.c.plain x.sub ⟨k.os,k.oi,n.rel⟩).length/\kw x R ps va (ks.take y.1) y.2.1 y.2.2.1 y.2.2.2.1 y.2.2.2.2.1 y.2.2.2.2.2.1 y.2.2.2.2.2.2) (λy E=>(69,iN y.1)::(7,y.2.2.2.2.2.1)::E) (G:=[Ts,bl b5 n.enc 199,bl b4 (Value.string k.os:: .string k.oi:: .string k.rel::[x3,x4,x5,x6,x7]) 95]) (λy G=>y.2.2.2.2.2.2::x.gB xb va y.2.2.1 e::y.2.2.2.1::y.2.2.2.2.1::G) (λy=>(fh x.c.plain x.sub ⟨k.os,k.oi,n.rel⟩).length-y.1) (0,ps,j,m,p,sZ,[]) ⟨Nat.zero_le _,S⟩ kE.c.c.c.c.c.c (aY [4,4,4,4,1,1,1]) ?_
 rintro⟨i,v,Y,B,D,vo,w⟩ ⟨hi,g⟩
 simp only at hi g⊢
 have io:=g.l.ap
 have c0:=g.o.ap
 have b8:=g.len
 have b7:=a6 i
 have a3:=a7 i
 rw[List.length_take]at a3
 refine .sr<|.q .lss<|.zs ?_
 refine .cond rfl (λh5=>?_) λh5=>?_
 have O:i<(fh x.c.plain x.sub ⟨k.os,k.oi,n.rel⟩).length:=by have:=cv h5;omega
 obtain⟨s,Q⟩:=bU O
 have N:ks[i]? =some ⟨s.ss,s.si,n.dw⟩:=by rw[r,List.getElem?_map,Q];rfl
 obtain⟨us,W,V,sr⟩:=s
 refine .kn<|.seq<|.block<|.sr ?_
 refine .bo i t Q (λd3=>?_)
 refine .q (.aI rfl) ?_
 refine .bN (λc4=>?_)
 refine .bG rfl rfl<|.zn<|.region<|.mo rfl<|.mo rfl<|.fa rfl<|.q (.loadT rfl) ?_
 refine .fa rfl<|.lo rfl ?_
 refine .call [2,2,2] ((a4 v e va Y B D g.at_ g.o (by omega) ⟨W,V,n.dw⟩).weaken cQ) (λu H' hu=>?_)
 obtain⟨U,Z,C,F,rfl,rfl,K,I,J,L⟩:=hu
 conv=>arg 8;simp only[rest,bF,List.cons_append,List.nil_append]
 refine .iV (λc7=>?_)
 refine .append g.l (RS.lits (xs:=[(dZ x.c.plain x.num (v.map aJ.plain) ⟨W,V,n.dw⟩).2]) rfl (by simp[dc]) (by simp[dc,ap])) (by simp only[List.length_singleton];omega) (λv5 A T=>?_)
 refine .ag rfl<|.nil<|ba<|aw<|.region ?_
 refine .ia (i+1) .add ?_
 refine .mo rfl<|.nil ?_
 ·exact bi (i+1,U,Z,C,F,v5,A) ⟨O,g.next N K I J L T⟩ (by simp only;omega) kE.c.c.c.c.c.c (aY [5,1,1,1,2,2,2])
 have a2:i=ks.length:=by rw[r,List.length_map];have:=bC h5;omega
 rw[a2,List.take_length]at g
 refine .exit<|bq<|bz<|br<|ba<|aw<|.sr<|.mo rfl<|.az rfl ?_
 refine .ret (bj _ (.one (.tmp rfl)) (aY [0,0,0,0]) ?_)
 ·exact(a0 _ _ _).2 ⟨v,Y,B,D,w,by simp[take,bF],g⟩
 have b6:ks=[]:=by
  rw[r,if_neg (bC h1),if_neg (bC h4),if_neg (bC h3)]
 refine .skip<|ba<|aw<|.sr<|.mo rfl<|.az rfl ?_
 refine .ret (bj _ (.one (.tmp rfl)) (aY [2,2,2,2]) ?_)
 ·refine(a0 _ _ _).2 ⟨ps,j,m,p,[],by simp[take,bF],?_⟩
  have:=S
  rw[List.take_zero, <-b6]at this
  exact this
end Go.Proofs.YtdljmchhecoakaaGreat

/- What the law 'LookupFinds' uses. No condition. -/
import Derived.Test.YtdljmchhecoakaaGreatKLookupFindsA
import Derived.Test.YtdljmchhecoakaaGreatKLookupFindsB
import Derived.Test.YtdljmchhecoakaaGreatKLookupFindsF
import Derived.Test.YtdljmchhecoakaaGreatKLookupFindsH
import Derived.Test.YtdljmchhecoakaaGreatKLookupFindsI
import Derived.Test.YtdljmchhecoakaaGreatKLookupFindsQ
namespace Go.Proofs.YtdljmchhecoakaaGreat
set_option linter.defProp false
def afz:=@Nat.zero_le
def afA:=@if_neg
def afB:=@if_pos
def afC:=@List.length_map
def afD:=@List.map_append
def afE:=@List.length_singleton
def afF:=@List.mem_singleton
def afG:=@trivial
def afH:=@congrArg
def afI:=@List.length_take
def afJ:=@List.take_length
def afK:=@List.nil_append
def afL:=@List.mem_append
def afM:=@Nat.le_trans
def afN:=@List.append_nil
def afO:=@List.getElem?_map
def afP:=@List.cons_append
def afQ:=@List.mem_cons
def afR:=@List.any_eq_true
def afS:=@List.length_filter_le
def afT:=@List.getElem?_eq_some_iff
def afU:=@List.length_append
def afV:=@List.getD_eq_getElem?_getD
def afW:=@List.append_assoc
def afX:=@List.flatten_cons
def afY:=@List.flatten_nil
def afZ:=@List.map_nil
def af0:=@List.not_mem_nil
def af1:=@or_false
def af2:=@List.map_cons
def af3:=@List.take_add_one
def af4:=@List.length_nil
def af5:=@List.getD_cons_zero
def af6:=@Option.getD_none
def af7:=@Option.bind_some
def af8:=@List.getD_cons_succ
def af9:=@decide_eq_false
def aga:=@List.any_append
def agb:=@Option.isSome_iff_exists
def agc:=@Option.getD_some
def agd:=@List.filter_append
def age:=@List.length_replicate
def agf:=@List.mem_flatMap
def agh:=@List.mem_append_right
def agi:=@List.mem_of_mem_take
def agj:=@Bool.not_eq_true'
def agk:=@List.mem_iff_getElem
def agl:=@List.getElem_map
def agm:=@List.findIdx?_cons
open Tryz
set_option linter.unusedVariables false
set_option linter.unusedSimpArgs false
set_option maxRecDepth 4000
abbrev jZ:=gu×gu×Bool
def jT(e:jZ):List Value:=[iN e.1.1,iN e.1.2,iN e.2.1.1,iN e.2.1.2,.bool e.2.2]
instance(e:jZ):cB (jT e):=⟨by simp[jT,aE]⟩
def bL.ed(c:bL)(e:jZ):Ed:=⟨c.ix e.1,c.ix e.2.1,e.2.2⟩
def EA(c:bL)(ok:Bool)(Es:List jZ)(o:Option (List Ed)):Prop:=match o with
 |none=>ok=false
 |some E=>ok=true/\Es.map c.ed=E/\∀e∈Es,c.valid e.1/\c.valid e.2.1
theorem uU{α β:Type}{f:α->Option (List β)}{x:α}:∀{l:List α},x∈l->f x=none->cat f l=none
 |[],hx,_=>by cases hx
 |y::l,hx,h=>by
  rw[cat]
  rcases afQ.1 hx with rfl|hx
  ·rw[h];rfl
  ·rw[uU hx h]
   cases f y<;>rfl
theorem EA.ou{c:bL}{d f:List jZ}{a b:Option (List Ed)}(g:EA c true d a)(h:EA c true f b):EA c true (d++f) (a.bind λx=>b.map (x++ ·)):=by
 cases a with
 |none=>cases g
 |some a=>
  cases b with
  |none=>cases h
  |some b=>
   obtain⟨_,i,j⟩:=g
   obtain⟨_,k,l⟩:=h
   refine⟨rfl,by rw[afD,i,k],λe he=>?_⟩
   rcases afL.1 he with he|he
   ·exact j e he
   ·exact l e he
theorem EA.nil{c:bL}:EA c true [] (some []):=⟨rfl,rfl,λe a=>(by cases a)⟩
theorem EB{R:ay}{xb:Nat}{vm:Value}{c:bL}(h:IX R xb vm c)(h8:c.rb)(p:gu)(s:cm)(r:cj)(H:c.bj[p.1]? =some s)(F:s.bR[p.2]? =some r):
  Spec prog 181 [pT xb,.agg (lN p).toArray] R [] λu H'=>∃T,H'=[T]/\∃w Es ok,u=.tuple [w,.bool ok].toArray/\OS 325 5 jT w Es T/\Es.length<=512/\
   EA c ok Es (lp c.plain.all (c.ix p) s.name r.r):=by
 have c9:=wT h p s r H F
 have a6:=λn=>P3 h h8 p s r H F n
 have c2:=h
 obtain⟨b1,c6,a3⟩:=h8 s (ba H) r (ba F)
 have c4:=looked c
 have d6:c.valid p:=⟨s,r,H,F⟩
 have pc:=h.pc
 have Z:=(h.ci.all _ (ba H)).all _ (ba F)
 generalize hA:c.plain.all=A at *
 generalize c3:c.ix p=j0 at *
 have M:lp A j0 s.name r.r=if(findAll A (ei r.r.types)).isSome then cat (λk:Nat=>(r.r.nodes[k]?).bind λn=>fx A j0 s.name r.r ((nB r.r.nodes).getD k false) n) (List.range' 0 r.r.nodes.length)else none:=rfl
 obtain⟨vt,vn,r⟩:=r
 have d1:RS R 2 Ty.enc vt r.types:=Z.t
 have Y:RS R 5 Nd.enc vn r.nodes:=Z.d
 have e3:cB (cj.enc ⟨vt,vn,r⟩):=⟨Z.cV⟩
 have d7:=xh b1
 simp only at b1 c6 a3 M a6 d7⊢
 have e2:(nB r.nodes).length=r.nodes.length:=by unfold nB;rw[sO,age]
 refine Spec.body func181 rfl results181 ntmps181 rfl<|.sr ?_
 refine .cb rfl (λb3=>?_)
 refine .ag rfl<|.ag rfl<|.z<|.mo rfl<|.q (.aM rfl)<|.aX (c9.weaken cM) (λu hu=>?_)
 subst hu
 refine .bX (λb6=>?_)
 refine .bN rfl rfl<|.zs<|.sr<|.fa rfl<|.lo rfl<|.cX (xi vt r.types _ d1.rx (by omega)) (λu T2 b2=>?_)
 refine .q (.dG b2)<|.mo rfl<|.zn<|.block<|.cy [(0,_),(3,_),(6,_),(24,_),(25,_)] (X:=Nat) (λq=>q<=(ei r.types).length/\((ei r.types).take q).all (λt=>(bW A t).isSome)=true) (λq E=>(26,iN q)::E) (λ_ G=>G) (λq=>(ei r.types).length-q) 0 ⟨afz _,rfl⟩ kE.c.c.c.c.c.c rH ?_
 rintro q ⟨hq,L⟩
 refine .sr<|.q .lss<|.zs<|.cond rfl (λN=>?_) λN=>?_
 have a9:q<(ei r.types).length:=by have:=bT N;omega
 obtain⟨t,a0⟩:=bQ a9
 obtain⟨ps,ok,c7,v⟩:=c4 t
 unfold oh at v
 rw[hA]at v
 refine .kn<|.seq<|.block<|.sr ?_
 refine .aK q b2 a0 (λe4=>?_)
 refine .q (.aM rfl) ?_
 refine .bX (λb8=>?_)
 refine .bN rfl rfl<|.zs<|.cY [10] mixed<|.tO 0 rfl .move<|.tO 1 rfl (.nilCheck rfl)<|.tO 2 rfl (.fieldAddr rfl)<|.tO 3 rfl (.ca rfl)<|.tO 4 rfl (.aM rfl)<|.gn 5 rfl (.cast (.pY (c2.rm.qb λb o hb=>.inl hb) rfl rfl) (afH (λl:List Value=>Value.tuple l.toArray) c7)) (by kernel_rfl)<|.tO 6 rfl .move<|.tO 7 rfl .extract<|.tK 8 rfl .extract<|.sT 9 rfl ?_
 refine .bX (λb9=>?_)
 refine .nil<|Next.sub<|.sT 10 rfl<|.bN rfl rfl<|.nil<|Next.mod rfl<|.tK 11 rfl .assign<|RA.nil (by kernel_rfl)<|au<|.sr<|.mo rfl<|.q .not<|.zn<|.cond rfl (λO=>?_) λO=>?_
 refine .sr<|.ag rfl<|.az rfl<|.ret (bw (aJ (cG (bw (aJ (aY _ (.two (.tmp rfl) (.tmp rfl)) bk.kk ?_))))))
 ·refine⟨[],rfl,_,[],false,rfl,OS.nil,by simp,?_⟩
  have D:ok=false:=by simpa using O
  have hj:bW A t=none:=by
   cases f:bW A t with
   |none=>rfl
   |some j=>rw[f]at v;rw[v.1]at D;cases D
  rw[M,zL (ba a0) hj]
  rfl
 have f:(bW A t).isSome=true:=by
  have K:ok=true:=by simpa using O
  cases f:bW A t with
  |none=>rw[f]at v;rw[v]at K;cases K
  |some j=>rfl
 refine .skip<|aS<|au<|.region<|.ia (q+1) .add<|.mo rfl<|.nil ?_
 ·exact bd (q+1) ⟨a9,nC a0 L f⟩ (by omega) kE.c.c.c.c.c.c (aN [2,2,2,2])
 have c1:(findAll A (ei r.types)).isSome=true:=by
  have i:=sX A (ei r.types)
  rw[dB (il N)]at L
  cases f:findAll A (ei r.types)with
  |none=>rw[f]at i;rw[show _=false from i]at L;cases L
  |some o=>rfl
 rw[afB c1]at M
 rw[M]
 generalize hg:(λk:Nat=>(r.nodes[k]?).bind λn=>fx A j0 s.name r ((nB r.nodes).getD k false) n)=g at *
 refine .exit<|bo<|bq<|bp<|au<|.sr<|.fa rfl<|.lo rfl<|.cX (Dj vn r.nodes _ Y.rx a3 (by omega)) (λu T9 d4=>?_)
 refine .ag rfl<|.z<|.ag rfl<|.zs<|.sr<|.fa rfl<|.lo rfl<|.q (.bI Y)<|.mo rfl<|.zn<|.block<|.cy [(0,_),(3,_),(11,_),(46,_),(47,_)] (X:=Nat×Value×List jZ×aw) (λy=>y.1<=r.nodes.length/\OS 325 5 jT y.2.1 y.2.2.1 y.2.2.2/\y.2.2.1.length<=8*y.1/\EA c true y.2.2.1 (cat g (List.range' 0 y.1))) (λy E=>(48,iN y.1)::(12,y.2.1)::E) (λy G=>y.2.2.2::G) (λy=>r.nodes.length-y.1) (0,sZ,[],[]) ⟨afz _,OS.nil,by simp,EA.nil⟩ kE.c.c.c.c.c.c.c bk.eC ?_
 rintro⟨m,vo,Es,To⟩ ⟨hm,W,b5,V⟩
 simp only at hm W b5 V⊢
 refine .sr<|.q .lss<|.zs<|.cond rfl (λQ=>?_) λQ=>?_
 have a5:m<r.nodes.length:=cg Q
 obtain⟨n,a7⟩:=bQ a5
 obtain⟨I,a2⟩:∃b,(nB r.nodes)[m]? =some b:=⟨_,aZ (by omega)⟩
 have a4:g m=fx A j0 s.name r I n:=by
  rw[<-hg]
  simp only[a7,af7]
  rw[afV,a2]
  rfl
 have d0:List.range' 0 (m+1)=List.range' 0 m++[m]:=by rw[List.range'_1_concat];simp
 refine .kn<|.seq<|.block<|.sr<|.mo rfl ?_
 refine .bC m Y a7 (λe5=>?_)
 refine .q (.aM rfl) ?_
 refine .bX (λb4=>?_)
 refine .ag rfl<|.bN rfl rfl<|.z<|.mo rfl<|.q (.aM rfl)<|.q (.aM rfl)<|.cX ((a6 n).weaken cM) (λu T4 d3=>?_)
 obtain⟨w4,S,ok,rfl,a1,e1,a⟩:=d3
 refine .mo rfl<|.q .extract<|.q .extract<|.ag rfl<|.ag rfl<|.zs<|.sr<|.mo rfl<|.q .not<|.zn<|.cond rfl (λU=>?_) λU=>?_
 refine .sr<|.ag rfl<|.az rfl<|.ret (aJ (bw (aJ (cG (bw (aJ (aY _ (.two (.tmp rfl) (.tmp rfl)) bk.kk ?_)))))))
 ·refine⟨[],rfl,_,[],false,rfl,OS.nil,by simp,?_⟩
  have D:ok=false:=by simpa using U
  have B:targets A s.name r.types n=none:=by
   cases B:targets A s.name r.types n with
   |none=>rfl
   |some C=>rw[B]at a;rw[a.1]at D;cases D
  rw[uU (x:=m) (by rw[List.mem_range'_1];omega) (by rw[a4];unfold fx;rw[B];rfl)]
  rfl
 have K:ok=true:=by simpa using U
 subst K
 obtain⟨C,d2,b7,c0⟩:∃C,targets A s.name r.types n=some C/\S.map c.ix=C/\∀q∈S,c.valid q:=by
  cases B:targets A s.name r.types n with
  |none=>rw[B]at a;cases a
  |some C=>rw[B]at a;exact⟨C,rfl,a.2.1,a.2.2⟩
 refine .kn<|.sr<|.mo rfl<|.q (.dG a1)<|.mo rfl<|.zn<|.block<|.cy [(0,_),(3,_),(11,_),(13,_),(46,_),(47,_),(48,_),(62,_),(63,_)] (X:=Nat×Value×aw) (λy=>y.1<=S.length/\OS 325 5 jT y.2.1 (Es++(S.take y.1).map λq=>((p,q,I):jZ)) y.2.2) (λy E=>(64,iN y.1)::(12,y.2.1)::E) (λy G=>T4::bl b4 n.enc 199::y.2.2::G) (λy=>S.length-y.1) (0,vo,To) ⟨afz _,by simpa using W⟩ kE.c.c.c.c.c.c.c.c.c.c.c rH ?_
 rintro⟨q,v3,T3⟩ ⟨c8,J⟩
 simp only at c8 J⊢
 refine .sr<|.q .lss<|.zs<|.cond rfl (λi=>?_) λi=>?_
 have b0:q<S.length:=cg i
 obtain⟨d8,a8⟩:=bQ b0
 refine .kn<|.seq<|.block<|.sr ?_
 refine .aK q a1 a8 (λe6=>?_)
 refine .q (.aM rfl) ?_
 refine .bX (λd9=>?_)
 refine .bN rfl rfl<|.zn<|.cY [9] mixed<|.tO 0 rfl .move<|.tO 1 rfl (.aM rfl)<|.tO 2 rfl (.aM rfl)<|.tO 3 rfl .move<|.tO 4 rfl .move ?_
 refine RA.aK 5 rfl m d4 a2 rfl rfl rfl (by kernel_rfl) (λe7=>?_)
 refine .tO 6 rfl (.ca rfl)<|.tO 7 rfl .cL<|.sT 8 rfl ?_
 refine .dN (λe0=>?_)
 refine .nil<|Next.sub<|.sT 9 rfl<|.append J (RS.lits (xs:=[((p,d8,I):jZ)]) rfl (by simp[jT]) (by simp[jT,aE])) (by simp only[afU,afC,afI,afE];omega) (λv1 T1 d5=>?_)
 refine .nil<|Next.mod rfl<|.tK 10 rfl .assign<|RA.nil (by kernel_rfl)<|aS<|au<|.region<|.ia (q+1) .add<|.mo rfl<|.nil ?_
 ·exact bd (q+1,v1,T1) ⟨b0,by simp only;rw[dS a8,afD, <-afW];exact d5⟩ (by simp only;omega) kE.c.c.c.c.c.c.c.c.c.c.c (aN [2,2,2,2,2,2,2])
 rw[dB (il i)]at J
 refine .exit<|bo<|bq<|bp<|aS<|au<|.region<|.ia (m+1) .add<|.mo rfl<|.nil ?_
 ·exact bd (m+1,v3,Es++S.map (λq=>((p,q,I):jZ)),T3) ⟨a5,J,by simp only[afU,afC];omega,by
   simp only
   rw[d0,qQ]
   refine V.ou ?_
   rw[cat,a4]
   unfold fx
   rw[d2]
   simp only[cat,Option.map_some,af7,afN]
   refine⟨rfl,?_,λe he=>?_⟩
   ·rw[<-b7,List.map_map,List.map_map]
    congr 1
    funext q
    simp only[Function.comp_def,bL.ed,c3]
   ·obtain⟨q,hq,rfl⟩:=List.mem_map.1 he
    exact⟨d6,c0 q hq⟩⟩ (by simp only;omega) kE.c.c.c.c.c.c.c (aN [2,2,2,2,2])
 have c5:m=r.nodes.length:=by have:=bA Q;omega
 refine .exit<|bo<|bq<|bp<|au<|.sr<|.mo rfl<|.ag rfl<|.az rfl<|.ret (aY _ (.two (.tmp rfl) (.tmp rfl)) (.one [0] _) ?_)
 ·refine⟨To,by simp[take],vo,Es,true,rfl,W,by omega,?_⟩
  rw[<-c5]
  exact V
theorem zB{c:bL}(h:sy c.fQ):c.rb:=λs b r a=>h (s.name,r) (agf.2 ⟨s,b,List.mem_map.2 ⟨r,a,rfl⟩⟩)
theorem Sa{R:ay}{xb:Nat}{vm:Value}{c:bL}(h:IX R xb vm c)(h8:c.rb)(t:c.ik):
  Spec prog 122 [pT xb] R [] λu H'=>∃T,H'=[T]/\∃w Es ok,u=.tuple [w,.bool ok].toArray/\OS 325 5 jT w Es T/\Es.length<=131072/\EA c ok Es c.plain.ml:=by
 have b3:=λp s r a J=>EB h h8 p s r a J
 have b5:=h
 have c0:=looked c
 have pc:=h.pc
 have Y:=h.ci.ss
 have W:=h.ci.sc
 have d3:=Y.le
 have d2:=W.le
 have b2:=h.ci.all
 have b0:=pE c.plain
 have d6:=t.fQ
 have b9:c.plain.all.length=c.fQ.length:=by rw[<-oO,afC]
 have c5:c.plain.bj.length=c.bj.length:=by unfold bL.plain;simp
 have c3:∀(i:Nat) (s:cm),c.bj[i]? =some s->c.plain.bj[i]? =some s.plain:=λi s a=>oT a
 have c6:=λ(p:gu) (s:cm) (r:cj)=>oP (c:=c) (p:=p) (s:=s) (r:=r)
 have U:c.plain.ml=if uk c.plain then cat (λp:Nat×(ByteArray×Rl)=>lp c.plain.all p.1 p.2.1 p.2.2) (kh 0 c.plain.all)else none:=rfl
 have a8:uk c.plain=c.scopes.all λs:Sc=>(bW c.plain.all ⟨s.kl,s.rel⟩).isSome:=rfl
 have b7:∀i k,c.ix (i,k)=cK c.plain.bj i+k:=λ_ _=>rfl
 generalize hA:c.plain.all=A at *
 generalize S:cK c.plain.bj=of at *
 generalize hg:(λp:Nat×(ByteArray×Rl)=>lp A p.1 p.2.1 p.2.2)=g at *
 have c1:of 0=0:=by rw[<-S];cases c.plain.bj<;>rfl
 refine Spec.body func122 rfl results122 ntmps122 rfl<|.sr<|.ag rfl<|.ag rfl<|.z<|.ag rfl<|.zs<|.sr<|.mo rfl<|.nc rfl<|.fa rfl<|.fa rfl<|.lo rfl<|.q (.bI Y)<|.mo rfl<|.zn<|.block<|.cy [(0,_),(18,_),(19,_)] (X:=Nat×Value×List jZ×aw) (λy=>y.1<=c.bj.length/\OS 325 5 jT y.2.1 y.2.2.1 y.2.2.2/\y.2.2.1.length<=512*of y.1/\EA c true y.2.2.1 (cat g (kh 0 (A.take (of y.1))))) (λy E=>(20,iN y.1)::(4,y.2.1)::E) (λy G=>y.2.2.2::G) (λy=>c.bj.length-y.1) (0,sZ,[],[]) ⟨afz _,OS.nil,by simp,by simp only;rw[c1];exact EA.nil⟩ kE.c.c.c.c.c bk.eC ?_
 rintro⟨i,K,Es,F⟩ ⟨hi,n,m,f⟩
 simp only at hi n m f⊢
 refine .sr<|.q .lss<|.zs<|.cond rfl (λL=>?_) λL=>?_
 have a3:i<c.bj.length:=cg L
 obtain⟨⟨e,v,d⟩,a⟩:=bQ a3
 have a9:=b2 _ (ba a)
 have a7:RS R 3 cj.enc v d:=a9.rs
 have d4:=a7.le
 have d7:cB (cm.enc ⟨e,v,d⟩):=⟨a9.cV⟩
 have a6:=c3 i _ a
 have a5:=oR a6
 have a4:=tF a6
 rw[S,show(cm.plain ⟨e,v,d⟩).bR.length=d.length by simp[cm.plain]]at a5 a4
 rw[b0,b9]at a4
 refine .kn<|.seq<|.block<|.sr<|.mo rfl ?_
 refine .bC i Y a (λd8=>?_)
 refine .q (.aM rfl) ?_
 refine .bX (λb6=>?_)
 refine .ag rfl<|.bN rfl rfl<|.z<|.fa rfl<|.lo rfl<|.q (.bI a7)<|.mo rfl<|.zn<|.block<|.cy [(0,_),(5,_),(18,_),(19,_),(20,_),(27,_)] (X:=Nat×Value×List jZ×aw) (λy=>y.1<=d.length/\OS 325 5 jT y.2.1 y.2.2.1 y.2.2.2/\y.2.2.1.length<=512*(of i+y.1)/\EA c true y.2.2.1 (cat g (kh 0 (A.take (of i+y.1))))) (λy E=>(28,iN y.1)::(4,y.2.1)::E) (λy G=>bl b6 (cm.enc ⟨e,v,d⟩) 164::y.2.2.2::G) (λy=>d.length-y.1) (0,K,Es,F) ⟨afz _,n,m,f⟩ kE.c.c.c.c.c.c.c.c rH ?_
 rintro⟨k,K,Es,F⟩ ⟨hk,n,m,f⟩
 simp only at hk n m f⊢
 refine .sr<|.q .lss<|.zs<|.cond rfl (λM=>?_) λM=>?_
 have a2:k<d.length:=cg M
 obtain⟨r,J⟩:=bQ a2
 have Z:=b3 (i,k) _ r a J
 have H:=c6 (i,k) _ r a J
 rw[b7]at Z H
 have a0:g (of i+k,(e,r.r))=lp A (of i+k) e r.r:=by rw[<-hg]
 have d5:of i+k<A.length:=(afT.1 H).1
 refine .kn<|.seq<|.block<|.sr<|.mo rfl<|.ag rfl<|.z<|.mo rfl<|.mo rfl<|.mo rfl<|.q .cL<|.cX (Z.weaken cM) (λu T4 c7=>?_)
 obtain⟨w4,Fs,ok,rfl,b1,d1,B⟩:=c7
 refine .mo rfl<|.q .extract<|.q .extract<|.ag rfl<|.ag rfl<|.zs<|.sr<|.mo rfl<|.q .not<|.zn<|.cond rfl (λN=>?_) λN=>?_
 refine .sr<|.ag rfl<|.az rfl<|.ret (aJ (bw (aJ (cG (bw (bw (aJ (cG (bw (aJ (aY _ (.two (.tmp rfl) (.tmp rfl)) bk.kk ?_)))))))))))
 ·refine⟨[],rfl,_,[],false,rfl,OS.nil,by simp,?_⟩
  have D:ok=false:=by simpa using N
  rw[U]
  split
  ·rw[uU (x:=(of i+k,(e,r.r))) (by have:=sQ (i:=0) H;rwa [Nat.zero_add]at this) (by
    rw[a0]
    cases hrc:lp A (of i+k) e r.r with
    |none=>rfl
    |some o=>rw[show lp A (of i+k) (⟨e,v,d⟩:cm).name r.r=some o from hrc]at B;rw[B.1]at D;cases D)]
   rfl
  ·rfl
 have I:ok=true:=by simpa using N
 subst I
 refine .kn<|.region<|.mo rfl<|.mo rfl<|.append n b1.rx (by omega) (λv1 T1 c8=>?_)
 refine .ag rfl<|.nil<|aS<|au<|.region<|.ia (k+1) .add<|.mo rfl<|.nil ?_
 ·exact bd (k+1,v1,Es++Fs,T1) ⟨a2,c8,by simp only[afU];omega,by
   simp only
   rw[show of i+(k+1)=of i+k+1 by omega,u7 H,qQ]
   refine f.ou ?_
   rw[cat,Nat.zero_add,show g (of i+k,(⟨e,v,d⟩:cm).name,r.r)=lp A (of i+k) e r.r from a0]
   revert B
   generalize lp A (of i+k) (⟨e,v,d⟩:cm).name r.r=o
   intro B
   cases o with
   |none=>exact B
   |some o=>simpa[cat]using B⟩ (by simp only;omega) kE.c.c.c.c.c.c.c.c (aN [1,1,1])
 have b8:k=d.length:=by have:=bA M;omega
 rw[b8, <-a5]at m f
 refine .exit<|bo<|bq<|bp<|aS<|au<|.region<|.ia (i+1) .add<|.mo rfl<|.nil ?_
 ·exact bd (i+1,K,Es,F) ⟨a3,n,m,f⟩ (by simp only;omega) kE.c.c.c.c.c (aN [1])
 have b4:i=c.bj.length:=by have:=bA L;omega
 have c2:of i=A.length:=by rw[b4, <-c5, <-S, <-b0];rfl
 rw[c2,afJ]at f
 refine .exit<|bo<|bq<|bp<|au<|.seq<|.sr<|.mo rfl<|.nc rfl<|.fa rfl<|.fa rfl<|.lo rfl<|.q (.bI W)<|.mo rfl<|.zn<|.block<|.cy [(0,_),(4,_),(50,_),(51,_)] (X:=Nat) (λj=>j<=c.scopes.length/\(c.scopes.take j).all (λs:Sc=>(bW A ⟨s.kl,s.rel⟩).isSome)=true) (λj E=>(52,iN j)::E) (λ_ G=>G) (λj=>c.scopes.length-j) 0 ⟨afz _,rfl⟩ kE.c.c.c.c.c rH ?_
 rintro j ⟨hj,V⟩
 refine .sr<|.q .lss<|.zs<|.cond rfl (λO=>?_) λO=>?_
 have a1:j<c.scopes.length:=cg O
 obtain⟨s,a⟩:=bQ a1
 obtain⟨ps,ok,c4,C⟩:=c0 (⟨s.kl,s.rel⟩:Ty)
 unfold oh at C
 rw[hA]at C
 refine .kn<|.seq<|.block<|.sr ?_
 refine .bC j W a (λd9=>?_)
 refine .q (.aM rfl) ?_
 refine .bX (λc9=>?_)
 refine .bN rfl rfl<|.zs<|.cY [15] mixed<|.tO 0 rfl .move<|.tO 1 rfl (.nilCheck rfl)<|.tO 2 rfl (.fieldAddr rfl)<|.tO 3 rfl (.ca rfl)<|.tO 4 rfl (.fieldAddr rfl)<|.tO 5 rfl (.fieldAddr rfl)<|.tO 6 rfl (.ca rfl)<|.tO 7 rfl (.fieldAddr rfl)<|.tO 8 rfl (.ca rfl)<|.tO 9 rfl .cL<|.gn 10 rfl (.cast (.pY (b5.rm.qb λb o hb=>.inl hb) rfl rfl) (afH (λl:List Value=>Value.tuple l.toArray) c4)) (by kernel_rfl)<|.tO 11 rfl .move<|.tO 12 rfl .extract<|.tK 13 rfl .extract<|.sT 14 rfl ?_
 refine .bX (λd0=>?_)
 refine .nil<|Next.sub<|.sT 15 rfl<|.bN rfl rfl<|.nil<|Next.mod rfl<|.tK 16 rfl .assign<|RA.nil (by kernel_rfl)<|au<|.sr<|.mo rfl<|.q .not<|.zn<|.cond rfl (λQ=>?_) λQ=>?_
 refine .sr<|.ag rfl<|.az rfl<|.ret (bw (aJ (cG (bw (aJ (aY _ (.two (.tmp rfl) (.tmp rfl)) bk.kk ?_))))))
 ·refine⟨[],rfl,_,[],false,rfl,OS.nil,by simp,?_⟩
  have D:ok=false:=by simpa using Q
  have hj:bW A ⟨s.kl,s.rel⟩=none:=by
   cases t:bW A ⟨s.kl,s.rel⟩with
   |none=>rfl
   |some j=>rw[t]at C;rw[C.1]at D;cases D
  rw[U,a8,lK a (by rw[hj];rfl)]
  rfl
 have t:(bW A ⟨s.kl,s.rel⟩).isSome=true:=by
  have I:ok=true:=by simpa using Q
  cases t:bW A ⟨s.kl,s.rel⟩with
  |none=>rw[t]at C;rw[C]at I;cases I
  |some j=>rfl
 refine .skip<|aS<|au<|.region<|.ia (j+1) .add<|.mo rfl<|.nil ?_
 ·exact bd (j+1) ⟨a1,nC a V t⟩ (by omega) kE.c.c.c.c.c (aN [2])
 refine .exit<|bo<|bq<|bp<|au<|.sr<|.mo rfl<|.ag rfl<|.az rfl<|.ret (aY _ (.two (.tmp rfl) (.tmp rfl)) (.one [0] _) ?_)
 ·refine⟨F,by simp[take],K,Es,true,rfl,n,afM m (Nat.mul_le_mul_left 512 (show of i<=256 by omega)),?_⟩
  rw[dB (il O)]at V
  rw[U,a8,V,afB rfl]
  exact f
abbrev iU:=fD×aw
def pJ(w:Value)(LL:List iU)(To:aw):Prop:=OS 182 1 eg w (LL.map (·.1)) To/\∀q∈LL,OS 3 1 da q.1.1 q.1.2 q.2
def oo(w:Value)(LL:List iU)(T:aw):Prop:=∃To,T=To++LL.flatMap (·.2)/\pJ w LL To
theorem AH{α:Type}{l:List α}{i:Nat}{x:α}(h:l[i]? =some x):∃A B,l=A++x::B/\A.length=i/\∀y,l.set i y=A++y::B:=by
 refine⟨l.take i,l.drop (i+1),?_,?_,λy=>?_⟩
 ·have:=yR h
  rw[<-this,List.take_append_drop]
 ·rw[afI];have:=(afT.1 h).1;omega
 ·exact List.set_eq_take_append_cons_drop.trans (afB (afT.1 h).1)
theorem Ru(w:Value)(d:List iU)(T:aw)(h:oo w d T)(e:jZ)(a b:Nat)(t I:iU)(s:d[e.1.1]? =some t)(A:d[e.2.1.1]? =some I)(r:t.1.2[e.1.2]? =some a)(i:I.1.2[e.2.1.2]? =some b)(a1:b<=1000000000)(R:ay):
  Spec prog 182 [w,.agg (jT e).toArray] R [T] λu H'=>∃T',H'=[T']/\((u=.bool false/\b+(if e.2.2 then 1 else 0)<=a/\oo w d T')\/(u=.bool true/\a<b+(if e.2.2 then 1 else 0)/\∃Tn,oo w (d.set e.1.1 ((t.1.1,t.1.2.set e.1.2 (b+(if e.2.2 then 1 else 0))),Tn)) T')):=by
 obtain⟨f,rfl,g,m⟩:=h
 obtain⟨⟨k,l⟩,⟨v,B⟩,j⟩:=e
 obtain⟨⟨J,S⟩,V⟩:=t
 obtain⟨⟨K,U⟩,Z⟩:=I
 simp only at s A r i⊢
 have n:=m _ (ba s)
 have F:=m _ (ba A)
 simp only at n F
 have G:(d.map (·.1))[k]? =some (J,S):=by rw[afO,s];rfl
 have Q:(d.map (·.1))[v]? =some (K,U):=by rw[afO,A];rfl
 have O:∀(q:iU),q∈d->∀p∈q.2,p∈d.flatMap (·.2):=λq hq p Y=>agf.2 ⟨q,hq,Y⟩
 obtain⟨L,M,y,a0,H⟩:=AH s
 have a2:RC R [f,d.flatMap (·.2)] (ez J (l*1)) (da a):=⟨(n.pc r).mono λb o i=>.inr (by have:=O _ (ba s) _ i;simp[this])⟩
 have a3:RC R [f,d.flatMap (·.2)] (ez K (B*1)) (da b):=⟨(F.pc i).mono λb o i=>.inr (by have:=O _ (ba A) _ i;simp[this])⟩
 have a4:PS f (ez w (k*1)) (eg (J,S)):=⟨g.pc G⟩
 have a5:PS f (ez w (v*1)) (eg (K,U)):=⟨g.pc Q⟩
 refine Spec.gQ (H':=[f,d.flatMap (·.2)]) (by simp)<|Spec.body func182 rfl results182 ntmps182 rfl<|.sr ?_
 refine .cb rfl (λN=>?_)
 refine .ag rfl<|.zs<|.fS mixed (by kernel_rfl)<|.mo rfl<|.fa rfl<|.fa rfl<|.lo rfl<|.q (.bC v g.sg Q rfl rfl rfl)<|.lo rfl<|.fa rfl<|.fa rfl<|.lo rfl<|.q (.bC B F.sg i rfl rfl rfl)<|.lo rfl<|.ag rfl<|.zs<|.sr<|.fa rfl<|.lo rfl<|.zn ?_
 refine bz.cO [(0,_),(3,_)] kE.c.c (X:=Unit) (λ_=>True) (λ_ E=>(5,.int .i64 ((b+(if j then 1 else 0):Nat):Int))::E) (λ_=>[bl N (jT ((k,l),(v,B),j)) 325,f,d.flatMap (·.2)]) ?_ ?_
 refine .cond rfl (λC=>?_) λC=>?_
 refine .region<|.mo rfl<|.ia (b+1) .add<|.ag rfl<|.nil ?_
 ·exact aF () afG (kE.c.c.kW rfl (by have h:j=_:=C;simp[h])) rH
 refine .skip ?_
 ·exact aF () afG (kE.c.c.kW rfl (by have h:j=_:=C;simp[h])) rH
 intro x hx
 refine au<|.seq<|.seq<|.fS mixed (by kernel_rfl)<|.mo rfl<|.fa rfl<|.fa rfl<|.lo rfl<|.q (.bC k g.sg G rfl rfl rfl)<|.lo rfl<|.fa rfl<|.fa rfl<|.lo rfl<|.q (.bC l n.sg r rfl rfl rfl)<|.lo rfl<|.mo rfl<|.q .geq<|.zn<|.cond rfl (λD=>?_) λD=>?_
 refine .sr<|.az rfl<|.ret (aJ (aY _ (.one (.tmp rfl)) (.one [1,1] _) ?_))
 ·refine⟨_,rfl,.inl ⟨rfl,by have:=bT D;omega,f,by simp[take,bJ],g,m⟩⟩
 refine .kn<|.seq<|.dm 11 mixed (by kernel_rfl) ?_
 conv=>arg 6;dsimp only[List.take]
 refine .mo rfl<|.fa rfl<|.fa rfl<|.lo rfl<|.q (.bC k g.sg G rfl rfl rfl)<|.lo rfl<|.fa rfl<|.fa rfl<|.lo rfl<|.mo rfl<|.q (.bC l n.sg r rfl rfl rfl)<|.nil ?_
 refine .sub (H':=[bl N (jT ((k,l),(v,B),j)) 325,f,V,L.flatMap (·.2)++M.flatMap (·.2)]) (bk.eK (by
  rw[y]
  simp only[List.flatMap_append,List.flatMap_cons,afX,afY,afN]
  refine .append_left _ (.append_left _ ?_)
  rw[<-afW, <-afW]
  exact List.perm_append_comm.append_right _)) ?_
 refine .du l n r (b+(if j then 1 else 0)) (λTn W=>?_)
 refine .z<|.az rfl<|.ret (aY _ (.one (.tmp rfl)) ((aN [1,1,1]).trans (bk.eK (H':=[f++(L.flatMap (·.2)++(Tn++M.flatMap (·.2)))]) (by simp only[take,bJ,af5,af8,afX,afY,afN];refine .append_left _ ?_;rw[<-afW, <-afW];exact List.perm_append_comm.append_right _))) ?_)
 ·refine⟨_,rfl,.inr ⟨rfl,by have:=bA D;omega,Tn,f,?_,?_,λq hq=>?_⟩⟩
  ·rw[H];simp
  ·refine g.congr ?_
   rw[H,y]
   simp[eg]
  ·rw[H]at hq
   rcases afL.1 hq with hq|hq
   ·exact m q (by rw[y];exact List.mem_append_left _ hq)
   ·rcases afQ.1 hq with rfl|hq
    ·exact W
    ·exact m q (by rw[y];exact agh _ (List.mem_cons_of_mem _ hq))
theorem w8{c:bL}{X:List Nat}{p:gu}(g:c.valid p)(i:X.length=total c.plain.bj):∃s:Sp,c.plain.bj[p.1]? =some s/\p.2<s.bR.length/\(rows c.plain.bj X)[p.1]? =some ((X.drop (cK c.plain.bj p.1)).take s.bR.length)/\c.ix p<X.length/\
  ((X.drop (cK c.plain.bj p.1)).take s.bR.length)[p.2]? =some (X.getD (c.ix p) 0):=by
 obtain⟨s,r,f,e⟩:=g
 have a:=oT f
 have d:=(afT.1 (Bw e)).1
 have h:=tF a
 have b:c.ix p<X.length:=by unfold bL.ix;omega
 refine⟨s.plain,a,d,oV a,b,?_⟩
 rw[List.getElem?_take,afB d,List.getElem?_drop,afV]
 unfold bL.ix at b⊢
 rw[aZ b]
 rfl
theorem Rs{c:bL}(w:Value)(a:List iU)(T:aw)(h:oo w a T)(X:List Nat)(j:X.length=total c.plain.bj)(k:a.map (·.1.2)=rows c.plain.bj X)(e:jZ)(s:c.valid e.1/\c.valid e.2.1)(D:∀x∈X,x<=1000000000)(R:ay):
  Spec prog 182 [w,.agg (jT e).toArray] R [T] λu H'=>∃T',H'=[T']/\∃ch LL',u=.bool ch/\ch=decide (gz X (c.ed e)≠X)/\oo w LL' T'/\LL'.map (·.1.2)=rows c.plain.bj (gz X (c.ed e)):=by
 obtain⟨Q,t,v,y,z,A⟩:=w8 s.1 j
 obtain⟨S,U,V,K,L,M⟩:=w8 s.2 j
 have p:∀{i:Nat} {o:List Nat},(rows c.plain.bj X)[i]? =some o->∃q:iU,a[i]? =some q/\q.1.2=o:=λ{i o} b=>by
  rw[<-k,afO]at b
  cases hq:a[i]? with
  |none=>rw[hq]at b;cases b
  |some q=>rw[hq]at b;exact⟨q,rfl,by simpa using b⟩
 obtain⟨I,F,r⟩:=p y
 obtain⟨J,G,H⟩:=p K
 have C:X.getD (c.ix e.2.1) 0<=1000000000:=D _ (by rw[afV,aZ L];exact List.getElem_mem _)
 have O:X.getD (c.ix e.1) 0=X.getD (c.ed e).f 0:=rfl
 refine(Ru w a T h e (X.getD (c.ix e.1) 0) (X.getD (c.ix e.2.1) 0) I J F G (by rw[r];exact A) (by rw[H];exact M) C R).mono λu H' m=>?_
 obtain⟨T',rfl,m⟩:=m
 refine⟨T',rfl,?_⟩
 rcases m with⟨rfl,B,g⟩|⟨rfl,B,N,g⟩
 ·have d:gz X (c.ed e)=X:=afA (by show ¬X.getD (c.ix e.1) 0<X.getD (c.ix e.2.1) 0+_;unfold Ed.w bL.ed;simp only;omega)
  refine⟨false,a,rfl,?_,g,?_⟩
  ·rw[d];simp
  ·rw[d];exact k
 ·have d:gz X (c.ed e)=X.set (c.ix e.1) (X.getD (c.ix e.2.1) 0+if e.2.2 then 1 else 0):=afB (by show X.getD (c.ix e.1) 0<X.getD (c.ix e.2.1) 0+_;unfold Ed.w bL.ed;simp only;omega)
  refine⟨true,_,rfl,?_,g,?_⟩
  ·rw[d,eq_comm,decide_eq_true_iff]
   intro E
   have:=afH (λl:List Nat=>l.getD (c.ix e.1) 0) E
   rw[oz _ _ _ _ z,afB rfl]at this
   omega
  ·rw[d]
   have:=BU (n:=X) (x:=X.getD (c.ix e.2.1) 0+if e.2.2 then 1 else 0) t v j
   unfold bL.ix at this⊢
   rw[this,List.map_set,k,r]
theorem Rt{A X:List Nat}{e:Ed}(d:∀i,A.getD i 0<=X.getD i 0)(l:X.length=A.length)(k:e.f<X.length):gz X e≠A↔(X≠A\/gz X e≠X):=by
 have c:=λi=>tV X e k i
 constructor
 ·intro h
  by_cases g:X=A
  ·exact .inr (by rw[g]at h⊢;exact h)
  ·exact .inl g
 ·rintro(h|h) b
  ·refine h (oF l λi _=>?_)
   have j:=d i
   have a:=c i
   rw[b]at a
   omega
  ·refine h (oF (by rw[qj]) λi _=>?_)
   have j:=d i
   have a:=c i
   rw[b]at a⊢
   omega
theorem Rq{X:List Nat}{e:Ed}{b:Nat}(h:∀x∈X,x<=b):∀x∈gz X e,x<=b+1:=by
 intro x hx
 unfold gz at hx
 split at hx
 ·rcases List.mem_or_eq_of_mem_set hx with hx|rfl
  ·have:=h x hx;omega
  ·have a:X.getD e.t 0<=b:=by
    rw[afV]
    cases hq:X[e.t]? with
    |none=>exact afz _
    |some q=>exact h q (ba hq)
   have c:e.w<=1:=by unfold Ed.w;split<;>omega
   omega
 ·have:=h x hx;omega
theorem SB{R:ay}{xb:Nat}{vm:Value}{c:bL}(h:IX R xb vm c)(hf:c.ik)(ve:Value)(a:List jZ)(b7:RS R 5 jT ve a)(c0:a.length<=131072)(N:∀e∈a,c.valid e.1/\c.valid e.2.1):
  Spec prog 123 [pT xb,ve] R [] λu H'=>∃T,H'=[T]/\match settle (a.map c.ed) (total c.plain.bj+1) (List.replicate (total c.plain.bj) 0)with
   |none=>u=.tuple [sZ,.bool false].toArray
   |some A=>∃w ll,u=.tuple [w,.bool true].toArray/\NN (sg T) w ll/\ll.map (·.2)=rows c.plain.bj A:=by
 have d0:=h
 have pc:=h.pc
 have L:=h.ci.ss
 have e5:=L.le
 have e6:=hf.1
 have c6:=h.ci.all
 have f2:=pE c.plain
 have e4:c.plain.all.length=c.fQ.length:=by rw[<-oO,afC]
 have e9:=hf.fQ
 have f1:c.plain.bj.length=c.bj.length:=by unfold bL.plain;simp
 have d6:∀(i:Nat) (s:cm),c.bj[i]? =some s->c.plain.bj[i]? =some s.plain:=λi s t=>oT t
 have e0:=BV c.plain.bj
 have d8:=λw O T hh X v hr e N hb R=>Rs (c:=c) w O T hh X v hr e N hb R
 have e1:=xp c.plain.bj 0
 have c8:∀e∈a,(c.ed e).f<total c.plain.bj:=λe he=>by
  obtain⟨s,_,F,_,r,_⟩:=w8 (X:=List.replicate (total c.plain.bj) 0) (N e he).1 (by simp)
  rw[age]at r
  exact r
 generalize f3:total c.plain.bj=tot at *
 refine Spec.body func123 rfl results123 ntmps123 rfl<|.sr<|.ag rfl<|.ag rfl<|.z<|.mo rfl<|.nc rfl<|.fa rfl<|.fa rfl<|.lo rfl<|.q (.bI L) ?_
 refine .makeSlice (enc:=eg) c.bj.length ((sZ,[]):fD) rfl rfl (by decide) (by simp[eg,aE]) rfl rfl (by omega) (by omega) (λQ T6 c3=>?_)
 refine .ag rfl<|.zs<|.sr<|.mo rfl<|.nc rfl<|.fa rfl<|.fa rfl<|.lo rfl<|.q (.bI L)<|.mo rfl<|.zn<|.block<|.cy [(0,_),(1,_),(6,_),(23,_),(24,_)] (X:=Nat×List iU×aw) (λy=>y.1<=c.bj.length/\y.2.1.length=y.1/\OS 182 1 eg (.slice (some ⟨Q,0,none⟩) c.bj.length c.bj.length) (y.2.1.map (·.1)++List.replicate (c.bj.length-y.1) ((sZ,[]):fD)) y.2.2/\(∀q∈y.2.1,OS 3 1 da q.1.1 q.1.2 q.2)/\y.2.1.map (·.1.2)=((c.plain.bj.take y.1).map λs=>List.replicate s.bR.length 0)) (λy E=>(25,iN y.1)::E) (λy G=>y.2.2::y.2.1.flatMap (·.2)::G) (λy=>c.bj.length-y.1) (0,[],T6) (G:=[]) ⟨afz _,rfl,by simp only[afZ,afK,Nat.sub_zero];exact c3,λq hq=>(by cases hq),by simp⟩ kE.c.c.c.c.c.c ((aN [0]).trans (bk.eK (by simp[take]))) ?_
 rintro⟨i,D,To⟩ ⟨hi,Z,l,hI,Y⟩
 simp only at hi Z l hI Y⊢
 refine .sr<|.q .lss<|.zs<|.cond rfl (λS=>?_) λS=>?_
 have b1:i<c.bj.length:=cg S
 obtain⟨⟨sn,sv,d⟩,t⟩:=bQ b1
 have b5:=c6 _ (ba t)
 have b4:RS R 3 cj.enc sv d:=b5.rs
 have e7:=b4.le
 have f4:cB (cm.enc ⟨sn,sv,d⟩):=⟨b5.cV⟩
 have f0:d.length<=16:=hf.2 _ (ba t)
 have d5:=d6 i _ t
 obtain⟨k,hk⟩:∃k,c.bj.length-i=k+1:=⟨c.bj.length-i-1,by omega⟩
 have d2:c.bj.length-(i+1)=k:=by omega
 rw[hk]at l
 have a3:(D.map (·.1)).length=i:=by rw[afC,Z]
 obtain⟨z,hz⟩:∃z,(D.map (·.1)++List.replicate (k+1) ((sZ,[]):fD))[i]? =some z:=⟨_,aZ (by rw[afU,a3,age];omega)⟩
 refine .kn<|.seq<|.block<|.sr<|.mo rfl ?_
 refine .bC i L t (λf5=>?_)
 refine .q (.aM rfl) ?_
 refine .bX (λb8=>?_)
 refine .ag rfl<|.bN rfl rfl<|.zn<|.region<|.mo rfl<|.mo rfl<|.fa rfl<|.lo rfl<|.q (.bI b4) ?_
 refine .makeSlice (enc:=da) d.length 0 rfl rfl (by decide) (by simp[da,aE]) rfl rfl (by omega) (by omega) (λbn Tn c4=>?_)
 refine .aK i l hz (λf6=>?_)
 refine .du i l hz ((.slice (some ⟨bn,0,none⟩) d.length d.length,List.replicate d.length 0):fD) (λC a4=>?_)
 rw[jX a3]at a4
 refine .nil<|aS<|au<|.region<|.ia (i+1) .add<|.mo rfl<|.nil ?_
 ·exact bd (i+1,D++[((.slice (some ⟨bn,0,none⟩) d.length d.length,List.replicate d.length 0),Tn)],C) ⟨b1,by simp[Z],by simp only;rw[d2,afD];exact a4,λq hq=>by
   rcases afL.1 hq with hq|hq
   ·exact hI q hq
   ·rw[afF]at hq;subst hq;exact c4,by simp only;rw[dS d5,afD,afD,Y];simp[cm.plain]⟩ (by simp only;omega) kE.c.c.c.c.c.c ((aN [2,2,0]).trans (bk.eK (by simp[take,bJ])))
 have c9:i=c.bj.length:=by have:=bA S;omega
 have b9:D.map (·.1.2)=rows c.plain.bj (List.replicate tot 0):=by
  rw[e0,Y,dB (by omega)]
 rw[c9,Nat.sub_self]at l
 simp only[List.replicate_zero,afN]at l
 refine .exit<|bo<|bq<|bp<|au<|.seq<|.sr<|.mo rfl<|.nc rfl<|.fa rfl<|.lo rfl<|.q (.Az (d0.rm.qb λb o hb=>.inl hb) rfl) ?_
 rw[e1]
 refine .ia (tot+1) .add<|.mo rfl<|.zn<|.block<|.cy [(1,_),(6,_),(43,_)] (X:=Nat×List Nat×List iU×aw) (λy=>y.1<=tot+1/\y.2.1.length=tot/\oo (.slice (some ⟨Q,0,none⟩) c.bj.length c.bj.length) y.2.2.1 y.2.2.2/\y.2.2.1.map (·.1.2)=rows c.plain.bj y.2.1/\(∀x∈y.2.1,x<=y.1*a.length)/\settle (a.map c.ed) (tot+1) (List.replicate tot 0)=settle (a.map c.ed) (tot+1-y.1) y.2.1) (λy E=>(44,iN y.1)::E) (λy _=>[y.2.2.2]) (λy=>tot+1-y.1) (0,List.replicate tot 0,D,To++(D.flatMap (·.2)++[])) (G:=[]) ⟨afz _,by simp,⟨To,by simp,l,hI⟩,b9,λx g=>by rw[List.eq_of_mem_replicate g];exact afz _,rfl⟩ kE.c.c.c.c (bk.one [0,0] _) ?_
 rintro⟨m,A,O,T⟩ ⟨hm,W,a5,b3,a7,M⟩
 simp only at hm W a5 b3 a7 M⊢
 refine .sr<|.q .lss<|.zs<|.cond rfl (λF=>?_) λF=>?_
 have d4:m<tot+1:=by have:=bT F;omega
 have e8:m*a.length<=256*131072:=Nat.mul_le_mul (by omega) c0
 refine .kn<|.seq<|.block<|.sr<|.ag rfl<|.zs<|.sr<|.mo rfl<|.q (.bI b7)<|.mo rfl<|.zn<|.block<|.cy [(1,_),(6,_),(43,_),(44,_),(46,_),(47,_)] (X:=Nat×List Nat×List iU×aw) (λy=>y.1<=a.length/\y.2.1=((a.take y.1).map c.ed).foldl gz A/\y.2.1.length=tot/\oo (.slice (some ⟨Q,0,none⟩) c.bj.length c.bj.length) y.2.2.1 y.2.2.2/\y.2.2.1.map (·.1.2)=rows c.plain.bj y.2.1/\(∀x∈y.2.1,x<=m*a.length+y.1)/\∀i,A.getD i 0<=y.2.1.getD i 0) (λy E=>(48,iN y.1)::(9,.bool (decide (y.2.1≠A)))::E) (λy _=>[y.2.2.2]) (λy=>a.length-y.1) (0,A,O,T) (G:=[]) ⟨afz _,rfl,W,a5,b3,λx g=>a7 x g,λi=>Nat.le_refl _⟩ ((kE.c.c.c.c.c.c.bV rfl (by simp)).cons rfl) rH ?_
 rintro⟨j,X,B,TX⟩ ⟨hj,v,n,H,K,J,a2⟩
 simp only at hj v n H K J a2⊢
 refine .sr<|.q .lss<|.zs<|.cond rfl (λU=>?_) λU=>?_
 have b0:j<a.length:=cg U
 obtain⟨e,a1⟩:=bQ b0
 have a9:=ba a1
 have d9:=d8 _ B TX H X n K e (N e a9) (λx g=>by have:=J x g;omega)
 have a8:=c8 e a9
 refine .kn<|.seq<|.block<|.sr ?_
 refine .bC j b7 a1 (λf7=>?_)
 refine .q (.aM rfl) ?_
 refine .bX (λe3=>?_)
 refine .bN rfl rfl<|.z<|.mo rfl<|.q (.aM rfl)<|.cA (d9 R) (λu C hu=>?_)
 obtain⟨ch,L1,rfl,c7,c5,d7⟩:=hu
 refine .zn ?_
 refine bz.cO [(1,_),(6,_),(43,_),(44,_),(46,_),(47,_),(48,_)] kE.c.c.c.c.c.c.c (X:=Unit) (λ_=>True) (λ_ E=>(9,.bool (decide (X≠A)||ch))::E) (λ_=>[C]) ?_ ?_
 refine .cond rfl (λr=>?_) λr=>?_
 refine .region<|.ag rfl<|.nil ?_
 ·exact aF () afG (kE.c.c.c.c.c.c.c.bV rfl (by simp[r])) (aN [1])
 refine .skip ?_
 ·exact aF () afG (kE.c.c.c.c.c.c.c.bV rfl (by simp[r])) (aN [1])
 intro x g
 refine aS<|au<|.region<|.ia (j+1) .add<|.mo rfl<|.nil ?_
 ·exact bd (j+1,gz X (c.ed e),L1,C) ⟨b0,by simp only;rw[dS a1,afD,List.foldl_append, <-v];rfl,by simp only;rw[qj,n],c5,d7,λy hy=>by have:=Rq J y hy;simp only;omega,λi=>afM (a2 i) (tV X _ (by rw[n];exact a8) i)⟩ (by simp only;omega) ((kE.c.c.c.c.c.c.bV rfl (by
   simp only
   rw[c7, <-Bool.decide_or]
   exact decide_eq_decide.2 (Rt a2 (by rw[n,W]) (by rw[n];exact a8)).symm)).cons rfl) rH
 have d1:j=a.length:=by have:=bA U;omega
 have a0:X=pass (a.map c.ed) A:=by rw[v,d1,afJ];rfl
 refine .exit<|bo<|bq<|bp<|au<|.sr<|.mo rfl<|.q .not<|.zn<|.cond rfl (λV=>?_) λV=>?_
 have I:X=A:=Decidable.not_not.1 (show ¬¬X=A by simpa using V)
 refine .sr<|.mo rfl<|.ag rfl<|.az rfl<|.ret (bw (aJ (cG (bw (aJ (aY _ (.two (.tmp rfl) (.tmp rfl)) (.one [0] _) ?_))))))
 ·refine⟨_,rfl,?_⟩
  rw[M,show tot+1-m=tot+1-(m+1)+1 by omega,settle,afB (by rw[<-a0];exact I)]
  obtain⟨e2,a6,c2,c1⟩:=H
  refine⟨_,B.map (·.1),rfl,⟨c2.rs λp hp=>?_,λq hq=>?_⟩,?_⟩
  ·show p∈_
   simp[take,a6,hp]
  ·obtain⟨q2,b2,rfl⟩:=List.mem_map.1 hq
   refine(c1 q2 b2).rs λp hp=>?_
   show p∈_
   have:p∈B.flatMap (·.2):=agf.2 ⟨q2,b2,hp⟩
   simp only[take,a6,af5,afX,afY,afN]
   exact agh _ this
  ·rw[List.map_map, <-I]
   exact K
 have I:X≠A:=by simpa using V
 refine .skip<|aS<|au<|.region<|.ia (m+1) .add<|.mo rfl<|.nil ?_
 ·exact bd (m+1,X,B,TX) ⟨d4,n,H,K,λx g=>by have h6:=J x g;simp only;rw[Nat.add_mul];omega,by
   simp only
   rw[M,show tot+1-m=tot+1-(m+1)+1 by omega,settle,afA (by rw[<-a0];exact I), <-a0]⟩ (by simp only;omega) kE.c.c.c.c rH
 refine .exit<|bo<|bq<|bp<|au<|.sr<|.ag rfl<|.az rfl<|.ret (aY _ (.two (.tmp rfl) (.tmp rfl)) (.one [0] _) ?_)
 ·refine⟨_,rfl,?_⟩
  have d3:m=tot+1:=by have:=bA F;omega
  rw[M,d3,Nat.sub_self,settle]
theorem Sx{c:bL}{k:Nat}{E:List Ed}(h:c.plain.all.length=k):settle E (k+1) (List.replicate k 0)=settle E (c.plain.all.length+1) (List.replicate c.plain.all.length 0):=by rw[h]
def SA(c:bL)(ok:Bool)(w:Value)(T:aw)(o:Option (List Nat)):Prop:=match o with
 |none=>ok=false
 |some A=>ok=true/\∃ll,NN (sg T) w ll/\ll.map (·.2)=rows c.plain.bj A
theorem Qt(c:bL)(R:ay)(h:c.is R):Spec prog 67 [.agg c.enc.toArray] R [] λu H'=>∃T,H'=[T]/\∃w ll,u=.tuple [w,.int .i64 (c.plain.numbers isWord dh).1].toArray/\NN (sg T) w ll/\ll.map (·.2)=(c.plain.numbers isWord dh).2:=by
 rw[<-Qs]
 have hR:=Rm c R h
 have X:=Qc c R h
 have a2:=sW (c:=c)
 have a:c.plain.tD isWord dh=if c.plain.right isWord dh=false then((4:Int),([]:List (List Nat)))else if ¬c.plain.dW then(10,[])else match c.plain.ml with|none=>(14,[])|some E=>match settle E (c.plain.all.length+1) (List.replicate c.plain.all.length 0)with|none=>(15,[])|some n=>(0,rows c.plain.bj n):=rfl
 have a1:=λ(R:ay) xb vm (H:IX R xb vm c) Q F=>Sa (R:=R) (xb:=xb) (vm:=vm) H Q F
 have a5:=λ(R:ay) xb vm (H:IX R xb vm c) F ve f a8 hl hv=>SB (R:=R) (xb:=xb) (vm:=vm) H F ve f a8 hl hv
 have a6:=pE c.plain
 generalize a9:c.plain.tD isWord dh=nn at *
 refine Spec.body func67 rfl results67 ntmps67 rfl<|.sr ?_
 refine .cb rfl (λb1=>?_)
 refine .ag rfl<|.ag rfl<|.zs<|.sr<|.q (.aM rfl)<|.aX (hR.weaken cM) (λu v=>?_)
 subst v
 refine .q .not<|.zn<|.cond rfl (λk=>?_) λk=>?_
 refine .sr<|.ag rfl<|.az rfl<|.ret (aJ (aY _ (.two (.tmp rfl) (.tmp rfl)) bk.kk ?_))
 ·refine⟨[],rfl,sZ,[],?_,.nil,?_⟩
  ·rw[a,afB (by simpa using k)]
  ·rw[a,afB (by simpa using k)];rfl
 have N:c.plain.right isWord dh=true:=by simpa using k
 obtain⟨L,Z⟩:=a2 N
 rw[afA (by rw[N];simp)]at a
 refine .kn<|.sr<|.q (.aM rfl)<|.cX (X.weaken cM) (λu J v=>?_)
 obtain⟨o,m,rfl,y,v⟩:∃(o:Option Addr) (m:Bool),u=.tuple [.pointer o,.bool m].toArray/\m=decide c.plain.dW/\(m=true->∃xb,o=some ⟨xb,0,none⟩/\qJ xb c J):=by
  rcases v with⟨i,xb,rfl,V⟩|⟨i,rfl⟩
  ·exact⟨_,true,rfl,(decide_eq_true i).symm,λ_=>⟨xb,rfl,V⟩⟩
  ·exact⟨_,false,rfl,(af9 i).symm,λG=>(by cases G)⟩
 refine .mo rfl<|.q .extract<|.q .extract<|.ag rfl<|.ag rfl<|.zs<|.sr<|.mo rfl<|.q .not<|.zn<|.cond rfl (λs=>?_) λs=>?_
 refine .sr<|.ag rfl<|.az rfl<|.ret (aJ (aY _ (.two (.tmp rfl) (.tmp rfl)) bk.kk ?_))
 ·have d:m=false:=by simpa using s
  rw[d]at y
  have i:¬c.plain.dW:=bA y.symm
  refine⟨[],rfl,sZ,[],?_,.nil,?_⟩
  ·rw[a,afB i]
  ·rw[a,afB i];rfl
 have M:m=true:=by simpa using s
 obtain⟨xb,rfl,W⟩:=v M
 rw[M]at y
 have i:c.plain.dW:=bT y.symm
 rw[afA (λG=>G i)]at a
 obtain⟨vm,K⟩:=W.view h
 refine .kn<|.sr<|.mo rfl<|.cX ((a1 _ xb vm K (zB Z) L).weaken λb o hb=>hb.elim .inl λhb=>.inr (by simp[hb])) (λu O a7=>?_)
 obtain⟨w6,f,I,rfl,a0,a3,j⟩:=a7
 refine .mo rfl<|.q .extract<|.q .extract<|.ag rfl<|.ag rfl<|.zs<|.sr<|.mo rfl<|.q .not<|.zn<|.cond rfl (λt=>?_) λt=>?_
 have d:I=false:=by simpa using t
 have D:c.plain.ml=none:=by
  cases he:c.plain.ml with
  |none=>rfl
  |some E=>rw[he]at j;rw[j.1]at d;cases d
 rw[D]at a
 simp only at a
 refine .sr<|.ag rfl<|.az rfl<|.ret (aJ (aY _ (.two (.tmp rfl) (.tmp rfl)) bk.kk ?_))
 ·refine⟨[],rfl,sZ,[],?_,.nil,?_⟩
  ·rw[a]
  ·rw[a];rfl
 have d:I=true:=by simpa using t
 obtain⟨E,D,S,U⟩:∃E,c.plain.ml=some E/\f.map c.ed=E/\∀e∈f,c.valid e.1/\c.valid e.2.1:=by
  cases he:c.plain.ml with
  |none=>rw[he]at j;rw[show I=false from j]at d;cases d
  |some E=>rw[he]at j;exact⟨E,rfl,j.2.1,j.2.2⟩
 subst S
 rw[D]at a
 simp only at a
 rw[<-Sx a6.symm]at a
 refine .kn<|.sr<|.mo rfl<|.mo rfl<|.cX ((a5 _ xb vm (K.mono (R':=λb o=>R b o\/(b,o)∈J\/(b,o)∈O) λb o hb=>hb.elim .inl λhb=>.inr (.inl hb)) L w6 f (a0.rs λp hp=>.inr (.inr hp)) a3 U).weaken λb o hb=>hb.elim .inl λhb=>.inr (by rcases hb with hb|hb<;>simp[hb])) (λu B z=>?_)
 obtain⟨x,r,rfl,l⟩:∃(x:Value) (r:Bool),u=.tuple [x,.bool r].toArray/\SA c r x B (settle (f.map c.ed) (total c.plain.bj+1) (List.replicate (total c.plain.bj) 0)):=by
  cases g:settle (f.map c.ed) (total c.plain.bj+1) (List.replicate (total c.plain.bj) 0)with
  |none=>rw[g]at z;exact⟨_,_,z,rfl⟩
  |some A=>rw[g]at z;obtain⟨w,ll,k,s,t⟩:=z;exact⟨w,true,k,rfl,ll,s,t⟩
 refine .mo rfl<|.q .extract<|.q .extract<|.ag rfl<|.ag rfl<|.zs<|.sr<|.mo rfl<|.q .not<|.zn<|.cond rfl (λC=>?_) λC=>?_
 have d:r=false:=by simpa using C
 have g:settle (f.map c.ed) (total c.plain.bj+1) (List.replicate (total c.plain.bj) 0)=none:=by
  cases g:settle (f.map c.ed) (total c.plain.bj+1) (List.replicate (total c.plain.bj) 0)with
  |none=>rfl
  |some A=>rw[g]at l;rw[l.1]at d;cases d
 rw[g]at a
 simp only at a
 refine .sr<|.ag rfl<|.az rfl<|.ret (aJ (aY _ (.two (.tmp rfl) (.tmp rfl)) bk.kk ?_))
 ·refine⟨[],rfl,sZ,[],?_,.nil,?_⟩
  ·rw[a]
  ·rw[a];rfl
 have d:r=true:=by simpa using C
 obtain⟨A,g,ll,Y,a4⟩:∃A,settle (f.map c.ed) (total c.plain.bj+1) (List.replicate (total c.plain.bj) 0)=some A/\∃ll,NN (sg B) x ll/\ll.map (·.2)=rows c.plain.bj A:=by
  cases g:settle (f.map c.ed) (total c.plain.bj+1) (List.replicate (total c.plain.bj) 0)with
  |none=>rw[g]at l;rw[show r=false from l]at d;cases d
  |some A=>rw[g]at l;exact⟨A,rfl,l.2⟩
 rw[g]at a
 simp only at a
 refine .kn<|.sr<|.mo rfl<|.ag rfl<|.az rfl<|.ret (aY _ (.two (.tmp rfl) (.tmp rfl)) (.one [0] _) ?_)
 ·refine⟨B,by simp[take],x,ll,?_,Y,?_⟩
  ·rw[a]
  ·rw[a];exact a4
def re(r:Rl):Rl:=⟨r.name,r.types.take 9,r.nodes.take 66⟩
def sV(s:Sp):Sp:=⟨short s.name 40,(s.bR.take 6).map re⟩
def eR(c:Cf):Cf:=⟨(c.bj.take 5).map sV,c.scopes.take 5⟩
theorem cj.is.taken{R:ay}{i g d c:Value}{r:Rl}(h:cj.is R ⟨i,g,r⟩){R':ay}(j:∀b o,R b o->R' b o){n m:Nat}(f:RS R' 2 Ty.enc d (r.types.take n))(e:RS R' 5 Nd.enc c (r.nodes.take m)):cj.is R' ⟨d,c,⟨r.name,r.types.take n,r.nodes.take m⟩⟩:=
 ⟨h.n,f,e,λx a=>h.ft x (agi a),λx a=>h.fd x (agi a)⟩
theorem OH(c:bL)(R:ay)(h:c.is R):Spec prog 22 [.agg c.enc.toArray] R [] λu H'=>∃T,H'=[T]/\∃c':bL,u=.agg c'.enc.toArray/\c'.is (λb o=>R b o\/(b,o)∈T)/\c'.plain=eR c.plain:=by
 obtain⟨vs,vc,K,A⟩:=c
 have J:=h.ss
 have Z:=h.sc
 have i1:=J.aE
 have i2:=Z.aE
 simp only at J Z i1 i2
 have e0:=J.le
 have d9:=Z.le
 refine Spec.body func22 rfl results22 ntmps22 rfl ?_
 refine .sr ?_
 refine .cb rfl (λO=>?_)
 refine .bX (λQ=>?_)
 refine .z ?_
 refine .q .cL ?_
 refine .bX (λD=>?_)
 refine .bN rfl rfl<|.zs<|.sr<|.az rfl<|.block ?_
 refine .cy [(1,_),(2,_),(3,_)] (X:=Nat×Value×List cm×aw×aw) (λy=>(y.1<=5/\y.1<=K.length)/\OS 164 2 cm.enc y.2.1 y.2.2.1 y.2.2.2.1/\(∀s∈y.2.2.1,s.is (λb o=>R b o\/(b,o)∈y.2.2.2.2))/\y.2.2.1.map (·.plain)=((K.take y.1).map (·.plain)).map sV) (λy E=>(4,iN y.1)::E) (λy G=>y.2.2.2.1::y.2.2.2.2::bl D [y.2.1,sZ] 25::G) (λy=>5-y.1) (0,sZ,[],[],[]) ⟨⟨by simp,by simp⟩,OS.nil,λs a=>(by cases a),by simp⟩ kE.c.c.c.c bk.iZ ?_
 rintro⟨i,w,L,M,C⟩ ⟨⟨b8,hi⟩,hO,f,V⟩
 simp only at b8 hi hO f V⊢
 have io:=hO.aE
 have d8:L.length=i:=by have:=afH List.length V;rw[afC,afC,afC,afI]at this;omega
 refine .seq<|.seq ?_
 refine bz.cO [(1,_),(2,_),(3,_),(4,_)] kE.c.c.c.c (X:=Unit) (λ_=>True) (λ_ E=>(21,.bool (decide (i<K.length/\i<5)))::E) (λ_=>[M,C,bl D [w,sZ] 25,bl Q [sZ,sZ] 25,bl O [vs,vc] 25]) ?_ ?_
 refine .region<|.mo rfl<|.fa rfl<|.lo rfl<|.q (.bI J) ?_
 refine .q .lss<|.mo rfl ?_
 refine .split (t:=18) rfl (λH=>?_) (λH=>?_)
 refine .gT H<|.mo rfl<|.gT H<|.q .lss<|.q (.aT H) ?_
 refine .nil ?_
 ·exact aF () afG (kE.c.c.c.c.bV rfl (by clear f;grind)) rH
 refine .gF H<|.gF H<|.q (.aQ H) ?_
 refine .nil ?_
 ·exact aF () afG (kE.c.c.c.c.bV rfl (by clear f;grind)) rH
 intro y l
 refine au ?_
 refine .cond rfl (λh1=>?_) λh1=>?_
 obtain⟨b0,c6⟩:=bT h1
 obtain⟨⟨B,sv,m⟩,a⟩:=bQ b0
 have b6:=h.all _ (ba a)
 have a6:RS R 3 cj.enc sv m:=b6.rs
 have e1:=a6.le
 refine .kn<|.seq<|.block<|.sr<|.fa rfl<|.lo rfl<|.mo rfl ?_
 refine .bC i J a (λe5=>?_)
 refine .fa rfl<|.lo rfl ?_
 refine .aX (Cn B 40 _) (λu hu=>?_)
 subst hu
 refine .q .cL ?_
 refine .bX (λb5=>?_)
 refine .bN rfl rfl<|.zs<|.sr<|.az rfl<|.block ?_
 refine .cy [(1,_),(2,_),(3,_),(4,_),(5,_)] (X:=Nat×Value×List cj×aw) (λy=>(y.1<=6/\y.1<=m.length)/\OS 167 3 cj.enc y.2.1 y.2.2.1 y.2.2.2/\(∀r∈y.2.2.1,r.is R)/\y.2.2.1.map (·.r)=((m.take y.1).map (·.r)).map re) (λy E=>(6,iN y.1)::E) (λy G=>y.2.2.2::bl b5 [.string (short B 40),y.2.1] 164::G) (λy=>6-y.1) (0,sZ,[],[]) ⟨⟨by simp,by simp⟩,OS.nil,λs a=>(by cases a),by simp⟩ kE.c.c.c.c.c.c bk.eC ?_
 rintro⟨k,w2,L2,T2⟩ ⟨⟨c3,hk⟩,a2,U,a1⟩
 simp only at c3 hk a2 U a1⊢
 have c9:=a2.aE
 have d7:L2.length=k:=by have:=afH List.length a1;rw[afC,afC,afC,afI]at this;omega
 refine .seq<|.seq ?_
 refine bz.cO [(1,_),(2,_),(3,_),(4,_),(5,_),(6,_)] kE.c.c.c.c.c.c (X:=Unit) (λ_=>True) (λ_ E=>(44,.bool (decide (k<m.length/\k<6)))::E) (λ_=>[T2,bl b5 [.string (short B 40),w2] 164,M,C,bl D [w,sZ] 25,bl Q [sZ,sZ] 25,bl O [vs,vc] 25]) ?_ ?_
 refine .region<|.mo rfl<|.fa rfl<|.lo rfl<|.mo rfl ?_
 refine .bC i J a (λe6=>?_)
 refine .fa rfl<|.lo rfl<|.q (.bI a6) ?_
 refine .q .lss<|.mo rfl ?_
 refine .split (t:=41) rfl (λI=>?_) (λI=>?_)
 refine .gT I<|.mo rfl<|.gT I<|.q .lss<|.q (.aT I) ?_
 refine .nil ?_
 ·exact aF () afG (kE.c.c.c.c.c.c.bV rfl (by clear f U;grind)) rH
 refine .gF I<|.gF I<|.q (.aQ I) ?_
 refine .nil ?_
 ·exact aF () afG (kE.c.c.c.c.c.c.bV rfl (by clear f U;grind)) rH
 intro y l
 refine au ?_
 refine .cond rfl (λh2=>?_) λh2=>?_
 obtain⟨a9,c5⟩:=bT h2
 obtain⟨⟨vt,vn,r⟩,Y⟩:=bQ a9
 have a4:=b6.all _ (ba Y)
 have a7:RS R 2 Ty.enc vt r.types:=a4.t
 have a5:RS R 5 Nd.enc vn r.nodes:=a4.d
 have e2:cB (cj.enc ⟨vt,vn,r⟩):=⟨a4.cV⟩
 refine .kn<|.seq<|.block<|.sr<|.fa rfl<|.lo rfl<|.mo rfl ?_
 refine .bC i J a (λe7=>?_)
 refine .fa rfl<|.lo rfl<|.mo rfl ?_
 refine .bC k a6 Y (λe8=>?_)
 refine .q (.aM rfl) ?_
 refine .bX (λb7=>?_)
 refine .bN rfl rfl<|.zs<|.sr<|.fa rfl<|.lo rfl<|.q (.bI a7) ?_
 refine .q .gtr<|.zn ?_
 refine bz.cO [(1,_),(2,_),(3,_),(4,_),(5,_),(6,_),(7,_)] kE.c.c.c.c.c.c.c (X:=Value) (λv=>RS R 2 Ty.enc v (r.types.take 9)) (λ_ E=>E) (λv=>[bl b7 [.string r.name,v,vn] 167,T2,bl b5 [.string (short B 40),w2] 164,M,C,bl D [w,sZ] 25,bl Q [sZ,sZ] 25,bl O [vs,vc] 25]) ?_ ?_
 refine .cond rfl (λh3=>?_) λh3=>?_
 refine .region<|.fa rfl<|.lo rfl ?_
 refine .nr 0 9 a7 rfl ⟨_,rfl⟩ (by omega) (by have:=bT h3;omega) (λv2 a0=>?_)
 have d0:=a0.aE
 refine .fa rfl<|.dt rfl rfl<|.nil ?_
 ·exact aF v2 (by simpa using a0) kE.c.c.c.c.c.c.c rH
 refine .skip ?_
 ·exact aF vt (by rw[dB (il h3)];exact a7) kE.c.c.c.c.c.c.c rH
 intro x hx
 have c8:RS R 2 Ty.enc x (r.types.take 9):=hx
 clear hx
 obtain⟨xt,rfl⟩:∃z,z=x:=⟨_,rfl⟩
 refine au<|.seq<|.sr<|.fa rfl<|.lo rfl<|.q (.bI a5) ?_
 refine .q .gtr<|.zn ?_
 refine bz.cO [(1,_),(2,_),(3,_),(4,_),(5,_),(6,_),(7,_)] kE.c.c.c.c.c.c.c (X:=Value) (λv=>RS R 5 Nd.enc v (r.nodes.take 66)) (λ_ E=>E) (λv=>[bl b7 [.string r.name,xt,v] 167,T2,bl b5 [.string (short B 40),w2] 164,M,C,bl D [w,sZ] 25,bl Q [sZ,sZ] 25,bl O [vs,vc] 25]) ?_ ?_
 refine .cond rfl (λh4=>?_) λh4=>?_
 refine .region<|.fa rfl<|.lo rfl ?_
 refine .nr 0 66 a5 rfl ⟨_,rfl⟩ (by omega) (by have:=bT h4;omega) (λv2 a0=>?_)
 have d0:=a0.aE
 refine .fa rfl<|.dt rfl rfl<|.nil ?_
 ·exact aF v2 (by simpa using a0) kE.c.c.c.c.c.c.c rH
 refine .skip ?_
 ·exact aF vn (by rw[dB (il h4)];exact a5) kE.c.c.c.c.c.c.c rH
 intro x hx
 have c7:RS R 5 Nd.enc x (r.nodes.take 66):=hx
 have b4:cj.is R ⟨xt,x,re r⟩:=a4.taken (λb o e=>e) c8 c7
 refine au<|.sr<|.fa rfl<|.lo rfl<|.az rfl<|.region<|.mo rfl<|.q (.aM rfl) ?_
 refine .dN (λd2=>?_)
 refine .append a2 (RS.lits (xs:=[(⟨xt,x,re r⟩:cj)]) rfl (by simp[cj.enc]) (by intro y l;rw[afF]at l;subst l;exact b4.cV)) (by simp only[afE];omega) (λv5 N g=>?_)
 have i5:=g.aE
 refine .fa rfl<|.dt rfl rfl<|.nil<|aS<|au<|.region<|.mo rfl ?_
 refine .ia (k+1) .add ?_
 refine .ag rfl<|.nil ?_
 ·exact bd (k+1,v5,L2++[⟨xt,x,re r⟩],N) ⟨⟨c5,a9⟩,g,λq hq=>by
   rcases afL.1 hq with hq|hq
   ·exact U q hq
   ·rw[afF]at hq;subst hq;exact b4,by simp only;rw[dS Y,afD,afD,afD,a1];rfl⟩ (by simp only;omega) kE.c.c.c.c.c.c (aN [2,2,2,2,2,2,2])
 refine .exit<|bo<|bq<|bp<|au<|.sr<|.fa rfl<|.lo rfl<|.az rfl<|.region<|.mo rfl<|.q (.aM rfl) ?_
 refine .dN (λd3=>?_)
 refine .append hO (RS.lits (xs:=[(⟨short B 40,w2,L2⟩:cm)]) rfl (by simp[cm.enc]) (by intro y l u hu;rw[afF]at l;subst l;simp only[cm.enc,afQ,af0,af1]at hu;rcases hu with rfl|rfl;rfl;exact c9.h)) (by simp only[afE];omega) (λv5 N g=>?_)
 have i5:=g.aE
 refine .fa rfl<|.dt rfl rfl<|.nil<|aS<|au<|.region<|.mo rfl ?_
 refine .ia (i+1) .add ?_
 refine .ag rfl<|.nil ?_
 ·exact bd (i+1,v5,L++[⟨short B 40,w2,L2⟩],N,T2++C) ⟨⟨c6,b0⟩,g,λq hq=>by
   rcases afL.1 hq with hq|hq
   ·exact(f q hq).mono λb o e=>e.elim .inl λe=>.inr (agh _ e)
   ·rw[afF]at hq
    subst hq
    refine⟨?_,a2.rs λp W=>.inr (List.mem_append_left _ W),λr Y=>(U r Y).mono λb o e=>.inl e⟩
    have:=Cm (s:=B) (n:=40)
    simp only
    omega,by
   simp only
   rw[dS a,afD,afD,afD,V]
   have c4:m.take k=m.take 6:=by
    have d5:=bA h2
    by_cases h6:k=6
    ·rw[h6]
    ·rw[dB (show m.length<=k by omega),dB (show m.length<=6 by omega)]
   simp only[af2,afZ]
   congr 1
   unfold cm.plain sV
   simp only
   rw[a1,c4]
   simp[List.map_take]⟩ (by simp only;omega) kE.c.c.c.c ((aN [3,1,2,2,2,2]).trans (bk.eK (by simp[take,bJ,dp,bL.enc])))
 have b9:K.take i=K.take 5:=by
  have d4:=bA h1
  by_cases S:i=5
  ·rw[S]
  ·rw[dB (show K.length<=i by omega),dB (show K.length<=5 by omega)]
 rw[b9]at V
 refine .exit<|bo<|bq<|bp<|au<|.seq<|.sr<|.az rfl<|.block ?_
 refine .cy [(1,_),(2,_),(3,_)] (X:=Nat×Value×aw) (λy=>(y.1<=5/\y.1<=A.length)/\OS 169 4 Sc.enc y.2.1 (A.take y.1) y.2.2) (λy E=>(10,iN y.1)::E) (λy G=>y.2.2::M::C::bl D [w,y.2.1] 25::G) (λy=>5-y.1) (0,sZ,[]) ⟨⟨by simp,by simp⟩,OS.nil⟩ kE.c.c.c.c bk.eC ?_
 rintro⟨j,w3,T3⟩ ⟨⟨c0,hj⟩,a3⟩
 simp only at c0 hj a3⊢
 have e3:=a3.aE
 refine .seq<|.seq ?_
 refine bz.cO [(1,_),(2,_),(3,_),(10,_)] kE.c.c.c.c (X:=Unit) (λ_=>True) (λ_ E=>(94,.bool (decide (j<A.length/\j<5)))::E) (λ_=>[T3,M,C,bl D [w,w3] 25,bl Q [sZ,sZ] 25,bl O [vs,vc] 25]) ?_ ?_
 refine .region<|.mo rfl<|.fa rfl<|.lo rfl<|.q (.bI Z) ?_
 refine .q .lss<|.mo rfl ?_
 refine .split (t:=91) rfl (λF=>?_) (λF=>?_)
 refine .gT F<|.mo rfl<|.gT F<|.q .lss<|.q (.aT F) ?_
 refine .nil ?_
 ·exact aF () afG (kE.c.c.c.c.bV rfl (by clear f;grind)) rH
 refine .gF F<|.gF F<|.q (.aQ F) ?_
 refine .nil ?_
 ·exact aF () afG (kE.c.c.c.c.bV rfl (by clear f;grind)) rH
 intro y l
 refine au ?_
 refine .cond rfl (λS=>?_) λS=>?_
 obtain⟨a8,c2⟩:=bT S
 obtain⟨s,a⟩:=bQ a8
 refine .kn<|.seq<|.block<|.sr<|.fa rfl<|.lo rfl<|.az rfl<|.region<|.mo rfl<|.fa rfl<|.lo rfl<|.mo rfl ?_
 refine .bC j Z a (λe4=>?_)
 refine .q (.aM rfl) ?_
 refine .dN (λd1=>?_)
 refine .append a3 (RS.lits (xs:=[s]) rfl (by simp[Sc.enc]) (by simp[Sc.enc,aE])) (by simp only[afI,afE];omega) (λv5 N g=>?_)
 have i5:=g.aE
 refine .fa rfl<|.dt rfl rfl<|.nil<|aS<|au<|.region<|.mo rfl ?_
 refine .ia (j+1) .add ?_
 refine .ag rfl<|.nil ?_
 ·exact bd (j+1,v5,N) ⟨⟨c2,a8⟩,by simp only;rw[dS a];exact g⟩ (by simp only;omega) kE.c.c.c.c (aN [1,1,1,1,1,1])
 refine .exit<|bo<|bq<|bp<|au<|.sr<|.q (.aM rfl)<|.bN rfl rfl<|.zn ?_
 refine .ret (aY _ (.one (.eQ rfl rfl)) (.one [1,1,0] _) ?_)
 ·refine⟨_,rfl,⟨w,w3,L,A.take j⟩,rfl,⟨hO.rs λp W=>.inr (by simp[take,bJ,W]),a3.rs λp W=>.inr (by simp[take,bJ,W]),λs a=>(f s a).mono λb o e=>e.elim .inl λe=>.inr (by simp[take,bJ,e]),λs a=>h.fc s (agi a)⟩,?_⟩
  have c1:A.take j=A.take 5:=by
   have d6:=bA S
   by_cases h6:j=5
   ·rw[h6]
   ·rw[dB (show A.length<=j by omega),dB (show A.length<=5 by omega)]
  unfold bL.plain eR
  simp only
  rw[V,c1,List.map_take]
namespace LIN
theorem ow(v:Value)(xs:List Nat)(R:ay)(h:RS R 1 da v xs)(i:xs.length<=1000000):
  Spec prog 143 [v] R [] λv' H'=>∃T,H'=[T]/\OS 3 1 da v' xs T:=by
 obtain⟨b,d,rfl⟩:=h.val
 have f:∀H,RS (Rx R H) 1 da (.slice b xs.length d) xs:=λH=>h.rx
 refine Spec.gQ (H':=[[]]) (by simp)<|Spec.body func143 rfl results143 ntmps143 rfl<|.sr<|.ag rfl<|.zs<|.sr<|.mo rfl<|.q (.sR rfl rfl)<|.zn<|.cond rfl (λa=>?_) λa=>?_
 refine .sr<|.az rfl<|.ret (aJ (aY _ (.one (.tmp rfl)) (.one [0] _) ?_))
 ·obtain rfl:b=none:=by simpa using a
  have:=h.tC
  subst this
  exact⟨[],rfl,OS.nil⟩
 refine .kn<|.sr ?_
 refine .sL (λg=>?_)
 refine .mo rfl ?_
 refine .append (OS.empty (enc:=da) (sz:=1)) (f _) (by simp;omega) (λv' c e=>?_)
 refine .az rfl<|.ret (aY _ (.one (.tmp rfl)) (.one [0] _) ?_)
 ·exact⟨c,by simp[take],by simpa using e⟩
end LIN
def bL.vB(c:bL):Prop:=c.ik/\c.rb/\c.scopes.length<=16
theorem zC{c:bL}(h:c.plain.right isWord dh=true):c.vB:=by
 obtain⟨b,d⟩:=sW h
 refine⟨b,zB d,?_⟩
 have a:c.plain.jG isWord=false:=by
  unfold Cf.right at h
  simp only[Bool.and_eq_true,agj]at h
  exact h.2
 rw[rD]at a
 simp only[Bool.or_eq_false_iff,decide_eq_false_iff_not,Nat.not_lt]at a
 exact a.1.2
theorem yE(c:bL)(R:ay)(h:c.is R)(hf:c.vB):Spec prog 68 [.agg c.enc.toArray] R [] λu H'=>∃T,H'=[T]/\∃c':bL,u=.agg c'.enc.toArray/\c'.is (sg T)/\c'.plain=c.plain:=by
 obtain⟨⟨b4,a4⟩,h8,b0⟩:=hf
 obtain⟨vs,vc,O,a7⟩:=c
 have F:=h.ss
 have a0:=h.sc
 have i1:=F.aE
 have i2:=a0.aE
 simp only at F a0 i1 i2 b4 a4 b0
 have c4:=F.le
 refine Spec.body func68 rfl results68 ntmps68 rfl<|.sr ?_
 refine .cb rfl (λb1=>?_)
 refine .bX (λb2=>?_)
 refine .z ?_
 refine .bX (λb3=>?_)
 refine .zs<|.sr<|.fa rfl<|.lo rfl<|.q (.bI F)<|.mo rfl<|.zn<|.block<|.cy [(1,_),(2,_),(3,_),(10,_),(11,_)] (X:=Nat×Value×List cm×aw×aw) (λy=>y.1<=O.length/\OS 164 2 cm.enc y.2.1 y.2.2.1 y.2.2.2.1/\(∀s∈y.2.2.1,s.is (sg y.2.2.2.2))/\y.2.2.1.map (·.plain)=(O.take y.1).map (·.plain)) (λy E=>(12,iN y.1)::E) (λy G=>y.2.2.2.1::y.2.2.2.2::bl b3 [y.2.1,sZ] 25::G) (λy=>O.length-y.1) (0,sZ,[],[],[]) ⟨by simp,OS.nil,λs e=>(by cases e),by simp⟩ kE.c.c.c.c.c.c bk.iZ ?_
 rintro⟨i,w,L,To,Ti⟩ ⟨hi,J,Y,C⟩
 simp only at hi J Y C⊢
 have io:=J.aE
 have c3:L.length=i:=by have:=afH List.length C;rw[afC,afC,afI]at this;omega
 refine .sr<|.q .lss<|.zs<|.cond rfl (λV=>?_) λV=>?_
 have a2:i<O.length:=cg V
 obtain⟨⟨x,sv,j⟩,e⟩:=bQ a2
 have N:=h.all _ (ba e)
 have M:RS R 3 cj.enc sv j:=N.rs
 have c8:=M.aE
 have c5:=M.le
 have d0:cB (cm.enc ⟨x,sv,j⟩):=⟨N.cV⟩
 have a9:=a4 _ (ba e)
 simp only at a9
 refine .kn<|.seq<|.block<|.sr ?_
 refine .bC i F e (λd4=>?_)
 refine .q (.aM rfl) ?_
 refine .bX (λb5=>?_)
 refine .bN rfl rfl<|.z<|.fa rfl<|.lo rfl ?_
 refine .q .cL ?_
 refine .bX (λb6=>?_)
 refine .bN rfl rfl<|.zs<|.sr<|.fa rfl<|.lo rfl<|.q (.bI M)<|.mo rfl<|.zn<|.block<|.cy [(1,_),(2,_),(3,_),(6,_),(10,_),(11,_),(12,_),(20,_),(21,_)] (X:=Nat×Value×List cj×aw×aw) (λy=>y.1<=j.length/\OS 167 3 cj.enc y.2.1 y.2.2.1 y.2.2.2.1/\(∀r∈y.2.2.1,r.is (sg y.2.2.2.2))/\y.2.2.1.map (·.r)=(j.take y.1).map (·.r)) (λy E=>(22,iN y.1)::E) (λy G=>y.2.2.2.1::y.2.2.2.2::bl b6 [.string x,y.2.1] 164::G) (λy=>j.length-y.1) (0,sZ,[],[],[]) ⟨by simp,OS.nil,λs e=>(by cases e),by simp⟩ kE.c.c.c.c.c.c.c.c.c.c bk.iZ ?_
 rintro⟨k,w2,A,T2,S⟩ ⟨hk,K,Z,D⟩
 simp only at hk K Z D⊢
 have b9:=K.aE
 have c2:A.length=k:=by have:=afH List.length D;rw[afC,afC,afI]at this;omega
 refine .sr<|.q .lss<|.zs<|.cond rfl (λW=>?_) λW=>?_
 have a1:k<j.length:=cg W
 obtain⟨⟨vt,vn,r⟩,l⟩:=bQ a1
 have m:=N.all _ (ba l)
 have a5:RS R 2 Ty.enc vt r.types:=m.t
 have a3:RS R 5 Nd.enc vn r.nodes:=m.d
 have c9:=a5.aE
 have c7:=a3.aE
 have c6:cB (cj.enc ⟨vt,vn,r⟩):=⟨m.cV⟩
 obtain⟨b7,a8,_⟩:=h8 _ (ba e) _ (ba l)
 simp only at b7 a8
 refine .kn<|.seq<|.block<|.sr ?_
 refine .bC k M l (λd5=>?_)
 refine .q (.aM rfl) ?_
 refine .bX (λb8=>?_)
 refine .bN rfl rfl<|.zn ?_
 refine bz.cO [(1,_),(2,_),(3,_),(6,_),(10,_),(11,_),(12,_),(20,_),(21,_),(22,_)] kE.c.c.c.c.c.c.c.c.c.c (X:=(Value×aw)×(Value×aw)×(Value×aw)) (λy=>OS 167 3 cj.enc y.1.1 (A++[(⟨y.2.1.1,y.2.2.1,r⟩:cj)]) y.1.2/\OS 249 2 Ty.enc y.2.1.1 r.types y.2.1.2/\OS 199 5 Nd.enc y.2.2.1 r.nodes y.2.2.2) (λ_ E=>E) (λy=>[y.1.2,y.2.1.2,y.2.2.2,S,bl b6 [.string x,y.1.1] 164,bl b5 (cm.enc ⟨x,sv,j⟩) 164,To,Ti,bl b3 [w,sZ] 25,bl b2 [sZ,sZ] 25,bl b1 [vs,vc] 25]) ?_ ?_
 refine .cY [12,14] mixed<|.tO 0 rfl (.fieldAddr rfl)<|.tO 1 rfl (.ca rfl)<|.tO 2 rfl (.fieldAddr rfl)<|.tO 3 rfl (.ca rfl)<|.tO 4 rfl (.fieldAddr rfl)<|.tO 5 rfl (.ca rfl)<|.tO 7 rfl (.fieldAddr rfl)<|.tO 8 rfl (.ca rfl)<|.sT 6 rfl<|.cX (LTY.ow vt r.types _ a5.rx (by omega)) (λut U v=>?_)
 obtain⟨pt,ct,rfl,_⟩:=v.shape
 have d3:=v.aE
 refine .nil<|Next.sub<|.sT 9 rfl<|.cX (LND.ow vn r.nodes _ a3.rx (by omega)) (λun Q p=>?_)
 obtain⟨pn,cn,rfl,_⟩:=p.shape
 have d2:=p.aE
 refine .nil<|Next.sub<|.tO 10 rfl .cL<|.sT 11 rfl ?_
 refine .dN (λc0=>?_)
 refine .nil<|Next.sub<|.sT 12 rfl<|.append K (RS.lits (xs:=[(⟨.slice pt r.types.length ct,.slice pn r.nodes.length cn,r⟩:cj)]) rfl (by simp[cj.enc]) (by intro y g u H;rw[afF]at g;subst g;simp only[cj.enc,afQ,af0,af1]at H;rcases H with rfl|rfl|rfl<;>rfl)) (by simp only[afE];omega) (λI B f=>?_)
 have i5:=f.aE
 refine .nil<|Next.mod rfl<|.tK 13 rfl (.fe rfl)<|.sT 14 rfl<|.dt rfl rfl<|.nil<|Next.mod rfl<|RA.nil (by kernel_rfl) ?_
 ·exact aF ((I,B),(_,U),(_,Q)) ⟨f,v,p⟩ ((((((((((kE.d rfl).d rfl).d rfl).d rfl).d rfl).d rfl).d rfl).d rfl).d rfl).d rfl) (aN [4,2,1,2,2,2,2,2,2,2,2])
 intro y g
 obtain⟨⟨I,B⟩,⟨ut,U⟩,⟨un,Q⟩⟩:=y
 obtain⟨f,v,p⟩:=g
 simp only at f v p⊢
 have i5:=f.aE
 refine aS<|au<|.region<|.ia (k+1) .add<|.mo rfl<|.nil ?_
 ·exact bd (k+1,I,A++[⟨ut,un,r⟩],B,U++(Q++S)) ⟨a1,f,λq hq=>by
   rcases afL.1 hq with hq|hq
   ·exact(Z q hq).mono λb o a=>gR (gR a)
   ·rw[afF]at hq
    subst hq
    exact⟨m.n,v.sg.mono λb o a=>iP a,p.sg.mono λb o a=>gR (iP a),m.ft,m.fd⟩,by simp only;rw[dS l,afD,afD,D];rfl⟩ (by simp only;omega) kE.c.c.c.c.c.c.c.c.c.c (bk.eK (by simp[dp,bL.enc,cm.enc]))
 rw[dB (il W)]at D
 refine .exit<|bo<|bq<|bp<|au<|.region<|.fa rfl<|.lo rfl<|.q (.aM rfl) ?_
 refine .dN (λc1=>?_)
 refine .append J (RS.lits (xs:=[(⟨x,w2,A⟩:cm)]) rfl (by simp[cm.enc]) (by intro y g u H;rw[afF]at g;subst g;simp only[cm.enc,afQ,af0,af1]at H;rcases H with rfl|rfl;rfl;exact b9.h)) (by simp only[afE];omega) (λI B f=>?_)
 have i5:=f.aE
 refine .fa rfl<|.dt rfl rfl<|.nil<|aS<|au<|.region<|.ia (i+1) .add<|.mo rfl<|.nil ?_
 ·exact bd (i+1,I,L++[⟨x,w2,A⟩],B,T2++(S++Ti)) ⟨a2,f,λq hq=>by
   rcases afL.1 hq with hq|hq
   ·exact(Y q hq).mono λb o a=>gR (gR a)
   ·rw[afF]at hq
    subst hq
    exact⟨N.n,K.sg.mono λb o a=>iP a,λr l=>(Z r l).mono λb o a=>gR (iP a)⟩,by
   simp only
   rw[dS e,afD,afD,C]
   simp only[af2,afZ]
   congr 1
   unfold cm.plain
   simp only
   rw[D]⟩ (by simp only;omega) kE.c.c.c.c.c.c ((aN [5,1,1,3,3,3,3]).trans (bk.eK (by simp[take,bJ,dp,bL.enc])))
 rw[dB (il V)]at C
 refine .exit<|bo<|bq<|bp<|au<|.sr<|.fa rfl<|.lo rfl<|.cX (LSC.ow vc a7 _ a0.rx (by omega)) (λuc Tc a6=>?_)
 have d1:=a6.aE
 refine .fa rfl<|.dt rfl rfl<|.z<|.q (.aM rfl)<|.bN rfl rfl<|.zn ?_
 refine .ret (aY _ (.one (.eQ rfl rfl)) (.one [1,1,0] _) ?_)
 ·refine⟨_,rfl,⟨w,uc,L,a7⟩,rfl,⟨J.sg.mono λb o a=>?_,a6.sg.mono λb o a=>?_,λs e=>(Y s e).mono λb o a=>?_,h.fc⟩,?_⟩
  ·simp only[take,bJ,af5,af8,afX,afY,afN];exact iP a
  ·simp only[take,bJ,af5,af8,afX,afY,afN];exact gR (gR a)
  ·simp only[take,bJ,af5,af8,afX,afY,afN];exact gR (iP a)
  ·unfold bL.plain;simp only;rw[C]
def cj.zero:cj:=⟨sZ,sZ,⟨⟨#[]⟩,[],[]⟩⟩
def nv(c:bL)(t:Ty)(r:cj)(ok:Bool):Prop:=match bW c.plain.all t with
 |none=>ok=false/\r=cj.zero
 |some j=>ok=true/\∃p s,c.bj[p.1]? =some s/\s.bR[p.2]? =some r/\c.ix p=j
theorem zN{l:List (ByteArray×Rl)}{t:Ty}(h:∀j x,j<l.length->l[j]? =some x->dZ x≠t):bW l t=none:=by
 unfold bW
 rw[List.findIdx?_eq_none_iff]
 intro x b
 obtain⟨j,a,e⟩:=agk.1 b
 have:=h j x a (by rw[aZ a,e])
 simpa using this
theorem zO{l:List (ByteArray×Rl)}{t:Ty}{i:Nat}{x:ByteArray×Rl}(d:l[i]? =some x)(b:dZ x=t)(h:∀j y,j<i->l[j]? =some y->dZ y≠t):bW l t=some i:=by
 obtain⟨c,e⟩:=afT.1 d
 unfold bW
 rw[List.findIdx?_eq_some_iff_getElem]
 refine⟨c,by rw[e];exact decide_eq_true b,λj a=>?_⟩
 have:=h j _ a (aZ (by omega))
 simpa using this
theorem Ck(c:bL)(R:ay)(h:c.is R)(e b:ByteArray):Spec prog 144 [.agg c.enc.toArray,.string e,.string b] R [] λu H'=>H'=[]/\∃r ok,u=.tuple [.agg r.enc.toArray,.bool ok].toArray/\nv c ⟨e,b⟩ r ok:=by
 have J:=h.ss
 have b2:=J.le
 have a1:=h.all
 have a8:=pE c.plain
 have a7:c.plain.bj.length=c.bj.length:=by unfold bL.plain;simp
 have a5:∀(i:Nat) (s:cm),c.bj[i]? =some s->c.plain.bj[i]? =some s.plain:=λi s f=>oT f
 have a9:=λ(p:gu) (s:cm) (r:cj)=>oP (c:=c) (p:=p) (s:=s) (r:=r)
 have O:∀i k,c.ix (i,k)=cK c.plain.bj i+k:=λ_ _=>rfl
 have N:∀r ok,nv c ⟨e,b⟩ r ok=(match bW c.plain.all ⟨e,b⟩with
  |none=>ok=false/\r=cj.zero
  |some j=>ok=true/\∃p s,c.bj[p.1]? =some s/\s.bR[p.2]? =some r/\c.ix p=j):=λ_ _=>rfl
 generalize hA:c.plain.all=A at *
 generalize C:cK c.plain.bj=of at *
 have a2:of 0=0:=by rw[<-C];cases c.plain.bj<;>rfl
 refine Spec.body func144 rfl results144 ntmps144 rfl<|.sr ?_
 refine .cb rfl (λV=>?_)
 refine .bX (λW=>?_)
 refine .ag rfl<|.zs<|.sr<|.fa rfl<|.lo rfl<|.q (.bI J)<|.mo rfl<|.zn<|.block<|.cy [(1,_),(2,_),(6,_),(13,_),(14,_)] (X:=Nat) (λi=>i<=c.bj.length/\∀j x,j<of i->A[j]? =some x->dZ x≠⟨e,b⟩) (λi E=>(15,iN i)::E) (λ_ G=>G) (λi=>c.bj.length-i) 0 ⟨afz _,λj x n=>by rw[a2]at n;omega⟩ kE.c.c.c.c.c.c rH ?_
 rintro i ⟨hi,T⟩
 refine .sr<|.q .lss<|.zs<|.cond rfl (λw=>?_) λw=>?_
 have S:i<c.bj.length:=cg w
 obtain⟨⟨l,v,d⟩,f⟩:=bQ S
 have I:=a1 _ (ba f)
 have H:RS R 3 cj.enc v d:=I.rs
 have b4:=H.le
 have b7:cB (cm.enc ⟨l,v,d⟩):=⟨I.cV⟩
 have a4:=a5 i _ f
 have a3:=oR a4
 rw[C,show(cm.plain ⟨l,v,d⟩).bR.length=d.length by simp[cm.plain]]at a3
 refine .kn<|.seq<|.block<|.sr ?_
 refine .bC i J f (λb8=>?_)
 refine .q (.aM rfl) ?_
 refine .bX (λY=>?_)
 refine .bN rfl rfl<|.z<|.fa rfl<|.lo rfl<|.q (.bI H)<|.mo rfl<|.zn<|.block<|.cy [(1,_),(2,_),(6,_),(9,_),(13,_),(14,_),(15,_),(20,_),(21,_)] (X:=Nat) (λk=>k<=d.length/\∀j x,j<of i+k->A[j]? =some x->dZ x≠⟨e,b⟩) (λk E=>(22,iN k)::E) (λ_ G=>G) (λk=>d.length-k) 0 ⟨afz _,λj x n=>T j x (by omega)⟩ kE.c.c.c.c.c.c.c.c.c.c rH ?_
 rintro k ⟨hk,F⟩
 refine .sr<|.q .lss<|.zs<|.cond rfl (λm=>?_) λm=>?_
 have Q:k<d.length:=cg m
 obtain⟨⟨L,K,r⟩,o⟩:=bQ Q
 have a6:=I.all _ (ba o)
 have b5:cB (cj.enc ⟨L,K,r⟩):=⟨a6.cV⟩
 have D:=a9 (i,k) _ _ f o
 rw[O]at D
 refine .kn<|.seq<|.block<|.sr ?_
 refine .bC k H o (λc0=>?_)
 refine .q (.aM rfl) ?_
 refine .bX (λU=>?_)
 refine .bN rfl rfl<|.zs ?_
 refine bz.cO [(1,_),(2,_),(6,_),(9,_),(11,_),(13,_),(14,_),(15,_),(20,_),(21,_),(22,_)] kE.c.c.c.c.c.c.c.c.c.c.c (X:=Unit) (λ_=>True) (λ_ E=>(35,.bool (decide (l=e)&&decide (r.name=b)))::E) (λ_=>[bl U (cj.enc ⟨L,K,r⟩) 167,bl Y (cm.enc ⟨l,v,d⟩) 164,bl W [.string ⟨#[]⟩,sZ,sZ] 167,bl V c.enc 25]) ?_ ?_
 refine .region<|.fa rfl<|.lo rfl<|.mo rfl<|.q .dF<|.mo rfl<|.split (t:=30) rfl (λa=>?_) (λa=>?_)
 refine .gT a<|.fa rfl<|.gT a<|.lo rfl<|.gT a<|.mo rfl<|.gT a<|.q .dF<|.q (.aT a)<|.nil ?_
 ·exact aF () afG (kE.c.c.c.c.c.c.c.c.c.c.c.bV rfl (by simp[m,a])) rH
 refine .gF a<|.gF a<|.gF a<|.gF a<|.q (.aQ a)<|.nil ?_
 ·exact aF () afG (kE.c.c.c.c.c.c.c.c.c.c.c.bV rfl (by simp[m,a])) rH
 intro y hy
 refine au<|.cond rfl (λB=>?_) λB=>?_
 refine .sr<|.q (.aM rfl)<|.bN rfl rfl<|.az rfl ?_
 refine .ret (bw (aJ (cG (bw (bw (aJ (cG (bw (aJ (aY _ (.two (.eQ rfl rfl) (.tmp rfl)) (.none _) ?_))))))))))
 ·refine⟨rfl,⟨L,K,r⟩,true,rfl,?_⟩
  have M:l=e/\r.name=b:=by simpa using B
  rw[N,zO D (show(⟨l,r.name⟩:Ty)=_ by rw[M.1,M.2]) F]
  exact⟨rfl,(i,k),_,f,o,O i k⟩
 refine .skip<|aS<|au<|.region<|.ia (k+1) .add<|.mo rfl<|.nil ?_
 ·exact bd (k+1) ⟨Q,λj x n g=>by
   rcases Nat.lt_or_ge j (of i+k)with hh|hh
   ·exact F j x hh g
   ·obtain rfl:j=of i+k:=by omega
    rw[D]at g
    cases g
    intro he
    injection he with e1 e2
    have Z:l=e:=e1
    have a0:r.name=b:=e2
    simp[Z,a0]at B⟩ (by omega) kE.c.c.c.c.c.c.c.c.c.c (aN [1,1,1])
 have b1:k=d.length:=by have:=bA m;omega
 refine .exit<|bo<|bq<|bp<|aS<|au<|.region<|.ia (i+1) .add<|.mo rfl<|.nil ?_
 ·exact bd (i+1) ⟨S,λj x n g=>F j x (by omega) g⟩ (by omega) kE.c.c.c.c.c.c (aN [1,1])
 refine .exit<|bo<|bq<|bp<|au<|.sr<|.q .cL<|.bN rfl rfl<|.az rfl ?_
 refine .ret (aY _ (.two (.eQ rfl rfl) (.tmp rfl)) (.none _) ?_)
 ·refine⟨rfl,cj.zero,false,rfl,?_⟩
  have b0:of i=A.length:=by
   have:i=c.bj.length:=by have:=bA w;omega
   rw[this, <-a7, <-C, <-a8]
   rfl
  rw[N,zN λj x n g=>T j x (by omega) g]
  exact⟨rfl,rfl⟩
theorem SG(t:Ty)(s:Sub)(R:ay):Spec prog 243 [.agg t.enc.toArray,.agg s.enc.toArray] R [] λu H'=>u=.bool (jU s t)/\H'=[]:=by
 obtain⟨e,d⟩:=t
 obtain⟨k,j,h,i⟩:=s
 refine Spec.body func243 rfl results243 ntmps243 rfl<|.sr ?_
 refine .cb rfl (λf=>?_)
 refine .cb rfl (λg=>?_)
 refine .ag rfl<|.zs<|.sr<|.fa rfl<|.lo rfl<|.q .fP<|.zn<|.cond rfl (λc=>?_) λc=>?_
 refine .sr<|.q (.aM rfl)<|.q .cL<|.q (.cast (.mJ (xs:=Ty.enc ⟨e,d⟩) (ys:=Ty.enc ⟨⟨#[]⟩,⟨#[]⟩⟩) rfl rfl (Ty.kinds _) (Ty.kinds _)) (afH Value.bool (Ty.eq _ _)))<|.az rfl<|.ret (aJ (aP rfl ?_))
 ·refine⟨afH _ ?_,rfl⟩
  simp only[jU]
  grind
 refine .kn<|.sr<|.fa rfl<|.lo rfl<|.q .fP<|.mo rfl<|.split (t:=14) rfl (λa=>?_) (λa=>?_)
 refine .gT a<|.fa rfl<|.gT a<|.lo rfl<|.gT a<|.fa rfl<|.gT a<|.fa rfl<|.gT a<|.lo rfl<|.gT a<|.q .dF<|.q (.aT a)<|.mo rfl<|.split (t:=22) rfl (λb=>?_) (λb=>?_)
 refine .gT b<|.fa rfl<|.gT b<|.lo rfl<|.gT b<|.fa rfl<|.gT b<|.lo rfl<|.gT b<|.q .dF<|.q (.aT b)<|.az rfl<|.ret (aP rfl ?_)
 ·refine⟨afH _ ?_,rfl⟩
  simp only[jU]
  grind
 refine .gF b<|.gF b<|.gF b<|.gF b<|.gF b<|.q (.aQ b)<|.az rfl<|.ret (aP rfl ?_)
 ·refine⟨afH _ ?_,rfl⟩
  simp only[jU]
  grind
 refine .gF a<|.gF a<|.gF a<|.gF a<|.gF a<|.gF a<|.q (.aQ a)<|.mo rfl<|.gX<|.gX<|.gX<|.gX<|.gX<|.q .cR<|.az rfl<|.ret (aP rfl ?_)
 ·refine⟨afH _ ?_,rfl⟩
  simp only[jU]
  grind
theorem Ds(t:Ty)(s:Sub)(b c d:Value)(q:Nat)(R:ay) [pc:PC R (pT q) (b::c::d::s.enc)]:Spec prog 242 [.agg t.enc.toArray,pT q] R [] λu H'=>u=.bool (jU s t)/\H'=[]:=by
 refine Spec.body func242 rfl results242 ntmps242 rfl<|.sr ?_
 refine .cb rfl (λe=>?_)
 refine .ag rfl<|.z<|.q (.aM rfl)<|.fa rfl<|.q (.loadT rfl)<|.aX (SG t s _) (λu a=>?_)
 subst a
 refine .az rfl<|.ret (aP rfl ?_)
 ·exact⟨rfl,rfl⟩
theorem Dt(c:bL)(R:ay)(h:c.is R)(t:aB):Spec prog 189 [.agg c.enc.toArray,.agg t.enc.toArray] R [] λu H'=>u=.int .i64 (if allowed c.plain t.cQ t.sub then 0 else 14)/\H'=[]:=by
 have B:=Ck c R h t.os t.rel
 have n:=h.all
 have A:allowed c.plain t.cQ t.sub=match bW c.plain.all ⟨t.os,t.rel⟩with
  |none=>false
  |some i=>((c.plain.all.map (·.2.types)).getD i []).any (jU t.sub):=rfl
 refine Spec.body func189 rfl results189 ntmps189 rfl<|.sr ?_
 refine .cb rfl (λF=>?_)
 refine .cb rfl (λk=>?_)
 refine .ag rfl<|.z<|.q (.aM rfl)<|.fa rfl<|.fa rfl<|.lo rfl<|.fa rfl<|.lo rfl<|.aX ((B.mono λu H' d=>⟨d.2,d.1⟩).weaken cM) (λu d=>?_)
 obtain⟨r,C,rfl,b⟩:=d
 obtain⟨g,v,l⟩:∃g,RS R 2 Ty.enc r.vt g/\allowed c.plain t.cQ t.sub=(C&&g.any (jU t.sub)):=by
  rw[A]
  unfold nv at b
  cases hf:bW c.plain.all ⟨t.os,t.rel⟩with
  |none=>rw[hf]at b;obtain⟨rfl,rfl⟩:=b;exact⟨[],RS.gO,rfl⟩
  |some j=>
   rw[hf]at b
   obtain⟨rfl,p,s,f,e,o⟩:=b
   refine⟨r.r.types,((n _ (ba f)).all _ (ba e)).t,?_⟩
   have:=oP f e
   rw[o]at this
   simp only[Bool.true_and]
   rw[afV,afO,this]
   rfl
 have H:cB r.enc:=by
  unfold nv at b
  cases hf:bW c.plain.all ⟨t.os,t.rel⟩with
  |none=>rw[hf]at b;obtain⟨_,rfl⟩:=b;exact⟨by simp[cj.enc,cj.zero,aE]⟩
  |some j=>rw[hf]at b;obtain⟨_,p,s,f,e,o⟩:=b;exact⟨((n _ (ba f)).all _ (ba e)).cV⟩
 obtain⟨D,J,r⟩:=r
 simp only at v
 refine .mo rfl<|.q .extract<|.q .extract ?_
 refine .bX (λG=>?_)
 refine .bN rfl rfl<|.ag rfl<|.zs<|.sr<|.mo rfl<|.q .not<|.mo rfl<|.split (t:=19) rfl (λa=>?_) (λa=>?_)
 refine .gF a<|.gF a<|.gF a<|.gF a<|.gF a<|.q (.aT a)<|.zn<|.ig<|.sr<|.az rfl<|.ret (aJ (aP rfl ?_))
 ·refine⟨?_,rfl⟩
  rw[l,afA (by simp_all)]
 refine .gT a<|.fa rfl<|.gT a<|.lo rfl<|.gT a<|.q .makeFunc<|.gT a ?_
 refine .aX (LTY.kd 242 [pT k] (jU t.sub) D g _ v.rx (λy _ m x=>by
  have I:PC m (pT k) (.string t.os:: .string t.oi:: .string t.rel::t.sub.enc):=PC.of (E:=119) (fr:=(0,0)) (x _ _ (.inr (by simp[aB.enc,Sub.enc,aB.sub])))
  exact Ds y t.sub _ _ _ k m)) (λu d=>?_)
 subst d
 refine .gT a<|.q .not<|.q (.aQ a)<|.zn<|.cond rfl (λw=>?_) λw=>?_
 refine .sr<|.az rfl<|.ret (aJ (aP rfl ?_))
 ·refine⟨?_,rfl⟩
  rw[l,afA (by simp_all)]
 refine .kn<|.sr<|.az rfl<|.ret (aP rfl ?_)
 ·refine⟨?_,rfl⟩
  rw[l,afB (by simp_all)]
structure ep where
 rev:Int
 c:bL
 vn:Value
 ll:List fD
def ep.enc(e:ep):List Value:=[.int .u64 e.rev,e.c.vs,e.c.vc,e.vn]
structure ep.is(R:ay)(e:ep):Prop where
 c:e.c.is R
 n:NN R e.vn e.ll
 ok:(e.c.plain.numbers isWord dh).1=0
 eq:e.ll.map (·.2)=(e.c.plain.numbers isWord dh).2
theorem ep.is.mono{R R':ay}{e:ep}(h:e.is R)(a:∀b o,R b o->R' b o):e.is R':=⟨h.c.mono a,h.n.mono a,h.ok,h.eq⟩
theorem ep.is.cV{R:ay}{e:ep}(h:e.is R):∀u∈e.enc,aE u=true:=by
 have b:=h.c.ss.aE
 have d:=h.c.sc.aE
 have f:=h.n.rs.aE
 intro u a
 simp only[ep.enc,afQ,af0,af1]at a
 rcases a with rfl|rfl|rfl|rfl
 ·rfl
 ·exact b.h
 ·exact d.h
 ·exact f.h
theorem BP{c:Cf}(h:(c.numbers isWord dh).1=0):c.right isWord dh=true:=by
 cases hr:c.right isWord dh with
 |true=>rfl
 |false=>unfold Cf.numbers at h;rw[afB hr]at h;cases h
def HI(hb:Nat)(es:List ep)(gone:Nat)(T:aw):Prop:=∃vl Te Tp,T=(hb,.cells [.bool true,vl,iN gone].toArray 155 (0,0))::(Te++Tp)/\OS 159 4 ep.enc vl es Te/\∀e∈es,e.is (sg Tp)
structure HV(R:ay)(hb:Nat)(vl:Value)(es:List ep)(gone:Nat):Prop where
 pc:PC R (pT hb) [.bool true,vl,iN gone]
 rs:RS R 4 ep.enc vl es
 all:∀e∈es,e.is R
theorem HV.mono{R R':ay}{f:Nat}{g:Value}{c:List ep}{d:Nat}(h:HV R f g c d)(a:∀b o,R b o->R' b o):HV R' f g c d:=⟨h.pc.mono a,h.rs.mono a,λe i=>(h.all e i).mono a⟩
theorem HI.view{a:Nat}{d:List ep}{f:Nat}{T:aw}{R:ay}(h:HI a d f T)(c:∀p∈T,R p.1 p.2):∃vl,HV R a vl d f:=by
 obtain⟨vl,m,g,rfl,j,i⟩:=h
 refine⟨vl,PC.of (E:=155) (fr:=(0,0)) (c (a,_) (by simp)),j.rs λp l=>c p (by simp[l]),λe k=>(i e k).mono λb o a=>c (b,o) ?_⟩
 have:(b,o)∈g:=a
 simp[this]
theorem Ae(R:ay):Spec prog 48 [] R [] λu H'=>∃T,H'=[T]/\∃hb,u=pT hb/\HI hb [] 0 T:=by
 refine Spec.body func48 rfl results48 ntmps48 rfl<|.sr<|.ag rfl<|.z<|.q .cL ?_
 refine .cb rfl (λa=>?_)
 refine .az rfl<|.ret (aY _ (.one (.tmp rfl)) (.one [0] _) ?_)
 ·exact⟨_,rfl,a,rfl,sZ,[],[],rfl,OS.nil,λe b=>(by cases b)⟩
section
variable{R:ay}{hb:Nat}{vl:Value}{es:List ep}{gone:Nat}
theorem HV.made(h:HV R hb vl es gone):Spec prog 66 [pT hb] R [] λu H'=>u=.bool true/\H'=[]:=by
 have a:=h.pc
 refine Spec.body func66 rfl results66 ntmps66 rfl<|.sr<|.ag rfl<|.z<|.mo rfl<|.q (.A1 rfl rfl)<|.mo rfl<|.gt rfl<|.mo rfl<|.gt rfl<|.nc rfl<|.gt rfl<|.fa rfl<|.gt rfl<|.lo rfl<|.q .db<|.az rfl<|.ret (aP rfl ?_)
 ·exact⟨rfl,rfl⟩
def hl(es:List ep)(r:Int):Nat->Option Nat
 |0=>none
 |n+1=>match es[n]? with
  |some e=>if e.rev<=r then some n else hl es r n
  |none=>hl es r n
theorem s6{b:List ep}{r:Int}:∀{n i:Nat},hl b r n=some i->i<n/\∃e,b[i]? =some e
 |0,i,h=>by cases h
 |n+1,i,h=>by
  unfold hl at h
  split at h
  ·rename_i e d
   split at h
   ·cases h;exact⟨by omega,e,d⟩
   ·obtain⟨c,a⟩:=s6 h;exact⟨by omega,a⟩
  ·obtain⟨c,a⟩:=s6 h;exact⟨by omega,a⟩
theorem HV.last(h:HV R hb vl es gone)(r:Int):Spec prog 75 [pT hb,.int .u64 r] R [] λu H'=>u=.int .i64 (fI (hl es r es.length))/\H'=[]:=by
 have v:=h.pc
 have f:=h.rs
 have o:=f.le
 have k:=h.all
 refine Spec.body func75 rfl results75 ntmps75 rfl<|.sr<|.ag rfl<|.zs<|.sr<|.mo rfl<|.aX (h.made.weaken cM) (λu l=>?_)
 subst l
 refine .q .not<|.zn<|.cU<|.kn<|.sr<|.ag rfl<|.zs<|.sr<|.mo rfl<|.nc rfl<|.fa rfl<|.lo rfl<|.q (.bI f)<|.mo rfl<|.zn<|.block<|.cy [(1,_),(14,_),(15,_)] (X:=Nat) (λi=>i<=es.length) (λi E=>(16,iN i)::(5,.int .i64 (fI (hl es r i)))::E) (λ_ G=>G) (λi=>es.length-i) 0 (afz _) kE.c.c.c.c.c rH ?_
 rintro i n
 refine .sr<|.q .lss<|.zs<|.cond rfl (λb=>?_) λb=>?_
 have g:i<es.length:=cg b
 obtain⟨e,d⟩:=bQ g
 have p:cB e.enc:=⟨(k e (ba d)).cV⟩
 have j:hl es r (i+1)=if e.rev<=r then some i else hl es r i:=by rw[hl,d]
 refine .kn<|.seq<|.block<|.sr<|.mo rfl ?_
 refine .bC i f d (λt=>?_)
 refine .q (.aM rfl) ?_
 refine .bX (λm=>?_)
 refine .ag rfl<|.bN rfl rfl<|.z<|.fa rfl<|.fa rfl<|.lo rfl<|.mo rfl<|.q .leq<|.zn ?_
 refine bz.cO [(1,_),(14,_),(15,_),(16,_)] kE.c.c.c.c (X:=Unit) (λ_=>True) (λ_ E=>(5,.int .i64 (fI (hl es r (i+1))))::E) (λ_=>[]) ?_ ?_
 refine .cond rfl (λa=>?_) λa=>?_
 refine .region<|.mo rfl<|.ag rfl<|.nil ?_
 ·exact aF () afG (kE.c.c.c.c.kW rfl (by rw[j];first|rw[afB (bT a)];rfl|rw[afA (bA a)])) (bk.none _)
 refine .skip ?_
 ·exact aF () afG (kE.c.c.c.c.kW rfl (by rw[j];first|rw[afB (bT a)];rfl|rw[afA (bA a)])) (bk.none _)
 intro x s
 refine aS<|au<|.region<|.ia (i+1) .add<|.mo rfl<|.nil ?_
 ·exact bd (i+1) g (by omega) kE.c.c.c.c.c rH
 refine .exit<|bo<|bq<|bp<|au<|.sr<|.mo rfl<|.az rfl<|.ret (aP rfl ?_)
 ·refine⟨?_,rfl⟩
  rw[show i=es.length by have:=bA b;omega]
def uL(es:List ep)(gone:Nat)(r:Int):Int:=match hl es r es.length with
 |none=>0
 |some i=>(gone+i+1:Nat)
def kA(es:List ep)(r:Int):Option ep:=(hl es r es.length).bind λi=>es[i]?
theorem HV.at_(h:HV R hb vl es gone)(r:Int)(x:gone<=1000000/\es.length<=1000000):Spec prog 27 [pT hb,.int .u64 r] R [] λu H'=>∃T,H'=[T]/\∃c':bL,u=.tuple [.agg c'.enc.toArray,.int .i64 (uL es gone r)].toArray/\c'.is (sg T)/\c'.plain=((kA es r).map (·.c.plain)).getD ⟨[],[]⟩:=by
 have H:=h.pc
 have k:=h.rs
 have G:=k.le
 have t:=h.all
 obtain⟨C,D⟩:=x
 refine Spec.body func27 rfl results27 ntmps27 rfl<|.sr ?_
 refine .bX (λp=>?_)
 refine .ag rfl<|.z<|.mo rfl<|.mo rfl<|.aX ((h.last r).weaken cM) (λu m=>?_)
 subst m
 refine .ag rfl<|.zs<|.sr<|.mo rfl<|.q .lss<|.zn<|.cond rfl (λa=>?_) λa=>?_
 have o:hl es r es.length=none:=by
  cases hh:hl es r es.length with
  |none=>rfl
  |some i=>rw[hh]at a;simp only[fI]at a;have:=bT a;omega
 refine .sr<|.q .cL<|.bN rfl rfl<|.az rfl ?_
 refine .ret (aJ (aY _ (.two (.eQ rfl rfl) (.tmp rfl)) bk.kk ?_))
 ·refine⟨[],rfl,⟨sZ,sZ,[],[]⟩,?_,⟨RS.gO,RS.gO,λs l=>(by cases l),λs l=>(by cases l)⟩,?_⟩
  ·unfold uL;rw[o];rfl
  ·unfold kA;rw[o];rfl
 obtain⟨i,g⟩:∃i,hl es r es.length=some i:=by
  cases hh:hl es r es.length with
  |none=>rw[hh]at a;simp[fI]at a
  |some i=>exact⟨i,rfl⟩
 obtain⟨F,e,f⟩:=s6 g
 have n:=t e (ba f)
 have v:=yE e.c R n.c (zC (BP n.ok))
 have w:fI (hl es r es.length)=(i:Int):=by rw[g];rfl
 have I:=k.pc f
 rw[w]
 refine .kn<|.seq ?_
 refine bz.cO [(4,_)] kE.c (X:=bL×aw) (λy=>y.1.is (sg y.2)/\y.1.plain=e.c.plain) (λ_ E=>(5,.int .i64 ((gone+i+1:Nat):Int))::E) (λy=>[y.2,bl p y.1.enc 25]) ?_ ?_
 refine .cY [17] mixed<|.tO 0 rfl .move<|.tO 1 rfl (.nilCheck rfl)<|.tO 2 rfl (.fieldAddr rfl)<|.tO 3 rfl (.ca rfl)<|.tO 4 rfl .move<|.tO 5 rfl (.bC i k f rfl rfl rfl)<|.tO 6 rfl (.fieldAddr rfl)<|.tO 7 rfl (.fieldAddr rfl)<|.tO 8 rfl (.loadT rfl)<|.tK 10 rfl .move<|.tK 11 rfl (.mR rfl)<|.tK 12 rfl (.fe rfl)<|.tK 13 rfl (.ca rfl)<|.tK 14 rfl .move<|.take 15 rfl (.i64 ((gone+i:Nat):Int) .add ⟨by omega,by omega,by omega⟩) (by kernel_rfl)<|.take 16 rfl (.i64 ((gone+i+1:Nat):Int) .add ⟨by omega,by omega,by omega⟩) (by kernel_rfl)<|.sT 9 rfl<|.cX (v.weaken cM) (λu j m=>?_)
 obtain⟨c',rfl,b,d⟩:=m
 have B:cB c'.enc:=⟨b.cV⟩
 refine .nil<|Next.sub<|.sT 17 rfl<|.bN rfl rfl<|.nil<|Next.mod rfl<|.tK 18 rfl .assign<|RA.nil (by kernel_rfl) ?_
 ·exact aF (c',j) ⟨b,d⟩ kE.c.c (by first|exact bk.refl _|exact bk.pick [0,0] _|exact aN [1,0])
 intro y A
 obtain⟨c',j⟩:=y
 obtain⟨b,d⟩:=A
 simp only at b d⊢
 refine au<|.ret (aY _ (.two (.eQ rfl rfl) (.tmp rfl)) (.one [0] _) ?_)
 ·refine⟨j,by simp[take],c',?_,b,?_⟩
  ·unfold uL;rw[g]
  ·unfold kA;rw[g,af7,f];exact d
end
theorem HV.numbers{R:ay}{d:Nat}{vl:Value}{a:List ep}{J:Nat}(h:HV R d vl a J)(r:Int)(S:∀e∈a,e.ll.length<=1000000/\∀q∈e.ll,q.2.length<=1000000):Spec prog 82 [pT d,.int .u64 r] R [] λu H'=>∃T,H'=[T]/\∃ll,NN (sg T) u ll/\ll.map (·.2)=((kA a r).map λe=>e.ll.map (·.2)).getD []:=by
 have pc:=h.pc
 have V:=h.rs
 have K:=h.all
 refine Spec.body func82 rfl results82 ntmps82 rfl<|.sr<|.ag rfl<|.z<|.mo rfl<|.mo rfl<|.aX ((h.last r).weaken cM) (λu l=>?_)
 subst l
 refine .ag rfl<|.zs<|.sr<|.mo rfl<|.q .lss<|.zn<|.cond rfl (λg=>?_) λg=>?_
 have p:hl a r a.length=none:=by
  cases hh:hl a r a.length with
  |none=>rfl
  |some i=>rw[hh]at g;simp only[fI]at g;have:=bT g;omega
 refine .sr<|.az rfl<|.ret (aJ (aY _ (.one (.tmp rfl)) bk.kk ?_))
 ·refine⟨[],rfl,[],.nil,?_⟩
  unfold kA;rw[p];rfl
 obtain⟨i,w⟩:∃i,hl a r a.length=some i:=by
  cases hh:hl a r a.length with
  |none=>rw[hh]at g;simp[fI]at g
  |some i=>exact⟨i,rfl⟩
 obtain⟨a2,e,m⟩:=s6 w
 have M:=K e (ba m)
 have p:=M.n
 have C:=p.rs
 obtain⟨a3,Q⟩:=S e (ba m)
 have N:fI (hl a r a.length)=(i:Int):=by rw[w];rfl
 rw[N]
 refine .kn<|.sr<|.ag rfl<|.zs<|.sr<|.mo rfl<|.nc rfl<|.fa rfl<|.lo rfl<|.mo rfl ?_
 refine .bC i V m (λa4=>?_)
 refine .fa rfl<|.lo rfl<|.q (.bI C)<|.mo rfl<|.zn<|.block<|.cy [(21,_),(22,_)] (X:=Nat×Value×List fD×aw×aw) (λy=>y.1<=e.ll.length/\OS 182 1 eg y.2.1 y.2.2.1 y.2.2.2.1/\(∀q∈y.2.2.1,RS (sg y.2.2.2.2) 1 da q.1 q.2)/\y.2.2.1.map (·.2)=(e.ll.take y.1).map (·.2)) (λy E=>(23,iN y.1)::(6,y.2.1)::E) (λy G=>y.2.2.2.1::y.2.2.2.2::G) (λy=>e.ll.length-y.1) (0,sZ,[],[],[]) ⟨afz _,OS.nil,λq f=>(by cases f),rfl⟩ kE.c.c.c.c bk.iZ ?_
 rintro⟨k,vo,L,I,x⟩ ⟨O,v,t,j⟩
 simp only at O v t j⊢
 have a1:L.length=k:=by have:=afH List.length j;rw[afC,afC,afI]at this;omega
 refine .sr<|.q .lss<|.zs<|.cond rfl (λs=>?_) λs=>?_
 have B:k<e.ll.length:=cg s
 obtain⟨q,f⟩:=bQ B
 have U:=p.all q (ba f)
 refine .kn<|.seq<|.block<|.sr ?_
 refine .bC k C f (λa5=>?_)
 refine .lo rfl<|.az rfl<|.region<|.mo rfl<|.mo rfl<|.cX (LIN.ow q.1 q.2 _ U.rx (Q q (ba f))) (λu F l=>?_)
 have iu:=l.aE
 obtain⟨D,A,rfl,_⟩:=l.shape
 refine .gL (λa0=>?_)
 refine .append v (RS.lits (xs:=[((.slice D q.2.length A,q.2):fD)]) rfl (by simp[eg]) (by simp[eg,aE])) (by simp only[afE];omega) (λZ H W=>?_)
 refine .ag rfl<|.nil<|aS<|au<|.region<|.ia (k+1) .add<|.mo rfl<|.nil ?_
 ·exact bd (k+1,Z,L++[(.slice D q.2.length A,q.2)],H,F++x) ⟨B,W,λY hq'=>by
   rcases afL.1 hq' with hq'|hq'
   ·exact(t Y hq').mono λb o d=>gR d
   ·rw[afF]at hq'
    subst hq'
    exact l.sg.mono λb o d=>iP d,by simp only;rw[dS f,afD,afD,j];rfl⟩ (by simp only;omega) kE.c.c.c.c ((aN [2,1,1]).trans (bk.eK (by simp[take,bJ])))
 refine .exit<|bo<|bq<|bp<|au<|.sr<|.mo rfl<|.az rfl<|.ret (aY _ (.one (.tmp rfl)) (.one [0,0] _) ?_)
 ·refine⟨I++x,by simp[take,bJ],L,⟨v.sg.mono λb o d=>iP d,λq f=>(t q f).mono λb o d=>gR d⟩,?_⟩
  rw[dB (il s)]at j
  unfold kA;rw[w,af7,m,j];rfl
def oA(es:List ep)(rev:Int)(c:Cf):Int:=
 if(es.getLast?.map λe=>decide (rev<=e.rev)).getD false then 12 else if(c.numbers isWord dh).1≠0 then(c.numbers isWord dh).1 else if 16<=es.length then 8 else 0
theorem Aa(f:Nat)(d:List ep)(j:Nat)(T:aw)(h:HI f d j T)(b8:d.length<=1000)(rev:Int)(c:bL)(R:ay)(hc:c.is R):
  Spec prog 20 [pT f,.int .u64 rev,.agg c.enc.toArray] R [T] λu H'=>∃T',H'=[T']/\u=.int .i64 (oA d rev c.plain)/\(oA d rev c.plain=0->∃e:ep,e.rev=rev/\e.c.plain=c.plain/\HI f (d++[e]) j T')/\(oA d rev c.plain≠0->HI f d j T'):=by
 have b3:=Qt c R hc
 have a9:=yE c R hc
 obtain⟨k,l,g,rfl,m,x⟩:=h
 have b4:(c.plain.numbers isWord dh).1=0->c.vB:=λv=>zC (BP v)
 have C:oA d rev c.plain=if(d.getLast?.map λe=>decide (rev<=e.rev)).getD false then 12 else if(c.plain.numbers isWord dh).1≠0 then(c.plain.numbers isWord dh).1 else if 16<=d.length then 8 else 0:=rfl
 generalize hk:oA d rev c.plain=kc at *
 generalize a5:c.plain.numbers isWord dh=nn at *
 have a8:∀D:ay,(∀p∈((f,.cells [.bool true,k,iN j].toArray 155 (0,0))::(l++g):aw),D p.1 p.2)->HV D f k d j:=λD L=>by
  refine⟨PC.of (E:=155) (fr:=(0,0)) (L (f,_) (by simp)),m.rs λp hp=>L p (by simp[hp]),λe he=>(x e he).mono λb o f=>L (b,o) ?_⟩
  have:(b,o)∈g:=f
  simp[this]
 have M:∀w,HI f d j w↔∃k l g,w=(f,.cells [.bool true,k,iN j].toArray 155 (0,0))::(l++g)/\OS 159 4 ep.enc k d l/\∀e∈d,e.is (sg g):=λ_=>Iff.rfl
 refine Spec.gQ (H':=[bl f [.bool true,k,iN j] 155,l,g]) (by simp)<|Spec.body func20 rfl results20 ntmps20 rfl<|.sr ?_
 refine .cb rfl (λb5=>?_)
 refine .ag rfl<|.zs<|.block<|.sr<|.mo rfl ?_
 refine .aX (HV.made (a8 _ λp hp=>.inr (by
  rcases afQ.1 hp with rfl|hp
  ·simp
  ·rcases afL.1 hp with hp|hp<;>simp[hp]))) (λu S=>?_)
 subst S
 refine .q .not<|.az rfl<|.cU<|.seq ?_
 refine bz.cO [(0,_),(1,_),(5,_)] kE.c.c.c (X:=Unit) (λ_=>True) (λ_ E=>(13,.bool ((d.getLast?.map λe=>decide (rev<=e.rev)).getD false))::E) (λ_=>[bl b5 c.enc 25,bl f [.bool true,k,iN j] 155,l,g]) ?_ ?_
 refine .fS mixed (by kernel_rfl)<|.mo rfl<|.nc rfl<|.fa rfl<|.lo rfl<|.q (.dG m)<|.q .gtr<|.mo rfl<|.split (t:=20) rfl (λa=>?_) (λa=>?_)
 obtain⟨n,hn⟩:∃n,d.length=n+1:=⟨d.length-1,by have:=bT a;omega⟩
 obtain⟨V,O⟩:∃e,d[n]? =some e:=⟨_,aZ (by omega)⟩
 have a3:d.getLast? =some V:=by rw[List.getLast?_eq_getElem?,hn];exact O
 have b9:=x V (ba O)
 refine .gT a<|.mo rfl<|.gT a<|.mo rfl<|.gT a<|.nc rfl<|.gT a<|.fa rfl<|.gT a<|.lo rfl<|.gT a<|.mo rfl<|.gT a<|.nc rfl<|.gT a<|.fa rfl<|.gT a<|.lo rfl<|.gT a<|.q (.dG m)<|.gT a<|.q (.i64 (n:Int) .sub ⟨by omega,by omega,by omega⟩)<|.gT a ?_
 refine .aK n m O (λc2=>?_)
 refine .gT a<|.fa rfl<|.gT a<|.fa rfl<|.gT a<|.lo rfl<|.gT a<|.q .leq<|.q (.aT a)<|.ag rfl<|.nil ?_
 ·exact aF () afG (kE.c.c.c.bV rfl (by first|rfl|(rw[a3];rfl))) rH
 have b2:d=[]:=List.eq_nil_of_length_eq_zero (by have:=bA a;omega)
 subst b2
 refine .gF a<|.gF a<|.gF a<|.gF a<|.gF a<|.gF a<|.gF a<|.gF a<|.gF a<|.gF a<|.gF a<|.gF a<|.gF a<|.gF a<|.gF a<|.gF a<|.q (.aQ a)<|.ag rfl<|.nil ?_
 ·exact aF () afG (kE.c.c.c.bV rfl (by first|rfl|(rw[a3];rfl))) rH
 intro y hy
 refine au<|.cond rfl (λz=>?_) λz=>?_
 refine .sr<|.az rfl<|.ret (bw (aJ (aY _ (.one (.tmp rfl)) (.one [1,1,1] _) ?_)))
 ·have r:((d.getLast?.map λe=>decide (rev<=e.rev)).getD false)=true:=z
  have i:kc=12:=by rw[C,afB r]
  have Q:kc≠0:=by rw[i];decide
  exact⟨_,rfl,by rw[i],λs=>absurd s Q,λ_=>(M _).2 ⟨k,l,g,by simp[take,bJ],m,x⟩⟩
 refine .skip<|aS<|au<|.sr<|.q (.aM rfl)<|.cX (b3.weaken cM) (λu T7 b6=>?_)
 obtain⟨w7,ll,rfl,K,b0⟩:=b6
 have i7:=K.rs.aE
 refine .mo rfl<|.q .extract<|.q .extract<|.ag rfl<|.ag rfl<|.zs<|.block<|.sr<|.mo rfl<|.q .eh<|.az rfl<|.cond rfl (λI=>?_) λI=>?_
 have a4:nn.1≠0:=by simpa using I
 refine .sr<|.mo rfl<|.az rfl<|.ret (bw (aJ (aY _ (.one (.tmp rfl)) (.one [2,2,2] _) ?_)))
 ·have r:((d.getLast?.map λe=>decide (rev<=e.rev)).getD false)=false:=z
  have i:kc=nn.1:=by rw[C,afA (by rw[r];simp),afB a4]
  exact⟨_,rfl,by rw[i],λs=>absurd (i.symm.trans s) a4,λ_=>(M _).2 ⟨k,l,g,by simp[take,bJ],m,x⟩⟩
 have v:nn.1=0:=by simpa using I
 refine .sr<|.mo rfl<|.nc rfl<|.fa rfl<|.lo rfl<|.q (.dG m)<|.q .geq<|.az rfl<|.cond rfl (λJ=>?_) λJ=>?_
 refine .sr<|.az rfl<|.ret (bw (aJ (aY _ (.one (.tmp rfl)) (.one [2,2,2] _) ?_)))
 ·have r:((d.getLast?.map λe=>decide (rev<=e.rev)).getD false)=false:=z
  have i:kc=8:=by rw[C,afA (by rw[r];simp),afA (by rw[v];simp),afB (by have:=bT J;omega)]
  have Q:kc≠0:=by rw[i];decide
  exact⟨_,rfl,by rw[i],λs=>absurd s Q,λ_=>(M _).2 ⟨k,l,g,by simp[take,bJ],m,x⟩⟩
 have b1:¬16<=d.length:=by have:=bA J;omega
 have r:((d.getLast?.map λe=>decide (rev<=e.rev)).getD false)=false:=z
 have i:kc=0:=by rw[C,afA (by rw[r];simp),afA (by rw[v];simp),afA b1]
 refine .skip<|aS<|au<|.seq ?_
 refine bz.cO [] (dD.nil _) (X:=Value×aw×ep×aw) (λy=>OS 159 4 ep.enc y.1 (d++[y.2.2.1]) y.2.1/\y.2.2.1.is (sg y.2.2.2)/\y.2.2.1.rev=rev/\y.2.2.1.c.plain=c.plain) (λ_ E=>E) (λy=>[bl f [.bool true,y.1,iN j] 155,y.2.1,y.2.2.2,g]) ?_ ?_
 refine .cY [12,15] mixed<|.tK 0 rfl .move<|.tO 1 rfl .move<|.tO 2 rfl (.nilCheck rfl)<|.tO 3 rfl (.fieldAddr rfl)<|.tO 4 rfl (.ca rfl)<|.tO 5 rfl .move<|.tO 6 rfl (.aM rfl)<|.tO 9 rfl .move<|.sT 7 rfl<|.cX ((a9 (b4 v)).weaken cM) (λu G S=>?_)
 obtain⟨H,rfl,A,N⟩:=S
 have c0:One H.vs:=RS.aE A.ss
 have c1:One H.vc:=RS.aE A.sc
 obtain⟨ps,cs,W⟩:=A.ss.val
 obtain⟨pc,cc,Y⟩:=A.sc.val
 obtain⟨pw,cw,Z⟩:=K.rs.val
 obtain⟨c4,c3,a7,a6⟩:=H
 simp only at W Y Z
 subst W Y Z
 refine .nil<|Next.sub<|.tO 8 rfl .cL<|.tO 10 rfl .cL<|.sT 11 rfl ?_
 refine .dN (λb7=>?_)
 refine .nil<|Next.sub<|.sT 12 rfl<|.append m (RS.lits (xs:=[(⟨rev,⟨.slice ps a7.length cs,.slice pc a6.length cc,a7,a6⟩,.slice pw ll.length cw,ll⟩:ep)]) rfl (by simp[ep.enc]) (by simp[ep.enc,aE])) (by simp only[afE];omega) (λU F B=>?_)
 have i5:=B.aE
 refine .nil<|Next.mod rfl<|.tK 13 rfl (.mR rfl)<|.tK 14 rfl (.fe rfl)<|.sT 15 rfl<|.dt rfl rfl<|.nil<|Next.mod rfl<|RA.nil (by kernel_rfl) ?_
 ·exact aF (U,F,_,G++T7) ⟨B,⟨A.mono λb o f=>iP f,K.mono λb o f=>gR f,by simp only;rw[N,a5];exact v,by simp only;rw[N,a5];exact b0⟩,rfl,N⟩ (dD.nil _) (by first|exact(aN [4,4,1,1,2]).trans (bk.eK (by simp[take,bJ,dp]))|exact(aN [3,3,0,1,2]).trans (bk.eK (by simp[take,bJ,dp])))
 intro y hy
 obtain⟨U,F,e5,G⟩:=y
 obtain⟨B,a0,a2,a1⟩:=hy
 simp only at B a0 a2 a1⊢
 refine au<|.sr<|.az rfl<|.ret (aY _ (.one (.tmp rfl)) (.one [0,0,0,0] _) ?_)
 ·refine⟨_,rfl,by rw[i],λ_=>⟨e5,a2,a1,U,F,G++g,by simp[take,bJ],B,λe he=>?_⟩,λs=>absurd i s⟩
  rcases afL.1 he with he|he
  ·exact(x e he).mono λb o f=>gR f
  ·rw[afF]at he
   subst he
   exact a0.mono λb o f=>iP f
theorem Q4(a b:bB)(R:ay):Spec prog 169 [.agg a.enc.toArray,.agg b.enc.toArray] R [] λv H'=>v=.bool (eM a b)/\H'=[]:=by
 refine Spec.body func169 rfl results169 ntmps169 rfl<|.sr ?_
 refine .cb rfl (λf=>?_)
 refine .cb rfl (λg=>?_)
 refine .ag rfl<|.z<|.fa rfl<|.q (.loadT rfl)<|.fa rfl<|.q (.loadT rfl)<|.aX (Ry a.t b.t _) (λv e=>?_)
 subst e
 refine .mo rfl<|.split (t:=10) rfl (λc=>?_) (λc=>?_)
 refine .gF c<|.gF c<|.gF c<|.gF c<|.gF c<|.gF c<|.dg rfl<|.dg rfl<|.dg rfl<|.dg rfl<|.dg rfl<|.gF c<|.q (.aT c)<|.az rfl<|.ret (aP rfl ?_)
 ·refine⟨afH _ ?_,rfl⟩
  unfold eM
  simp_all
 refine .gT c<|.fa rfl<|.gT c<|.q (.loadT rfl) ?_
 refine .gT c<|.fa rfl<|.gT c<|.q (.loadT rfl) ?_
 refine .gT c<|.q (.mJ rfl rfl (aB.kinds a.t) (aB.kinds b.t)) ?_
 rw[show eE (List.take 7 (List.drop 0 a.enc)) (List.take 7 (List.drop 0 b.enc))=decide (a.t=b.t)from aB.eq a.t b.t]
 refine .gT c<|.mo rfl<|.split (t:=16) rfl (λd=>?_) (λd=>?_)
 refine .gT d<|.fa rfl<|.gT d<|.lo rfl<|.gT d<|.fa rfl<|.gT d<|.lo rfl<|.gT d<|.q .lss<|.gT c<|.q (.aT d)<|.q (.aQ c)<|.az rfl<|.ret (aP rfl ?_)
 ·refine⟨afH _ ?_,rfl⟩
  unfold eM
  simp_all
 refine .gF d<|.gF d<|.gF d<|.gF d<|.gF d<|.gT c<|.q (.aQ d)<|.q (.aQ c)<|.az rfl<|.ret (aP rfl ?_)
 ·refine⟨afH _ ?_,rfl⟩
  unfold eM
  simp_all
theorem Rn(v:Value)(l:List bB)(t:bB)(R:ay)(h:RS R 9 bB.enc v l)(hl:l.length<=100000):
    Spec prog 110 [v,.agg t.enc.toArray] R [] λu H'=>∃T,H'=[T]/\OS 226 9 bB.enc u (hB eM t l) T:=by
  obtain⟨I,H,rfl⟩:=h.val
  refine Spec.gQ (H':=[[]]) (by simp)<|Spec.body func110 rfl results110 ntmps110 rfl<|.sr ?_
  refine .cb rfl (λm=>?_)
  refine .ag rfl<|.z<|.ag rfl<|.z<|.ag rfl<|.zs<|.sr<|.az rfl<|.block<|.loop (X:=Nat×Value×aw) (λy=>y.1<=l.length/\OS 226 9 bB.enc y.2.1 (jq eM t (l.take y.1)) y.2.2) (λy=>[(0,.slice I l.length H),(3,pT m),(5,y.2.1),(6,.bool ((l.take y.1).any (eM t))),(7,iN y.1)]) (λy=>[bl m t.enc 226,y.2.2]) (λy=>l.length-y.1) (0,sZ,[]) ⟨afz _,OS.nil⟩ kE.c.c.c.c.c rH ?_
  rintro⟨i,D,s⟩ ⟨N,e⟩
  simp only at N e⊢
  have M:(jq eM t (l.take i)).length<=100001:=afM s5 (by rw[afI];omega)
  refine .seq<|.sr<|.mo rfl<|.mo rfl<|.q (.bI h)<|.q .lss<|.zn<|.cond rfl (λA=>?_) λA=>?_
  have G:i<l.length:=cg A
  obtain⟨x,f⟩:=bQ G
  have E:=z6 (lt:=eM) (p:=t) f
  refine .kn<|.seq<|.block<|.seq ?_
  refine bz.cut (X:=Value×aw) (λz=>OS 226 9 bB.enc z.1 (mq eM t (l.take i) x) z.2) (λz=>[(0,.slice I l.length H),(3,pT m),(5,z.1),(6,.bool ((l.take (i+1)).any (eM t))),(7,iN i)]) (λz=>[bl m t.enc 226,z.2]) ?_ ?_
  refine .seq<|.dm 8 mixed (by kernel_rfl) ?_
  conv=>arg 6;dsimp only[List.take]
  refine .mo rfl<|.q .not<|.mo rfl<|.split (t:=16) rfl (λa=>?_) (λa=>?_)
  refine .gT a<|.q (.aM rfl)<|.gT a<|.mo rfl<|.gT a<|.mo rfl<|.gT a ?_
  refine .bC i h f (λa0=>?_)
  refine .gT a<|.q (.aM rfl)<|.nil<|.gT a<|.aX (Q4 t x _) (λv Q=>?_)
  subst Q
  refine .q (.aT a)<|.zn<|.cond rfl (λn=>?_) λn=>?_
  first|have C:=z7 f a n|skip
  refine .sr<|.mo rfl<|.q (.aM rfl) ?_
  refine .dN (λW=>?_)
  refine .append e (RS.lits (xs:=[t]) rfl (by simp[bB.enc,aB.enc]) (by simp[bB.enc,aB.enc,aE])) (by simp only[afE];omega) (λr k g=>?_)
  refine .az rfl<|.region<|.ag rfl<|.nil ?_
  ·first
      |(obtain⟨d,b⟩:=C
        exact aF (r,k) (by simp only;rw[d];exact g) (by simp only;rw[b];exact kE.c.c.c.c.c) (aN [1,1]))
      |(obtain⟨d,b⟩:=j
        exact aF (D,s) (by simp only;rw[d];simpa using e) (by simp only;rw[b];exact kE.c.c.c.c.c) rH)
  first|have j:=pW (p:=t) f (.inr n)|skip
  refine .skip ?_
  ·first
      |(obtain⟨d,b⟩:=C
        exact aF (r,k) (by simp only;rw[d];exact g) (by simp only;rw[b];exact kE.c.c.c.c.c) (aN [1,1]))
      |(obtain⟨d,b⟩:=j
        exact aF (D,s) (by simp only;rw[d];simpa using e) (by simp only;rw[b];exact kE.c.c.c.c.c) rH)
  have j:=pW (p:=t) f (.inl a)
  refine .gF a<|.gF a<|.gF a<|.gF a<|.gF a<|.nil<|.gF a<|.q (.aQ a)<|.zn<|.cU ?_
  first|have j:=pW (p:=t) f (.inr n)|skip
  refine .skip ?_
  ·first
      |(obtain⟨d,b⟩:=C
        exact aF (r,k) (by simp only;rw[d];exact g) (by simp only;rw[b];exact kE.c.c.c.c.c) (aN [1,1]))
      |(obtain⟨d,b⟩:=j
        exact aF (D,s) (by simp only;rw[d];simpa using e) (by simp only;rw[b];exact kE.c.c.c.c.c) rH)
  intro y S
  obtain⟨V,K⟩:=y
  have L:OS 226 9 bB.enc V (mq eM t (l.take i) x) K:=S
  simp only
  refine au<|.region<|.mo rfl<|.mo rfl<|.mo rfl ?_
  refine .bC i h f (λa1=>?_)
  refine .q (.aM rfl) ?_
  refine .dN (λY=>?_)
  refine .append L (RS.lits (xs:=[x]) rfl (by simp[bB.enc,aB.enc]) (by simp[bB.enc,aB.enc,aE])) (by have:=s5 (lt:=eM) (p:=t) (X:=l.take (i+1));rw[<-E,afI]at this;simp at this⊢;omega) (λU J F=>?_)
  rw[E]at F
  refine .ag rfl<|.nil<|aS<|au<|.region<|.mo rfl<|.ia (i+1) .add<|.ag rfl<|.nil ?_
  ·exact bd (i+1,U,J) ⟨G,F⟩ (by simp only;omega) kE.c.c.c.c.c (aN [1,1])
  have O:i=l.length:=by have:=bA A;omega
  subst O
  rw[afJ]at e M⊢
  refine .exit<|bo<|bq<|bp<|au<|.seq<|.sr<|.mo rfl<|.q .not<|.zn<|.cond rfl (λB=>?_) λB=>?_
  refine .region<|.mo rfl<|.q (.aM rfl) ?_
  refine .dN (λZ=>?_)
  refine .append e (RS.lits (xs:=[t]) rfl (by simp[bB.enc,aB.enc]) (by simp[bB.enc,aB.enc,aE])) (by simp;omega) (λr k g=>?_)
  refine .ag rfl<|.z<|.mo rfl<|.az rfl<|.ret (aY _ (.one (.tmp rfl)) ((aN [2])) ?_)
  ·have o:l.any (eM t)=false:=by simpa using B
   refine⟨_,by simp[take,bJ];rfl,?_⟩
   have w:jq eM t l=l:=by unfold jq;rw[o];rfl
   rw[w]at g
   rw[zZ o];exact g
  refine .kn<|.sr<|.mo rfl<|.az rfl<|.ret (aY _ (.one (.tmp rfl)) ((aN [1])) ?_)
  ·have o:l.any (eM t)=true:=by simpa using B
   refine⟨_,by simp[take,bJ];rfl,?_⟩
   have w:jq eM t l=hB eM t l:=by unfold jq;rw[o];rfl
   rw[w]at e;exact e
def qH(L:List bB)(t:aB)(z:Int):Prop:=(∃(j:Nat) (x:bB),z=j/\L[j]? =some x/\x.eT t=true/\∀k y,k<j->L[k]? =some y->y.eT t=false)\/(z= -1/\dw L t=false)
theorem qH.lt{L:List bB}{t:aB}{z:Int}(h:qH L t z):decide (z<0)= !dw L t:=by
 rcases h with⟨j,x,rfl,b,a,_⟩|⟨rfl,h⟩
 ·rw[af9 (by omega),dw,afR.2 ⟨x,ba b,a⟩];rfl
 ·rw[h];rfl
theorem qH.ge{L:List bB}{t:aB}{z:Int}(h:qH L t z):decide (0<=z)=dw L t:=by
 have a:=h.lt
 have b:decide (0<=z)= !decide (z<0):=by rw[Bool.eq_iff_iff];simp
 rw[b,a,Bool.not_not]
section
variable{R:ay}{b:Nat}{S:cT}{vL:Value}{L:List bB}
theorem DV.find(h:DV R b S vL L)(t:aB):Spec prog 111 [pT b,.agg t.enc.toArray] R [] λu H'=>(∃z,u=.int .i64 z/\qH L t z)/\H'=[]:=by
 have F:=h.pc
 have B:=h.rs.aE
 have A:=h.rs.le
 obtain⟨G,C,rfl⟩:=h.rs.val
 have n:=h.rs
 refine Spec.body func111 rfl results111 ntmps111 rfl<|.sr ?_
 refine .cb rfl (λo=>?_)
 refine .ag rfl<|.zs<|.sr<|.az rfl<|.block<|.loop (X:=Nat) (λi=>i<=L.length/\∀k y,k<i->L[k]? =some y->y.eT t=false) (λi=>[(0,pT b),(3,pT o),(5,iN i)]) (λ_=>[bl o t.enc 119]) (λi=>L.length-i) 0 ⟨afz _,λk y e=>absurd e (Nat.not_lt_zero _)⟩ kE.c.c.c rH ?_
 rintro i ⟨v,g⟩
 refine .seq<|.sr<|.mo rfl<|.mo rfl<|.nc rfl<|.fa rfl<|.lo rfl<|.q (.bI n)<|.q .lss<|.zn<|.cond rfl (λl=>?_) λl=>?_
 have m:i<L.length:=cg l
 obtain⟨x,f⟩:=bQ m
 refine .kn<|.seq<|.block<|.seq<|.fS mixed (by kernel_rfl) ?_
 refine .mo rfl<|.nc rfl<|.fa rfl<|.lo rfl<|.mo rfl ?_
 refine .bC i n f (λD=>?_)
 refine .fa rfl<|.q (.loadT rfl) ?_
 refine .q (.aM rfl)<|.q (.mJ rfl rfl (aB.kinds x.t) (aB.kinds t)) ?_
 rw[show eE (List.take 7 (List.drop 0 x.enc)) t.enc=decide (x.t=t)from aB.eq x.t t]
 refine .mo rfl<|.split (t:=25) rfl (λa=>?_) (λa=>?_)
 refine .gT a<|.mo rfl<|.gT a<|.nc rfl<|.gT a<|.fa rfl<|.gT a<|.lo rfl<|.gT a<|.mo rfl<|.gT a ?_
 refine .bC i n f (λE=>?_)
 refine .gT a<|.fa rfl<|.gT a<|.lo rfl<|.gT a<|.q .bU<|.q (.aT a)<|.zn<|.cond rfl (λr=>?_) λr=>?_
 refine .sr<|.mo rfl<|.az rfl<|.ret (bw (aJ (cG (bw (aJ (aP rfl ?_))))))
 ·exact⟨⟨_,rfl,.inl ⟨i,x,rfl,f,by unfold bB.eT;simp_all,g⟩⟩,rfl⟩
 refine .skip<|aS<|au<|.region<|.mo rfl<|.ia (i+1) .add<|.ag rfl<|.nil ?_
 ·exact bd (i+1) ⟨m,λk y e d=>by
   rcases Nat.lt_or_eq_of_le (Nat.le_of_lt_succ e)with h3|h3
   ·exact g k y h3 d
   ·subst h3
    rw[f]at d
    cases d
    unfold bB.eT
    simp_all⟩ (by omega) kE.c.c.c rH
 refine .gF a<|.gF a<|.gF a<|.gF a<|.gF a<|.gF a<|.gF a<|.gF a<|.gF a<|.q (.aQ a)<|.zn<|.cU<|.skip<|aS<|au<|.region<|.mo rfl<|.ia (i+1) .add<|.ag rfl<|.nil ?_
 ·exact bd (i+1) ⟨m,λk y e d=>by
   rcases Nat.lt_or_eq_of_le (Nat.le_of_lt_succ e)with h3|h3
   ·exact g k y h3 d
   ·subst h3
    rw[f]at d
    cases d
    unfold bB.eT
    simp_all⟩ (by omega) kE.c.c.c rH
 refine .exit<|bo<|bq<|bp<|au<|.sr<|.az rfl<|.ret (aP rfl ?_)
 ·have w:i=L.length:=by have:=bA l;omega
  refine⟨⟨_,rfl,.inr ⟨rfl,?_⟩⟩,rfl⟩
  unfold dw
  rw[List.any_eq_false]
  intro y d p
  obtain⟨j,s,rfl⟩:=agk.1 d
  have:=g j _ (by omega) (aZ s)
  rw[this]at p
  cases p
theorem Q7(vm vn vc:Value)(bF no:List aB)(cs:List cD)(R:ay)(s:RS R 7 aB.enc vm bF)(w:RS R 7 aB.enc vn no)(m:RS R 8 cD.enc vc cs)(fm:∀t∈bF,t.fits)(fn:∀t∈no,t.fits)(fc:∀c∈cs,c.t.fits):
  Spec prog 108 [vm,vn,vc] R [] λu H'=>u=.int .i64 (gh bF no cs)/\H'=[]:=by
 have lm:=s.le
 have ln:=w.le
 have lc:=m.le
 obtain⟨D,B,rfl⟩:=s.val
 obtain⟨E,C,rfl⟩:=w.val
 obtain⟨F,A,rfl⟩:=m.val
 refine Spec.body func108 rfl results108 ntmps108 rfl<|.sr<|.ag rfl<|.zs<|.sr<|.mo rfl<|.q (.bI m)<|.q .gtr<|.mo rfl<|.split (t:=15) rfl (λj=>?_) (λj=>?_)
 refine .gF j<|.gF j<|.gF j<|.q (.aT j)<|.mo rfl<|.gX<|.gX<|.gX<|.q .db<|.mo rfl<|.gX<|.gX<|.gX<|.q .db<|.zn<|.ig ?_
 have f:32<cs.length\/cs.length=0\/32<bF.length\/32<no.length:=by simp_all;try omega
 refine .sr<|.az rfl<|.ret (aJ (aP rfl ?_))
 ·(refine⟨?_,rfl⟩;rw[nU f];done)
 refine .gT j<|.mo rfl<|.gT j<|.q (.bI m)<|.gT j<|.q .bU<|.q (.aQ j)<|.mo rfl<|.split (t:=20) rfl (λl=>?_) (λl=>?_)
 refine .gF l<|.gF l<|.gF l<|.q (.aT l)<|.mo rfl<|.gX<|.gX<|.gX<|.q .db<|.zn<|.ig ?_
 have f:32<cs.length\/cs.length=0\/32<bF.length\/32<no.length:=by simp_all;try omega
 refine .sr<|.az rfl<|.ret (aJ (aP rfl ?_))
 ·(refine⟨?_,rfl⟩;rw[nU f];done)
 refine .gT l<|.mo rfl<|.gT l<|.q (.bI s)<|.gT l<|.q .gtr<|.q (.aQ l)<|.mo rfl<|.split (t:=25) rfl (λh=>?_) (λh=>?_)
 refine .gF h<|.gF h<|.gF h<|.q (.aT h)<|.zn<|.ig ?_
 have f:32<cs.length\/cs.length=0\/32<bF.length\/32<no.length:=by simp_all;try omega
 refine .sr<|.az rfl<|.ret (aJ (aP rfl ?_))
 ·(refine⟨?_,rfl⟩;rw[nU f];done)
 refine .gT h<|.mo rfl<|.gT h<|.q (.bI w)<|.gT h<|.q .gtr<|.q (.aQ h)<|.zn<|.cond rfl (λh1=>?_) λh1=>?_
 have f:32<cs.length\/cs.length=0\/32<bF.length\/32<no.length:=by simp_all;try omega
 refine .sr<|.az rfl<|.ret (aJ (aP rfl ?_))
 ·(refine⟨?_,rfl⟩;rw[nU f];done)
 have f:¬(32<cs.length\/cs.length=0\/32<bF.length\/32<no.length):=by simp_all;try omega
 refine .kn<|.seq<|.sr<|.az rfl<|.block<|.loop (X:=Nat) (λi=>i<=bF.length/\(bF.take i).any (λt=> !eS t)=false) (λi=>[(0,.slice D bF.length B),(1,.slice E no.length C),(2,.slice F cs.length A),(7,iN i)]) (λ_=>[]) (λi=>bF.length-i) 0 ⟨afz _,by simp⟩ kE.c.c.c.c rH ?_
 rintro i ⟨T,p⟩
 refine .seq<|.sr<|.mo rfl<|.mo rfl<|.q (.bI s)<|.q .lss<|.zn<|.cond rfl (λH=>?_) λH=>?_
 have g:i<bF.length:=cg H
 obtain⟨x,d⟩:=bQ g
 refine .kn<|.seq<|.block<|.sr<|.mo rfl<|.mo rfl ?_
 refine .bC i s d (λa2=>?_)
 refine .q (.aM rfl)<|.aX (wY x (fm x (ba d)) _) (λv z=>?_)
 subst z
 refine .q .not<|.zn<|.cond rfl (λI=>?_) λI=>?_
 have n:gh bF no cs=9:=qp f (by rw[afR.2 ⟨x,ba d,I⟩];simp)
 refine .sr<|.az rfl<|.ret (bw (aJ (cG (bw (aJ (aP rfl ?_))))))
 ·(refine⟨?_,rfl⟩;rw[n];done)
 refine .skip<|aS<|au<|.region<|.mo rfl<|.ia (i+1) .add<|.ag rfl<|.nil ?_
 ·exact bd (i+1) ⟨g,by rw[af3,d,aga,p];simp;simpa using I⟩ (by omega) kE.c.c.c.c rH
 have o:i=bF.length:=by have:=bA H;omega
 subst o
 rw[afJ]at p
 refine .exit<|bo<|bq<|bp<|au<|.seq<|.sr<|.az rfl<|.block<|.loop (X:=Nat) (λi=>i<=no.length/\(no.take i).any (λt=> !eS t)=false) (λi=>[(0,.slice D bF.length B),(1,.slice E no.length C),(2,.slice F cs.length A),(8,iN i)]) (λ_=>[]) (λi=>no.length-i) 0 ⟨afz _,by simp⟩ kE.c.c.c.c rH ?_
 rintro i ⟨T,r⟩
 refine .seq<|.sr<|.mo rfl<|.mo rfl<|.q (.bI w)<|.q .lss<|.zn<|.cond rfl (λJ=>?_) λJ=>?_
 have g:i<no.length:=cg J
 obtain⟨x,d⟩:=bQ g
 refine .kn<|.seq<|.block<|.sr<|.mo rfl<|.mo rfl ?_
 refine .bC i w d (λa3=>?_)
 refine .q (.aM rfl)<|.aX (wY x (fn x (ba d)) _) (λv z=>?_)
 subst z
 refine .q .not<|.zn<|.cond rfl (λK=>?_) λK=>?_
 have n:gh bF no cs=9:=qp f (by rw[p,afR.2 ⟨x,ba d,K⟩];simp)
 refine .sr<|.az rfl<|.ret (bw (aJ (cG (bw (aJ (aP rfl ?_))))))
 ·(refine⟨?_,rfl⟩;rw[n];done)
 refine .skip<|aS<|au<|.region<|.mo rfl<|.ia (i+1) .add<|.ag rfl<|.nil ?_
 ·exact bd (i+1) ⟨g,by rw[af3,d,aga,r];simp;simpa using K⟩ (by omega) kE.c.c.c.c rH
 have o:i=no.length:=by have:=bA J;omega
 subst o
 rw[afJ]at r
 refine .exit<|bo<|bq<|bp<|au<|.seq<|.sr<|.az rfl<|.block<|.loop (X:=Nat) (λi=>i<=cs.length/\(cs.take i).any (λc=> !eS c.t)=false) (λi=>[(0,.slice D bF.length B),(1,.slice E no.length C),(2,.slice F cs.length A),(9,iN i)]) (λ_=>[]) (λi=>cs.length-i) 0 ⟨afz _,by simp⟩ kE.c.c.c.c rH ?_
 rintro i ⟨T,Q⟩
 refine .seq<|.sr<|.mo rfl<|.mo rfl<|.q (.bI m)<|.q .lss<|.zn<|.cond rfl (λL=>?_) λL=>?_
 have g:i<cs.length:=cg L
 obtain⟨x,d⟩:=bQ g
 refine .kn<|.seq<|.block<|.sr<|.mo rfl<|.mo rfl ?_
 refine .bC i m d (λa4=>?_)
 refine .fa rfl<|.q (.loadT rfl)<|.aX (wY x.t (fc x (ba d)) _) (λv z=>?_)
 subst z
 refine .q .not<|.zn<|.cond rfl (λM=>?_) λM=>?_
 have n:gh bF no cs=9:=qp f (by rw[p,r,afR.2 ⟨x,ba d,M⟩];simp)
 refine .sr<|.az rfl<|.ret (bw (aJ (cG (bw (aJ (aP rfl ?_))))))
 ·(refine⟨?_,rfl⟩;rw[n];done)
 refine .skip<|aS<|au<|.region<|.mo rfl<|.ia (i+1) .add<|.ag rfl<|.nil ?_
 ·exact bd (i+1) ⟨g,by rw[af3,d,aga,Q];simp;simpa using M⟩ (by omega) kE.c.c.c.c rH
 have o:i=cs.length:=by have:=bA L;omega
 subst o
 rw[afJ]at Q
 have V:∀c∈cs,eS c.t=true:=λc n=>by
  have:=List.any_eq_false.1 Q c n
  simpa using this
 refine .exit<|bo<|bq<|bp<|au<|.seq<|.sr<|.az rfl<|.block<|.loop (X:=Nat) (λi=>i<=cs.length/\((cs.take i).map (·.t)).Nodup) (λi=>[(0,.slice D bF.length B),(1,.slice E no.length C),(2,.slice F cs.length A),(10,iN i)]) (λ_=>[]) (λi=>cs.length-i) 0 ⟨afz _,by simp⟩ kE.c.c.c.c rH ?_
 rintro i ⟨T,S⟩
 refine .seq<|.sr<|.mo rfl<|.mo rfl<|.q (.bI m)<|.q .lss<|.zn<|.cond rfl (λN=>?_) λN=>?_
 have g:i<cs.length:=cg N
 obtain⟨x,d⟩:=bQ g
 have a1:(cs.take (i+1)).map (·.t)=(cs.take i).map (·.t)++[x.t]:=by rw[af3,d,Option.toList_some,afD];rfl
 refine .kn<|.seq<|.block<|.sr<|.az rfl<|.block<|.loop (X:=Nat) (λk=>k<=i/\x.t∉(cs.take k).map (·.t)) (λk=>[(0,.slice D bF.length B),(1,.slice E no.length C),(2,.slice F cs.length A),(10,iN i),(11,iN k)]) (λ_=>[]) (λk=>i-k) 0 ⟨afz _,by simp⟩ kE.c.c.c.c.c rH ?_
 rintro k ⟨hk,W⟩
 refine .seq<|.sr<|.mo rfl<|.mo rfl<|.q .lss<|.zn<|.cond rfl (λO=>?_) λO=>?_
 have Z:k<i:=cg O
 obtain⟨y,U⟩:∃x,cs[k]? =some x:=⟨_,aZ (by omega)⟩
 refine .kn<|.seq<|.block<|.seq<|.fS mixed (by kernel_rfl)<|.mo rfl<|.mo rfl ?_
 refine .bC i m d (λa5=>?_)
 refine .fa rfl<|.q (.loadT rfl) ?_
 refine .mo rfl<|.mo rfl ?_
 refine .bC k m U (λa6=>?_)
 refine .fa rfl<|.q (.loadT rfl) ?_
 refine .q (.mJ rfl rfl (aB.kinds x.t) (aB.kinds y.t)) ?_
 rw[show eE (List.take 7 (List.drop 1 x.enc)) (List.take 7 (List.drop 1 y.enc))=decide (x.t=y.t)from aB.eq x.t y.t]
 refine .zn<|.cond rfl (λG=>?_) λG=>?_
 have n:gh bF no cs=2:=by
  rw[uh f p r V true ?_];rfl
  rw[eq_comm,agj,decide_eq_false_iff_not]
  intro hn
  have:=List.pairwise_iff_getElem.1 hn k i (by simp;omega) (by simp;omega) Z
  rw[agl,agl,(afT.1 d).2,(afT.1 U).2]at this
  exact this (bT G).symm
 refine .sr<|.az rfl<|.ret (bw (aJ (cG (bw (bw (aJ (cG (bw (aJ (aP rfl ?_))))))))))
 ·(refine⟨?_,rfl⟩;rw[n];done)
 refine .skip<|aS<|au<|.region<|.mo rfl<|.ia (k+1) .add<|.ag rfl<|.nil ?_
 ·exact bd (k+1) ⟨Z,by
   rw[af3,U,Option.toList_some,afD,afL,not_or]
   exact⟨W,by simpa using G⟩⟩ (by omega) kE.c.c.c.c.c rH
 have a0:k=i:=by have:=bA O;omega
 subst a0
 refine .exit<|bo<|bq<|bp<|aS<|au<|.region<|.mo rfl<|.ia (k+1) .add<|.ag rfl<|.nil ?_
 ·exact bd (k+1) ⟨g,by
   rw[a1,List.nodup_append]
   exact⟨S,by simp,λa ha b Y=>by simp only[afF]at Y;subst Y;exact λe=>W (e▸ha)⟩⟩ (by omega) kE.c.c.c.c rH
 have o:i=cs.length:=by have:=bA N;omega
 subst o
 rw[afJ]at S
 refine .exit<|bo<|bq<|bp<|au<|.sr<|.az rfl<|.ret (aP rfl ?_)
 ·(refine⟨?_,rfl⟩;rw[uh f p r V false (by simp[S])];rfl)
end
theorem pO{α:Type}{p:α->Bool}{l:List α}{i:Nat}{x:α}(h:(l.take i).any p=false)(b:l[i]? =some x)(a:p x=false):(l.take (i+1)).any p=false:=by
 rw[af3,b,aga,h]
 simp[a]
theorem Cl{L:List bB}{head:Int}{bF no:List aB}{cs:List cD}(h:(bF.any (λt=> !dw L t)||no.any (λt=>dw L t))=true):fk L head bF no cs=13:=by unfold fk;rw[afB h]
theorem SE{L:List bB}{head:Int}{bF no:List aB}{cs:List cD}(a:bF.any (λt=> !dw L t)=false)(b:no.any (λt=>dw L t)=false)(h:cs.any (λc=>c.put&&dw L c.t)=true):fk L head bF no cs=10:=by unfold fk;rw[a,b,afA (by simp),afB h]
theorem SC{L:List bB}{head:Int}{bF no:List aB}{cs:List cD}(a:bF.any (λt=> !dw L t)=false)(b:no.any (λt=>dw L t)=false)(d:cs.any (λc=>c.put&&dw L c.t)=false)(h:cs.any (λc=> !c.put&& !dw L c.t)=true):fk L head bF no cs=11:=by unfold fk;rw[a,b,afA (by simp),afA (by rw[d];simp),afB h]
theorem SF{L:List bB}{head:Int}{bF no:List aB}{cs:List cD}(a:bF.any (λt=> !dw L t)=false)(b:no.any (λt=>dw L t)=false)(d:cs.any (λc=>c.put&&dw L c.t)=false)(e:cs.any (λc=> !c.put&& !dw L c.t)=false):fk L head bF no cs=if 4611686018427387903<=head\/4096<L.length+fy cs/\0<fy cs then 8 else 0:=by unfold fk;rw[a,b,afA (by simp),afA (by rw[d];simp),afA (by rw[e];simp)]
theorem Ri{R:ay}{b:Nat}{S:cT}{vL:Value}{L:List bB}(h:DV R b S vL L)(a4:L.length<=5000)(vm vn vc:Value)(bF no:List aB)(cs:List cD)(E:RS R 7 aB.enc vm bF)(F:RS R 7 aB.enc vn no)(m:RS R 8 cD.enc vc cs)(a3:cs.length<=1000):
  Spec prog 109 [pT b,vm,vn,vc] R [] λu H'=>u=.int .i64 (fk L S.head bF no cs)/\H'=[]:=by
 have pc:=h.pc
 have a6:=h.rs.aE
 obtain⟨pw,a7,rfl⟩:=h.rs.val
 have a0:=h.rs
 have lm:=E.le
 have ln:=F.le
 have lc:=m.le
 obtain⟨M,J,rfl⟩:=E.val
 obtain⟨N,K,rfl⟩:=F.val
 obtain⟨O,I,rfl⟩:=m.val
 refine Spec.body func109 rfl results109 ntmps109 rfl<|.sr<|.ag rfl<|.zs<|.sr<|.az rfl<|.block<|.loop (X:=Nat) (λi=>i<=bF.length/\(bF.take i).any (λt=> !dw L t)=false) (λi=>[(0,pT b),(1,.slice M bF.length J),(2,.slice N no.length K),(3,.slice O cs.length I),(9,iN i)]) (λ_=>[]) (λi=>bF.length-i) 0 ⟨afz _,by simp⟩ kE.c.c.c.c.c rH ?_
 rintro i ⟨hi,y⟩
 refine .seq<|.sr<|.mo rfl<|.mo rfl<|.q (.bI E)<|.q .lss<|.zn<|.cond rfl (λQ=>?_) λQ=>?_
 have j:i<bF.length:=cg Q
 obtain⟨x,e⟩:=bQ j
 refine .kn<|.seq<|.block<|.sr<|.mo rfl<|.mo rfl<|.mo rfl ?_
 refine .bC i E e (λa8=>?_)
 refine .q (.aM rfl)<|.aX ((h.mono λb o n=>.inl n).find x) (λv s=>?_)
 obtain⟨z,rfl,w⟩:=s
 have k:=w.lt
 refine .q .lss<|.zn<|.cond rfl (λT=>?_) λT=>?_
 have p:fk L S.head bF no cs=13:=Cl (by rw[afR.2 ⟨x,ba e,by rw[<-k];exact T⟩];simp)
 refine .sr<|.az rfl<|.ret (bw (aJ (cG (bw (aJ (aP rfl ?_))))))
 ·(refine⟨?_,rfl⟩;rw[p];done)
 refine .skip<|aS<|au<|.region<|.mo rfl<|.ia (i+1) .add<|.ag rfl<|.nil ?_
 ·exact bd (i+1) ⟨j,pO y e (by rw[<-k];exact T)⟩ (by omega) kE.c.c.c.c.c (aN [])
 have r:i=bF.length:=by have:=bA Q;omega
 subst r
 rw[afJ]at y
 refine .exit<|bo<|bq<|bp<|au<|.seq<|.sr<|.az rfl<|.block<|.loop (X:=Nat) (λi=>i<=no.length/\(no.take i).any (λt=>dw L t)=false) (λi=>[(0,pT b),(1,.slice M bF.length J),(2,.slice N no.length K),(3,.slice O cs.length I),(10,iN i)]) (λ_=>[]) (λi=>no.length-i) 0 ⟨afz _,by simp⟩ kE.c.c.c.c.c rH ?_
 rintro i ⟨hi,B⟩
 refine .seq<|.sr<|.mo rfl<|.mo rfl<|.q (.bI F)<|.q .lss<|.zn<|.cond rfl (λU=>?_) λU=>?_
 have j:i<no.length:=cg U
 obtain⟨x,e⟩:=bQ j
 refine .kn<|.seq<|.block<|.sr<|.mo rfl<|.mo rfl<|.mo rfl ?_
 refine .bC i F e (λa9=>?_)
 refine .q (.aM rfl)<|.aX ((h.mono λb o n=>.inl n).find x) (λv s=>?_)
 obtain⟨z,rfl,w⟩:=s
 have k:=w.ge
 refine .q .geq<|.zn<|.cond rfl (λV=>?_) λV=>?_
 have p:fk L S.head bF no cs=13:=Cl (by rw[y,afR.2 ⟨x,ba e,by rw[<-k];exact V⟩];rfl)
 refine .sr<|.az rfl<|.ret (bw (aJ (cG (bw (aJ (aP rfl ?_))))))
 ·(refine⟨?_,rfl⟩;rw[p];done)
 refine .skip<|aS<|au<|.region<|.mo rfl<|.ia (i+1) .add<|.ag rfl<|.nil ?_
 ·exact bd (i+1) ⟨j,pO B e (by rw[<-k];exact V)⟩ (by omega) kE.c.c.c.c.c (aN [])
 have r:i=no.length:=by have:=bA U;omega
 subst r
 rw[afJ]at B
 refine .exit<|bo<|bq<|bp<|au<|.seq<|.sr<|.az rfl<|.block<|.loop (X:=Nat) (λi=>i<=cs.length/\(cs.take i).any (λc=>c.put&&dw L c.t)=false) (λi=>[(0,pT b),(1,.slice M bF.length J),(2,.slice N no.length K),(3,.slice O cs.length I),(11,iN i)]) (λ_=>[]) (λi=>cs.length-i) 0 ⟨afz _,by simp⟩ kE.c.c.c.c.c rH ?_
 rintro i ⟨hi,C⟩
 refine .seq<|.sr<|.mo rfl<|.mo rfl<|.q (.bI m)<|.q .lss<|.zn<|.cond rfl (λW=>?_) λW=>?_
 have j:i<cs.length:=cg W
 obtain⟨x,e⟩:=bQ j
 refine .kn<|.seq<|.block<|.sr<|.mo rfl<|.mo rfl ?_
 refine .bC i m e (λb0=>?_)
 refine .fa rfl<|.lo rfl<|.mo rfl<|.split (t:=51) rfl (λd=>?_) (λd=>?_)
 refine .gT d<|.mo rfl<|.gT d<|.mo rfl<|.gT d<|.mo rfl<|.gT d ?_
 refine .bC i m e (λb1=>?_)
 refine .gT d<|.fa rfl<|.gT d<|.q (.loadT rfl)<|.gT d<|.aX ((h.mono λb o n=>.inl n).find x.t) (λv s=>?_)
 obtain⟨z,rfl,w⟩:=s
 have k:=w.ge
 refine .gT d<|.q .geq<|.q (.aT d)<|.zn<|.cond rfl (λY=>?_) λY=>?_
 have p:fk L S.head bF no cs=10:=SE y B (afR.2 ⟨x,ba e,by rw[<-k,d];exact Y⟩)
 refine .sr<|.az rfl<|.ret (bw (aJ (cG (bw (aJ (aP rfl ?_))))))
 ·(refine⟨?_,rfl⟩;rw[p];done)
 refine .skip<|aS<|au<|.region<|.mo rfl<|.ia (i+1) .add<|.ag rfl<|.nil ?_
 ·exact bd (i+1) ⟨j,pO C e (by rw[<-k,d];exact Y)⟩ (by omega) kE.c.c.c.c.c (aN [])
 refine .gF d<|.gF d<|.gF d<|.gF d<|.gF d<|.gF d<|.gF d<|.gF d<|.q (.aQ d)<|.zn<|.cU<|.skip<|aS<|au<|.region<|.mo rfl<|.ia (i+1) .add<|.ag rfl<|.nil ?_
 ·exact bd (i+1) ⟨j,pO C e (by rw[d];rfl)⟩ (by omega) kE.c.c.c.c.c (aN [])
 have r:i=cs.length:=by have:=bA W;omega
 subst r
 rw[afJ]at C
 refine .exit<|bo<|bq<|bp<|au<|.sr<|.mo rfl<|.nc rfl<|.fa rfl<|.lo rfl<|.q (.bI a0)<|.ag rfl<|.zs<|.sr<|.az rfl<|.block<|.loop (X:=Nat) (λi=>i<=cs.length/\(cs.take i).any (λc=> !c.put&& !dw L c.t)=false) (λi=>[(0,pT b),(1,.slice M bF.length J),(2,.slice N no.length K),(3,.slice O cs.length I),(12,.int .i64 ((L.length+fy (cs.take i):Nat):Int)),(13,iN i)]) (λ_=>[]) (λi=>cs.length-i) 0 ⟨afz _,by simp⟩ kE.c.c.c.c.c.c rH ?_
 rintro i ⟨hi,D⟩
 have a5:fy (cs.take i)<=1000:=by unfold fy;exact afM (afS _ _) (by rw[afI];omega)
 refine .seq<|.sr<|.mo rfl<|.mo rfl<|.q (.bI m)<|.q .lss<|.zn<|.cond rfl (λZ=>?_) λZ=>?_
 have j:i<cs.length:=cg Z
 obtain⟨x,e⟩:=bQ j
 have H:=Cz e
 refine .kn<|.seq<|.block<|.seq<|.sr<|.mo rfl<|.mo rfl ?_
 refine .bC i m e (λb2=>?_)
 refine .fa rfl<|.lo rfl<|.q .not<|.mo rfl<|.split (t:=78) rfl (λa=>?_) (λa=>?_)
 refine .gT a<|.mo rfl<|.gT a<|.mo rfl<|.gT a<|.mo rfl<|.gT a ?_
 refine .bC i m e (λb3=>?_)
 refine .gT a<|.fa rfl<|.gT a<|.q (.loadT rfl)<|.gT a<|.aX ((h.mono λb o n=>.inl n).find x.t) (λv s=>?_)
 obtain⟨z,rfl,w⟩:=s
 have k:=w.lt
 refine .gT a<|.q .lss<|.q (.aT a)<|.zn<|.cond rfl (λh8=>?_) λh8=>?_
 have p:fk L S.head bF no cs=11:=SC y B C (afR.2 ⟨x,ba e,by rw[<-k,a];exact h8⟩)
 refine .sr<|.az rfl<|.ret (aJ (bw (aJ (cG (bw (aJ (aP rfl ?_)))))))
 ·(refine⟨?_,rfl⟩;rw[p];done)
 refine .kn<|.sr<|.mo rfl<|.mo rfl ?_
 refine .bC i m e (λa2=>?_)
 refine .fa rfl<|.lo rfl<|.zn<|.cond rfl (λl=>?_) λl=>?_
 have A:L.length+fy (cs.take (i+1))=L.length+fy (cs.take i)+1:=by rw[H,afB l];rfl
 refine .region<|.mo rfl<|.ia (L.length+fy (cs.take i)+1) .add<|.ag rfl<|.nil<|aS<|au<|.region<|.mo rfl<|.ia (i+1) .add<|.ag rfl<|.nil ?_
 ·(exfalso;rw[l]at a;cases a;done)
 have A:L.length+fy (cs.take (i+1))=L.length+fy (cs.take i):=by rw[H,afA (by rw[l];simp)];rfl
 refine .skip<|aS<|au<|.region<|.mo rfl<|.ia (i+1) .add<|.ag rfl<|.nil ?_
 ·(refine bd (i+1) ⟨j,pO D e ?_⟩ (by omega) (by simp only[A];exact kE.c.c.c.c.c.c) (aN []);rw[<-k,a];exact h8)
 refine .gF a<|.gF a<|.gF a<|.gF a<|.gF a<|.gF a<|.gF a<|.gF a<|.q (.aQ a)<|.zn<|.cU<|.kn<|.sr<|.mo rfl<|.mo rfl ?_
 refine .bC i m e (λa2=>?_)
 refine .fa rfl<|.lo rfl<|.zn<|.cond rfl (λl=>?_) λl=>?_
 have A:L.length+fy (cs.take (i+1))=L.length+fy (cs.take i)+1:=by rw[H,afB l];rfl
 refine .region<|.mo rfl<|.ia (L.length+fy (cs.take i)+1) .add<|.ag rfl<|.nil<|aS<|au<|.region<|.mo rfl<|.ia (i+1) .add<|.ag rfl<|.nil ?_
 ·(refine bd (i+1) ⟨j,pO D e ?_⟩ (by omega) (by simp only[A];exact kE.c.c.c.c.c.c) (aN []);rw[l];rfl)
 have A:L.length+fy (cs.take (i+1))=L.length+fy (cs.take i):=by rw[H,afA (by rw[l];simp)];rfl
 refine .skip<|aS<|au<|.region<|.mo rfl<|.ia (i+1) .add<|.ag rfl<|.nil ?_
 ·(exfalso;rw[l]at a;cases a;done)
 have r:i=cs.length:=by have:=bA Z;omega
 subst r
 rw[afJ]at D
 rw[afJ]
 have G:=SF (head:=S.head) y B C D
 refine .exit<|bo<|bq<|bp<|au<|.seq<|.sr<|.mo rfl<|.nc rfl<|.fa rfl<|.lo rfl<|.q .geq<|.mo rfl<|.split (t:=100) rfl (λg=>?_) (λg=>?_)
 refine .gF g<|.gF g<|.gF g<|.dg rfl<|.dg rfl<|.dg rfl<|.dg rfl<|.dg rfl<|.dg rfl<|.dg rfl<|.gF g<|.q (.aT g)<|.zn<|.ig<|.sr<|.az rfl<|.ret (aJ (aP rfl ?_))
 ·(refine⟨?_,rfl⟩;rw[G];congr 1;split<;>first|rfl|(exfalso;simp_all;done)|(exfalso;simp_all;omega))
 refine .gT g<|.mo rfl<|.gT g<|.q .gtr<|.gT g<|.mo rfl<|.split (t:=103) rfl (λf=>?_) (λf=>?_)
 refine .gT f<|.mo rfl<|.gT f<|.mo rfl<|.gT f<|.nc rfl<|.gT f<|.fa rfl<|.gT f<|.lo rfl<|.gT f<|.q (.bI a0)<|.gT f<|.q .gtr<|.gT g<|.q (.aT f)<|.q (.aQ g)<|.zn<|.cond rfl (λa1=>?_) λa1=>?_
 refine .sr<|.az rfl<|.ret (aJ (aP rfl ?_))
 ·(refine⟨?_,rfl⟩;rw[G];congr 1;split<;>first|rfl|(exfalso;simp_all;done)|(exfalso;simp_all;omega))
 refine .kn<|.sr<|.az rfl<|.ret (aP rfl ?_)
 ·(refine⟨?_,rfl⟩;rw[G];congr 1;split<;>first|rfl|(exfalso;simp_all;done)|(exfalso;simp_all;omega))
 refine .gF f<|.gF f<|.gF f<|.gF f<|.gF f<|.gF f<|.gF f<|.gT g<|.q (.aQ f)<|.q (.aQ g)<|.zn<|.cU<|.kn<|.sr<|.az rfl<|.ret (aP rfl ?_)
 ·(refine⟨?_,rfl⟩;rw[G];congr 1;split<;>first|rfl|(exfalso;simp_all;done)|(exfalso;simp_all;omega))
def DO(b:Nat)(S:cT)(T:aw):Prop:=∃vL L TL,T=(b,.cells [vL,.int .u64 S.head,.int .u64 S.dV].toArray 103 (0,0))::TL/\OS 226 9 bB.enc vL L TL/\RL S L
theorem DO.view{b:Nat}{S:cT}{T:aw}{R:ay}(h:DO b S T)(a:∀p∈T,R p.1 p.2):∃vL L,DV R b S vL L/\RL S L:=by
 obtain⟨vL,L,f,rfl,c,d⟩:=h
 exact⟨vL,L,⟨PC.of (E:=103) (fr:=(0,0)) (a (b,_) (by simp)),c.rs λp e=>a p (by simp[e])⟩,d⟩
theorem RL.len{S:cT}(a:gj S){L:List bB}(h:RL S L):L.length<=4096:=by rw[h.pm.length_eq];exact a.len
theorem R9(b:Nat)(S:cT)(T:aw)(h:DO b S T)(g:gj S)(vm vn vc:Value)(bF no:List aB)(cs:List cD)(R:ay)(D:RS R 7 aB.enc vm bF)(F:RS R 7 aB.enc vn no)(a:RS R 8 cD.enc vc cs)(fm:∀t∈bF,t.fits)(fn:∀t∈no,t.fits)(fc:∀c∈cs,c.t.fits)(a5:cs.length<=1000):
  Spec prog 58 [pT b,vm,vn,vc] R [T] λu H'=>∃T',H'=[T']/\u=.tuple [.int .u64 (if gA S bF no cs=0 then S.head+1 else 0),.int .i64 (gA S bF no cs)].toArray/\DO b (iR S bF no cs) T':=by
 have a0:=g.h0
 have a1:=g.h1
 have a2:=g.h2
 have h0:=h
 obtain⟨pm,km,rfl⟩:=D.val
 obtain⟨pn,kn,rfl⟩:=F.val
 obtain⟨pv,kc,rfl⟩:=a.val
 obtain⟨c1,L0,a3,W⟩:=h.view (R:=Rx R [T]) λp hp=>.inr (by simp[hp])
 have b2:=W.len g
 refine Spec.body func58 rfl results58 ntmps58 rfl<|.sr<|.ag rfl<|.ag rfl<|.z<|.mo rfl<|.mo rfl<|.mo rfl<|.aX (Q7 _ _ _ bF no cs _ D.rx F.rx a.rx fm fn fc) (λv n=>?_)
 subst n
 refine .ag rfl<|.zs<|.sr<|.mo rfl<|.q .bU<|.zn ?_
 refine bz.cut (X:=Unit) (λ_=>True) (λ_=>[(0,pT b),(1,.slice pm bF.length km),(2,.slice pn no.length kn),(3,.slice pv cs.length kc),(10,.int .i64 (gA S bF no cs))]) (λ_=>[T]) ?_ ?_
 refine .cond rfl (λw=>?_) λw=>?_
 have G:gh bF no cs=0:=by simpa using w
 have s:fk L0 S.head bF no cs=gA S bF no cs:=by rw[ui G,SD W.pm]
 refine .region<|.mo rfl<|.mo rfl<|.mo rfl<|.mo rfl<|.aX (Ri a3 (by omega) _ _ _ bF no cs D.rx F.rx a.rx a5) (λv n=>?_)
 subst n
 refine .ag rfl<|.nil ?_
 ·exact aF () afG (by rw[<-s];exact kE.c.c.c.c.c) rH
 have G:gh bF no cs≠0:=by simpa using w
 have s:gh bF no cs=gA S bF no cs:=by rw[xf G]
 refine .skip ?_
 ·exact aF () afG (by rw[<-s];exact kE.c.c.c.c.c) rH
 intro x hx
 skip
 refine au<|.seq<|.sr<|.mo rfl<|.q .eh<|.zn<|.cond rfl (λA=>?_) λA=>?_
 have f:gA S bF no cs≠0:=by simpa using A
 refine .sr<|.mo rfl<|.ag rfl<|.az rfl<|.ret (aJ (aY _ (.two (.tmp rfl) (.tmp rfl)) (.one [0] _) ?_))
 ·exact⟨T,by simp[take],by rw[afA f],by rw[sd f];exact h0⟩
 have f:gA S bF no cs=0:=by simpa using A
 have K:=uj f
 have b4:=K.head
 obtain⟨vL,L,O,rfl,V,U⟩:=h
 have b6:=V.aE
 refine .kn<|.sr<|.sub (H':=[bl b [vL,.int .u64 S.head,.int .u64 S.dV] 103,O]) (bk.eK (by simp))<|.mo rfl<|.mo rfl<|.nc rfl<|.fa rfl<|.lo rfl<|.q (.u64 (S.head+1) .add ⟨rfl,by omega,by omega⟩)<|.nc rfl<|.fa rfl<|.dt rfl rfl<|.zs<|.sr<|.az rfl<|.block<|.loop (X:=Nat×Value×List bB×aw) (λy=>y.1<=cs.length/\OS 226 9 bB.enc y.2.1 y.2.2.1 y.2.2.2/\RL ⟨(cs.take y.1).foldl (fj (S.head+1)) S.rows,S.head+1,S.dV⟩ y.2.2.1) (λy=>[(0,pT b),(3,.slice pv cs.length kc),(11,iN y.1)]) (λy=>[bl b [y.2.1,.int .u64 (S.head+1),.int .u64 S.dV] 103,y.2.2.2]) (λy=>cs.length-y.1) (0,vL,L,O) ⟨afz _,V,⟨U.pm,U.st⟩⟩ kE.c.c.c rH ?_
 rintro⟨i,M,N,Q⟩ ⟨hi,e,o⟩
 simp only at hi e o⊢
 have b5:=e.aE
 have b3:=o.len (g.fold (K.take i))
 have lc:=a.le
 refine .seq<|.sr<|.mo rfl<|.mo rfl<|.q (.bI a)<|.q .lss<|.zn<|.cond rfl (λB=>?_) λB=>?_
 have H:i<cs.length:=cg B
 obtain⟨c,l⟩:=bQ H
 have c0:=a.pc l
 obtain⟨m,a6⟩:=RL.next g K l o
 refine .kn<|.seq<|.block<|.sr<|.mo rfl<|.mo rfl ?_
 refine .bC i a l (λb7=>?_)
 refine .fa rfl<|.lo rfl<|.zn<|.cond rfl (λC=>?_) λC=>?_
 refine .cY [18] mixed<|.tO 0 rfl .move<|.tO 1 rfl .move<|.tO 2 rfl (.nilCheck rfl)<|.tO 3 rfl (.fieldAddr rfl)<|.tO 4 rfl (.ca rfl)<|.tO 5 rfl .move<|.tO 6 rfl .move<|.tO 7 rfl (.bC i a l rfl rfl rfl)<|.tO 8 rfl (.fieldAddr rfl)<|.tO 9 rfl (.loadT rfl)<|.tO 10 rfl .move<|.tO 11 rfl (.nilCheck rfl)<|.tO 12 rfl (.fieldAddr rfl)<|.tO 13 rfl (.ca rfl)<|.tO 14 rfl .cL<|.sT 15 rfl<|.cX (Rn _ N ⟨c.t,S.head+1,0⟩ _ e.rx (by omega)) (λu Tn hu=>?_)
 have iu:=hu.aE
 refine .nil<|Next.sub<|.tO 16 rfl (.nilCheck rfl)<|.tO 17 rfl (.fieldAddr rfl)<|.sT 18 rfl<|.dt rfl rfl<|.nil<|Next.mod rfl<|RA.nil (by kernel_rfl)<|aS<|au<|.region<|.mo rfl<|.ia (i+1) .add<|.ag rfl<|.nil ?_
 ·exact bd (i+1,u,_,Tn) ⟨H,by simp only;exact hu,by simp only;unfold qg at m;rw[afB C]at m;exact m⟩ (by simp only;omega) (((kE.d rfl).d rfl).d rfl) (aN [1,0])
 obtain⟨j,x,r,J,b0,b1⟩:=a6 C
 refine .sr<|.mo rfl<|.mo rfl<|.mo rfl ?_
 refine .bC i a l (λb8=>?_)
 refine .fa rfl<|.q (.loadT rfl)<|.aX (DV.find (S:=⟨[],S.head+1,S.dV⟩) ⟨PC.of (E:=103) (fr:=(0,0)) (.inr (by simp)),e.rx⟩ c.t) (λv n=>?_)
 obtain⟨z,rfl,hz⟩:=n
 obtain rfl:z=(j:Int):=by
  rcases hz with⟨k,y,rfl,hy,Y,a9⟩|⟨_,I⟩
  ·rcases Nat.lt_trichotomy k j with h9|h9|h9
   ·rw[b0 k y h9 hy]at Y;cases Y
   ·rw[h9]
   ·rw[a9 j x h9 r]at J;cases J
  ·unfold dw at I
   rw[afR.2 ⟨x,ba r,J⟩]at I
   cases I
 refine .az rfl<|.dm 11 mixed (by kernel_rfl) ?_
 conv=>arg 6;dsimp only[List.take]
 refine .mo rfl<|.nc rfl<|.fa rfl<|.lo rfl<|.mo rfl<|.mo rfl<|.nc rfl<|.fa rfl<|.lo rfl ?_
 refine .aK j e r (λb9=>?_)
 refine .fa rfl<|.nil ?_
 refine .ph (k:=8) (cs:=[.int .u64 (S.head+1)]) (z':=⟨x.t,x.fr,S.head+1⟩) j e r rfl rfl rfl rfl rfl (by simp[aE]) rfl (by simp) (λTd a4=>?_)
 refine .nil<|aS<|au<|.region<|.mo rfl<|.ia (i+1) .add<|.ag rfl<|.nil ?_
 ·exact bd (i+1,M,_,Td) ⟨H,by simp only;exact a4,by simp only;rw[b1]at m;exact m⟩ (by simp only;omega) (((kE.d rfl).d rfl).d rfl) (aN [0,0])
 refine .exit<|bo<|bq<|bp<|au<|.sr<|.mo rfl<|.nc rfl<|.fa rfl<|.lo rfl<|.ag rfl<|.az rfl<|.ret (aY _ (.two (.tmp rfl) (.tmp rfl)) ((bk.eK (H':=[(b,.cells [M,.int .u64 (S.head+1),.int .u64 S.dV].toArray 103 (0,0))::Q]) (by simp))) ?_)
 ·have a8:i=cs.length:=by have:=bA B;omega
  subst a8
  have a7:=o.write f
  have Z:(iR S bF no cs).head=S.head+1/\(iR S bF no cs).dV=S.dV:=by unfold iR;rw[afB f];exact⟨rfl,rfl⟩
  exact⟨_,rfl,by rw[f];rfl,M,N,Q,by rw[Z.1,Z.2],e,a7⟩
structure mg where
 c:bL
 vw:Value
 calls:List fM
def mg.enc(w:mg):List Value:=[w.c.vs,w.c.vc,w.vw]
structure mg.is(R:ay)(w:mg):Prop where
 c:w.c.is R
 rs:RS R 12 fM.enc w.vw w.calls
 all:∀d∈w.calls,d.is R
theorem Ux{S:cT}(d:gj S)(bF no:List aB)(cs:List cD):(iR S bF no cs).rows.length<=S.rows.length+32:=by
 by_cases h:gA S bF no cs=0
 ·rw[CH d h]
  have b:gh bF no cs=0:=by
   unfold gA at h
   split at h
   ·rename_i a;exact absurd h a
   ·rename_i a;simpa using a
  have e:cs.length<=32:=by
   unfold gh at b
   split at b
   ·cases b
   ·omega
  simp only[afU,afC,news]
  have:=afS (λc:cD=>c.put) cs
  omega
 ·rw[sd h];omega
theorem gj.new:gj ⟨[],0,0⟩:=⟨λx a=>(by cases a),List.Pairwise.nil,by simp,Int.le_refl _,Int.le_refl _,by decide⟩
theorem Ac(c:Cf):oA [] 0 c=(c.numbers isWord dh).1:=by
 unfold oA
 simp only[List.getLast?_nil,Option.map_none,af6,Bool.false_eq_true,if_false,af4]
 by_cases h:(c.numbers isWord dh).1=0
 ·rw[afA (by rw[h];simp),h];rfl
 ·rw[afB h]
def Da(R:ay)(w:mg)(u:Value)(H:aV):Prop:=∃Tc Th Ts Tx hb g x e S,∃c:bL,H=[Tc,Th,Ts,Tx]/\u=.tuple [pT hb,pT g,.agg c.enc.toArray,pT x,.bool true].toArray/\
 c.is (λb o=>R b o\/(b,o)∈Tc)/\c.plain=eR w.c.plain/\((eR w.c.plain).numbers isWord dh).1=0/\ep.rev e=0/\(ep.c e).plain=eR w.c.plain/\HI hb [e] 0 Th/\SI g S Ts/\gj S/\DO x S Tx/\S.rows.length<=512
theorem PN(w:mg)(R:ay)(h:w.is R):Spec prog 14 [.agg w.enc.toArray] R [] λu H'=>Da R w u H'\/
  ∃T c,∃x:Nat,H'=[T]/\u=.tuple [.pointer none,.pointer none,.agg (bL.enc c).toArray,pT x,.bool false].toArray/\c.is (λb o=>R b o\/(b,o)∈T)/\c.plain=eR w.c.plain/\((eR w.c.plain).numbers isWord dh).1≠0:=by
 obtain⟨c,vw,a4⟩:=w
 have I:=h.c
 have M:=h.rs
 have Z:=h.all
 simp only at I M Z⊢
 have i1:One c.vs:=RS.aE I.ss
 have i2:One c.vc:=RS.aE I.sc
 have i3:=M.aE
 have a9:=Ac (eR c.plain)
 refine Spec.body func14 rfl results14 ntmps14 rfl<|.sr ?_
 refine .cb rfl (λb1=>?_)
 refine .ag rfl<|.ag rfl ?_
 refine .bX (λb4=>?_)
 refine .ag rfl<|.ag rfl<|.z<|.fa rfl<|.q (.loadT rfl)<|.cX ((OH c R I).weaken cM) (λu Tc a=>?_)
 obtain⟨n,rfl,r,J⟩:=a
 have ic:cB n.enc:=⟨r.cV⟩
 have c7:One n.vs:=RS.aE r.ss
 have c8:One n.vc:=RS.aE r.sc
 refine .bX (λb7=>?_)
 refine .bN rfl rfl<|.z<|.q (.aM rfl)<|.cX ((BS n _ r).weaken λb o j=>j.elim .inl λj=>.inr (by simp[j])) (λu Tn a=>?_)
 obtain⟨wn,d3,rfl,a7,c4⟩:=a
 rw[J]
 have c9:One wn:=a7.rs.aE
 refine .mo rfl<|.q .extract<|.q .extract<|.ag rfl<|.ag rfl<|.z<|.cX (Ae _) (λu Th a=>?_)
 obtain⟨j,rfl,hH⟩:=a
 refine .cX (Cp _) (λu A a=>?_)
 obtain⟨g,rfl,v⟩:=a
 refine .q .cL ?_
 refine .cb rfl (λD=>?_)
 refine .ag rfl<|.ag rfl<|.ag rfl<|.zs<|.sr<|.mo rfl<|.q .eh<|.mo rfl<|.split (t:=29) rfl (λk=>?_) (λk=>?_)
 have b9:((eR c.plain).numbers isWord dh).1≠0:=by simpa using k
 refine .gF k<|.gF k<|.gF k<|.gF k<|.q (.aT k)<|.zn<|.ig<|.seq<|.cY [4] mixed<|.tO 0 rfl (.aM rfl)<|.tK 1 rfl .move<|.tO 2 rfl .assign<|.tO 3 rfl .assign<|.sT 4 rfl<|.bN rfl rfl<|.nil<|Next.mod rfl<|.tK 5 rfl .assign<|.tK 6 rfl .assign<|RA.nil (by kernel_rfl)<|au ?_
 refine .ret (aJ (aY _ (.vE (.tmp rfl) (.tmp rfl) (.eQ rfl rfl) (.tmp rfl) (.tmp rfl)) (.one [5] _) ?_))
 ·exact .inr ⟨_,n,_,rfl,rfl,r.mono λb o j=>j.elim .inl λj=>.inr (by simp[take,bJ,j]),J,b9⟩
 have O:((eR c.plain).numbers isWord dh).1=0:=by simpa using k
 refine .gT k<|.mo rfl<|.gT k<|.q (.aM rfl)<|.gT k<|.uS (Aa j [] 0 Th hH (by simp) 0 n _ (r.mono λb o j=>j.elim .inl λj=>.inr (by simp[j]))) (λu a1 a=>?_)
 rw[J,a9]at a
 obtain⟨rfl,a5,c0⟩:=a
 refine .gT k<|.q .eh<|.q (.aQ k)<|.zn<|.cond rfl (λL=>?_) λL=>?_
 refine .seq<|.cY [4] mixed<|.tO 0 rfl (.aM rfl)<|.tK 1 rfl .move<|.tO 2 rfl .assign<|.tO 3 rfl .assign<|.sT 4 rfl<|.bN rfl rfl<|.nil<|Next.mod rfl<|.tK 5 rfl .assign<|.tK 6 rfl .assign<|RA.nil (by kernel_rfl)<|au ?_
 refine .ret (aJ (aY _ (.vE (.tmp rfl) (.tmp rfl) (.eQ rfl rfl) (.tmp rfl) (.tmp rfl)) (.one [5] _) ?_))
 ·exfalso
  rw[O]at L
  simp at L
 obtain⟨e,b6,b5,Y⟩:=a5 O
 rw[afK]at Y
 refine .kn<|.sr<|.fa rfl<|.lo rfl<|.cX (OG _ a4 16 (by omega) _ R M.rx Z) (λu a0 a=>?_)
 obtain⟨F,l,b3,b2⟩:=a
 have c6:=l.aE
 have c3:F.length<=16:=by rw[b2];exact Nat.min_le_right _ _
 refine .ag rfl<|.zs<|.sr<|.az rfl<|.block<|.cy [(4,_),(7,_),(10,_),(11,_),(12,_),(13,_)] (X:=Nat×cT×aw×aw) (λy=>y.1<=F.length/\SI g y.2.1 y.2.2.1/\gj y.2.1/\DO D y.2.1 y.2.2.2/\y.2.1.rows.length<=32*y.1) (λy E=>(14,iN y.1)::E) (λy G=>a0::y.2.2.2::y.2.2.1::G) (λy=>F.length-y.1) (0,⟨[],0,0⟩,A,bl D [sZ,.int .u64 0,.int .u64 0] 103) ⟨afz _,v,gj.new,⟨_,[],[],rfl,OS.nil,RL.new⟩,by simp⟩ kE.c.c.c.c.c.c.c rH ?_
 rintro⟨i,S,A,K⟩ ⟨hi,v,p,H,b8⟩
 simp only at hi v p H b8⊢
 refine .seq<|.sr<|.mo rfl<|.mo rfl<|.q (.dG l)<|.q .lss<|.zn<|.cond rfl (λW=>?_) λW=>?_
 have N:i<F.length:=cg W
 obtain⟨d,m⟩:=bQ N
 obtain⟨f,c1,c2,b0⟩:=b3 d (ba m)
 obtain⟨dk,U,V,Q,df,dr,B,C,s⟩:=d
 have c5:=Ux p B C s
 have d0:One U:=RS.aE f.hm
 have d1:One V:=RS.aE f.hn
 have d2:One Q:=RS.aE f.hc
 refine .kn<|.seq<|.block<|.sr<|.mo rfl<|.mo rfl ?_
 refine .aK i l m (λd4=>?_)
 refine .fa rfl<|.lo rfl<|.q .bU<|.zn<|.cond rfl (λh3=>?_) λh3=>?_
 refine .seq<|.dm 16 mixed (by kernel_rfl) ?_
 conv=>arg 6;dsimp only[List.take]
 refine .mo rfl<|.mo rfl<|.mo rfl ?_
 refine .aK i l m (λd5=>?_)
 refine .fa rfl<|.lo rfl<|.mo rfl<|.mo rfl ?_
 refine .aK i l m (λd6=>?_)
 refine .fa rfl<|.lo rfl<|.mo rfl<|.mo rfl ?_
 refine .aK i l m (λd7=>?_)
 refine .fa rfl<|.lo rfl<|.nil<|.cA (C7 g S A v p U V Q B C s _ f.hm f.hn f.hc f.fm f.fn f.fc) (λu a2 a=>?_)
 obtain⟨rfl,a8⟩:=a
 refine .zn<|.dm 16 mixed (by kernel_rfl) ?_
 conv=>arg 6;dsimp only[List.take]
 refine .mo rfl<|.mo rfl<|.mo rfl ?_
 refine .aK i l m (λd8=>?_)
 refine .fa rfl<|.lo rfl<|.mo rfl<|.mo rfl ?_
 refine .aK i l m (λd9=>?_)
 refine .fa rfl<|.lo rfl<|.mo rfl<|.mo rfl ?_
 refine .aK i l m (λe0=>?_)
 refine .fa rfl<|.lo rfl<|.nil<|.cA (R9 D S K H p U V Q B C s _ f.hm f.hn f.hc f.fm f.fn f.fc (by have h9:s.length<=34:=b0;omega)) (λu a3 a=>?_)
 obtain⟨rfl,a6⟩:=a
 refine .nil<|aS<|au<|.region<|.mo rfl<|.ia (i+1) .add<|.ag rfl<|.nil ?_
 ·exact bd (i+1,iR S B C s,a2,a3) ⟨N,a8,p.write B C s,a6,by simp only;omega⟩ (by simp only;omega) kE.c.c.c.c.c.c.c rH
 refine .skip<|aS<|au<|.region<|.mo rfl<|.ia (i+1) .add<|.ag rfl<|.nil ?_
 ·exact bd (i+1,S,A,K) ⟨N,v,p,H,by simp only;omega⟩ (by simp only;omega) kE.c.c.c.c.c.c.c rH
 refine .exit<|bo<|bq<|bp<|au<|.seq<|.cY [6] mixed<|.tO 0 rfl .move<|.tO 1 rfl .move<|.tO 2 rfl (.aM rfl)<|.tK 3 rfl .move<|.tO 4 rfl .assign<|.tO 5 rfl .assign<|.sT 6 rfl<|.bN rfl rfl<|.nil<|Next.mod rfl<|.tK 7 rfl .assign<|.tK 8 rfl .assign<|RA.nil (by kernel_rfl)<|au ?_
 refine .ret (aY _ (.vE (.tmp rfl) (.tmp rfl) (.eQ rfl rfl) (.tmp rfl) (.tmp rfl)) (aN [6,3,2,1]) ?_)
 ·exact .inl ⟨Tc,a1,A,K,j,g,D,e,S,n,rfl,rfl,r,J,O,b6,b5,Y,v,p,H,by omega⟩
abbrev kT(n:Nat):Value:=iN n
def my(c:Cf)(num:List Nat):List (Ty×Nat):=(c.all.map dZ).zip num
theorem Qr(c:Cf)(num:List Nat)(a:num.length=c.all.length)(t:Ty):(dl t (my c num)).getD 0=match bW c.all t with|none=>0|some i=>num.getD i 0:=by
 unfold my bW
 generalize c.all=A at *
 induction A generalizing num with
 |nil=>simp[dl]
 |cons x A ih=>
  cases num with
  |nil=>simp at a
  |cons n num=>
   have:=ih num (by simpa using a)
   rw[af2,List.zip_cons_cons,dl,agm]
   by_cases e:t=dZ x
   ·subst e;simp
   ·rw[afA e,this]
    have b:decide (dZ x=t)=false:=af9 λh=>e h.symm
    rw[b]
    cases List.findIdx? (λx=>decide (dZ x=t)) A with
    |none=>rfl
    |some i=>rfl
theorem wB(c:bL)(R:ay)(h:c.is R)(hu:c.plain.dW)(w:Value)(J:List fD)(num:List Nat)(M:NN R w J)(a6:J.map (·.2)=rows c.plain.bj num)(O:num.length=c.plain.all.length):
  Spec prog 81 [.agg c.enc.toArray,w] R [] λu H'=>∃T,H'=[T]/\MS mw kT u (my c.plain num) T:=by
 have I:=h.ss
 have c1:=I.le
 have a2:=h.all
 have a8:=M.rs
 have a7:=M.all
 have b5:=pE c.plain
 have b4:c.plain.bj.length=c.bj.length:=by unfold bL.plain;simp
 have W:∀(i:Nat) (s:cm),c.bj[i]? =some s->c.plain.bj[i]? =some s.plain:=λi s d=>oT d
 have b6:=λ(p:gu) (s:cm) (r:cj)=>oP (c:=c) (p:=p) (s:=s) (r:=r)
 have a4:∀i k,c.ix (i,k)=cK c.plain.bj i+k:=λ_ _=>rfl
 have b8:(c.plain.all.map dZ).Nodup:=hu.2.1
 have C:my c.plain num=(c.plain.all.map dZ).zip num:=rfl
 generalize hA:c.plain.all=A at *
 generalize hQ:my c.plain num=Q at *
 have a1:Q.length=A.length:=by rw[C];simp[O]
 have a0:Q.map (·.1)=A.map dZ:=by rw[C];exact List.map_fst_zip (by simp[O])
 have b3:∀i s,c.bj[i]? =some s->∃v,J[i]? =some (v,(num.drop (cK c.plain.bj i)).take s.bR.length):=λi s d=>by
  have f:=oV (n:=num) (W i s d)
  rw[<-a6,afO,show s.plain.bR.length=s.bR.length by simp[cm.plain]]at f
  obtain⟨⟨v,r⟩,g,K⟩:=Option.map_eq_some_iff.1 f
  exact⟨v,by rw[g];simp only at K;rw[K]⟩
 generalize o:cK c.plain.bj=of at *
 have a9:of 0=0:=by rw[<-o];cases c.plain.bj<;>rfl
 refine Spec.body func81 rfl results81 ntmps81 rfl<|.sr ?_
 refine .cb rfl (λb2=>?_)
 refine .ag rfl<|.z ?_
 refine .makeMap (λm=>?_)
 refine .ag rfl<|.zs<|.sr<|.fa rfl<|.lo rfl<|.q (.bI I)<|.mo rfl<|.zn<|.block<|.cy [(1,_),(5,_),(12,_),(13,_)] (X:=Nat×aw) (λy=>y.1<=c.bj.length/\MS mw kT (.map (some m)) (Q.take (of y.1)) y.2) (λy E=>(14,iN y.1)::E) (λy G=>y.2::G) (λy=>c.bj.length-y.1) (0,[(m,.map #[] 0)]) ⟨afz _,by rw[a9];exact MS.nil⟩ kE.c.c.c.c.c rH ?_
 rintro⟨i,T⟩ ⟨hi,b⟩
 simp only at hi b⊢
 refine .sr<|.q .lss<|.zs<|.cond rfl (λf=>?_) λf=>?_
 have S:i<c.bj.length:=cg f
 obtain⟨⟨j,l,a⟩,d⟩:=bQ S
 have H:=a2 _ (ba d)
 have F:RS R 3 cj.enc l a:=H.rs
 have c2:=F.le
 have c4:cB (cm.enc ⟨j,l,a⟩):=⟨H.cV⟩
 have V:=oR (W i _ d)
 rw[o,show(cm.plain ⟨j,l,a⟩).bR.length=a.length by simp[cm.plain]]at V
 obtain⟨vr,B⟩:=b3 i _ d
 simp only at B
 have Y:=a7 _ (ba B)
 simp only at Y
 refine .kn<|.seq<|.block<|.sr<|.mo rfl ?_
 refine .bC i I d (λc5=>?_)
 refine .q (.aM rfl) ?_
 refine .bX (λb7=>?_)
 refine .ag rfl<|.bN rfl rfl<|.z<|.fa rfl<|.lo rfl<|.q (.bI F)<|.mo rfl<|.zn<|.block<|.cy [(1,_),(5,_),(6,_),(7,_),(12,_),(13,_),(14,_),(20,_),(21,_)] (X:=Nat×aw) (λy=>y.1<=a.length/\MS mw kT (.map (some m)) (Q.take (of i+y.1)) y.2) (λy E=>(22,iN y.1)::E) (G:=[bl b2 c.enc 25]) (λy G=>bl b7 (cm.enc ⟨j,l,a⟩) 164::y.2::G) (λy=>a.length-y.1) (0,T) ⟨afz _,b⟩ kE.c.c.c.c.c.c.c.c.c.c rH ?_
 rintro⟨k,T⟩ ⟨hk,b⟩
 simp only at hk b⊢
 refine .sr<|.q .lss<|.zs<|.cond rfl (λg=>?_) λg=>?_
 have x:k<a.length:=cg g
 obtain⟨⟨vt,vn,r⟩,D⟩:=bQ x
 have b0:=H.all _ (ba D)
 have c3:cB (cj.enc ⟨vt,vn,r⟩):=⟨b0.cV⟩
 have t:=b6 (i,k) _ _ d D
 rw[a4]at t
 have c0:of i+k<A.length:=(afT.1 t).1
 obtain⟨n,U⟩:∃n,num[of i+k]? =some n:=⟨_,aZ (by omega)⟩
 have b1:((num.drop (of i)).take a.length)[k]? =some n:=by rw[List.getElem?_take_of_lt x,List.getElem?_drop];exact U
 have N:Q[of i+k]? =some (⟨j,r.name⟩,n):=by
  rw[C,List.getElem?_zip_eq_some]
  exact⟨by rw[afO,t];rfl,U⟩
 refine .kn<|.seq<|.block<|.sr<|.mo rfl ?_
 refine .bC k F D (λc6=>?_)
 refine .q (.aM rfl) ?_
 refine .bX (λb9=>?_)
 refine .ag rfl<|.bN rfl rfl<|.zn<|.dm 13 mixed (by kernel_rfl) ?_
 conv=>arg 6;dsimp only[List.take]
 refine .mo rfl<|.fa rfl<|.lo rfl<|.fa rfl<|.lo rfl ?_
 refine .q .cL ?_
 refine .mo rfl<|.mo rfl ?_
 refine .bC i a8 B (λc7=>?_)
 refine .lo rfl<|.mo rfl ?_
 refine .bC k Y b1 (λc8=>?_)
 refine .lo rfl<|.nil<|.update (key:=(⟨j,r.name⟩:Ty)) (u:=n) b rfl rfl rfl (λZ L _=>?_)
 rw[mP (λhm=>by
  obtain⟨q,hq,e⟩:=agk.1 hm
  rw[afC,afI]at hq
  rw[agl,List.getElem_take]at e
  have f:(Q.map (·.1))[of i+k]? =some ⟨j,r.name⟩:=by rw[afO,N];rfl
  have g:(Q.map (·.1))[q]? =some ⟨j,r.name⟩:=by rw[afO,aZ (by omega),Option.map_some,e]
  exact mS (show q<of i+k by omega) f g rfl (by rw[a0];exact b8)), <-dS N]at L
 refine .nil<|aS<|au<|.region<|.ia (k+1) .add<|.mo rfl<|.nil ?_
 ·exact bd (k+1,Z) ⟨x,L⟩ (by simp only;omega) kE.c.c.c.c.c.c.c.c.c.c (aN [1,1,1])
 have a5:k=a.length:=by have:=bA g;omega
 rw[a5, <-V]at b
 refine .exit<|bo<|bq<|bp<|aS<|au<|.region<|.ia (i+1) .add<|.mo rfl<|.nil ?_
 ·exact bd (i+1,T) ⟨S,b⟩ (by simp only;omega) kE.c.c.c.c.c (aN [1,1])
 refine .exit<|bo<|bq<|bp<|au<|.sr<|.mo rfl<|.az rfl<|.ret (aY _ (.one (.tmp rfl)) (.one [0] _) ?_)
 ·refine⟨_,rfl,?_⟩
  have a3:i=c.bj.length:=by have:=bA f;omega
  have:of i=Q.length:=by
   rw[a3,a1, <-b4, <-o];exact b5
  rw[this,afJ]at b
  simpa[take]using b
structure aH where
 k:bf
 found:Bool
 vn:Value
 nodes:List Nd
 vu:Value
 fG:List ByteArray
 vl:Value
 ll:List fD
 number:Nat
def aH.enc(p:aH):List Value:=[.string p.k.os,.string p.k.oi,.string p.k.rel,.bool p.found,p.vn,p.vu,p.vl,iN p.number]
def aH.plain(p:aH):bO:=⟨p.k,p.found,p.nodes,p.number,p.fG,p.ll.map (·.2)⟩
structure aH.is(R:ay)(p:aH):Prop where
 n:RS R 5 Nd.enc p.vn p.nodes
 u:RS R 1 cr p.vu p.fG
 l:NN R p.vl p.ll
theorem aH.is.mono{R R':ay}{p:aH}(h:p.is R)(a:∀b o,R b o->R' b o):p.is R':=⟨h.n.mono a,h.u.mono a,h.l.mono a⟩
theorem aH.is.cV{R:ay}{p:aH}(h:p.is R):∀u∈p.enc,aE u=true:=by
 have b:=h.n.aE
 have c:=h.u.aE
 have d:=h.l.rs.aE
 intro u a
 simp only[aH.enc,afQ,af0,af1]at a
 rcases a with rfl|rfl|rfl|rfl|rfl|rfl|rfl|rfl
 ·rfl
 ·rfl
 ·rfl
 ·rfl
 ·exact b.h
 ·exact c.h
 ·exact d.h
 ·rfl
instance bf.UL:fC prog 269 (λk:bf=>.agg k.enc.toArray):=fC.agg zo underlying269 rfl bf.kinds bf.eq
abbrev As(k:bf):Value:=.agg k.enc.toArray
structure XC where
 c:bL
 num:List Nat
 vn:Value
 g:Nat
 S:cT
 L:List bB
 rev:Int
 b:Int
def XC.sub(x:XC)(k:bf):List Sub:=if scan x.S x.rev then(x.L.filter λy=>y.there x.rev&&decide (y.t.cQ=k)).map (·.t.sub)else []
structure XC.ok(R:ay)(x:XC):Prop where
 c:x.c.is R
 n:RM R mw kT x.vn (my x.c.plain x.num)
 nl:x.num.length=x.c.plain.all.length
 s:∃ps vf vr Mf Mr,SV R x.g x.S ps vf vr Mf Mr
 l:RL x.S x.L
 len:x.S.rows.length<=1000
theorem XC.ok.mono{R R':ay}{x:XC}(h:x.ok R)(a:∀b o,R b o->R' b o):x.ok R':=⟨h.c.mono a,h.n.mono a,h.nl,let ⟨ps,vf,vr,Mf,Mr,h1⟩:=h.s;⟨ps,vf,vr,Mf,Mr,h1.mono a⟩,h.l,h.len⟩
def XC.cells(x:XC)(va vp:Value)(e:Nat):List Value:=[x.c.vs,x.c.vc,x.vn,.pointer (some ⟨x.g,0,none⟩),.int .u64 x.rev,va,vp,iN e,.int .i64 x.b]
abbrev XC.iV(x:XC)(xb:Nat)(va vp:Value)(e:Nat):aw:=(bl xb (x.cells va vp e) 190)
def jd(ps:List aH)(va:Value)(T:aw):Prop:=∃M,MS As kT va M T/\∀k,dl k M=fi (ps.map aH.plain) k
theorem QG(x:XC)(R:ay)(h:x.ok R)(xb:Nat)(va a:Value)(e:Nat)(ps:List aH) [g:One va] [pc:PC R (pT xb) (x.cells va a e)](c:RS R 8 aH.enc a ps)(f:e<=1000000000000)(d:0<=x.b/\x.b<=9223372036854775807):
  Spec prog 84 [pT xb] R [] λu H'=>u=.bool (decide (x.b<(ps.length+e:Nat)))/\H'=[]:=by
 refine Spec.body func84 rfl results84 ntmps84 rfl<|.sr<|.ag rfl<|.zs<|.fS mixed (by kernel_rfl)<|.mo rfl<|.nc rfl<|.fa rfl<|.fa rfl<|.lo rfl<|.q (.bI c) ?_
 refine .mo rfl<|.nc rfl<|.fa rfl<|.lo rfl<|.mo rfl ?_
 refine .nc rfl<|.fa rfl<|.fa rfl<|.lo rfl ?_
 refine .q (.i64 (x.b-e) .sub ⟨by omega,by omega,by omega⟩) ?_
 refine .q .gtr<|.az rfl<|.ret (aP rfl ?_)
 ·refine⟨afH _ ?_,rfl⟩
  rw[decide_eq_decide]
  omega
theorem QL{ps:List bO}{p:bO}(h:fi ps p.k=none)(k:bf):fi (ps++[p]) k=if k=p.k then some ps.length else fi ps k:=by
 unfold fi at h⊢
 rw[List.findIdx?_append]
 by_cases e:k=p.k
 ·subst e
  rw[h,afB rfl]
  simp[agm]
 ·rw[afA e]
  have a:decide (p.k=k)=false:=af9 λh=>e h.symm
  simp[agm,a]
theorem jd.add{ps:List aH}{p:aH}{va:Value}{T:aw}{M:List (bf×Nat)}(b:MS As kT va (dO p.k ps.length M) T)(a:∀k,dl k M=fi (ps.map aH.plain) k)(h:fi (ps.map aH.plain) p.k=none):jd (ps++[p]) va T:=
 ⟨_,b,λk=>by
  rw[qa,a,afD,af2,afZ,QL h]
  rw[afC]
  rfl⟩
def xM(x:XC)(R:ay)(xb:Nat)(ps:List aH)(e:Nat)(va:Value)(k:bf)(u:Value)(H':aV):Prop:=∃ps' vp Ta To,H'=[x.iV xb va vp e,Ta,To]/\u=.int .i64 ((eB x.c.plain x.num (ps.map aH.plain) k).2:Nat)/\ps'.map aH.plain=(eB x.c.plain x.num (ps.map aH.plain) k).1/\jd ps' va Ta/\OS 95 8 aH.enc vp ps' To/\∃l,ps'=ps++l/\∀p∈l,p.is R
theorem Bv(x:XC)(R:ay)(h:x.ok R)(xb:Nat)(ps:List aH)(e:Nat)(va t:Value)(g m:aw)(hA:jd ps va g)(L:OS 95 8 aH.enc t ps m)(hl:ps.length<=3000000)(k:bf):
  Spec prog 83 [pT xb,.agg [.string k.os,.string k.oi].toArray,.string k.rel] R [x.iV xb va t e,g,m] (xM x R xb ps e va k):=by
 have U:∀u D,xM x R xb ps e va k u D↔∃ps' t g m,D=[x.iV xb va t e,g,m]/\u=.int .i64 ((eB x.c.plain x.num (ps.map aH.plain) k).2:Nat)/\ps'.map aH.plain=(eB x.c.plain x.num (ps.map aH.plain) k).1/\jd ps' va g/\OS 95 8 aH.enc t ps' m/\∃l,ps'=ps++l/\∀p∈l,p.is R:=λ_ _=>Iff.rfl
 have a1:=Ck x.c R h.c k.os k.rel
 have hn:=h.n
 have a8:=Qr x.c.plain x.num h.nl
 obtain⟨M,J,K⟩:=hA
 have a5:∀i,fi (ps.map aH.plain) k=some i->eB x.c.plain x.num (ps.map aH.plain) k=(ps.map aH.plain,i):=λi O=>by unfold eB;rw[O]
 have a6:fi (ps.map aH.plain) k=none->eB x.c.plain x.num (ps.map aH.plain) k=(ps.map aH.plain++[one x.c.plain x.num k],ps.length):=λO=>by unfold eB;rw[O];simp
 have a4:=λ(p:aH) (T:aw)=>jd.add (ps:=ps) (p:=p) (va:=va) (T:=T) (M:=M)
 have b1:one x.c.plain x.num k=match bW x.c.plain.all ⟨k.os,k.rel⟩with
  |none=>⟨k,false,[],0,[],[]⟩
  |some i=>⟨k,true,(x.c.plain.all.map (·.2.nodes)).getD i [],x.num.getD i 0,[],[]⟩:=rfl
 have N:=h.c.all
 have b5:=λ(p:gu) (s:cm) (r:cj)=>oP (c:=x.c) (p:=p) (s:=s) (r:=r)
 obtain⟨i0,ok,b3,Z⟩:∃(i:Nat) (ok:Bool),[((dl k M).map kT).getD (kT 0),Value.bool (dl k M).isSome]=[kT i,.bool ok]/\fi (ps.map aH.plain) k=if ok then some i else none:=by
  rw[K k]
  cases fi (ps.map aH.plain) k with
  |none=>exact⟨0,false,rfl,rfl⟩
  |some i=>exact⟨i,true,rfl,rfl⟩
 refine Spec.body func83 rfl results83 ntmps83 rfl<|.sr ?_
 refine .cb rfl (λb4=>?_)
 refine .ag rfl<|.z<|.q (.aM rfl)<|.mo rfl<|.q .cL ?_
 refine .bX (λb7=>?_)
 refine .bN rfl rfl<|.zs<|.seq<|.fS mixed (by kernel_rfl)<|.mo rfl<|.nc rfl<|.fa rfl<|.lo rfl<|.q (.aM rfl)<|.q (.cast (.pY J.rx rfl rfl) (afH (λl:List Value=>Value.tuple l.toArray) b3))<|.mo rfl<|.q .extract<|.q .extract<|.ag rfl<|.ag rfl<|.z<|.mo rfl<|.zn<|.cond rfl (λI=>?_) λI=>?_
 have b2:ok=true:=I
 subst b2
 have V:=a5 i0 Z
 refine .sr<|.mo rfl<|.az rfl<|.ret (aJ (aY _ (.one (.tmp rfl)) (aN [2,2,2]) ?_))
 ·refine(U _ _).2 ⟨ps,t,g,m,?_,?_,?_,⟨M,J,K⟩,L,[],by simp,λp G=>(by cases G)⟩
  ·simp[take,bJ]
  ·rw[V]
  ·rw[V]
 have b0:ok=false:=I
 subst b0
 have Y:fi (ps.map aH.plain) k=none:=Z
 have W:=a6 Y
 refine .kn<|.seq ?_
 refine bz.cO [(0,_),(2,_),(4,_),(7,_)] kE.c.c.c.c (X:=Nat×cj×Bool) (λy=>nv x.c ⟨k.os,k.rel⟩ y.2.1 y.2.2/\cB y.2.1.enc) (λy E=>(10,.pointer (some ⟨y.1,0,none⟩))::(11,.bool y.2.2)::E) (λy=>[[(y.1,.cells y.2.1.enc.toArray 167 (0,0))],bl b7 k.enc 269,bl b4 [.string k.os,.string k.oi] 44,x.iV xb va t e,g,m]) ?_ ?_
 refine .cY [12] mixed<|.tO 0 rfl .move<|.tO 1 rfl (.nilCheck rfl)<|.tO 2 rfl (.fieldAddr rfl) ?_
 refine .tO 3 rfl (.loadT rfl) ?_
 refine .tO 4 rfl (.fieldAddr rfl)<|.tO 5 rfl (.ca rfl)<|.tO 6 rfl .move<|RA.jL 7 11 rfl rfl (by kernel_rfl) rfl ?_ ?_
 refine .aX ((a1.mono λu D f=>⟨f.2,f.1⟩).weaken cM) (λu f=>?_)
 obtain⟨r,v,rfl,a⟩:=f
 have B:cB r.enc:=by
  unfold nv at a
  cases hf:bW x.c.plain.all ⟨k.os,k.rel⟩with
  |none=>rw[hf]at a;obtain⟨_,rfl⟩:=a;exact⟨by simp[cj.enc,cj.zero,aE]⟩
  |some j=>rw[hf]at a;obtain⟨_,p,s,A,w,Q⟩:=a;exact⟨((N _ (ba A)).all _ (ba w)).cV⟩
 refine .nil<|Next.sub<|.tO 8 rfl .move<|.tO 9 rfl .extract<|.tK 10 rfl .extract<|.sT 11 rfl ?_
 refine .bX (λH=>?_)
 refine .nil<|Next.sub<|.sT 12 rfl<|.bN rfl rfl<|.nil<|Next.mod rfl<|.tK 13 rfl .assign<|RA.nil (by kernel_rfl) ?_
 ·exact aF (H,r,v) ⟨a,B⟩ kE.c.c.c.c.c.c rH
 refine .bX (λH=>?_)
 refine .nil<|Next.sub<|.sT 7 rfl<|.aX ((a1.mono λu D f=>⟨f.2,f.1⟩).weaken cM) (λu f=>?_)
 obtain⟨r,v,rfl,a⟩:=f
 have B:cB r.enc:=by
  unfold nv at a
  cases hf:bW x.c.plain.all ⟨k.os,k.rel⟩with
  |none=>rw[hf]at a;obtain⟨_,rfl⟩:=a;exact⟨by simp[cj.enc,cj.zero,aE]⟩
  |some j=>rw[hf]at a;obtain⟨_,p,s,A,w,Q⟩:=a;exact⟨((N _ (ba A)).all _ (ba w)).cV⟩
 refine .nil<|Next.sub<|.tO 8 rfl .move<|.tO 9 rfl .extract<|.tK 10 rfl .extract<|.sT 12 rfl<|.bN rfl rfl<|.nil<|Next.mod rfl<|.tK 13 rfl .assign<|RA.nil (by kernel_rfl) ?_
 ·exact aF (H,r,v) ⟨a,B⟩ kE.c.c.c.c.c.c rH
 intro y hy
 obtain⟨bb,r,v⟩:=y
 obtain⟨a,B⟩:=hy
 simp only at a B⊢
 obtain⟨C,a9,a7⟩:∃C,(dl (⟨k.os,k.rel⟩:Ty) (my x.c.plain x.num)).getD 0=C/\((dl (⟨k.os,k.rel⟩:Ty) (my x.c.plain x.num)).map kT).getD (kT 0)=kT C:=by
  cases dl (⟨k.os,k.rel⟩:Ty) (my x.c.plain x.num)with
  |none=>exact⟨0,rfl,rfl⟩
  |some i=>exact⟨i,rfl,rfl⟩
 obtain⟨a0,F⟩:one x.c.plain x.num k=⟨k,v,r.r.nodes,C,[],[]⟩/\RS R 5 Nd.enc r.vn r.r.nodes:=by
  rw[b1, <-a9,a8]
  unfold nv at a
  cases hf:bW x.c.plain.all ⟨k.os,k.rel⟩with
  |none=>rw[hf]at a;obtain⟨rfl,rfl⟩:=a;exact⟨rfl,RS.gO⟩
  |some j=>
   rw[hf]at a
   obtain⟨rfl,p,s,A,w,Q⟩:=a
   refine⟨?_,((N _ (ba A)).all _ (ba w)).d⟩
   have:=b5 p s r A w
   rw[Q]at this
   simp only[afV,afO,this]
   rfl
 obtain⟨vt,vd,r⟩:=r
 simp only at a0 F
 have b8:One vd:=F.aE
 obtain⟨pd,cd,rfl⟩:=F.val
 refine au<|.seq<|.dm 11 mixed (by kernel_rfl) ?_
 conv=>arg 6;dsimp only[List.take]
 refine .mo rfl<|.nc rfl<|.fa rfl<|.lo rfl<|.q (.aM rfl)<|.mo rfl<|.nc rfl<|.fa rfl<|.fa rfl<|.lo rfl<|.q (.dG L)<|.nil ?_
 refine .update (key:=k) (u:=ps.length) J rfl rfl rfl (λa3 S _=>?_)
 refine .zs<|.cY [22,26] mixed<|.tK 0 rfl .move<|.tO 1 rfl .move<|.tO 2 rfl (.nilCheck rfl)<|.tO 3 rfl (.fieldAddr rfl)<|.tO 4 rfl (.fieldAddr rfl)<|.tO 5 rfl (.ca rfl)<|.tO 6 rfl (.aM rfl)<|.tO 7 rfl .move<|.tO 8 rfl .move<|.tO 9 rfl (.fieldAddr rfl)<|.tO 10 rfl (.ca rfl)<|.tO 11 rfl .move<|.tO 12 rfl (.nilCheck rfl)<|.tO 13 rfl (.fieldAddr rfl)<|.tO 14 rfl (.ca rfl)<|.tO 15 rfl (.fieldAddr rfl)<|.tO 16 rfl (.ca rfl)<|.tO 17 rfl .move<|.tO 18 rfl .cL<|.gn 19 rfl (.oG (hn.mono λb o hb=>.inl hb) rfl rfl (key:=(⟨k.os,k.rel⟩:Ty)) a7) (by kernel_rfl)<|.tO 20 rfl .cL<|.sT 21 rfl ?_
 refine .dN (λb6=>?_)
 refine .nil<|Next.sub<|.sT 22 rfl<|.append L (RS.lits (xs:=[(⟨k,v,.slice pd r.nodes.length cd,r.nodes,sZ,[],sZ,[],C⟩:aH)]) rfl (by simp[aH.enc]) (by simp[aH.enc,aE])) (by simp only[afE];omega) (λv5 T5 a2=>?_)
 have i5:=a2.aE
 refine .nil<|Next.mod rfl<|.tK 23 rfl (.mR rfl)<|.tK 24 rfl (.fe rfl)<|.tK 25 rfl (.fe rfl)<|.sT 26 rfl<|.dt rfl rfl<|.nil<|Next.mod rfl<|RA.nil (by kernel_rfl)<|au<|.seq<|.fS mixed (by kernel_rfl)<|.mo rfl<|.nc rfl<|.fa rfl<|.lo rfl<|.q (.aM rfl)<|.q (.oG S.rx rfl rfl (key:=k) rfl)<|.az rfl<|.ret (aY _ (.one (.tmp rfl)) (aN [4,4,4]) ?_)
 ·refine(U _ _).2 ⟨_,v5,a3,T5,?_,?_,?_,a4 _ _ S K Y,a2,_,rfl,λp G=>?_⟩
  ·simp[take,bJ,dp,XC.cells]
  ·rw[W,qa,afB rfl];rfl
  ·rw[W,a0,afD];rfl
  ·rw[afF]at G
   subst G
   exact⟨F,RS.gO,NN.nil⟩
theorem Uj{a:cv}(h:∀t∈a.1,gp t):lk isWord a=match dx qz a with
  |none=>([],a)
  |some s=>([(hU isWord s).1],(hU isWord s).2):=by
 unfold lk
 cases hh:dx qz a with
 |none=>rfl
 |some s=>
  simp only
  rw[rM,pD (λt b=>h t ((js hh).1.mem ((vV s).mem b))) (by simp)]
theorem Qn{a:cv}(h:∀t∈a.1,gp t):mU isWord a=match dx qA a with
  |none=>([⟨1,⟨#[]⟩,⟨#[]⟩,0,0⟩],a)
  |some s=>fO [] s:=by
 unfold mU
 cases hh:dx qA a with
 |none=>rfl
 |some s=>
  simp only
  rw[EE (λt b=>h t ((js hh).1.mem b))]
theorem P0{s:ByteArray}{a:cv}(h:∀t∈a.1,gp t):∀t∈(gy s a).1,gp t:=λt b=>h t ((oL s a).mem b)
theorem Pp{a:cv}(h:∀t∈a.1,gp t):(hU isWord a).1.fits:=by
 unfold hU
 split
 ·exact⟨afz _,afz _⟩
 ·exact⟨rQ h,rQ (P0 λt b=>h t ((lB a).mem b))⟩
theorem Oq{b:cv}(h:∀t∈b.1,gp t):∀x∈(fO [] b).1,x.fits:=by
 unfold fO
 split
 ·intro x a
  rw[afK,afF]at a
  subst a
  exact⟨afz _,afz _⟩
 ·intro x a
  rw[afK,afF]at a
  subst a
  exact⟨rQ h,afz _⟩
section
variable{R:ay}
theorem BI(e:Nat)(g:cv)(T:aw)(N:dT R e g T):Spec prog 204 [pT e] R [T] λu H'=>∃T' Tn,H'=[T',Tn]/\∃r:cj,u=.agg r.enc.toArray/\r.is (sg Tn)/\r.r=(mV isWord g).1/\dT R e (mV isWord g).2 T':=by
 have a4:mV isWord g=(⟨(dz isWord g).1,(lk isWord (dz isWord g).2).1,(mU isWord (lk isWord (dz isWord g).2).2).1⟩,gy xw (mU isWord (lk isWord (dz isWord g).2).2).2):=rfl
 have V:=rQ (W:=isWord) N.ok
 have H:∀t∈(dz isWord g).2.1,gp t:=λt k=>N.ok t ((lB g).mem k)
 have n:=Uj H
 have B:∀t∈(lk isWord (dz isWord g).2).2.1,gp t:=λt k=>H t ((CT _).mem k)
 have j:=Qn B
 rw[a4]
 clear a4
 obtain⟨ws,a7⟩:∃ws,ws=dz isWord g:=⟨_,rfl⟩
 have U:=rR e g T R N
 rw[<-a7]at V H n B j U⊢
 clear a7
 obtain⟨J,K⟩:=ws
 simp only at V H n B j U⊢
 obtain⟨tt,a6⟩:∃tt,tt=lk isWord K:=⟨_,rfl⟩
 rw[<-a6]at n B j⊢
 clear a6
 obtain⟨a0,C⟩:=tt
 simp only at B j⊢
 obtain⟨nn,a3⟩:∃nn,nn=mU isWord C:=⟨_,rfl⟩
 rw[<-a3]at j⊢
 clear a3
 obtain⟨I,s3⟩:=nn
 simp only
 refine Spec.body func204 rfl results204 ntmps204 rfl<|.sr ?_
 refine .bX (λL=>?_)
 refine .z<|.mo rfl<|.cA (R:=R) U (λu T1 f=>?_)
 obtain⟨rfl,a8⟩:=f
 refine .q .cL ?_
 refine .dN (λA=>?_)
 refine .q .cL ?_
 refine .bX (λM=>?_)
 refine .bN rfl rfl<|.zs<|.sr<|.mo rfl<|.cA (R:=R) (nY e K _ R a8 qz) (λu T2 f=>?_)
 obtain⟨rfl,i⟩:=f
 refine .zn ?_
 refine bz.cO [(0,_),(2,_),(3,_)] kE.c.c.c (X:=Value×aw×aw) (λy=>OS 249 2 Ty.enc y.1 a0 y.2.1/\dT R e C y.2.2/\∀t∈a0,t.fits) (λ_ E=>E) (λy=>[y.2.2,y.2.1,bl M [.string J,y.1,.slice (some ⟨A,0,none⟩) 1 1] 167,bl A (Nd.enc ⟨1,⟨#[]⟩,⟨#[]⟩,0,0⟩) 199,bl L [.string ⟨#[]⟩,sZ,sZ] 167]) ?_ ?_
 refine .cond rfl (λD=>?_) λD=>?_
 obtain⟨s,p⟩:=agb.1 D
 rw[p]at i n
 simp only[agc,Prod.mk.injEq]at i n
 obtain⟨rfl,rfl⟩:=n
 have b4:=Pp i.ok
 refine bz.le (dD.refl _) bk.eC<|.seq ?_
 refine bz.cO [(0,_),(2,_),(3,_)] kE.c.c.c (X:=Value×aw×aw) (λy=>OS 249 2 Ty.enc y.1 [(hU isWord s).1] y.2.1/\dT R e (hU isWord s).2 y.2.2) (λ_ E=>E) (λy=>[y.2.2,y.2.1,bl M [.string J,y.1,.slice (some ⟨A,0,none⟩) 1 1] 167,bl A (Nd.enc ⟨1,⟨#[]⟩,⟨#[]⟩,0,0⟩) 199,bl L [.string ⟨#[]⟩,sZ,sZ] 167]) ?_ ?_
 refine .cY [3,5,7] mixed<|.tK 0 rfl (.fe rfl)<|.tO 2 rfl .move<|RA.jL 1 3 rfl rfl (by kernel_rfl) rfl ?_ ?_
 refine .lo rfl<|.nil<|Next.sub<|.sT 3 rfl<|.cA (R:=R) (Aw e s _ i) (λu l f=>?_)
 obtain⟨rfl,a⟩:=f
 refine .nil<|Next.mod rfl<|.sT 4 rfl ?_
 refine .dN (λa1=>?_)
 refine .nil<|Next.mod rfl<|.sT 5 rfl<|.append (OS.nil (E:=249) (sz:=2) (enc:=Ty.enc)) (RS.lits (xs:=[(hU isWord s).1]) rfl (by simp[Ty.enc]) (by simp[Ty.enc,aE])) (by simp only[afE,af4];omega) (λv m h=>?_)
 have Z:=h.aE
 refine .nil<|Next.mod rfl<|.tK 6 rfl (.fe rfl)<|.sT 7 rfl<|.dt rfl rfl<|.nil<|Next.mod rfl<|RA.nil (by kernel_rfl) ?_
 ·exact aF (v,m,l) ⟨h,a⟩ kE.c.c.c (aN [5,1,1,1,1])
 refine .cA (R:=R) (Aw e s _ i) (λu l f=>?_)
 obtain⟨rfl,a⟩:=f
 refine .nil<|Next.mod rfl<|RA.jL 1 4 rfl rfl (by kernel_rfl) rfl ?_ ?_
 refine .lo rfl<|.nil<|Next.mod rfl<|.sT 4 rfl ?_
 refine .dN (λa1=>?_)
 refine .nil<|Next.mod rfl<|.sT 5 rfl<|.append (OS.nil (E:=249) (sz:=2) (enc:=Ty.enc)) (RS.lits (xs:=[(hU isWord s).1]) rfl (by simp[Ty.enc]) (by simp[Ty.enc,aE])) (by simp only[afE,af4];omega) (λv m h=>?_)
 have Z:=h.aE
 refine .nil<|Next.mod rfl<|.tK 6 rfl (.fe rfl)<|.sT 7 rfl<|.dt rfl rfl<|.nil<|Next.mod rfl<|RA.nil (by kernel_rfl) ?_
 ·exact aF (v,m,l) ⟨h,a⟩ kE.c.c.c (aN [5,1,1,1,1])
 refine .dN (λa1=>?_)
 refine .nil<|Next.mod rfl<|.sT 1 rfl<|.lo rfl<|.nil<|Next.mod rfl<|.sT 5 rfl<|.append (OS.nil (E:=249) (sz:=2) (enc:=Ty.enc)) (RS.lits (xs:=[(hU isWord s).1]) rfl (by simp[Ty.enc]) (by simp[Ty.enc,aE])) (by simp only[afE,af4];omega) (λv m h=>?_)
 have Z:=h.aE
 refine .nil<|Next.mod rfl<|.tK 6 rfl (.fe rfl)<|.sT 7 rfl<|.dt rfl rfl<|.nil<|Next.mod rfl<|RA.nil (by kernel_rfl) ?_
 ·exact aF (v,m,l) ⟨h,a⟩ kE.c.c.c (aN [5,1,1,1,1])
 intro y hy
 obtain⟨v,m,l⟩:=y
 obtain⟨h,a⟩:=hy
 simp only at h a⊢
 have Z:=h.aE
 refine au<|.block<|.cy [(0,_),(2,_),(3,_)] (X:=aw) (λT=>dT R e (hU isWord s).2 T) (λ_ E=>E) (λT G=>T::G) (λ_=>0) l a kE.c.c.c rH ?_
 rintro T4 O
 refine .seq<|.sr<|.mo rfl<|.cA (R:=R) (pA e _ _ O pi (by simp)) (λu T6 f=>?_)
 obtain⟨rfl,b0⟩:=f
 refine .zn<|.cU<|.exit<|bo<|bq<|bp ?_
 ·exact aF (v,m,T6) ⟨h,b0,λt k=>by rw[afF]at k;subst k;exact b4⟩ kE.c.c.c rH
 have p:dx qz K=none:=by
  cases hh:dx qz K with
  |none=>rfl
  |some x=>rw[hh]at D;cases D
 rw[p]at i n
 simp only[af6,Prod.mk.injEq]at i n
 obtain⟨rfl,rfl⟩:=n
 refine .skip ?_
 ·exact aF (sZ,[],T2) ⟨OS.nil,i,λt k=>(by cases k)⟩ kE.c.c.c (bk.eC.trans (aN [4,0,0,0,0]))
 intro x Y
 obtain⟨vt,Tt,T2⟩:=x
 obtain⟨Q,i,a5⟩:=Y
 simp only at Q i a5⊢
 have it:=Q.aE
 refine au<|.seq<|.sr<|.mo rfl<|.cA (R:=R) (nY e C _ R i qA) (λu l f=>?_)
 obtain⟨rfl,a⟩:=f
 refine .zn ?_
 refine bz.cO [(0,_),(2,_),(3,_)] kE.c.c.c (X:=Value×aw×aw) (λy=>OS 199 5 Nd.enc y.1 I y.2.1/\dT R e s3 y.2.2/\∀t∈I,t.fits) (λ_ E=>E) (λy=>[y.2.2,y.2.1,Tt,bl M [.string J,vt,y.1] 167,bl L [.string ⟨#[]⟩,sZ,sZ] 167]) ?_ ?_
 refine .cond rfl (λF=>?_) λF=>?_
 obtain⟨s,p⟩:=agb.1 F
 rw[p]at a j
 simp only[agc]at a j
 have b1:=Oq a.ok
 obtain⟨rfl,rfl⟩:I=(fO [] s).1/\s3=(fO [] s).2:=by rw[<-j];exact⟨rfl,rfl⟩
 refine bz.le (dD.refl _) bk.eC<|.region<|.mo rfl<|.call [1,0] ((EF (R:=R) e s _ a (sZ) [] [] OS.nil (by simp)).weaken cM) (λu H' f=>?_)
 obtain⟨T4,Tn,rfl,w,O⟩:=f
 have i7:=w.aE
 conv=>arg 8;simp only[rest,bJ,afP,afK]
 refine .fa rfl<|.dt rfl rfl<|.nil ?_
 ·exact aF (_,Tn,T4) ⟨w,O,b1⟩ (((kE.d rfl).d rfl).d rfl) (aN [0,0,0,0,1])
 have p:dx qA C=none:=by
  cases hh:dx qA C with
  |none=>rfl
  |some x=>rw[hh]at F;cases F
 rw[p]at a j
 simp only[af6,Prod.mk.injEq]at a j
 obtain⟨rfl,rfl⟩:=j
 refine .skip ?_
 ·exact aF (.slice (some ⟨A,0,none⟩) 1 1,_,l) ⟨OS.lits (xs:=[(⟨1,⟨#[]⟩,⟨#[]⟩,0,0⟩:Nd)]) rfl (by simp[Nd.enc]) (by simp[Nd.enc,aE]),a,λt k=>by rw[afF]at k;subst k;exact⟨afz _,afz _⟩⟩ (((kE.d rfl).d rfl).d rfl) (aN [0,2,0,0,0])
 intro x Y
 obtain⟨vn,Tn,l⟩:=x
 obtain⟨w,a,a2⟩:=Y
 simp only at w a a2⊢
 have b5:=w.aE
 refine au<|.sr<|.mo rfl ?_
 refine .cA (R:=R) (tx e _ _ R a xw) (λu m a9=>?_)
 refine .z<|.q (.aM rfl)<|.bN rfl rfl<|.zn ?_
 refine .ret (aY _ (.one (.eQ rfl rfl)) ((aN [0,0,0]).trans (bk.eK (H':=[m,Tn++Tt]) (by simp[take,bJ]))) ?_)
 ·exact⟨_,_,rfl,⟨vt,vn,⟨J,a0,I⟩⟩,rfl,⟨V,Q.sg.mono λb o S=>gR S,w.sg.mono λb o S=>iP S,a5,a2⟩,rfl,a9⟩
end
section
variable{R:ay}
theorem Cu(i:Nat)(e:cv)(T:aw)(V:dT R i e T)(M:e.1.length<=1000000):Spec prog 157 [pT i] R [T] λu H'=>∃T' Ts,H'=[T',Ts]/\∃s:cm,u=.agg s.enc.toArray/\s.is (sg Ts)/\s.plain=(mX isWord e).1/\dT R i (mX isWord e).2 T':=by
 have a1:mX isWord e=(⟨(dz isWord e).1,(mW isWord ((gy lT (dz isWord e).2).1.length+1) [] (gy lT (dz isWord e).2)).1⟩,gy xv (mW isWord ((gy lT (dz isWord e).2).1.length+1) [] (gy lT (dz isWord e).2)).2):=rfl
 have a3:=rQ (W:=isWord) V.ok
 have a2:=rR i e T R V
 have Z:(gy lT (dz isWord e).2).1.length<=1000000:=afM (afM (oL _ _).len (lB e).len) M
 rw[a1]
 clear a1
 generalize dz isWord e=ws at *
 obtain⟨N,H⟩:=ws
 simp only at a3 a2 Z⊢
 obtain⟨O,a0⟩:∃O,O=mW isWord ((gy lT H).1.length+1) [] (gy lT H):=⟨_,rfl⟩
 rw[<-a0]
 refine Spec.body func157 rfl results157 ntmps157 rfl<|.sr ?_
 refine .bX (λS=>?_)
 refine .z<|.mo rfl<|.cA (R:=R) a2 (λu T1 g=>?_)
 obtain⟨rfl,a4⟩:=g
 refine .q .cL ?_
 refine .bX (λU=>?_)
 refine .bN rfl rfl<|.z<|.mo rfl ?_
 refine .cA (R:=R) (tx i _ _ R a4 lT) (λu T2 a5=>?_)
 refine .zs<|.block<|.cy [(0,_),(2,_),(3,_)] (X:=Nat×List cj×cv×Value×(aw×aw×aw)) (λy=>dT R i y.2.2.1 y.2.2.2.2.1/\OS 167 3 cj.enc y.2.2.2.1 y.2.1 y.2.2.2.2.2.1/\(∀r∈y.2.1,r.is (sg y.2.2.2.2.2.2))/\mW isWord y.1 (y.2.1.map (·.r)) y.2.2.1=O/\y.2.2.1.1.length+1<=y.1/\y.2.1.length+y.2.2.1.1.length<=1000000) (λ_ E=>E) (λy _=>[y.2.2.2.2.1,y.2.2.2.2.2.1,y.2.2.2.2.2.2,bl U [.string N,y.2.2.2.1] 164,bl S [.string ⟨#[]⟩,sZ] 164]) (λy=>y.1) ((gy lT H).1.length+1,[],gy lT H,sZ,(T2,[],[])) ⟨a5,OS.nil,λr a=>(by cases a),a0.symm,Nat.le_refl _,by simpa using Z⟩ kE.c.c.c (bk.iZ.trans (aN [4,0,0,0,0])) (G:=[]) ?_
 rintro⟨f,L,s,vL,⟨T,To,I⟩⟩ ⟨Y,C,K,l,hf,M⟩
 simp only at Y C K l hf M⊢
 have io:=C.aE
 obtain⟨J,rfl⟩:∃J,f=J+1:=⟨f-1,by omega⟩
 rw[mW]at l
 refine .seq<|.sr<|.mo rfl<|.cA (R:=R) (nY i s _ R Y ur) (λu T3 g=>?_)
 obtain⟨rfl,m⟩:=g
 refine .zn<|.cond rfl (λD=>?_) λD=>?_
 obtain⟨z,F⟩:=agb.1 D
 rw[F]at m l
 simp only[agc]at m l
 have b0:=(js F).2.1
 have a9:=(BH (W:=isWord) z).len
 refine .kn<|.block ?_
 refine bz.cO [(0,_),(2,_),(3,_)] kE.c.c.c (X:=cj×Value×(aw×aw×aw)) (λy=>dT R i (mV isWord z).2 y.2.2.1/\OS 167 3 cj.enc y.2.1 (L++[y.1]) y.2.2.2.1/\y.1.is (sg y.2.2.2.2)/\y.1.r=(mV isWord z).1) (λ_ E=>E) (λy=>[y.2.2.1,y.2.2.2.1,y.2.2.2.2,I,bl U [.string N,y.2.1] 164,bl S [.string ⟨#[]⟩,sZ] 164]) ?_ ?_
 refine .cY [3,5,7] mixed<|.tK 0 rfl (.fe rfl)<|.tO 2 rfl .move<|RA.jL 1 3 rfl rfl (by kernel_rfl) rfl ?_ ?_
 refine .lo rfl<|.nil<|Next.sub<|.sT 3 rfl<|.call [0] ((BI (R:=R) i z _ m).weaken cM) (λu H' g=>?_)
 obtain⟨A,B,rfl,r,rfl,a,v,n⟩:=g
 have ir:cB r.enc:=⟨a.cV⟩
 conv=>arg 8;simp only[rest,bJ,afP,afK]
 have a8:One r.vt:=a.t.aE
 have a7:One r.vn:=a.d.aE
 refine .nil<|Next.mod rfl<|.sT 4 rfl ?_
 refine .dN (λQ=>?_)
 refine .nil<|Next.mod rfl<|.sT 5 rfl<|.append C (RS.lits (xs:=[r]) rfl (by simp[cj.enc]) (λy j u g=>by rw[afF]at j;subst j;exact a.cV u g)) (by simp only[afE];omega) (λw k h=>?_)
 have i5:=h.aE
 refine .nil<|Next.mod rfl<|.tK 6 rfl (.fe rfl)<|.sT 7 rfl<|.dt rfl rfl<|.nil<|Next.mod rfl<|RA.nil (by kernel_rfl) ?_
 ·exact aF (r,w,(A,k,B)) ⟨n,h,a,v⟩ kE.c.c.c (aN [1,2,1,1,1,1])
 refine .call [0] ((BI (R:=R) i z _ m).weaken cM) (λu H' g=>?_)
 obtain⟨A,B,rfl,r,rfl,a,v,n⟩:=g
 have ir:cB r.enc:=⟨a.cV⟩
 conv=>arg 8;simp only[rest,bJ,afP,afK]
 have a8:One r.vt:=a.t.aE
 have a7:One r.vn:=a.d.aE
 refine .nil<|Next.mod rfl<|RA.jL 1 4 rfl rfl (by kernel_rfl) rfl ?_ ?_
 refine .lo rfl<|.nil<|Next.mod rfl<|.sT 4 rfl ?_
 refine .dN (λQ=>?_)
 refine .nil<|Next.mod rfl<|.sT 5 rfl<|.append C (RS.lits (xs:=[r]) rfl (by simp[cj.enc]) (λy j u g=>by rw[afF]at j;subst j;exact a.cV u g)) (by simp only[afE];omega) (λw k h=>?_)
 have i5:=h.aE
 refine .nil<|Next.mod rfl<|.tK 6 rfl (.fe rfl)<|.sT 7 rfl<|.dt rfl rfl<|.nil<|Next.mod rfl<|RA.nil (by kernel_rfl) ?_
 ·exact aF (r,w,(A,k,B)) ⟨n,h,a,v⟩ kE.c.c.c (aN [1,2,1,1,1,1])
 refine .dN (λQ=>?_)
 refine .nil<|Next.mod rfl<|.sT 1 rfl<|.lo rfl<|.nil<|Next.mod rfl<|.sT 5 rfl<|.append C (RS.lits (xs:=[r]) rfl (by simp[cj.enc]) (λy j u g=>by rw[afF]at j;subst j;exact a.cV u g)) (by simp only[afE];omega) (λw k h=>?_)
 have i5:=h.aE
 refine .nil<|Next.mod rfl<|.tK 6 rfl (.fe rfl)<|.sT 7 rfl<|.dt rfl rfl<|.nil<|Next.mod rfl<|RA.nil (by kernel_rfl) ?_
 ·exact aF (r,w,(A,k,B)) ⟨n,h,a,v⟩ kE.c.c.c (aN [1,2,1,1,1,1])
 intro y j
 obtain⟨r,w,⟨A,k,B⟩⟩:=y
 obtain⟨n,h,a,v⟩:=j
 simp only at n h a v⊢
 refine aS ?_
 ·exact bd (J,L++[r],(mV isWord z).2,w,(A,k,B++I)) ⟨n,h,λq hq=>by
   rcases afL.1 hq with hq|hq
   ·exact(K q hq).mono λb o p=>gR p
   ·rw[afF]at hq
    subst hq
    exact a.mono λb o p=>iP p,by simp only;rw[afD,af2,afZ,v];exact l,by simp only;omega,by simp only[afU,afE];omega⟩ (by simp only;omega) kE.c.c.c (bk.eK (by simp))
 have F:dx ur s=none:=by
  cases hh:dx ur s with
  |none=>rfl
  |some x=>rw[hh]at D;cases D
 rw[F]at m l
 simp only[af6]at m l
 refine .exit<|bo<|bq<|bp<|au<|.sr<|.mo rfl ?_
 refine .cA (R:=R) (tx i _ _ R m xv) (λu k a6=>?_)
 refine .z<|.q (.aM rfl)<|.bN rfl rfl<|.zn ?_
 refine .ret (aY _ (.one (.eQ rfl rfl)) ((aN [0,0,0]).trans (bk.eK (H':=[k,To++I]) (by simp[take,bJ]))) ?_)
 ·exact⟨_,_,rfl,⟨N,vL,L⟩,rfl,⟨a3,C.sg.mono λb o p=>iP p,λr a=>(K r a).mono λb o p=>gR p⟩,by rw[<-l];rfl,by rw[<-l];exact a6⟩
theorem Ej (j : Nat) (m : cv) (T : aw) (hI : dT R j m T) (Y : m.1.length <= 1000000) : Spec prog 99 [pT j] R [T] λ u H' => ∃ T' Ts, H' = [T', Ts] /\ ∃ c : bL, u = .agg c.enc.toArray /\ c.is (sg Ts) /\ c.plain = ⟨(lj isWord (m.1.length + 1) [] m).1, []⟩ /\ dT R j (lj isWord (m.1.length + 1) [] m).2 T' := by
 obtain⟨a1,a4⟩:∃a1,a1=lj isWord (m.1.length+1) [] m:=⟨_,rfl⟩
 rw[<-a4]
 refine Spec.body func99 rfl results99 ntmps99 rfl<|.sr ?_
 refine .bX (λU=>?_)
 refine .z ?_
 refine .bX (λV=>?_)
 refine .zs<|.block<|.cy [(0,_),(2,_),(3,_)] (X:=Nat×List cm×cv×Value×(aw×aw×aw)) (λy=>dT R j y.2.2.1 y.2.2.2.2.1/\OS 164 2 cm.enc y.2.2.2.1 y.2.1 y.2.2.2.2.2.1/\(∀r∈y.2.1,r.is (sg y.2.2.2.2.2.2))/\lj isWord y.1 (y.2.1.map cm.plain) y.2.2.1=a1/\y.2.2.1.1.length+1<=y.1/\y.2.1.length+y.2.2.1.1.length<=1000000) (λ_ E=>E) (λy _=>[y.2.2.2.2.1,y.2.2.2.2.2.1,y.2.2.2.2.2.2,bl V [y.2.2.2.1,sZ] 25,bl U [sZ,sZ] 25]) (λy=>y.1) (m.1.length+1,[],m,sZ,(T,[],[])) ⟨hI,OS.nil,λr a=>(by cases a),a4.symm,Nat.le_refl _,by simpa using Y⟩ kE.c.c.c (bk.iZ.trans (aN [4,0,0,0,0])) (G:=[]) ?_
 rintro⟨f,L,s,vL,⟨T,S,K⟩⟩ ⟨M,C,O,i,hf,Y⟩
 simp only at M C O i hf Y⊢
 have io:=C.aE
 obtain⟨J,rfl⟩:∃J,f=J+1:=⟨f-1,by omega⟩
 rw[lj]at i
 obtain⟨⟨v2,a3,Z⟩,a5⟩:=M
 have M:dT R j s T:=⟨⟨v2,a3,Z⟩,a5⟩
 have i2:=Z.aE
 have b1:PS T (pT j) [v2,.bool s.2]:=PS.of (E:=215) (fr:=(0,0)) (by rw[a3];simp)
 refine .seq<|.seq ?_
 refine bz.cO [(0,_),(2,_),(3,_)] kE.c.c.c (X:=Unit) (λ_=>True) (λ_ E=>(16,.bool (!s.2&&decide (0<s.1.length)))::E) (λ_=>[T,S,K,bl V [vL,sZ] 25,bl U [sZ,sZ] 25]) ?_ ?_
 refine .region<|.mo rfl<|.nc rfl<|.fa rfl<|.lo rfl<|.q .not<|.mo rfl<|.split (t:=9) rfl (λe=>?_) (λe=>?_)
 refine .gT e<|.mo rfl<|.gT e<|.nc rfl<|.gT e<|.fa rfl<|.gT e<|.lo rfl<|.gT e<|.q (.bI Z)<|.gT e<|.q .gtr<|.q (.aT e)<|.nil ?_
 ·exact aF () afG (kE.c.c.c.bV rfl (by rw[e];simp)) rH
 refine .gF e<|.gF e<|.gF e<|.gF e<|.gF e<|.gF e<|.q (.aQ e)<|.nil ?_
 ·exact aF () afG (kE.c.c.c.bV rfl (by rw[e];simp)) rH
 intro y l
 refine au<|.cond rfl (λw=>?_) λw=>?_
 simp only[Bool.and_eq_true,agj,decide_eq_true_eq]at w
 have a0:¬(s.2=true\/s.1=[]):=by
  rintro(h|h)
  ·rw[w.1]at h;cases h
  ·rw[h]at w;simp at w
 rw[afA a0]at i
 refine .kn<|.block<|.block<|.sr<|.mo rfl<|.cA (R:=R) (nY j s _ R M uq) (λu T3 g=>?_)
 obtain⟨rfl,B⟩:=g
 refine .az rfl<|.cond rfl (λN=>?_) λN=>?_
 obtain⟨z,Q⟩:=agb.1 N
 rw[Q]at B i
 simp only[agc]at B i
 have b0:=(js Q).2.1
 have a9:=(S7 (W:=isWord) z).len
 refine bz.cO [(0,_),(2,_),(3,_)] kE.c.c.c (X:=cm×Value×(aw×aw×aw)) (λy=>dT R j (mX isWord z).2 y.2.2.1/\OS 164 2 cm.enc y.2.1 (L++[y.1]) y.2.2.2.1/\y.1.is (sg y.2.2.2.2)/\y.1.plain=(mX isWord z).1) (λ_ E=>E) (λy=>[y.2.2.1,y.2.2.2.1,y.2.2.2.2,K,bl V [y.2.1,sZ] 25,bl U [sZ,sZ] 25]) ?_ ?_
 refine .cY [3,5,7] mixed<|.tK 0 rfl (.fe rfl)<|.tO 2 rfl .move<|RA.jL 1 3 rfl rfl (by kernel_rfl) rfl ?_ ?_
 refine .lo rfl<|.nil<|Next.sub<|.sT 3 rfl<|.call [0] ((Cu (R:=R) j z _ B (by omega)).weaken cM) (λu H' g=>?_)
 obtain⟨A,I,rfl,r,rfl,a,F,n⟩:=g
 have ir:cB r.enc:=⟨a.cV⟩
 conv=>arg 8;simp only[rest,bJ,afP,afK]
 have a7:One r.v:=a.rs.aE
 refine .nil<|Next.mod rfl<|.sT 4 rfl ?_
 refine .dN (λa2=>?_)
 refine .nil<|Next.mod rfl<|.sT 5 rfl<|.append C (RS.lits (xs:=[r]) rfl (by simp[cm.enc]) (λy l u g=>by rw[afF]at l;subst l;exact a.cV u g)) (by simp only[afE];omega) (λH p k=>?_)
 have i5:=k.aE
 refine .nil<|Next.mod rfl<|.tK 6 rfl (.fe rfl)<|.sT 7 rfl<|.dt rfl rfl<|.nil<|Next.mod rfl<|RA.nil (by kernel_rfl) ?_
 ·exact aF (r,H,(A,p,I)) ⟨n,k,a,F⟩ kE.c.c.c (aN [1,2,1,1,1,1])
 refine .call [0] ((Cu (R:=R) j z _ B (by omega)).weaken cM) (λu H' g=>?_)
 obtain⟨A,I,rfl,r,rfl,a,F,n⟩:=g
 have ir:cB r.enc:=⟨a.cV⟩
 conv=>arg 8;simp only[rest,bJ,afP,afK]
 have a7:One r.v:=a.rs.aE
 refine .nil<|Next.mod rfl<|RA.jL 1 4 rfl rfl (by kernel_rfl) rfl ?_ ?_
 refine .lo rfl<|.nil<|Next.mod rfl<|.sT 4 rfl ?_
 refine .dN (λa2=>?_)
 refine .nil<|Next.mod rfl<|.sT 5 rfl<|.append C (RS.lits (xs:=[r]) rfl (by simp[cm.enc]) (λy l u g=>by rw[afF]at l;subst l;exact a.cV u g)) (by simp only[afE];omega) (λH p k=>?_)
 have i5:=k.aE
 refine .nil<|Next.mod rfl<|.tK 6 rfl (.fe rfl)<|.sT 7 rfl<|.dt rfl rfl<|.nil<|Next.mod rfl<|RA.nil (by kernel_rfl) ?_
 ·exact aF (r,H,(A,p,I)) ⟨n,k,a,F⟩ kE.c.c.c (aN [1,2,1,1,1,1])
 refine .dN (λa2=>?_)
 refine .nil<|Next.mod rfl<|.sT 1 rfl<|.lo rfl<|.nil<|Next.mod rfl<|.sT 5 rfl<|.append C (RS.lits (xs:=[r]) rfl (by simp[cm.enc]) (λy l u g=>by rw[afF]at l;subst l;exact a.cV u g)) (by simp only[afE];omega) (λH p k=>?_)
 have i5:=k.aE
 refine .nil<|Next.mod rfl<|.tK 6 rfl (.fe rfl)<|.sT 7 rfl<|.dt rfl rfl<|.nil<|Next.mod rfl<|RA.nil (by kernel_rfl) ?_
 ·exact aF (r,H,(A,p,I)) ⟨n,k,a,F⟩ kE.c.c.c (aN [1,2,1,1,1,1])
 intro y l
 obtain⟨r,H,⟨A,p,I⟩⟩:=y
 obtain⟨n,k,a,F⟩:=l
 simp only at n k a F⊢
 refine aS (aS ?_)
 ·exact bd (J,L++[r],(mX isWord z).2,H,(A,p,I++K)) ⟨n,k,λq hq=>by
   rcases afL.1 hq with hq|hq
   ·exact(O q hq).mono λb o D=>gR D
   ·rw[afF]at hq
    subst hq
    exact a.mono λb o D=>iP D,by simp only;rw[afD,af2,afZ,F];exact i,by simp only;omega,by simp only[afU,afE];omega⟩ (by simp only;omega) kE.c.c.c (bk.eK (by simp))
 have Q:dx uq s=none:=by
  cases hh:dx uq s with
  |none=>rfl
  |some x=>rw[hh]at N;cases N
 rw[Q]at B i
 simp only[af6]at B i
 refine .sr<|.mo rfl<|.cA (R:=R) (pA j s _ B uu (by simp)) (λu A g=>?_)
 obtain⟨rfl,n⟩:=g
 refine .az rfl<|.cU<|.region<|.mo rfl ?_
 obtain⟨⟨v3,rfl,a6⟩,a8⟩:=n
 have i3:=a6.aE
 refine .cA (R:=R) (sU j v3 s.2 R) (λu p g=>?_)
 subst g
 refine .nil<|aS<|aS ?_
 ·exact bd (J,L,ko,vL,(_,S,K)) ⟨dT.nil,C,O,by
   obtain⟨f2,rfl⟩:∃f2,J=f2+1:=⟨J-1,by omega⟩
   simp only
   rw[lj,afB (.inl rfl)]
   exact i,by simp only[ko,af4];omega,by simp only[ko,af4];omega⟩ (by simp only;omega) (((kE.d rfl).d rfl).d rfl) rH
 have a0:s.2=true\/s.1=[]:=by
  cases hs:s.2 with
  |true=>exact .inl rfl
  |false=>
   rw[hs]at w
   simp at w
   exact .inr w
 rw[afB a0]at i
 refine .exit<|bo<|bq<|bp<|au<|.sr<|.q (.aM rfl)<|.bN rfl rfl<|.zn ?_
 refine .ret (aY _ (.one (.eQ rfl rfl)) ((aN [0,0,0]).trans (bk.eK (H':=[T,S++K]) (by simp[take,bJ]))) ?_)
 ·exact⟨_,_,rfl,⟨vL,sZ,L,[]⟩,rfl,⟨C.sg.mono λb o D=>iP D,RS.gO,λr a=>(O r a).mono λb o D=>gR D,λr a=>(by cases a)⟩,by rw[<-i];rfl,by rw[<-i];exact M⟩
theorem P9(v:Value)(L:List eY)(h:RS R 3 eY.enc v L)(m:∀t∈L,gp t):Spec prog 98 [v] R [] λu H'=>u=.bool false/\H'=[]:=by
 have p:=h.le
 refine Spec.body func98 rfl results98 ntmps98 rfl<|.sr<|.ag rfl<|.z<|.ag rfl<|.zs<|.sr<|.mo rfl<|.q (.bI h)<|.mo rfl<|.zn<|.block<|.cy [(6,_),(7,_)] (X:=Nat) (λi=>i<=L.length) (λi E=>(8,iN i)::(3,.int .i64 0)::E) (λ_ G=>G) (λi=>L.length-i) 0 (afz _) kE.c.c.c.c rH ?_
 rintro i o
 refine .sr<|.q .lss<|.zs<|.cond rfl (λg=>?_) λg=>?_
 have k:i<L.length:=cg g
 obtain⟨t,l⟩:=bQ k
 have d:=m t (ba l)
 refine .kn<|.seq<|.block<|.sr ?_
 refine .bC i h l (λr=>?_)
 refine .q (.aM rfl) ?_
 refine .bX (λf=>?_)
 refine .bN rfl rfl<|.zs<|.block<|.seq ?_
 refine bz.cO [(3,_),(5,_),(6,_),(7,_),(8,_)] kE.c.c.c.c.c (X:=Unit) (λ_=>True) (λ_ E=>(12,.bool false)::E) (λ_=>[bl f t.enc 291]) ?_ ?_
 refine .region<|.fa rfl<|.lo rfl<|.q .bU<|.mo rfl<|.split (t:=16) rfl (λa=>?_) (λa=>?_)
 refine .gT a<|.fa rfl<|.gT a<|.lo rfl<|.gT a<|.q .dF<|.q (.aT a)<|.ag rfl<|.nil ?_
 ·exact aF () afG (kE.c.c.c.c.c.bV rfl (by unfold gp at d;have e:pj=(⟨#[40]⟩:ByteArray):=rfl;grind)) rH
 refine .gF a<|.gF a<|.gF a<|.q (.aQ a)<|.ag rfl<|.nil ?_
 ·exact aF () afG (kE.c.c.c.c.c.bV rfl (by unfold gp at d;have e:pj=(⟨#[40]⟩:ByteArray):=rfl;grind)) rH
 intro y n
 refine au<|.cU<|.seq ?_
 refine bz.cO [(3,_),(6,_),(7,_),(8,_)] kE.c.c.c.c (X:=Unit) (λ_=>True) (λ_ E=>(23,.bool false)::E) (λ_=>[bl f t.enc 291]) ?_ ?_
 refine .region<|.fa rfl<|.lo rfl<|.q .bU<|.mo rfl<|.split (t:=27) rfl (λb=>?_) (λb=>?_)
 refine .gT b<|.fa rfl<|.gT b<|.lo rfl<|.gT b<|.q .dF<|.q (.aT b)<|.ag rfl<|.nil ?_
 ·exact aF () afG (kE.c.c.c.c.bV rfl (by unfold gp at d;have e:qC=(⟨#[41]⟩:ByteArray):=rfl;grind)) rH
 refine .gF b<|.gF b<|.gF b<|.q (.aQ b)<|.ag rfl<|.nil ?_
 ·exact aF () afG (kE.c.c.c.c.bV rfl (by unfold gp at d;have e:qC=(⟨#[41]⟩:ByteArray):=rfl;grind)) rH
 intro y n
 refine au<|.cU<|.skip<|aS<|au<|.sr<|.mo rfl<|.q .gtr<|.zn<|.cond rfl (λj=>?_) λj=>?_
 ·simp at j
 refine .skip<|aS<|au<|.region<|.ia (i+1) .add<|.mo rfl<|.nil ?_
 ·exact bd (i+1) k (by omega) kE.c.c.c.c (bk.none _)
 refine .exit<|bo<|bq<|bp<|au<|.sr<|.az rfl<|.ret (aY _ (.one (.tmp rfl)) (bk.none _) ?_)
 ·exact⟨rfl,rfl⟩
theorem QH(s:ByteArray)(B:s.size<=16384)(g:Pl s)(L:List eY)(r:rA s=some L)(l:∀t∈L,gp t)(y:L.length<=1000000)(C:List Sp)(n:lj isWord (L.length+1) [] (L,false)=(C,([],false)))(A:(⟨C,[]⟩:Cf).jG isWord=false):
  Spec prog 47 [.string s] R [] λu H'=>∃T,H'=[T]/\∃c:bL,u=.tuple [.agg c.enc.toArray,.int .i64 0].toArray/\c.is (sg T)/\c.plain=⟨C,[]⟩:=by
 refine Spec.body func47 rfl results47 ntmps47 rfl<|.sr ?_
 refine .bX (λG=>?_)
 refine .ag rfl<|.z<|.mo rfl<|.cX (Pw s B g L r _) (λu F a=>?_)
 obtain⟨v,rfl,d⟩:=a
 obtain⟨D,m,rfl,_⟩:=d.shape
 refine .mo rfl<|.q .extract<|.q .extract<|.ag rfl<|.ag rfl<|.zs<|.block<|.sr<|.mo rfl<|.q .eh<|.az rfl<|.cond rfl (λj=>?_) λj=>?_
 ·simp at j
 refine .sr<|.mo rfl<|.aX (P9 _ L (d.sg.nq) l) (λu a=>?_)
 subst a
 refine .az rfl<|.cU<|.skip<|aS<|au<|.sr<|.mo rfl<|.q .cL ?_
 refine .cb rfl (λi=>?_)
 refine .ag rfl<|.z<|.mo rfl<|.call [0] (Ej (T := rO i (.slice D L.length m) false) i (L, false) ⟨⟨_, rfl, d.rs λ p g => .inr (by simp [rest, bJ, g])⟩, l⟩ y) (λ u H' a => ?_)
 obtain⟨E,h,rfl,c,rfl,e,f,k⟩:=a
 rw[n]at f k
 obtain⟨⟨K,rfl,I⟩,_⟩:=k
 have J:cB c.enc:=⟨e.cV⟩
 conv=>arg 8;simp only[rest,bJ,afP,afK]
 refine .bX (λH=>?_)
 refine .bN rfl rfl<|.zs<|.block<|.sr<|.mo rfl<|.nc rfl<|.fa rfl<|.lo rfl<|.az rfl<|.cU<|.sr<|.q (.aM rfl)<|.aX (C4 c _ (e.mono λb o w=>.inr (by have x:(b,o)∈h:=w;simp[x]))) (λu a=>?_)
 subst a
 rw[f,A]
 refine .q .not<|.az rfl<|.cU<|.skip<|aS<|au<|.sr<|.q (.aM rfl)<|.bN rfl rfl<|.az rfl ?_
 refine .ret (aY _ (.two (.eQ rfl rfl) (.tmp rfl)) (aN [2]) ?_)
 ·exact⟨h,rfl,c,rfl,e,f⟩
end
def pF(c:Cf)(k:bf)(l:List Sub):List ByteArray:=((l.filter (allowed c k)).filter λs=> !decide (s.us=⟨#[]⟩)).map (·.us)
def pa(c:Cf)(k:bf)(l:List Sub):List Sub:=(l.filter (allowed c k)).filter λs=>decide (s.us=⟨#[]⟩)
theorem Um{c:Cf}{k:bf}{l:List Sub}{i:Nat}{s:Sub}(h:l[i]? =some s):pF c k (l.take (i+1))=pF c k (l.take i)++if allowed c k s=true/\s.us≠⟨#[]⟩then [s.us]else []:=by
 rw[dS h]
 unfold pF
 rw[agd,agd,afD]
 congr 1
 by_cases a:allowed c k s=true<;>by_cases b:s.us=⟨#[]⟩<;>simp[a,b]
theorem SP{c:Cf}{k:bf}{l:List Sub}{i:Nat}{s:Sub}(h:l[i]? =some s):pa c k (l.take (i+1))=pa c k (l.take i)++if allowed c k s=true/\s.us=⟨#[]⟩then [s]else []:=by
 rw[dS h]
 unfold pa
 rw[agd,agd]
 congr 1
 by_cases a:allowed c k s=true<;>by_cases b:s.us=⟨#[]⟩<;>simp[a,b]
theorem XC.CD{x:XC}{R:ay}(h:x.ok R)(k:bf):(x.sub k).length<=1000:=by
 unfold XC.sub
 split
 ·rw[afC]
  have a:=afS (λy:bB=>y.there x.rev&&decide (y.t.cQ=k)) x.L
  have b:=h.l.pm.length_eq
  have c:=h.len
  omega
 ·simp
theorem CE(x:XC)(R:ay)(h:x.ok R)(xb:Nat)(va U:Value)(e:Nat) [iv:One va] [ip:One U] [pc:PC R (pT xb) (x.cells va U e)](k:bf):
  Spec prog 145 [pT xb,.agg [.string k.os,.string k.oi].toArray,.string k.rel] R [] λu H'=>∃Tu Ts,H'=[Tu,Ts]/\∃wu ws,u=.tuple [wu,ws].toArray/\OS 9 1 cr wu (iA x.c.plain x.sub k) Tu/\OS 117 4 Sub.enc ws (fU x.c.plain x.sub k) Ts:=by
 have Z:=Dt x.c R h.c
 have i1:One x.c.vs:=RS.aE h.c.ss
 have i2:One x.c.vc:=RS.aE h.c.sc
 have i3:=h.n.one
 obtain⟨ps,vf,vr,Mf,Mr,W⟩:=h.s
 have b3:=XC.CD h k
 have hl:=h.l
 have b1:=h.len
 have Y:iA x.c.plain x.sub k=pF x.c.plain k (x.sub k):=rfl
 have V:fU x.c.plain x.sub k=pa x.c.plain k (x.sub k):=rfl
 have a4:x.sub k=if scan x.S x.rev then(x.L.filter λy=>y.there x.rev&&decide (y.t.cQ=k)).map (·.t.sub)else []:=rfl
 have a6:∀i,(pF x.c.plain k ((x.sub k).take i)).length<=1000:=λi=>by
  unfold pF
  rw[afC]
  refine afM (afS _ _) (afM (afS _ _) ?_)
  rw[afI];omega
 have a2:∀i,(pa x.c.plain k ((x.sub k).take i)).length<=1000:=λi=>by
  unfold pa
  refine afM (afS _ _) (afM (afS _ _) ?_)
  rw[afI];omega
 have a5:=λ(l:List Sub) (i:Nat) (s:Sub) (h:l[i]? =some s)=>Um (c:=x.c.plain) (k:=k) h
 have a3:=λ(l:List Sub) (i:Nat) (s:Sub) (h:l[i]? =some s)=>SP (c:=x.c.plain) (k:=k) h
 rw[Y,V]
 generalize hL:x.sub k=l at *
 refine Spec.body func145 rfl results145 ntmps145 rfl ?_
 refine .sr ?_
 refine .cb rfl (λb4=>?_)
 refine .ag rfl<|.ag rfl<|.z<|.ag rfl<|.z<|.ag rfl<|.zs<|.seq<|.cY [] mixed ?_
 refine .tO 0 rfl .move<|.tO 1 rfl (.nilCheck rfl)<|.tO 2 rfl (.fieldAddr rfl)<|.tO 3 rfl (.ca rfl)<|.tO 4 rfl (.aM rfl)<|.tO 5 rfl .move<|.tO 6 rfl .move<|.tO 7 rfl (.nilCheck rfl)<|.tO 8 rfl (.fieldAddr rfl)<|.tO 9 rfl (.ca rfl)<|.tO 12 rfl .move ?_
 refine .sT 10 rfl ?_
 refine .cX ((SV.TF (W.mono λb o J=>.inl J) (by omega) k x.rev hl).weaken λb o J=>J) (λu a7 D=>?_)
 rw[<-a4]at D
 have iu:=D.aE
 refine .nil (Next.sub ?_)
 refine .tO 11 rfl (.dG D) ?_
 refine RA.nil (by kernel_rfl) ?_
 refine au<|.block ?_
 refine .cy [(0,_),(2,_),(4,_),(22,_),(23,_)] (X:=Nat×Value×Value×aw×aw) (λy=>y.1<=l.length/\OS 9 1 cr y.2.1 (pF x.c.plain k (l.take y.1)) y.2.2.2.1/\OS 117 4 Sub.enc y.2.2.1 (pa x.c.plain k (l.take y.1)) y.2.2.2.2) (λy E=>(24,iN y.1)::(8,y.2.1)::(9,y.2.2.1)::E) (λy G=>y.2.2.2.1::y.2.2.2.2::G) (λy=>l.length-y.1) (0,sZ,sZ,[],[]) ⟨afz _,OS.nil,OS.nil⟩ kE.c.c.c.c.c.c.c.c bk.iZ ?_
 rintro⟨i,Q,O,Tu,Ts⟩ ⟨hi,m,j⟩
 simp only at hi m j⊢
 have b6:=m.aE
 have b7:=j.aE
 refine .sr<|.q .lss<|.zs ?_
 refine .cond rfl (λH=>?_) λH=>?_
 have C:i<l.length:=cg H
 obtain⟨s,M⟩:=bQ C
 have b5:=a6 i
 have b2:=a2 i
 have r:=a5 l i s M
 have p:=a3 l i s M
 obtain⟨a,g,d,f⟩:=s
 refine .kn<|.seq<|.block<|.sr ?_
 refine .aK i D M (λb8=>?_)
 refine .q (.aM rfl) ?_
 refine .bX (λa8=>?_)
 refine .bN rfl rfl<|.zn<|.block<|.seq ?_
 refine .dm 8 mixed (by kernel_rfl) ?_
 conv=>arg 6;dsimp only[List.take]
 refine .mo rfl<|.nc rfl<|.fa rfl<|.q (.loadT rfl) ?_
 refine .q (.aM rfl)<|.mo rfl<|.q (.aM rfl) ?_
 refine .q .cL ?_
 refine .nil ?_
 refine .aX ((Z ⟨k.os,k.oi,k.rel,a,g,d,f⟩).weaken cM) (λw hw=>?_)
 subst hw
 refine .q .eh<|.az rfl ?_
 refine .cond rfl (λv=>?_) λv=>?_
 have a1:allowed x.c.plain k ⟨a,g,d,f⟩=false:=by
  cases hq:allowed x.c.plain k ⟨a,g,d,f⟩with
  |false=>rfl
  |true=>
   have:allowed x.c.plain (⟨k.os,k.oi,k.rel,a,g,d,f⟩:aB).cQ (⟨k.os,k.oi,k.rel,a,g,d,f⟩:aB).sub=true:=hq
   rw[this]at v;simp at v
 rw[afA (by rw[a1];simp),afN]at r p
 refine .skip<|aS<|aS<|au<|.region ?_
 refine .ia (i+1) .add ?_
 refine .mo rfl<|.nil ?_
 ·exact bd (i+1,Q,O,Tu,Ts) ⟨C,by rw[r];exact m,by rw[p];exact j⟩ (by simp only;omega) kE.c.c.c.c.c.c.c.c (bk.drop [0] _)
 have T:allowed x.c.plain k ⟨a,g,d,f⟩=true:=by
  cases hq:allowed x.c.plain k ⟨a,g,d,f⟩with
  |true=>rfl
  |false=>
   have:allowed x.c.plain (⟨k.os,k.oi,k.rel,a,g,d,f⟩:aB).cQ (⟨k.os,k.oi,k.rel,a,g,d,f⟩:aB).sub=false:=hq
   rw[this]at v;simp at v
 refine .sr<|.fa rfl<|.lo rfl<|.q .fP<|.az rfl ?_
 refine .cond rfl (λI=>?_) λI=>?_
 have A:a≠⟨#[]⟩:=by simpa using I
 rw[afB ⟨T,A⟩]at r
 rw[afA (λK=>A K.2),afN]at p
 refine .region<|.mo rfl<|.fa rfl<|.lo rfl ?_
 refine .gL (λb0=>?_)
 refine .append m (RS.lits (xs:=[a]) rfl (by simp[cr]) (by simp[cr,aE])) (by simp only[afE];omega) (λN F B=>?_)
 rw[<-r]at B
 refine .ag rfl<|.nil<|aS<|aS<|au<|.region ?_
 refine .ia (i+1) .add ?_
 refine .mo rfl<|.nil ?_
 ·exact bd (i+1,N,O,F,Ts) ⟨C,B,by rw[p];exact j⟩ (by simp only;omega) kE.c.c.c.c.c.c.c.c (bk.drop [0,0] _)
 have A:a=⟨#[]⟩:=by simpa using I
 rw[afA (λK=>K.2 A),afN]at r
 rw[afB ⟨T,A⟩]at p
 refine .region<|.mo rfl<|.q (.aM rfl) ?_
 refine .dN (λa9=>?_)
 refine .append j (RS.lits (xs:=[(⟨a,g,d,f⟩:Sub)]) rfl (by simp[Sub.enc]) (by simp[Sub.enc,aE])) (by simp only[afE];omega) (λN F B=>?_)
 rw[<-p]at B
 refine .ag rfl<|.nil<|aS<|aS<|au<|.region ?_
 refine .ia (i+1) .add ?_
 refine .mo rfl<|.nil ?_
 ·exact bd (i+1,Q,N,Tu,F) ⟨C,by rw[r];exact m,B⟩ (by simp only;omega) kE.c.c.c.c.c.c.c.c (bk.drop [0,0] _)
 refine .exit<|bo<|bq<|bp<|au<|.sr<|.mo rfl<|.mo rfl<|.ag rfl<|.az rfl ?_
 refine .ret (aY _ (.two (.tmp rfl) (.tmp rfl)) (aN [0,0]) ?_)
 ·have a0:i=l.length:=by have:=bA H;omega
  subst a0
  rw[afJ]at m j
  exact⟨Tu,Ts,by simp[take,bJ],Q,O,rfl,m,j⟩
structure ma(x:XC)(R:ay)(ps:List aH)(va:Value)(ks:List bf)(ps':List aH)(vp:Value)(Ta To:aw)(vo:Value)(Tl:aw):Prop where
 l:OS 3 1 da vo (dq x.c.plain x.num (ps.map aH.plain) ks).2 Tl
 eq:ps'.map aH.plain=(dq x.c.plain x.num (ps.map aH.plain) ks).1
 at_:jd ps' va Ta
 o:OS 95 8 aH.enc vp ps' To
 gr:∃l,ps'=ps++l/\∀p∈l,p.is R
theorem ma.len{x:XC}{R:ay}{ps a:List aH}{va g f:Value}{ks:List bf}{b e d:aw}(h:ma x R ps va ks a g b e f d):a.length=(dq x.c.plain x.num (ps.map aH.plain) ks).1.length:=by rw[<-h.eq,afC]
theorem ma.next{x:XC}{R:ay}{ps d b:List aH}{va D s C r:Value}{ks:List bf}{i:Nat}{k:bf}{t v f m u j:aw}(h:ma x R ps va (ks.take i) d D t v C u)(z:ks[i]? =some k)
  (e:b.map aH.plain=(eB x.c.plain x.num (d.map aH.plain) k).1)(a:jd b va f)(o:OS 95 8 aH.enc s b m)(g:∃l,b=d++l/\∀p∈l,p.is R)
  (q:OS 3 1 da r ((dq x.c.plain x.num (ps.map aH.plain) (ks.take i)).2++[(eB x.c.plain x.num (d.map aH.plain) k).2]) j):ma x R ps va (ks.take (i+1)) b s f m r j:=by
 have n:=xV (c:=x.c.plain) (num:=x.num) z (ps.map aH.plain)
 rw[h.eq]at e q
 refine⟨by rw[n];exact q,by rw[n];exact e,a,o,?_⟩
 obtain⟨A,rfl,w⟩:=h.gr
 obtain⟨B,rfl,y⟩:=g
 refine⟨A++B,by rw[afW],λp hp=>?_⟩
 rcases afL.1 hp with hp|hp
 ·exact w p hp
 ·exact y p hp
def xI(x:XC)(R:ay)(xb:Nat)(ps:List aH)(e:Nat)(va:Value)(ks:List bf)(u:Value)(H':aV):Prop:=∃ps' vp Ta To Tl,H'=[Tl,x.iV xb va vp e,Ta,To]/\ma x R ps va ks ps' vp Ta To u Tl
theorem Ps(x:XC)(R:ay)(h:x.ok R)(xb:Nat)(ps:List aH)(e:Nat)(va j:Value)(m p:aw)(hA:jd ps va m)(hO:OS 95 8 aH.enc j ps p)(k:bf)(H:List Value)(n:Nd) [ie:cB H]
  (hl:(dq x.c.plain x.num (ps.map aH.plain) (ee x.c.plain x.sub k n)).1.length<=3000000)(b1:H.length=5):
  Spec prog 146 [pT xb,.agg (.string k.os:: .string k.oi:: .string k.rel::H).toArray,.agg n.enc.toArray] R [x.iV xb va j e,m,p] (xI x R xb ps e va (ee x.c.plain x.sub k n)):=by
 obtain⟨x3,x4,x5,x6,x7,rfl⟩:∃a b c d f,H=[a,b,c,d,f]:=by
  match H,b1 with
  |[a,b,c,d,f],_=>exact⟨a,b,c,d,f,rfl⟩
 have c9:cB (Value.string k.os:: .string k.oi:: .string k.rel::[x3,x4,x5,x6,x7]):=⟨λu hu=>by
  simp only[afQ,af0,af1]at hu
  rcases hu with rfl|rfl|rfl|hu
  ·rfl
  ·rfl
  ·rfl
  ·exact ie.h u (by simpa using hu)⟩
 have a9:=CE x
 have a4:=Bv x R h xb
 have i1:One x.c.vs:=RS.aE h.c.ss
 have i2:One x.c.vc:=RS.aE h.c.sc
 have i3:=h.n.one
 obtain⟨M0,b0,_⟩:=id hA
 have d0:=b0.one
 have d1:=hO.aE
 have a0:∀ks u H',xI x R xb ps e va ks u H'↔∃ps' j m p w,H'=[w,x.iV xb va j e,m,p]/\ma x R ps va ks ps' j m p u w:=λ_ _ _=>Iff.rfl
 have r:ee x.c.plain x.sub k n=if n.kind=1 then(fU x.c.plain x.sub k).map λs=>⟨s.ss,s.si,s.sr⟩
  else if n.kind=3 then(fU x.c.plain x.sub ⟨k.os,k.oi,n.rel⟩).map λs=>⟨s.ss,s.si,n.dI⟩
  else if n.kind=2 then [⟨k.os,k.oi,n.rel⟩]
  else []:=rfl
 generalize c8:ee x.c.plain x.sub k n=ks at *
 have a6:=λi=>xT (c:=x.c.plain) (num:=x.num) ks i (ps.map aH.plain)
 have b2:=Dm (c:=x.c.plain) (num:=x.num) ks (ps.map aH.plain)
 rw[afC]at b2
 have a7:=λi=>sE (c:=x.c.plain) (num:=x.num) (ks.take i) (ps.map aH.plain)
 have a8:∀k',(fU x.c.plain x.sub k').length<=1000:=λk'=>by
  unfold fU fitting
  exact afM (afS _ _) (afM (afS _ _) (XC.CD h k'))
 have S:ma x R ps va (ks.take 0) ps j m p (sZ) []:=⟨OS.nil,by simp[dq],hA,hO,[],by simp,by simp⟩
 refine Spec.gQ (H':=[[],x.iV xb va j e,m,p]) (by simp)<|Spec.body func146 rfl results146 ntmps146 rfl<|.sr ?_
 refine .cb rfl (λb4=>?_)
 refine .cb rfl (λb5=>?_)
 refine .ag rfl<|.z<|.ag rfl<|.zs<|.sr<|.fa rfl<|.lo rfl<|.zn<|.block<|.sr<|.q .bU<|.az rfl<|.cond rfl (λh1=>?_) λh1=>?_
 have M:n.kind=1:=bT h1
 rw[afB M]at r
 have b9:=a8 k
 refine .sr<|.mo rfl<|.fa rfl<|.q (.loadT rfl)<|.fa rfl<|.lo rfl<|.call [] (a9 _ (h.mono λb o hb=>.inl hb) xb va j e (pc:=PC.of (E:=190) (fr:=(0,0)) (.inr (by simp[rest]))) k) (λu H' hu=>?_)
 obtain⟨Tu,Ts,rfl,wu,ws,rfl,a1,t⟩:=hu
 have c1:=a1.aE
 have c2:=t.aE
 conv=>arg 8;simp only[rest,bJ,afP,afK]
 refine .mo rfl<|.q .extract<|.q .extract<|.ag rfl<|.ag rfl<|.z<|.mo rfl<|.q (.dG t)<|.mo rfl<|.zn<|.block<|.cy [(0,_),(29,_),(30,_)] (X:=Nat×List aH×Value×aw×aw×Value×aw) (λy=>y.1<=(fU x.c.plain x.sub k).length/\ma x R ps va (ks.take y.1) y.2.1 y.2.2.1 y.2.2.2.1 y.2.2.2.2.1 y.2.2.2.2.2.1 y.2.2.2.2.2.2) (λy E=>(31,iN y.1)::(7,y.2.2.2.2.2.1)::E) (G:=[Ts,bl b5 n.enc 199,bl b4 (Value.string k.os:: .string k.oi:: .string k.rel::[x3,x4,x5,x6,x7]) 95]) (λy G=>y.2.2.2.2.2.2::x.iV xb va y.2.2.1 e::y.2.2.2.1::y.2.2.2.2.1::G) (λy=>(fU x.c.plain x.sub k).length-y.1) (0,ps,j,m,p,sZ,[]) ⟨afz _,S⟩ kE.c.c.c.c.c (aN [4,4,4,4,1,1,1]) ?_
 rintro⟨i,v,Y,B,D,vo,w⟩ ⟨hi,g⟩
 simp only at hi g⊢
 have io:=g.l.aE
 have c0:=g.o.aE
 have b8:=g.len
 have b7:=a6 i
 have a3:=a7 i
 rw[afI]at a3
 refine .sr<|.q .lss<|.zs<|.cond rfl (λh2=>?_) λh2=>?_
 have O:i<(fU x.c.plain x.sub k).length:=by have:=bT h2;omega
 obtain⟨s,Q⟩:=bQ O
 have N:ks[i]? =some ⟨s.ss,s.si,s.sr⟩:=by rw[r,afO,Q];rfl
 obtain⟨us,W,V,sr⟩:=s
 refine .kn<|.seq<|.block<|.sr ?_
 refine .aK i t Q (λd2=>?_)
 refine .q (.aM rfl) ?_
 refine .bX (λc3=>?_)
 refine .bN rfl rfl<|.zn<|.region<|.mo rfl<|.mo rfl<|.fa rfl<|.q (.loadT rfl)<|.fa rfl<|.lo rfl<|.call [2,2,2] ((a4 v e va Y B D g.at_ g.o (by omega) ⟨W,V,sr⟩).weaken cM) (λu H' hu=>?_)
 obtain⟨U,Z,C,F,rfl,rfl,K,I,J,L⟩:=hu
 conv=>arg 8;simp only[rest,bJ,afP,afK]
 refine .gL (λc5=>?_)
 refine .append g.l (RS.lits (xs:=[(eB x.c.plain x.num (v.map aH.plain) ⟨W,V,sr⟩).2]) rfl (by simp[da]) (by simp[da,aE])) (by simp only[afE];omega) (λv5 A T=>?_)
 refine .ag rfl<|.nil<|aS<|au<|.region<|.ia (i+1) .add<|.mo rfl<|.nil ?_
 ·exact bd (i+1,U,Z,C,F,v5,A) ⟨O,g.next N K I J L T⟩ (by simp only;omega) kE.c.c.c.c.c (aN [5,1,1,1,2,2,2])
 have a2:i=ks.length:=by rw[r,afC];have:=bA h2;omega
 rw[a2,afJ]at g
 refine .exit<|bo<|bq<|bp<|aS<|au<|.sr<|.mo rfl<|.az rfl<|.ret (aY _ (.one (.tmp rfl)) (aN [0,0,0,0]) ?_)
 ·exact(a0 _ _ _).2 ⟨v,Y,B,D,w,by simp[take,bJ],g⟩
 refine .sr<|.q .bU<|.az rfl<|.cond rfl (λh3=>?_) λh3=>?_
 have M:n.kind=2:=bT h3
 rw[afA (by omega),afA (by omega),afB M]at r
 have N:ks[0]? =some ⟨k.os,k.oi,n.rel⟩:=by rw[r];rfl
 have b3:ks.take 1=ks:=by rw[r];rfl
 refine .region<|.mo rfl<|.mo rfl<|.fa rfl<|.q (.loadT rfl)<|.fa rfl<|.lo rfl<|.call [3,3,3] ((a4 ps e va j m p hA hO (by omega) ⟨k.os,k.oi,n.rel⟩).weaken cM) (λu H' hu=>?_)
 obtain⟨U,Z,C,F,rfl,rfl,K,I,J,L⟩:=hu
 conv=>arg 8;simp only[rest,bJ,afP,afK]
 refine .gL (λc6=>?_)
 refine .append S.l (RS.lits (xs:=[(eB x.c.plain x.num (ps.map aH.plain) ⟨k.os,k.oi,n.rel⟩).2]) rfl (by simp[da]) (by simp[da,aE])) (by simp[dq]) (λv5 A T=>?_)
 have a5:=S.next N K I J L T
 rw[show(0:Nat)+1=1 from rfl,b3]at a5
 refine .ag rfl<|.nil<|aS<|au<|.sr<|.mo rfl<|.az rfl<|.ret (aY _ (.one (.tmp rfl)) (aN [6,1,1,1]) ?_)
 ·exact(a0 _ _ _).2 ⟨U,Z,C,F,A,by simp[take,bJ],a5⟩
 refine .sr<|.q .bU<|.az rfl<|.cond rfl (λh4=>?_) λh4=>?_
 have M:n.kind=3:=bT h4
 rw[afA (by omega),afB M]at r
 have b9:=a8 ⟨k.os,k.oi,n.rel⟩
 refine .sr<|.mo rfl<|.fa rfl<|.q (.loadT rfl)<|.fa rfl<|.lo rfl<|.call [] (a9 _ (h.mono λb o hb=>.inl hb) xb va j e (pc:=PC.of (E:=190) (fr:=(0,0)) (.inr (by simp[rest]))) ⟨k.os,k.oi,n.rel⟩) (λu H' hu=>?_)
 obtain⟨Tu,Ts,rfl,wu,ws,rfl,a1,t⟩:=hu
 have c1:=a1.aE
 have c2:=t.aE
 conv=>arg 8;simp only[rest,bJ,afP,afK]
 refine .mo rfl<|.q .extract<|.q .extract<|.ag rfl<|.ag rfl<|.z<|.mo rfl<|.q (.dG t)<|.mo rfl<|.zn<|.block<|.cy [(0,_),(5,_),(67,_),(68,_)] (X:=Nat×List aH×Value×aw×aw×Value×aw) (λy=>y.1<=(fU x.c.plain x.sub ⟨k.os,k.oi,n.rel⟩).length/\ma x R ps va (ks.take y.1) y.2.1 y.2.2.1 y.2.2.2.1 y.2.2.2.2.1 y.2.2.2.2.2.1 y.2.2.2.2.2.2) (λy E=>(69,iN y.1)::(7,y.2.2.2.2.2.1)::E) (G:=[Ts,bl b5 n.enc 199,bl b4 (Value.string k.os:: .string k.oi:: .string k.rel::[x3,x4,x5,x6,x7]) 95]) (λy G=>y.2.2.2.2.2.2::x.iV xb va y.2.2.1 e::y.2.2.2.1::y.2.2.2.2.1::G) (λy=>(fU x.c.plain x.sub ⟨k.os,k.oi,n.rel⟩).length-y.1) (0,ps,j,m,p,sZ,[]) ⟨afz _,S⟩ kE.c.c.c.c.c.c (aN [4,4,4,4,1,1,1]) ?_
 rintro⟨i,v,Y,B,D,vo,w⟩ ⟨hi,g⟩
 simp only at hi g⊢
 have io:=g.l.aE
 have c0:=g.o.aE
 have b8:=g.len
 have b7:=a6 i
 have a3:=a7 i
 rw[afI]at a3
 refine .sr<|.q .lss<|.zs<|.cond rfl (λh5=>?_) λh5=>?_
 have O:i<(fU x.c.plain x.sub ⟨k.os,k.oi,n.rel⟩).length:=by have:=bT h5;omega
 obtain⟨s,Q⟩:=bQ O
 have N:ks[i]? =some ⟨s.ss,s.si,n.dI⟩:=by rw[r,afO,Q];rfl
 obtain⟨us,W,V,sr⟩:=s
 refine .kn<|.seq<|.block<|.sr ?_
 refine .aK i t Q (λd3=>?_)
 refine .q (.aM rfl) ?_
 refine .bX (λc4=>?_)
 refine .bN rfl rfl<|.zn<|.region<|.mo rfl<|.mo rfl<|.fa rfl<|.q (.loadT rfl)<|.fa rfl<|.lo rfl<|.call [2,2,2] ((a4 v e va Y B D g.at_ g.o (by omega) ⟨W,V,n.dI⟩).weaken cM) (λu H' hu=>?_)
 obtain⟨U,Z,C,F,rfl,rfl,K,I,J,L⟩:=hu
 conv=>arg 8;simp only[rest,bJ,afP,afK]
 refine .gL (λc7=>?_)
 refine .append g.l (RS.lits (xs:=[(eB x.c.plain x.num (v.map aH.plain) ⟨W,V,n.dI⟩).2]) rfl (by simp[da]) (by simp[da,aE])) (by simp only[afE];omega) (λv5 A T=>?_)
 refine .ag rfl<|.nil<|aS<|au<|.region<|.ia (i+1) .add<|.mo rfl<|.nil ?_
 ·exact bd (i+1,U,Z,C,F,v5,A) ⟨O,g.next N K I J L T⟩ (by simp only;omega) kE.c.c.c.c.c.c (aN [5,1,1,1,2,2,2])
 have a2:i=ks.length:=by rw[r,afC];have:=bA h5;omega
 rw[a2,afJ]at g
 refine .exit<|bo<|bq<|bp<|aS<|au<|.sr<|.mo rfl<|.az rfl<|.ret (aY _ (.one (.tmp rfl)) (aN [0,0,0,0]) ?_)
 ·exact(a0 _ _ _).2 ⟨v,Y,B,D,w,by simp[take,bJ],g⟩
 have b6:ks=[]:=by
  rw[r,afA (bA h1),afA (bA h4),afA (bA h3)]
 refine .skip<|aS<|au<|.sr<|.mo rfl<|.az rfl<|.ret (aY _ (.one (.tmp rfl)) (aN [2,2,2,2]) ?_)
 ·refine(a0 _ _ _).2 ⟨ps,j,m,p,[],by simp[take,bJ],?_⟩
  have:=S
  rw[List.take_zero, <-b6]at this
  exact this
end Go.Proofs.YtdljmchhecoakaaGreat

/- What the law 'ExpandRight' uses. No condition. -/
import Derived.Test.YtenilfmlfldogaaGreatDoorKExpandRightM
import Derived.Test.YtenilfmlfldogaaGreatDoorKExpandRightN
import Derived.Test.YtenilfmlfldogaaGreatDoorKExpandRightO
import Derived.Test.YtenilfmlfldogaaGreatDoorKExpandRightQ
namespace Go.Proofs.YtenilfmlfldogaaGreatDoor
set_option linter.defProp false
def agB:=@List.mem_map
def agC:=@List.length_map
def agD:=@Nat.le_trans
def agE:=@Bool.and_eq_true
def agF:=@List.drop_zero
def agG:=@List.drop_succ_cons
def agH:=@List.take_succ_cons
def agI:=@List.take_zero
def agJ:=@List.mem_cons
def agK:=@List.not_mem_nil
def agL:=@or_false
def agM:=@List.mem_singleton
def agN:=@List.mem_cons_self
def agO:=@List.mem_filter
def agP:=@decide_eq_true_eq
def agQ:=@List.length_append
def agR:=@List.length_cons
def agS:=@Option.getD_some
open Tryz
set_option linter.unusedVariables false
set_option linter.unusedSimpArgs false
set_option maxRecDepth 4000
section
variable{R R':aw}{cp:Cf}{c:bP}{hb g x:Nat}{S:dd}{num:List Nat}{L:List bA}
theorem WS.Li(h:WS R cp c hb g x S num L){rev:Int}{k:bc}(O:jq 1000000000000000 k){N:Nat}(u:gH cp num (ep S L rev) k N){D:Value}{ps:List bh}(C:RS R' 8 bh.enc D ps)(v:∀p∈ps,p.is R'){b:Int}{can:Bool}(e:ps.map bh.plain=(Go.Proofs.YtenilfmlfldogaaGreatDoor.lI cp num (ep S L rev) k b can N).1):sG R' D ps:=by
 have key:ps=[]\/ps.map bh.plain=(opened cp num (ep S L rev) k N).1:=by
  unfold Go.Proofs.YtenilfmlfldogaaGreatDoor.lI at e
  split at e
  ·exact .inl (by simpa using e)
  ·split at e
   ·exact .inl (by simpa using e)
   ·split at e
    ·exact .inr e
    ·exact .inl (by simpa using e)
 rcases key with rfl|key
 ·exact⟨C,v,λp a=>(by cases a),λp a=>(by simp at a),λp a=>(by cases a)⟩
 ·have w:=u.gr
  have J:=h.m.ps u ⟨#[]⟩
  have o:∀p∈ps,p.plain∈(opened cp num (ep S L rev) k N).1:=λp a=>by rw[<-key];exact agB.2 ⟨p,a,rfl⟩
  have Q:(opened cp num (ep S L rev) k N).1.length=ps.length:=by rw[<-key,agC]
  have z:∀p∈ps,p.nodes=(one cp num p.k).nodes:=λp a=>(w.one p.plain (o p a)).2.1
  refine⟨C,v,λp a=>h.small rev (by omega) O N p.plain (o p a),λp a=>?_,λp a n d=>?_⟩
  ·have A:=aV a
   have U:=(List.getElem?_eq_some_iff.1 a).1
   have T:(opened cp num (ep S L rev) k N).1[0]? =some p.plain:=by rw[<-key,List.getElem?_map,a];rfl
   obtain⟨⟨f,l⟩,F⟩:=w.op 0 p.plain (by omega) T
   have r:p.ll.length=p.nodes.length:=by have:(p.ll.map (·.2)).length=p.nodes.length:=f;rwa [agC]at this
   have G:p.gk=if p.found then ig cp (ep S L rev) p.k else []:=F
   refine⟨r,?_,?_,λq B=>⟨?_,λj M=>?_⟩⟩
   ·rw[G]
    split
    ·unfold ig
     rw[agC]
     have:=agD (List.length_filter_le (λs:Sub=> !decide (s.us=⟨#[]⟩)) _) (h.oV rev p.k)
     omega
    ·simp
   ·have:=uh (num:=num) (k:=p.k) h.m.right
    rw[z p A];omega
   ·obtain⟨i,y,E⟩:=List.mem_iff_getElem.1 B
    have K:i<p.nodes.length:=by rw[<-r];exact y
    obtain⟨n,d⟩:∃n,p.nodes[i]? =some n:=⟨_,bE K⟩
    have t:=l i n d
    have H:(p.plain.leads.getD i [])=q.2:=by
     show((p.ll.map (·.2)).getD i [])=q.2
     rw[List.getD_eq_getElem?_getD,List.getElem?_map,bE y,E];rfl
    rw[H]at t
    have I:=congrArg List.length t
    rw[agC,agC]at I
    have:=h.qA rev p.plain.k n
    omega
   ·rw[<-Q]
    exact J.lt p.plain (o p A) j (List.mem_flatten.2 ⟨q.2,agB.2 ⟨q,B,rfl⟩,M⟩)
  ·rw[z p a]at d
   obtain⟨f,l,_⟩:=ui (num:=num) h.m.right n d
   exact⟨f,l⟩
def AB(R:aw)(out:List cB×Nat×Int)(u:Value)(T:aH):Prop:=∃vp ps,u=.tuple [.agg [vp,iN out.2.1].toArray,.int .i64 out.2.2].toArray/\RS (λb o=>R b o\/(b,o)∈T) 8 bh.enc vp ps/\(∀p∈ps,bh.is (λb o=>R b o\/(b,o)∈T) p)/\ps.map bh.plain=out.1
theorem BM{P:Program}{f:FuncId}{b:List Value}{a:aw}{H:aN}{out:List cB×Nat×Int}(h:Spec P f b a H (qn R out)):Spec P f b a H λu H'=>∃T,H'=[T]/\AB R out u T:=h.mono λu H' e=>by
 obtain⟨i,g,T,c,d⟩:=e
 exact⟨T,c,i,g,d⟩
theorem B1(h:WS R cp c hb g x S num L)(rev:Int)(F:0<=rev)(k:bc)(C:jq 1000000000000000 k)(b:Int)(B:b<=9223372036854775807){N:Nat}(l:gH cp num (ep S L rev) k N)(D:List cB×Nat×Int)(w:D=Go.Proofs.YtenilfmlfldogaaGreatDoor.lI cp num (ep S L rev) k b (scan S rev) N):
  Spec prog 8 [pT hb,pT g,.int .u64 rev,.agg [.string k.os,.string k.oi].toArray,.string k.rel,.int .i64 b] R [] λu H'=>∃T,H'=[T]/\∃cs,u=.tuple [.agg cs.toArray,.int .i64 D.2.2].toArray/\di (sg T) cs (if D.2.2=0 then pN D.1 else m1):=by
 have m:=h.lI rev F k b B l
 have r:=λ(j:aw) (f:Value) (d:List bh) (a:RS j 8 bh.enc f d) (v:∀p∈d,p.is j)=>h.Li (b:=b) (can:=scan S rev) C l a v
 rw[<-w]at m r
 refine Spec.body func8 rfl results8 ntmps8 rfl ?_
 refine .sr ?_
 refine .cj rfl (λW=>?_)
 refine .bV (λU=>?_)
 refine .ag rfl<|.z<|.mo rfl<|.mo rfl<|.mo rfl<|.q (.aP rfl)<|.mo rfl<|.mo rfl ?_
 refine .dq ((BM m).weaken cZ) (λu O i=>?_)
 obtain⟨f,d,rfl,s,A,n⟩:=i
 have Y:=s.aq
 have y:=r _ f d s A n
 refine .mo rfl<|.q .extract<|.q .extract ?_
 refine .bV (λV=>?_)
 refine .bN rfl rfl<|.ag rfl<|.zs<|.sr<|.mo rfl<|.q .eT<|.zn ?_
 refine .cond rfl (λa=>?_) λa=>?_
 have E:D.2.2≠0:=by simpa using a
 refine .sr ?_
 refine .q .da ?_
 refine .mo rfl<|.bN rfl rfl<|.az rfl ?_
 refine .ret (aI (bu _ (.two (.ei rfl rfl) (.tmp rfl)) (bp.one [] _) ?_))
 ·exact⟨_,rfl,jz,rfl,by rw[if_neg E];exact xY _⟩
 have t:D.2.2=0:=by simpa using a
 refine .kn<|.sr<|.q (.aP rfl) ?_
 refine .dq ((Ap f _ d _ y).weaken λb o hb=>hb.elim .inl λhb=>.inr (by simp[hb])) (λu Q i=>?_)
 obtain⟨cs,rfl,e⟩:=i
 rw[n]at e
 have X:bZ cs:=⟨e.cN⟩
 obtain⟨G,H,I,J,K,M,rfl⟩:=ng e.kw
 refine .bN rfl rfl<|.az rfl ?_
 refine .ret (bu _ (.two (.ei rfl rfl) (.tmp rfl)) (bp.one [0] _) ?_)
 ·exact⟨_,rfl,[G,H,I,J,K,M],by rw[t]<;>rfl,by rw[if_pos t];exact e.mono λb o hb=>by simpa[sg,take]using hb⟩
end
theorem P7{α β:Type}{f:α->β}{a b c:β}{l:List α}(e:[a,b,c]=l.map f):∃x y z,l=[x,y,z]:=by
 cases l with
 |nil=>simp at e
 |cons x l=>cases l with
  |nil=>simp at e
  |cons y l=>cases l with
   |nil=>simp at e
   |cons z l=>cases l with
    |nil=>exact⟨x,y,z,rfl⟩
    |cons w l=>simp at e
theorem pR(R:aw):Spec prog 7 [] R [] λu H'=>u=.bool true/\H'=[]:=by
 refine Spec.body func7 rfl results7 ntmps7 rfl ?_
 refine .sr<|.ag rfl<|.z ?_
 refine .q .da ?_
 refine .q .da ?_
 refine .ez (λm=>?_)
 refine .q .da ?_
 refine .dq (Ap _ 0 [(⟨⟨⟨#[100]⟩,⟨#[120]⟩,⟨#[97]⟩⟩,false,sZ,[],sZ,[],sZ,[],0⟩:bh)] _ ⟨(OS.lits (E:=77) (b:=m) rfl (by simp[bh.enc]) (by simp[bh.enc,aq])).rs λp a=>.inr (by
  rw[agM]at a
  subst a
  exact agN),λp a=>by
  rw[agM]at a
  subst a
  exact⟨RS.fH,RS.fH,NN.nil⟩,λp a=>by
  rw[agM]at a
  subst a
  unfold jq
  decide,λp a=>by
  simp only[List.getElem?_cons_zero,Option.some.injEq]at a
  subst a
  exact⟨rfl,by simp,by simp,λq B=>(by cases B)⟩,λp a n A=>by
  rw[agM]at a
  subst a
  cases A⟩) (λu k C=>?_)
 obtain⟨M,rfl,s⟩:=C
 obtain⟨D,o,F,I,K,Z,l,U,rfl,w,d,y,v⟩:=s.open
 injection w with e1 e2 e3 e4 e5 e6
 subst e1;subst e2;subst e3;subst e4
 have T:=d.aq
 have S:=y.aq
 obtain⟨f,G,H,rfl⟩:=P7 e5
 have r:f.2=dG ⟨#[100,58,120,35,97]⟩:=by
  simp only[List.map_cons,List.cons.injEq]at e5
  rw[<-e5.1]
  rfl
 have e:=v f (by simp)
 rw[r]at e
 obtain⟨Y,j⟩:=f
 simp only at e
 obtain⟨D,o,F,I,h,g,W,V,rfl,x,Q,O,N⟩:=e.open
 injection x with e1 e2 e3 e4 e5 e6
 subst e1;subst e2;subst e3;subst e4
 have i:[((([.int .i64 3,.bool false,.int .i64 0,.string ⟨#[100,58,120,35,97]⟩,h,g],j):List Value×J)),G,H][0]? =some ([.int .i64 3,.bool false,.int .i64 0,.string ⟨#[100,58,120,35,97]⟩,h,g],j):=rfl
 have X:PS k (fB K (0*6)) [.int .i64 3,.bool false,.int .i64 0,.string ⟨#[100,58,120,35,97]⟩,h,g]:=⟨d.pc i⟩
 refine .bV (λL=>?_)
 refine .bN rfl rfl<|.z<|.fa rfl<|.lo rfl<|.q (.bL d) ?_
 refine .q .bw<|.mo rfl ?_
 refine .split (t:=11) rfl (λc=>?_) (λc=>?_)
 refine .gT c<|.fa rfl<|.gT c<|.lo rfl<|.gT c<|.q (.bI 0 d i rfl rfl rfl) ?_
 refine .gT c<|.fa rfl<|.gT c<|.lo rfl<|.gT c<|.q .ec<|.q (.aZ c) ?_
 refine .az rfl ?_
 refine .ret (aM rfl ?_)
 ·exact⟨rfl,rfl⟩
 ·simp at c
theorem zd{s:ByteArray}{p:Int->Bool}(b:∀c:UInt8,p (c.toNat:Int)=true->jW c=true)(h:jO s p=true):dm s:=λc a=>by
 unfold jO at h
 rw[List.all_eq_true]at h
 exact b c (h c a)
theorem AA(c:UInt8)(h:dj (c.toNat:Int)=true):jW c=true:=by
 unfold dj cE cU at h
 simp only[Bool.or_eq_true,agE,agP,beq_iff_eq]at h
 unfold jW
 have a:c≠34:=λe=>by subst e;revert h;decide
 have b:c≠92:=λe=>by subst e;revert h;decide
 simp only[agE,agP]
 exact⟨by omega,by omega,a,b⟩
theorem Qx(c:UInt8)(h:eH (c.toNat:Int)=true):jW c=true:=AA c (by
 unfold eH at h
 unfold dj
 simp only[Bool.or_eq_true]at h⊢
 rcases h with h|h
 ·exact .inl (.inl (.inl (.inl h)))
 ·exact .inl (.inl (.inl (.inr h))))
theorem qk{s:ByteArray}(h:isWord s=true):dm s:=by
 unfold isWord at h
 simp only[agE]at h
 exact zd Qx h.1.2.1.1
theorem tv{s:ByteArray}(h:fg s=true):dm s:=by
 unfold fg at h
 simp only[agE]at h
 exact zd AA h.1.1
theorem oI:dm ⟨#[]⟩:=λc a=>by simp at a
theorem dm.gq{a b:ByteArray}(e:dm a)(f:dm b):dm (a++b):=λc d=>by
 rw[ByteArray.data_append,Array.toList_append]at d
 exact(List.mem_append.1 d).elim (e c) (f c)
theorem jm{l:List UInt8}(h:l.all jW=true):dm ⟨l.toArray⟩:=λc a=>List.all_eq_true.1 h c (by simpa using a)
def mE(x:bc):Prop:=dm x.os/\dm x.oi/\dm x.rel
theorem zg{k:bc}(h:mE k):dm (kq k):=by
 unfold kq
 exact(((h.1.gq (jm (l:=[58]) (by decide))).gq h.2.1).gq (jm (l:=[35]) (by decide))).gq h.2.2
theorem zf{k:bc}(h:jq 32 k):(kq k).size<=98:=by
 unfold kq
 obtain⟨c,d,e⟩:=h
 simp only[ByteArray.size_append]
 have a:(⟨#[58]⟩:ByteArray).size=1:=rfl
 have b:(⟨#[35]⟩:ByteArray).size=1:=rfl
 omega
theorem Md(n:Int):dm (gw n)/\(gw n).size<=5:=by
 unfold gw
 repeat' split
 ·exact⟨jm (l:=[116,104,105,115]) (by decide),by decide⟩
 ·exact⟨jm (l:=[114,101,108]) (by decide),by decide⟩
 ·exact⟨jm (l:=[97,114,114,111,119]) (by decide),by decide⟩
 ·exact⟨jm (l:=[111,114]) (by decide),by decide⟩
 ·exact⟨jm (l:=[97,110,100]) (by decide),by decide⟩
 ·exact⟨jm (l:=[98,117,116]) (by decide),by decide⟩
section
variable{W:ByteArray->Bool}{F:ByteArray->ByteArray->Bool}{c:Cf}{num:List Nat}{sub:bc->List Sub}
theorem BB(j:c.right W F=true)(d:∀s,W s=true->dm s)(f:∀k,∀s∈sub k,dm s.ss/\dm s.si/\dm s.sr):np c num sub mE:=λx g n l y a=>by
 obtain⟨_,_,h3,h4⟩:=ui j n l
 have m:dm n.rel:=by
  rcases h3 with h3|h3
  ·rw[h3];exact oI
  ·exact d _ h3
 have o:dm n.dx:=by
  rcases h4 with h4|h4
  ·rw[h4];exact oI
  ·exact d _ h4
 have e:∀z s,s∈fK c sub z->s∈sub z:=λz s b=>by
  unfold fK fitting at b
  exact(agO.1 (agO.1 b).1).1
 unfold eh at a
 split at a
 ·obtain⟨s,b,rfl⟩:=agB.1 a
  exact f _ s (e _ s b)
 ·split at a
  ·obtain⟨s,b,rfl⟩:=agB.1 a
   obtain⟨h,i,_⟩:=f _ s (e _ s b)
   exact⟨h,i,o⟩
  ·split at a
   ·rw[agM]at a
    subst a
    exact⟨g.1,g.2.1,m⟩
   ·cases a
theorem MX{W:ByteArray->Bool}{l:List Nd}(h:fC W l≠0):∀n∈l,(0<=n.a/\n.a<l.length)/\(0<=n.b/\n.b<l.length):=λn s=>by
 unfold fC at h
 cases ht:tree W l l.length with
 |none=>rw[ht]at h;exact absurd rfl h
 |some p=>
  obtain⟨b,x⟩:=p
  rw[ht]at h
  simp only at h
  have q:b=0:=by
   by_cases f:b=0
   ·exact f
   ·rw[if_neg f]at h;exact absurd rfl h
  subst q
  obtain⟨i,j,e⟩:=List.mem_iff_getElem.1 s
  have t:=(ju _ _ ht).2.2.2 i (Nat.zero_le _) j
  have k:l[i]? =some n:=by rw[bE j,e]
  obtain⟨r,c⟩:=Option.isSome_iff_exists.1 t
  cases ho:n.op with
  |true=>
   obtain⟨b,_,_,g,m,o,u,v,_⟩:=ni k ho c
   have:=(ju _ _ g).1
   have:=(ju _ _ o).1
   omega
  |false=>
   rw[kT k ho]at c
   split at c
   ·rename_i d
    unfold Nd.leaf at d
    simp only[agE,beq_iff_eq]at d
    obtain⟨⟨g,m⟩,_⟩:=d
    omega
   ·cases c
theorem Nh(g:c.right W F=true){k:bc}:∀n∈(one c num k).nodes,(0<=n.a/\n.a<64)/\(0<=n.b/\n.b<64):=λn e=>by
 obtain⟨y,h,e⟩:=rN e
 obtain⟨d,f⟩:=m9 g y h
 unfold mH at d
 simp only[agE,bne_iff_ne,ne_eq]at d
 unfold hG at f
 simp only[Bool.or_eq_false_iff,decide_eq_false_iff_not]at f
 have:=MX d.1.2 n e
 omega
end
theorem rf{d:Nat}{t:ByteArray}(h:dm t):dF (d+1) (dG t):=.inr (.inr (.inl ⟨rfl,rfl,rfl,h,rfl,rfl⟩))
theorem xT{d:Nat}{n:Int}(h:0<=n/\n<64):dF (d+1) (ko n):=.inr (.inl ⟨rfl,rfl,h,rfl,rfl,rfl⟩)
theorem LQ{d:Nat}{b:Bool}:dF (d+1) (nH b):=.inl ⟨rfl,rfl,rfl,rfl,rfl⟩
theorem tF{d:Nat}{l:List J}(h:∀x∈l,dF d x):dF (d+1) (eE l):=.inr (.inr (.inr (.inl ⟨rfl,rfl,rfl,rfl,h,rfl⟩)))
theorem re{d:Nat}{ks:List ByteArray}{l:List J}(h:∀x∈l,dF d x)(a:∀t∈ks,dm t)(b:ks.Nodup)(c:ks.length=l.length):dF (d+1) (iF ks l):=.inr (.inr (.inr (.inr ⟨rfl,rfl,rfl,rfl,h,a,b,c⟩)))
theorem xP{xs:List (List UInt8)}{B:Nat}(h:∀x∈xs,x.length<=B):(cP xs).length<=xs.length*(B+1):=by
 cases xs with
 |nil=>simp[cP]
 |cons x xs=>
  have d:(xs.flatMap λy=>(44:UInt8)::y).length<=xs.length*(B+1):=by
   have a:∀y∈xs,y.length<=B:=λy b=>h y (List.mem_cons_of_mem _ b)
   clear h
   induction xs with
   |nil=>simp
   |cons y ys ih=>
    have:=ih λz c=>a z (List.mem_cons_of_mem _ c)
    have:=a y agN
    simp only[List.flatMap_cons,agQ,agR,Nat.add_mul,Nat.one_mul]
    omega
  have:=h x agN
  simp only[cP,agQ,agR,Nat.add_mul,Nat.one_mul]
  omega
theorem rn(d:Nat)(t:ByteArray):(pJ (d+1) (dG t)).length=t.size+2:=oJ t
theorem yk(d:Nat){n:Int}(h:0<=n/\n<64):(pJ (d+1) (ko n)).length<=2:=(nC n.toNat (by omega)).1
theorem Mi(d:Nat)(b:Bool):(pJ (d+1) (nH b)).length<=5:=by
 show(bT b).length<=5
 cases b<;>decide
theorem tJ{d n B:Nat}{l:List J}(h:∀x∈l,(pJ d x).length<=B)(b:l.length<=n):(pJ (d+1) (eE l)).length<=n*(B+1)+2:=by
 have e:(pJ (d+1) (eE l)).length=(cP (l.map (pJ d))).length+2:=by simp[pJ,eE]
 have a:=xP (xs:=l.map (pJ d)) (B:=B) λx c=>by
  obtain⟨y,f,rfl⟩:=agB.1 c
  exact h y f
 rw[agC]at a
 have:=Nat.mul_le_mul_right (B+1) b
 omega
theorem rj{d n B:Nat}{ks:List ByteArray}{l:List J}(h:∀x∈l,(pJ d x).length<=B)(g:∀t∈ks,t.size<=8)(m:l.length<=n):(pJ (d+1) (iF ks l)).length<=n*(B+12)+2:=by
 have e:(pJ (d+1) (iF ks l)).length=(cP ((ks.zip l).map λp=>dX p.1++58::pJ d p.2)).length+2:=by simp[pJ,iF]
 have b:(cP ((ks.zip l).map λp=>dX p.1++58::pJ d p.2)).length<=((ks.zip l).map λp=>dX p.1++58::pJ d p.2).length*(B+12):=xP (B:=B+11) λx i=>by
  obtain⟨⟨t,y⟩,j,rfl⟩:=agB.1 i
  obtain⟨c,f⟩:=List.of_mem_zip j
  have a:=g t c
  have k:=h y f
  simp only[agQ,agR,oJ]
  omega
 have a:(ks.zip l).length<=n:=by rw[List.length_zip];omega
 rw[agC]at b
 have:=Nat.mul_le_mul_right (B+12) a
 omega
structure vx(ps:List cB)(p:cB):Prop where
 name:∀q∈ps,mE q.k/\jq 32 q.k
 self:p∈ps
 gk:p.gk.length<=512/\∀u∈p.gk,dm u/\u.size<=32
 nodes:p.nodes.length<=64/\∀n∈p.nodes,(0<=n.a/\n.a<64)/\(0<=n.b/\n.b<64)
 leads:∀i:Nat,((p.leads[i]?).getD []).length<=512
theorem xO{ps:List cB}(h:∀q∈ps,mE q.k/\jq 32 q.k)(j:Nat):dm (gB ps j)/\(gB ps j).size<=98:=by
 unfold gB
 cases hp:ps[j]? with
 |none=>exact⟨oI,by decide⟩
 |some p=>
  obtain⟨a,b⟩:=h p (aV hp)
  exact⟨zg a,zf b⟩
theorem yd:(∀t∈[gY,kA,kB],dm t/\t.size<=8)/\(∀t∈[gY,mz,kL],dm t/\t.size<=8)/\(∀t∈[gY,kL],dm t/\t.size<=8)/\(∀t∈[ow,ou,ov],dm t/\t.size<=8):=by
 have a:dm gY/\gY.size<=8:=⟨jm (l:=[107,105,110,100]) (by decide),by decide⟩
 have b:dm kA/\kA.size<=8:=⟨jm (l:=[97]) (by decide),by decide⟩
 have c:dm kB/\kB.size<=8:=⟨jm (l:=[98]) (by decide),by decide⟩
 have d:dm mz/\mz.size<=8:=⟨jm (l:=[117,115,101,114,115]) (by decide),by decide⟩
 have e:dm kL/\kL.size<=8:=⟨jm (l:=[115,101,116,115]) (by decide),by decide⟩
 have f:dm ow/\ow.size<=8:=⟨jm (l:=[112,108,97,99,101]) (by decide),by decide⟩
 have g:dm ou/\ou.size<=8:=⟨jm (l:=[102,111,117,110,100]) (by decide),by decide⟩
 have h:dm ov/\ov.size<=8:=⟨jm (l:=[110,111,100,101,115]) (by decide),by decide⟩
 refine⟨?_,?_,?_,?_⟩
 all_goals
  intro t ht
  simp only[agJ,agK,agL]at ht
  rcases ht with rfl|ht
  ·assumption
  ·first
   |(rcases ht with rfl|rfl<;>assumption)
   |(subst ht;assumption)
theorem MY(d:Nat){ps:List cB}(h:∀q∈ps,mE q.k/\jq 32 q.k){us:List ByteArray}(m:us.length<=512/\∀u∈us,dm u/\u.size<=32){n:Nd}(l:(0<=n.a/\n.a<64)/\(0<=n.b/\n.b<64)){i:List Nat}(w:i.length<=512):
  dF (d+3) (nJ ps us n i)/\(pJ (d+3) (nJ ps us n i)).length<=200000:=by
 obtain⟨r,s,v,_⟩:=yd
 obtain⟨z,A⟩:=Md n.kind
 have o:dF (d+2) (dG (gw n.kind))/\(pJ (d+2) (dG (gw n.kind))).length<=60000:=⟨rf z,by rw[rn];omega⟩
 have y:dF (d+2) (eE (us.map dG))/\(pJ (d+2) (eE (us.map dG))).length<=60000:=by
  refine⟨tF λx c=>?_,agD (tJ (n:=512) (B:=34) (λx c=>?_) (by rw[agC];exact m.1)) (by decide)⟩
  ·obtain⟨u,g,rfl⟩:=agB.1 c
   exact rf (m.2 u g).1
  ·obtain⟨u,g,rfl⟩:=agB.1 c
   have:=(m.2 u g).2
   rw[rn];omega
 have p:dF (d+2) (eE ((i.map (gB ps)).map dG))/\(pJ (d+2) (eE ((i.map (gB ps)).map dG))).length<=60000:=by
  refine⟨tF λx c=>?_,agD (tJ (n:=512) (B:=100) (λx c=>?_) (by rw[agC,agC];exact w)) (by decide)⟩
  ·obtain⟨u,g,rfl⟩:=agB.1 c
   obtain⟨j,_,rfl⟩:=agB.1 g
   exact rf (xO h j).1
  ·obtain⟨u,g,rfl⟩:=agB.1 c
   obtain⟨j,_,rfl⟩:=agB.1 g
   have:=(xO h j).2
   rw[rn];omega
 unfold nJ
 split
 ·have f:∀x∈[dG (gw n.kind),ko n.a,ko n.b],dF (d+2) x/\(pJ (d+2) x).length<=60000:=λx c=>by
   simp only[agJ,agK,agL]at c
   rcases c with rfl|rfl|rfl
   ·exact o
   ·exact⟨xT l.1,agD (yk (d+1) l.1) (by decide)⟩
   ·exact⟨xT l.2,agD (yk (d+1) l.2) (by decide)⟩
  exact⟨re (λx c=>(f x c).1) (λt e=>(r t e).1) (by decide) rfl,agD (rj (n:=3) (B:=60000) (λx c=>(f x c).2) (λt e=>(r t e).2) (by simp)) (by decide)⟩
 ·split
  ·have f:∀x∈[dG (gw n.kind),eE (us.map dG),eE ((i.map (gB ps)).map dG)],dF (d+2) x/\(pJ (d+2) x).length<=60000:=λx c=>by
    simp only[agJ,agK,agL]at c
    rcases c with rfl|rfl|rfl
    ·exact o
    ·exact y
    ·exact p
   exact⟨re (λx c=>(f x c).1) (λt e=>(s t e).1) (by decide) rfl,agD (rj (n:=3) (B:=60000) (λx c=>(f x c).2) (λt e=>(s t e).2) (by simp)) (by decide)⟩
  ·have f:∀x∈[dG (gw n.kind),eE ((i.map (gB ps)).map dG)],dF (d+2) x/\(pJ (d+2) x).length<=60000:=λx c=>by
    simp only[agJ,agK,agL]at c
    rcases c with rfl|rfl
    ·exact o
    ·exact p
   exact⟨re (λx c=>(f x c).1) (λt e=>(v t e).1) (by decide) rfl,agD (rj (n:=3) (B:=60000) (λx c=>(f x c).2) (λt e=>(v t e).2) (by simp)) (by decide)⟩
theorem Qe{ps:List cB}{p:cB}(h:vx ps p):dF 16 (ot ps p)/\(pJ 16 (ot ps p)).length<=100000000:=by
 obtain⟨_,_,_,f⟩:=yd
 have e:∀i∈List.range p.nodes.length,dF 14 (lQ ps p i)/\(pJ 14 (lQ ps p i)).length<=200000:=λi b=>by
  have b:=List.mem_range.1 b
  unfold lQ
  rw[bE b,agS]
  exact MY 11 h.name h.gk (h.nodes.2 _ (List.getElem_mem b)) (h.leads i)
 have d:∀x∈[dG (kq p.k),nH p.found,eE ((List.range p.nodes.length).map (lQ ps p))],dF 15 x/\(pJ 15 x).length<=13000000:=λx a=>by
  simp only[agJ,agK,agL]at a
  obtain⟨g,j⟩:=h.name p h.self
  rcases a with rfl|rfl|rfl
  ·have:=zf j
   exact⟨rf (zg g),by rw[rn];omega⟩
  ·exact⟨LQ,agD (Mi 14 p.found) (by decide)⟩
  ·refine⟨tF λx a=>?_,agD (tJ (n:=64) (B:=200000) (λx a=>?_) (by rw[agC,List.length_range];exact h.nodes.1)) (by decide)⟩
   ·obtain⟨i,b,rfl⟩:=agB.1 a
    exact(e i b).1
   ·obtain⟨i,b,rfl⟩:=agB.1 a
    exact(e i b).2
 exact⟨re (λx a=>(d x a).1) (λt c=>(f t c).1) (by decide) rfl,agD (rj (n:=3) (B:=13000000) (λx a=>(d x a).2) (λt c=>(f t c).2) (by simp)) (by decide)⟩
section
variable{R:aw}{cp:Cf}{c:bP}{hb g x:Nat}{S:dd}{num:List Nat}{L:List bA}
theorem WS.Ab(h:WS R cp c hb g x S num L)(rev:Int):∀k,∀s∈ep S L rev k,gv s=true:=λk s d=>by
 obtain⟨r,b,rfl⟩:=uS d
 have a:=h.row r b
 unfold et at a
 simp only[agE]at a
 exact a.2
theorem WS.plain(h:WS R cp c hb g x S num L)(rev:Int){k:bc}(d:mE k)(i:Nat):∀p∈(opened cp num (ep S L rev) k i).1,mE p.k:=λp e=>
  ((pY (BB h.m.right (λs b=>qk b) (λk s b=>by
    have a:=h.Ab rev k s b
    unfold gv at a
    split at a
    ·unfold de at a
     simp only[agE]at a
     exact⟨qk a.1.1,tv a.1.2,qk a.2⟩
    ·simp only[agE,agP]at a
     rw[a.2.1.1,a.2.1.2,a.2.2]
     exact⟨oI,oI,oI⟩)) d i).u p e).1
theorem WS.gk(h:WS R cp c hb g x S num L)(rev:Int)(k:bc):∀u∈ig cp (ep S L rev) k,dm u/\u.size<=32:=λu e=>by
 unfold ig at e
 obtain⟨s,a,rfl⟩:=agB.1 e
 obtain⟨a,d⟩:=agO.1 a
 unfold fitting at a
 have b:=h.Ab rev k s (agO.1 a).1
 have d:¬s.us=⟨#[]⟩:=by simpa using d
 unfold gv at b
 rw[if_neg d,agE]at b
 exact⟨tv b.1,tx b.1⟩
theorem WS.tree(h:WS R cp c hb g x S num L)(rev:Int){k:bc}(C:mE k)(z:jq 32 k){N:Nat}(v:gH cp num (ep S L rev) k N):∃p ps,(opened cp num (ep S L rev) k N).1=p::ps/\vx (p::ps) p:=by
 have a:=v.gr
 have d:=h.plain rev C N
 have j:=h.small rev (by decide) z N
 cases e:(opened cp num (ep S L rev) k N).1 with
 |nil=>
  have:=(uj (c:=cp) (num:=num) (sub:=ep S L rev) (k:=k) (Nat.zero_le N)).1
  rw[e]at this
  simp[opened]at this
 |cons p ps=>
  rw[e]at d j a
  have D:(p::ps)[0]? =some p:=rfl
  have y:0<(p::ps).length:=by simp
  obtain⟨⟨o,r⟩,s⟩:=a.op 0 p y D
  have B:=(a.one p agN).2.1
  have F:p.gk=if p.found then ig cp (ep S L rev) p.k else []:=s
  refine⟨p,ps,rfl,⟨λq f=>⟨d q f,j q f⟩,agN,?_,?_,λi=>?_⟩⟩
  ·rw[F]
   split
   ·refine⟨?_,h.gk rev p.k⟩
    unfold ig
    rw[agC]
    exact agD (List.length_filter_le _ _) (h.oV rev p.k)
   ·exact⟨by simp,λu E=>by cases E⟩
  ·rw[B]
   exact⟨uh h.m.right,Nh h.m.right⟩
  ·cases hi:p.leads[i]? with
   |none=>simp
   |some l=>
    rw[agS]
    have w:i<p.nodes.length:=by rw[<-o];exact(List.getElem?_eq_some_iff.1 hi).1
    obtain⟨n,A⟩:=cm w
    have b:=r i n A
    rw[List.getD_eq_getElem?_getD,hi,agS]at b
    have t:=congrArg List.length b
    rw[agC,agC]at t
    have:=h.qA rev p.k n
    omega
end
theorem B0(w:lF)(R:aw)(h:w.is R)(k:bc)(hz:jq 1000000000000000 k):
  Spec prog 3 [.agg w.enc.toArray,.agg [.string k.os,.string k.oi].toArray,.string k.rel] R [] λv H'=>v=.bool true/\H'=[]:=by
 have b6:=Mv w R h
 have i1:One w.c.vs:=RS.aq h.c.ss
 have i2:One w.c.vc:=RS.aq h.c.sc
 have i3:=h.rs.aq
 have iw:bZ w.enc:=⟨λu a=>by
  simp only[lF.enc,agJ,agK,agL]at a
  rcases a with rfl|rfl|rfl
  ·exact i1.h
  ·exact i2.h
  ·exact i3.h⟩
 obtain⟨z1,z2,z3⟩:=hz
 refine Spec.body func3 rfl results3 ntmps3 rfl ?_
 refine .sr ?_
 refine .cj rfl (λb3=>?_)
 refine .cj rfl (λb4=>?_)
 refine .ag rfl<|.z<|.q (.aP rfl) ?_
 refine .dq (b6.weaken cZ) (λu Tw a=>?_)
 obtain⟨c,p1,p2,p3,ok,rfl,d5,d6,d7,hc,c7,c9,hW⟩:=a
 have d1:One c.vs:=RS.aq hc.ss
 have d2:One c.vc:=RS.aq hc.sc
 have d3:bZ c.enc:=⟨hc.cN⟩
 refine .mo rfl<|.q .extract<|.q .extract<|.q .extract<|.q .extract<|.q .extract ?_
 refine .bV (λb9=>?_)
 refine .ag rfl<|.ag rfl<|.bN rfl rfl<|.ag rfl<|.ag rfl<|.zs<|.sr<|.mo rfl<|.q .not<|.mo rfl ?_
 refine .split (t:=28) rfl (λl=>?_) (λl=>?_)
 refine .gF l<|.gF l<|.gF l<|.q (.aZ l) ?_
 refine .mo rfl<|.gX<|.gX<|.gX<|.q .ca<|.zn<|.eQ<|.sr ?_
 refine .aR ((pR R).weaken cZ) (λu a=>?_)
 subst a
 refine .az rfl ?_
 refine .ret (aI (aM rfl ?_))
 ·exact⟨rfl,rfl⟩
 refine .gT l<|.q (.aP rfl)<|.gT l ?_
 refine .aR (rZ k.os k.oi (by omega) (by omega) _) (λu a=>?_)
 subst a
 refine .gT l<|.q .not<|.q (.aX l) ?_
 refine .mo rfl ?_
 refine .split (t:=33) rfl (λm=>?_) (λm=>?_)
 refine .gF m<|.gF m<|.gF m<|.q (.aZ m) ?_
 refine .zn<|.eQ<|.sr ?_
 refine .aR ((pR R).weaken cZ) (λu a=>?_)
 subst a
 refine .az rfl ?_
 refine .ret (aI (aM rfl ?_))
 ·exact⟨rfl,rfl⟩
 refine .gT m<|.mo rfl<|.gT m ?_
 refine .aR (jJ k.rel (by omega) _) (λu a=>?_)
 subst a
 refine .gT m<|.q .not<|.q (.aX m) ?_
 refine .zn ?_
 refine .cond rfl (λh1=>?_) λh1=>?_
 refine .sr ?_
 refine .aR ((pR R).weaken cZ) (λu a=>?_)
 subst a
 refine .az rfl ?_
 refine .ret (aI (aM rfl ?_))
 ·exact⟨rfl,rfl⟩
 obtain⟨b8,r,a5⟩:ok=true/\de k.os k.oi=true/\isWord k.rel=true:=by
  cases ok<;>cases e1:de k.os k.oi<;>cases e2:isWord k.rel<;>simp_all
 subst b8
 obtain⟨e,g,x,S,a7,L,rfl,rfl,rfl,p⟩:=hW rfl
 have b2:jq 32 k:=by
  unfold de at r
  simp only[agE]at r
  exact⟨pM r.1,tx r.2,pM a5⟩
 have b5:mE k:=by
  unfold de at r
  simp only[agE]at r
  exact⟨qk r.1,tv r.2,qk a5⟩
 obtain⟨N,hN⟩:=p.fin S.head k
 obtain⟨U,a0,b7,b0⟩:=p.tree S.head b5 b2 hN
 obtain⟨T,a4⟩:=Qe b0
 have c8:=p.pQ S.head k N hN.2
 have c0:scan S S.head=true:=by
  unfold scan
  have:=p.qg.h1
  simp[this]
 have hD:lI (iC w.c.plain) a7 (ep S L S.head) k 1048576 (scan S S.head) N=(U::a0,(opened (iC w.c.plain) a7 (ep S L S.head) k N).2,0):=by
  unfold lI
  rw[if_neg (by decide),c0,if_neg (by decide),if_pos (by omega),b7]
 have a2:=λR' a9=>B1 (p.mono (R':=R') a9) S.head (Int.le_trans p.qg.h0 p.qg.h1) k ⟨z1,z2,z3⟩ 1048576 (by decide) hN _ hD.symm
 simp only[if_true]at a2
 obtain⟨vL,a3⟩:=p.d
 have c5:=a3.pc
 have d8:One vL:=a3.rs.aq
 obtain⟨i,a1⟩:∃i,i=ot (U::a0) U:=⟨_,rfl⟩
 rw[<-a1]at T a4
 refine .kn<|.seq ?_
 refine bF.dt [] (dK.nil _) (X:=List Value×aH×Nat) (λy=>di (sg y.2.1) y.1 i) (λy E=>(12,.pointer (some ⟨y.2.2,0,none⟩))::(13,.int .i64 0)::E) (λy=>[[(y.2.2,.cells y.1.toArray 42 (0,0))],y.2.1,bl b9 c.enc 25,Tw,bl b4 [.string k.os,.string k.oi] 30,bl b3 w.enc 28]) ?_ ?_
 refine .dg [13] mixed ?_
 refine .tO 0 rfl .move<|.tO 1 rfl .move<|.tO 2 rfl .move ?_
 refine .tO 3 rfl (.oC rfl) ?_
 refine .tO 4 rfl (.gA rfl) ?_
 refine .hZ 5 rfl (.cO (rc:=⟨(c5.add 1).mono λb o e=>e.elim .inl λe=>.inr (by simp[e])⟩) rfl) (by kernel_rfl) ?_
 refine .tO 6 rfl (.aP rfl)<|.tO 7 rfl .move ?_
 refine RA.kR 8 12 rfl rfl (by kernel_rfl) rfl ?_ ?_
 refine .dq (a2 _ λb o e=>e.elim .inl λe=>.inr (by simp[e])) (λu j a=>?_)
 obtain⟨A,rfl,f⟩:=a
 rw[show pN (U::a0)=i from a1.symm]at f
 have a6:bZ A:=⟨f.cN⟩
 obtain⟨C,D,F,G,H,I,rfl⟩:=ng f.kw
 refine .nil (Next.sub ?_)
 refine .tO 9 rfl .move<|.tO 10 rfl .extract<|.tK 11 rfl .extract ?_
 refine .sT 12 rfl ?_
 refine .bV (λs=>?_)
 refine .nil (Next.sub ?_)
 refine .sT 13 rfl ?_
 refine .bN rfl rfl ?_
 refine .nil (Next.mod rfl ?_)
 refine .tK 14 rfl .assign ?_
 refine RA.nil (by kernel_rfl) ?_
 ·first
   |exact aG ([C,D,F,G,H,I],j,s) f kE.c.c rH
   |exact aG ([C,D,F,G,H,I],j,s) f kE.c.c (aQ [1,0,0,0,0,0])
 refine .bV (λs=>?_)
 refine .nil (Next.sub ?_)
 refine .sT 8 rfl ?_
 refine .dq (a2 _ λb o e=>e.elim .inl λe=>.inr (by simp[e])) (λu j a=>?_)
 obtain⟨A,rfl,f⟩:=a
 rw[show pN (U::a0)=i from a1.symm]at f
 have a6:bZ A:=⟨f.cN⟩
 obtain⟨C,D,F,G,H,I,rfl⟩:=ng f.kw
 refine .nil (Next.sub ?_)
 refine .tO 9 rfl .move<|.tO 10 rfl .extract<|.tK 11 rfl .extract ?_
 refine .sT 13 rfl ?_
 refine .bN rfl rfl ?_
 refine .nil (Next.mod rfl ?_)
 refine .tK 14 rfl .assign ?_
 refine RA.nil (by kernel_rfl) ?_
 ·first
   |exact aG ([C,D,F,G,H,I],j,s) f kE.c.c rH
   |exact aG ([C,D,F,G,H,I],j,s) f kE.c.c (aQ [1,0,0,0,0,0])
 intro y hy
 obtain⟨A,j,s⟩:=y
 have f:di (sg j) A i:=hy
 simp only
 have a6:bZ A:=⟨f.cN⟩
 obtain⟨C,D,F,G,H,I,rfl⟩:=ng f.kw
 refine ay<|.sr<|.q (.aP rfl) ?_
 refine .aR (LU _ i _ (f.mono λb o e=>.inr (by have n:(b,o)∈j:=e;simp[n])) T a4) (λu a=>?_)
 have d0:(pJ 16 i).length=(pJ 16 i).length:=rfl
 obtain⟨V,J,c4,c3⟩:∃(V:ByteArray) (J:Int),u=.tuple [.string V,.int .i64 J].toArray/\((J=5)\/(J=0/\V.data.toList=pJ 16 i/\V.size<=65536)):=by
  rw[a]
  split
  ·exact⟨_,5,rfl,.inl rfl⟩
  ·exact⟨_,0,rfl,.inr ⟨rfl,by simp,by rw[<-gD];simp;omega⟩⟩
 clear a
 subst c4
 refine .mo rfl<|.q .extract<|.q .extract<|.ag rfl<|.ag rfl<|.zs<|.sr<|.mo rfl<|.q .bw<|.zn ?_
 refine .cond rfl (λh2=>?_) λh2=>?_
 refine .sr<|.mo rfl<|.q .bw<|.mo rfl ?_
 refine .split (t:=60) rfl (λK=>?_) (λK=>?_)
 refine .gT K<|.q (.aP rfl)<|.gT K ?_
 refine .aR (tz _ i _ (f.mono λb o e=>.inr (by have n:(b,o)∈j:=e;simp[n])) T) (λu a=>?_)
 subst a
 refine .q (.aZ K) ?_
 refine .mo rfl ?_
 refine .split (t:=64) rfl (λW=>?_) (λW=>?_)
 refine .gT W ?_
 refine .aR ((pR R).weaken cZ) (λu a=>?_)
 subst a
 refine .q (.aZ W) ?_
 refine .az rfl ?_
 refine .ret (aI (aM rfl ?_))
 ·exact⟨rfl,rfl⟩
 ·simp at W
 ·simp at K
 have b1:J≠5:=by simpa using h2
 obtain⟨rfl,c1,c2⟩:=c3.resolve_left b1
 refine .kn<|.sr<|.mo rfl ?_
 refine .dq ((LR V i c1 T c2 R).weaken cZ) (λu T8 a=>?_)
 obtain⟨a8,rfl,Z⟩:=a
 have d4:bZ a8:=⟨Z.cN⟩
 obtain⟨y1,y2,y3,y4,y5,y6,rfl⟩:=ng Z.kw
 refine .mo rfl<|.q .extract<|.q .extract ?_
 refine .bV (λc6=>?_)
 refine .bN rfl rfl<|.ag rfl<|.z<|.mo rfl<|.q .bw<|.mo rfl ?_
 refine .split (t:=74) rfl (λO=>?_) (λO=>?_)
 refine .gT O<|.mo rfl<|.gT O<|.q .bw<|.q (.aZ O) ?_
 refine .mo rfl ?_
 refine .split (t:=78) rfl (λQ=>?_) (λQ=>?_)
 refine .gT Q<|.mo rfl<|.gT Q<|.q .bw<|.q (.aZ Q) ?_
 refine .mo rfl ?_
 refine .split (t:=82) rfl (λB=>?_) (λB=>?_)
 refine .gT B<|.q (.aP rfl)<|.gT B<|.q (.aP rfl)<|.gT B ?_
 refine .aR (O2 Z _ _ _ _ _ Z f (λb o e=>.inr (by have n:(b,o)∈T8:=e;simp[n])) (λb o e=>.inr (by have n:(b,o)∈j:=e;simp[n]))) (λu a=>?_)
 subst a
 refine .q (.aZ B) ?_
 refine .mo rfl ?_
 refine .split (t:=87) rfl (λM=>?_) (λM=>?_)
 refine .gT M<|.q (.aP rfl)<|.gT M ?_
 refine .aR (tz _ i _ (f.mono λb o e=>.inr (by have n:(b,o)∈j:=e;simp[n])) T) (λu a=>?_)
 subst a
 refine .q (.aZ M) ?_
 refine .mo rfl ?_
 refine .split (t:=91) rfl (λY=>?_) (λY=>?_)
 refine .gT Y ?_
 refine .aR ((pR R).weaken cZ) (λu a=>?_)
 subst a
 refine .q (.aZ Y) ?_
 refine .az rfl ?_
 refine .ret (aM rfl ?_)
 ·exact⟨rfl,rfl⟩
 ·simp at Y
 ·simp at M
 ·simp at B
 ·simp at Q
 ·simp at O
theorem Qf{H:Type}{enc:TypeId×Value->H}{W:World}{f:Nat}{cs:List Value}{x:DataW H×List MemPlace}(h:DataW.trod enc prog W 0 (λ_=>true) true f 186 cs=some x):∃t:Ty,cs=t.enc/\t.fits:=by
 obtain⟨c,d⟩:=kp underlying186 h
 have j:prog.cellsOf 186=2:=by kernel_rfl
 rw[j]at c
 have e:prog.cellsOf 9=1:=by kernel_rfl
 match cs,c with
 |[a0,a1],_=>
  obtain⟨p,r,a⟩:∃n y,DataW.trod enc prog W 0 (λ_=>true) true n 9 (([a0,a1].drop 0).take (prog.cellsOf 9))=some y:=d 0 _ rfl
  obtain⟨q,s,b⟩:∃n y,DataW.trod enc prog W 0 (λ_=>true) true n 9 (([a0,a1].drop 1).take (prog.cellsOf 9))=some y:=d 1 _ rfl
  simp only[e,agF,agG,agH,agI]at a b
  obtain⟨m,g,k⟩:=ky a
  obtain⟨o,i,l⟩:=ky b
  cases g;cases i
  exact⟨⟨m,o⟩,rfl,k,l⟩
theorem MH{H:Type}{enc:TypeId×Value->H}{W:World}{f:Nat}{cs:List Value}{x:DataW H×List MemPlace}(h:DataW.trod enc prog W 0 (λ_=>true) true f 204 cs=some x):∃t:Nd,cs=t.enc/\t.fits:=by
 obtain⟨i,a⟩:=kp underlying204 h
 have s:prog.cellsOf 204=5:=by kernel_rfl
 rw[s]at i
 have j:prog.cellsOf 3=1:=by kernel_rfl
 have l:prog.cellsOf 9=1:=by kernel_rfl
 match cs,i with
 |[a0,a1,a2,a3,a4],_=>
  obtain⟨D,J,b⟩:∃n y,DataW.trod enc prog W 0 (λ_=>true) true n 3 (([a0,a1,a2,a3,a4].drop 0).take (prog.cellsOf 3))=some y:=a 0 _ rfl
  obtain⟨E,K,c⟩:∃n y,DataW.trod enc prog W 0 (λ_=>true) true n 9 (([a0,a1,a2,a3,a4].drop 1).take (prog.cellsOf 9))=some y:=a 1 _ rfl
  obtain⟨F,L,d⟩:∃n y,DataW.trod enc prog W 0 (λ_=>true) true n 9 (([a0,a1,a2,a3,a4].drop 2).take (prog.cellsOf 9))=some y:=a 2 _ rfl
  obtain⟨G,M,e⟩:∃n y,DataW.trod enc prog W 0 (λ_=>true) true n 3 (([a0,a1,a2,a3,a4].drop 3).take (prog.cellsOf 3))=some y:=a 3 _ rfl
  obtain⟨I,N,g⟩:∃n y,DataW.trod enc prog W 0 (λ_=>true) true n 3 (([a0,a1,a2,a3,a4].drop 4).take (prog.cellsOf 3))=some y:=a 4 _ rfl
  simp only[j,l,agF,agG,agH,agI]at b c d e g
  obtain⟨A,m⟩:=q8 (k:=.i64) b
  obtain⟨w,o,u⟩:=ky c
  obtain⟨z,p,v⟩:=ky d
  obtain⟨B,q⟩:=q8 (k:=.i64) e
  obtain⟨C,r⟩:=q8 (k:=.i64) g
  cases m;cases o;cases p;cases q;cases r
  exact⟨⟨A,w,z,B,C⟩,rfl,u,v⟩
theorem O5{H:Type}{enc:TypeId×Value->H}{W:World}{f:Nat}{cs:List Value}{x:DataW H×List MemPlace}(h:DataW.trod enc prog W 0 (λ_=>true) true f 106 cs=some x):∃t:Sc,cs=t.enc/\t.fits:=by
 obtain⟨e,a⟩:=kp underlying106 h
 have m:prog.cellsOf 106=4:=by kernel_rfl
 rw[m]at e
 have i:prog.cellsOf 9=1:=by kernel_rfl
 have g:prog.cellsOf 30=2:=by kernel_rfl
 match cs,e with
 |[a0,a1,a2,a3],_=>
  obtain⟨z,C,b⟩:∃n y,DataW.trod enc prog W 0 (λ_=>true) true n 9 (([a0,a1,a2,a3].drop 0).take (prog.cellsOf 9))=some y:=a 0 _ rfl
  obtain⟨A,D,c⟩:∃n y,DataW.trod enc prog W 0 (λ_=>true) true n 30 (([a0,a1,a2,a3].drop 1).take (prog.cellsOf 30))=some y:=a 1 _ rfl
  obtain⟨B,E,d⟩:∃n y,DataW.trod enc prog W 0 (λ_=>true) true n 9 (([a0,a1,a2,a3].drop 3).take (prog.cellsOf 9))=some y:=a 2 _ rfl
  simp only[i,g,agF,agG,agH,agI]at b c d
  obtain⟨s,j,o⟩:=ky b
  obtain⟨u,v,k,p,q⟩:=p8 c
  obtain⟨w,l,r⟩:=ky d
  cases j;cases k;cases l
  exact⟨⟨s,u,v,w⟩,rfl,o,p,q,r⟩
theorem Qg{H:Type}{enc:TypeId×Value->H}{W:World}{f:Nat}{cs:List Value}{x:DataW H×List MemPlace}(h:DataW.trod enc prog W 0 (λ_=>true) true f 102 cs=some x):∃v l,cs=[v]/\RS (Rw W) 2 Ty.enc v l/\∀t∈l,t.fits:=
 RS.m6 (D:=λt:Ty=>t.fits) (sz:=2) (en:=Ty.enc) underlying102 (by kernel_rfl) (by omega) h λn cs x b=>by
  obtain⟨t,rfl,a⟩:=Qf b
  exact⟨rfl,(Ty.one t).h,t,rfl,a⟩
theorem MK{H:Type}{enc:TypeId×Value->H}{W:World}{f:Nat}{cs:List Value}{x:DataW H×List MemPlace}(h:DataW.trod enc prog W 0 (λ_=>true) true f 75 cs=some x):∃v l,cs=[v]/\RS (Rw W) 5 Nd.enc v l/\∀t∈l,t.fits:=
 RS.m6 (D:=λt:Nd=>t.fits) (sz:=5) (en:=Nd.enc) underlying75 (by kernel_rfl) (by omega) h λn cs x b=>by
  obtain⟨t,rfl,a⟩:=MH b
  exact⟨rfl,(Nd.one t).h,t,rfl,a⟩
theorem Pb{H:Type}{enc:TypeId×Value->H}{W:World}{f:Nat}{cs:List Value}{x:DataW H×List MemPlace}(h:DataW.trod enc prog W 0 (λ_=>true) true f 23 cs=some x):∃v l,cs=[v]/\RS (Rw W) 4 Sc.enc v l/\∀t∈l,t.fits:=
 RS.m6 (D:=λt:Sc=>t.fits) (sz:=4) (en:=Sc.enc) underlying23 (by kernel_rfl) (by omega) h λn cs x b=>by
  obtain⟨t,rfl,a⟩:=O5 b
  exact⟨rfl,(Sc.one t).h,t,rfl,a⟩
theorem Om{H:Type}{enc:TypeId×Value->H}{W:World}{f:Nat}{cs:List Value}{x:DataW H×List MemPlace}(h:DataW.trod enc prog W 0 (λ_=>true) true f 104 cs=some x):∃t:cv,cs=t.enc/\t.is (Rw W):=by
 obtain⟨e,a⟩:=kp underlying104 h
 have q:prog.cellsOf 104=3:=by kernel_rfl
 rw[q]at e
 have j:prog.cellsOf 9=1:=by kernel_rfl
 have i:prog.cellsOf 75=1:=by kernel_rfl
 have g:prog.cellsOf 102=1:=by kernel_rfl
 match cs,e with
 |[a0,a1,a2],_=>
  obtain⟨A,F,b⟩:∃n y,DataW.trod enc prog W 0 (λ_=>true) true n 9 (([a0,a1,a2].drop 0).take (prog.cellsOf 9))=some y:=a 0 _ rfl
  obtain⟨B,G,c⟩:∃n y,DataW.trod enc prog W 0 (λ_=>true) true n 102 (([a0,a1,a2].drop 1).take (prog.cellsOf 102))=some y:=a 1 _ rfl
  obtain⟨C,I,d⟩:∃n y,DataW.trod enc prog W 0 (λ_=>true) true n 75 (([a0,a1,a2].drop 2).take (prog.cellsOf 75))=some y:=a 2 _ rfl
  simp only[j,i,g,agF,agG,agH,agI]at b c d
  obtain⟨z,k,r⟩:=ky b
  obtain⟨D,s,l,v,o⟩:=Qg c
  obtain⟨E,u,m,w,p⟩:=MK d
  cases k;cases l;cases m
  exact⟨⟨_,_,⟨z,s,u⟩⟩,rfl,r,v,w,o,p⟩
theorem Oo{H:Type}{enc:TypeId×Value->H}{W:World}{f:Nat}{cs:List Value}{x:DataW H×List MemPlace}(h:DataW.trod enc prog W 0 (λ_=>true) true f 99 cs=some x):∃v l,cs=[v]/\RS (Rw W) 3 cv.enc v l/\∀t∈l,t.is (Rw W):=
 RS.m6 (D:=λt:cv=>t.is (Rw W)) (sz:=3) (en:=cv.enc) underlying99 (by kernel_rfl) (by omega) h λn cs x b=>by
  obtain⟨t,rfl,a⟩:=Om b
  exact⟨rfl,a.cN,t,rfl,a⟩
theorem PE{H:Type}{enc:TypeId×Value->H}{W:World}{f:Nat}{cs:List Value}{x:DataW H×List MemPlace}(h:DataW.trod enc prog W 0 (λ_=>true) true f 101 cs=some x):∃t:cC,cs=t.enc/\t.is (Rw W):=by
 obtain⟨c,d⟩:=kp underlying101 h
 have l:prog.cellsOf 101=2:=by kernel_rfl
 rw[l]at c
 have e:prog.cellsOf 9=1:=by kernel_rfl
 have g:prog.cellsOf 99=1:=by kernel_rfl
 match cs,c with
 |[a0,a1],_=>
  obtain⟨r,v,a⟩:∃n y,DataW.trod enc prog W 0 (λ_=>true) true n 9 (([a0,a1].drop 0).take (prog.cellsOf 9))=some y:=d 0 _ rfl
  obtain⟨s,w,b⟩:∃n y,DataW.trod enc prog W 0 (λ_=>true) true n 99 (([a0,a1].drop 1).take (prog.cellsOf 99))=some y:=d 1 _ rfl
  simp only[e,g,agF,agG,agH,agI]at a b
  obtain⟨q,i,m⟩:=ky a
  obtain⟨u,o,j,p,k⟩:=Oo b
  cases i;cases j
  exact⟨⟨q,_,o⟩,rfl,m,p,k⟩
theorem PF{H:Type}{enc:TypeId×Value->H}{W:World}{f:Nat}{cs:List Value}{x:DataW H×List MemPlace}(h:DataW.trod enc prog W 0 (λ_=>true) true f 22 cs=some x):∃v l,cs=[v]/\RS (Rw W) 2 cC.enc v l/\∀t∈l,t.is (Rw W):=
 RS.m6 (D:=λt:cC=>t.is (Rw W)) (sz:=2) (en:=cC.enc) underlying22 (by kernel_rfl) (by omega) h λn cs x b=>by
  obtain⟨t,rfl,a⟩:=PE b
  exact⟨rfl,a.cN,t,rfl,a⟩
theorem Br{H:Type}{enc:TypeId×Value->H}{W:World}{f:Nat}{cs:List Value}{x:DataW H×List MemPlace}(h:DataW.trod enc prog W 0 (λ_=>true) true f 25 cs=some x):∃c:bP,cs=c.enc/\c.is (Rw W):=by
 obtain⟨d,e⟩:=kp underlying25 h
 have o:prog.cellsOf 25=2:=by kernel_rfl
 rw[o]at d
 have g:prog.cellsOf 22=1:=by kernel_rfl
 have i:prog.cellsOf 23=1:=by kernel_rfl
 match cs,d with
 |[a0,a1],_=>
  obtain⟨t,z,a⟩:∃n y,DataW.trod enc prog W 0 (λ_=>true) true n 22 (([a0,a1].drop 0).take (prog.cellsOf 22))=some y:=e 0 _ rfl
  obtain⟨u,A,b⟩:∃n y,DataW.trod enc prog W 0 (λ_=>true) true n 23 (([a0,a1].drop 1).take (prog.cellsOf 23))=some y:=e 1 _ rfl
  simp only[g,i,agF,agG,agH,agI]at a b
  obtain⟨v,p,j,r,l⟩:=PF a
  obtain⟨w,q,k,s,m⟩:=Pb b
  cases j;cases k
  exact⟨⟨_,_,p,q⟩,rfl,r,s,l,m⟩
theorem Qo{H:Type}{enc:TypeId×Value->H}{W:World}{f:Nat}{cs:List Value}{x:DataW H×List MemPlace}(h:DataW.trod enc prog W 0 (λ_=>true) true f 28 cs=some x):∃w:lF,cs=w.enc/\w.is (Rw W):=by
 obtain⟨e,g⟩:=kp underlying28 h
 have a:prog.cellsOf 28=3:=by kernel_rfl
 rw[a]at e
 have i:prog.cellsOf 25=2:=by kernel_rfl
 have j:prog.cellsOf 26=1:=by kernel_rfl
 match cs,e with
 |[a0,a1,a2],_=>
  obtain⟨q,t,b⟩:∃n y,DataW.trod enc prog W 0 (λ_=>true) true n 25 (([a0,a1,a2].drop 0).take (prog.cellsOf 25))=some y:=g 0 _ rfl
  obtain⟨r,u,d⟩:∃n y,DataW.trod enc prog W 0 (λ_=>true) true n 26 (([a0,a1,a2].drop 2).take (prog.cellsOf 26))=some y:=g 1 _ rfl
  simp only[i,j,agF,agG,agH,agI]at b d
  obtain⟨c,k,a⟩:=Br b
  obtain⟨s,o,l,p,m⟩:=O7 d
  cases k;cases l
  exact⟨⟨c,_,o⟩,rfl,a,p,m⟩
end Go.Proofs.YtenilfmlfldogaaGreatDoor

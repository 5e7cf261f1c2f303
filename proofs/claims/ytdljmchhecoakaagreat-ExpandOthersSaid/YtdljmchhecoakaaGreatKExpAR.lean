/- What the law 'ExpA' uses. No condition. -/
import Derived.Test.YtdljmchhecoakaaGreatKExpAB
import Derived.Test.YtdljmchhecoakaaGreatKExpAF
import Derived.Test.YtdljmchhecoakaaGreatKExpAH
import Derived.Test.YtdljmchhecoakaaGreatKExpAI
import Derived.Test.YtdljmchhecoakaaGreatKExpAL
import Derived.Test.YtdljmchhecoakaaGreatKExpAQ
namespace Go.Proofs.YtdljmchhecoakaaGreat
open Tryz (prog)
set_option linter.unusedVariables false
set_option linter.unusedSimpArgs false
set_option maxRecDepth 4000
theorem wD{c:bN}{X:List Nat}{p:gl}(g:c.valid p)(i:X.length=total c.plain.bg):∃s:Sp,c.plain.bg[p.1]? =some s/\p.2<s.bR.length/\(rows c.plain.bg X)[p.1]? =some ((X.drop (cG c.plain.bg p.1)).take s.bR.length)/\c.ix p<X.length/\
  ((X.drop (cG c.plain.bg p.1)).take s.bR.length)[p.2]? =some (X.getD (c.ix p) 0):=by
 obtain⟨s,r,f,e⟩:=g
 have a:=oF f
 have d:=(List.getElem?_eq_some_iff.1 (AR e)).1
 have h:=sR a
 have b:c.ix p<X.length:=by unfold bN.ix;omega
 refine⟨s.plain,a,d,pP a,b,?_⟩
 rw[List.getElem?_take,if_pos d,List.getElem?_drop,List.getD_eq_getElem?_getD]
 unfold bN.ix at b⊢
 rw[aX b]
 rfl
theorem Px{c:bN}(w:Value)(a:List iE)(T:ay)(h:nT w a T)(X:List Nat)(j:X.length=total c.plain.bg)(k:a.map (·.1.2)=rows c.plain.bg X)(e:jP)(s:c.valid e.1/\c.valid e.2.1)(D:∀x∈X,x<=1000000000)(R:aB):
  Spec prog 182 [w,.agg (jK e).toArray] R [T] λu H'=>∃T',H'=[T']/\∃ch LL',u=.bool ch/\ch=decide (gp X (c.ed e)≠X)/\nT w LL' T'/\LL'.map (·.1.2)=rows c.plain.bg (gp X (c.ed e)):=by
 obtain⟨Q,t,v,y,z,A⟩:=wD s.1 j
 obtain⟨S,U,V,K,L,M⟩:=wD s.2 j
 have p:∀{i:Nat} {o:List Nat},(rows c.plain.bg X)[i]? =some o->∃q:iE,a[i]? =some q/\q.1.2=o:=λ{i o} b=>by
  rw[<-k,List.getElem?_map]at b
  cases hq:a[i]? with
  |none=>rw[hq]at b;cases b
  |some q=>rw[hq]at b;exact⟨q,rfl,by simpa using b⟩
 obtain⟨I,F,r⟩:=p y
 obtain⟨J,G,H⟩:=p K
 have C:X.getD (c.ix e.2.1) 0<=1000000000:=D _ (by rw[List.getD_eq_getElem?_getD,aX L];exact List.getElem_mem _)
 have O:X.getD (c.ix e.1) 0=X.getD (c.ed e).f 0:=rfl
 refine(Pz w a T h e (X.getD (c.ix e.1) 0) (X.getD (c.ix e.2.1) 0) I J F G (by rw[r];exact A) (by rw[H];exact M) C R).mono λu H' m=>?_
 obtain⟨T',rfl,m⟩:=m
 refine⟨T',rfl,?_⟩
 rcases m with⟨rfl,B,g⟩|⟨rfl,B,N,g⟩
 ·have d:gp X (c.ed e)=X:=if_neg (by show ¬X.getD (c.ix e.1) 0<X.getD (c.ix e.2.1) 0+_;unfold Ed.w bN.ed;simp only;omega)
  refine⟨false,a,rfl,?_,g,?_⟩
  ·rw[d];simp
  ·rw[d];exact k
 ·have d:gp X (c.ed e)=X.set (c.ix e.1) (X.getD (c.ix e.2.1) 0+if e.2.2 then 1 else 0):=if_pos (by show X.getD (c.ix e.1) 0<X.getD (c.ix e.2.1) 0+_;unfold Ed.w bN.ed;simp only;omega)
  refine⟨true,_,rfl,?_,g,?_⟩
  ·rw[d,eq_comm,decide_eq_true_iff]
   intro E
   have:=congrArg (λl:List Nat=>l.getD (c.ix e.1) 0) E
   rw[oc _ _ _ _ z,if_pos rfl]at this
   omega
  ·rw[d]
   have:=A8 (n:=X) (x:=X.getD (c.ix e.2.1) 0+if e.2.2 then 1 else 0) t v j
   unfold bN.ix at this⊢
   rw[this,List.map_set,k,r]
theorem Py{A X:List Nat}{e:Ed}(d:∀i,A.getD i 0<=X.getD i 0)(l:X.length=A.length)(k:e.f<X.length):gp X e≠A↔(X≠A\/gp X e≠X):=by
 have c:=λi=>tf X e k i
 constructor
 ·intro h
  by_cases g:X=A
  ·exact .inr (by rw[g]at h⊢;exact h)
  ·exact .inl g
 ·rintro(h|h) b
  ·refine h (oq l λi _=>?_)
   have j:=d i
   have a:=c i
   rw[b]at a
   omega
  ·refine h (oq (by rw[pO]) λi _=>?_)
   have j:=d i
   have a:=c i
   rw[b]at a⊢
   omega
theorem Pv{X:List Nat}{e:Ed}{b:Nat}(h:∀x∈X,x<=b):∀x∈gp X e,x<=b+1:=by
 intro x hx
 unfold gp at hx
 split at hx
 ·rcases List.mem_or_eq_of_mem_set hx with hx|rfl
  ·have:=h x hx;omega
  ·have a:X.getD e.t 0<=b:=by
    rw[List.getD_eq_getElem?_getD]
    cases hq:X[e.t]? with
    |none=>exact Nat.zero_le _
    |some q=>exact h q (aO hq)
   have c:e.w<=1:=by unfold Ed.w;split<;>omega
   omega
 ·have:=h x hx;omega
theorem Qx{R:aB}{xb:Nat}{vm:Value}{c:bN}(h:IX R xb vm c)(hf:c.iI)(ve:Value)(a:List jP)(O:RS R 5 jK ve a)(c0:a.length<=131072)(N:∀e∈a,c.valid e.1/\c.valid e.2.1):
  Spec prog 123 [pT xb,ve] R [] λu H'=>∃T,H'=[T]/\match settle (a.map c.ed) (total c.plain.bg+1) (List.replicate (total c.plain.bg) 0)with
   |none=>u=.tuple [sZ,.bool false].toArray
   |some A=>∃w ll,u=.tuple [w,.bool true].toArray/\NN (sg T) w ll/\ll.map (·.2)=rows c.plain.bg A:=by
 have d0:=h
 have pc:=h.pc
 have om:=h.om
 have B:=h.ci.ss
 have i1:=B.ap
 have i2:One c.vc:=RS.ap h.ci.sc
 have e5:=B.le
 have e6:=hf.1
 have c6:=h.ci.all
 have f4:=oT c.plain
 have e4:c.plain.all.length=c.fO.length:=by rw[<-oA,List.length_map]
 have f0:=hf.fO
 have f2:c.plain.bg.length=c.bg.length:=by unfold bN.plain;simp
 have d6:∀(i:Nat) (s:cy),c.bg[i]? =some s->c.plain.bg[i]? =some s.plain:=λi s t=>oF t
 have e0:=A9 c.plain.bg
 have d8:=λw Q T hh X v hr e N hb R=>Px (c:=c) w Q T hh X v hr e N hb R
 have e1:=wS c.plain.bg 0
 have c8:∀e∈a,(c.ed e).f<total c.plain.bg:=λe he=>by
  obtain⟨s,_,H,_,r,_⟩:=wD (X:=List.replicate (total c.plain.bg) 0) (N e he).1 (by simp)
  rw[List.length_replicate]at r
  exact r
 have f8:=O.ap
 have e8:=O.le
 have f3:total c.plain.bg<=256:=by omega
 generalize f5:total c.plain.bg=tot at *
 refine Spec.body Tryz.func123 rfl Tryz.results123 Tryz.ntmps123 rfl<|.sr<|.ag rfl<|.ag rfl<|.z<|.mo rfl<|.nc rfl<|.fa rfl<|.fa rfl<|.lo rfl<|.q (.bH B) ?_
 refine .makeSlice (enc:=dW) c.bg.length ((sZ,[]):fA) rfl rfl (by decide) (by simp[dW,ap]) rfl rfl (by omega) (by omega) (λS T6 c3=>?_)
 refine .ag rfl<|.zs<|.sr<|.mo rfl<|.nc rfl<|.fa rfl<|.fa rfl<|.lo rfl<|.q (.bH B)<|.mo rfl<|.zn<|.block<|.cz [(0,_),(1,_),(6,_),(23,_),(24,_)] (X:=Nat×List iE×ay) (λy=>y.1<=c.bg.length/\y.2.1.length=y.1/\OS 182 1 dW (.slice (some ⟨S,0,none⟩) c.bg.length c.bg.length) (y.2.1.map (·.1)++List.replicate (c.bg.length-y.1) ((sZ,[]):fA)) y.2.2/\(∀q∈y.2.1,OS 3 1 cM q.1.1 q.1.2 q.2)/\y.2.1.map (·.1.2)=((c.plain.bg.take y.1).map λs=>List.replicate s.bR.length 0)) (λy E=>(25,iN y.1)::E) (λy G=>y.2.2::y.2.1.flatMap (·.2)::G) (λy=>c.bg.length-y.1) (0,[],T6) (G:=[]) ⟨Nat.zero_le _,rfl,by simp only[List.map_nil,List.nil_append,Nat.sub_zero];exact c3,λq hq=>(by cases hq),by simp⟩ kE.c.c.c.c.c.c ((aQ [0]).trans (bf.fq (by simp[take]))) ?_
 rintro⟨i,D,To⟩ ⟨hi,a0,l,hI,Z⟩
 simp only at hi a0 l hI Z⊢
 refine .sr<|.q .lss<|.zs<|.cond rfl (λU=>?_) λU=>?_
 have b3:i<c.bg.length:=cb U
 obtain⟨⟨sn,sv,d⟩,t⟩:=bL b3
 have b7:=c6 _ (aO t)
 have a4:RS R 3 cv.enc sv d:=b7.rs
 have f6:=a4.ap
 have e7:=a4.le
 have f7:ca (cy.enc ⟨sn,sv,d⟩):=⟨b7.cT⟩
 have f1:d.length<=16:=hf.2 _ (aO t)
 have d5:=d6 i _ t
 obtain⟨k,hk⟩:∃k,c.bg.length-i=k+1:=⟨c.bg.length-i-1,by omega⟩
 have d2:c.bg.length-(i+1)=k:=by omega
 rw[hk]at l
 have a5:(D.map (·.1)).length=i:=by rw[List.length_map,a0]
 obtain⟨z,hz⟩:∃z,(D.map (·.1)++List.replicate (k+1) ((sZ,[]):fA))[i]? =some z:=⟨_,aX (by rw[List.length_append,a5,List.length_replicate];omega)⟩
 refine .kn<|.seq<|.block<|.sr<|.mo rfl ?_
 refine .bx i B t (λf9=>?_)
 refine .q (.aM rfl) ?_
 refine .bX (λb8=>?_)
 refine .ag rfl<|.bP rfl rfl<|.zn<|.region<|.mo rfl<|.mo rfl<|.fa rfl<|.lo rfl<|.q (.bH a4) ?_
 refine .makeSlice (enc:=cM) d.length 0 rfl rfl (by decide) (by simp[cM,ap]) rfl rfl (by omega) (by omega) (λbn Tn c4=>?_)
 refine .aL i l hz (λg0=>?_)
 refine .dv i l hz ((.slice (some ⟨bn,0,none⟩) d.length d.length,List.replicate d.length 0):fA) (λF a6=>?_)
 rw[jN a5]at a6
 refine .nil<|aV<|av<|.region<|.ia (i+1) .add<|.mo rfl<|.nil ?_
 ·exact aW (i+1,D++[((.slice (some ⟨bn,0,none⟩) d.length d.length,List.replicate d.length 0),Tn)],F) ⟨b3,by simp[a0],by simp only;rw[d2,List.map_append];exact a6,λq hq=>by
   rcases List.mem_append.1 hq with hq|hq
   ·exact hI q hq
   ·rw[List.mem_singleton]at hq;subst hq;exact c4,by simp only;rw[dG d5,List.map_append,List.map_append,Z];simp[cy.plain]⟩ (by simp only;omega) kE.c.c.c.c.c.c ((aQ [2,2,0]).trans (bf.fq (by simp[take,bJ])))
 have c9:i=c.bg.length:=by have:=bA U;omega
 have b9:D.map (·.1.2)=rows c.plain.bg (List.replicate tot 0):=by
  rw[e0,Z,dw (by omega)]
 rw[c9,Nat.sub_self]at l
 simp only[List.replicate_zero,List.append_nil]at l
 refine .exit<|bm<|bs<|bo<|av<|.seq<|.sr<|.mo rfl<|.nc rfl<|.fa rfl<|.lo rfl<|.q (.zV (d0.rm.pJ λb o hb=>.inl hb) rfl) ?_
 rw[e1]
 refine .ia (tot+1) .add<|.mo rfl<|.zn<|.block<|.cz [(1,_),(6,_),(43,_)] (X:=Nat×List Nat×List iE×ay) (λy=>y.1<=tot+1/\y.2.1.length=tot/\nT (.slice (some ⟨S,0,none⟩) c.bg.length c.bg.length) y.2.2.1 y.2.2.2/\y.2.2.1.map (·.1.2)=rows c.plain.bg y.2.1/\(∀x∈y.2.1,x<=y.1*a.length)/\settle (a.map c.ed) (tot+1) (List.replicate tot 0)=settle (a.map c.ed) (tot+1-y.1) y.2.1) (λy E=>(44,iN y.1)::E) (λy _=>[y.2.2.2]) (λy=>tot+1-y.1) (0,List.replicate tot 0,D,To++(D.flatMap (·.2)++[])) (G:=[]) ⟨Nat.zero_le _,by simp,⟨To,by simp,l,hI⟩,b9,λx g=>by rw[List.eq_of_mem_replicate g];exact Nat.zero_le _,rfl⟩ kE.c.c.c.c (bf.one [0,0] _) ?_
 rintro⟨m,A,Q,T⟩ ⟨hm,Y,a7,b5,a9,M⟩
 simp only at hm Y a7 b5 a9 M⊢
 refine .sr<|.q .lss<|.zs<|.cond rfl (λH=>?_) λH=>?_
 have d4:m<tot+1:=by have:=bS H;omega
 have e9:m*a.length<=256*131072:=Nat.mul_le_mul (by omega) c0
 refine .kn<|.seq<|.block<|.sr<|.ag rfl<|.zs<|.sr<|.mo rfl<|.q (.bH O)<|.mo rfl<|.zn<|.block<|.cz [(1,_),(6,_),(43,_),(44,_),(46,_),(47,_)] (X:=Nat×List Nat×List iE×ay) (λy=>y.1<=a.length/\y.2.1=((a.take y.1).map c.ed).foldl gp A/\y.2.1.length=tot/\nT (.slice (some ⟨S,0,none⟩) c.bg.length c.bg.length) y.2.2.1 y.2.2.2/\y.2.2.1.map (·.1.2)=rows c.plain.bg y.2.1/\(∀x∈y.2.1,x<=m*a.length+y.1)/\∀i,A.getD i 0<=y.2.1.getD i 0) (λy E=>(48,iN y.1)::(9,.bool (decide (y.2.1≠A)))::E) (λy _=>[y.2.2.2]) (λy=>a.length-y.1) (0,A,Q,T) (G:=[]) ⟨Nat.zero_le _,rfl,Y,a7,b5,λx g=>a9 x g,λi=>Nat.le_refl _⟩ ((kE.c.c.c.c.c.c.bU rfl (by simp)).cons rfl) rH ?_
 rintro⟨j,X,C,TX⟩ ⟨hj,v,n,I,L,K,a3⟩
 simp only at hj v n I L K a3⊢
 refine .sr<|.q .lss<|.zs<|.cond rfl (λV=>?_) λV=>?_
 have b2:j<a.length:=cb V
 obtain⟨e,a2⟩:=bL b2
 have b1:=aO a2
 have d9:=d8 _ C TX I X n L e (N e b1) (λx g=>by have:=K x g;omega)
 have b0:=c8 e b1
 refine .kn<|.seq<|.block<|.sr ?_
 refine .bx j O a2 (λg1=>?_)
 refine .q (.aM rfl) ?_
 refine .bX (λe3=>?_)
 refine .bP rfl rfl<|.z<|.mo rfl<|.q (.aM rfl)<|.dg (d9 R) (λu F hu=>?_)
 obtain⟨ch,L1,rfl,c7,c5,d7⟩:=hu
 refine .zn ?_
 refine bz.cS [(1,_),(6,_),(43,_),(44,_),(46,_),(47,_),(48,_)] kE.c.c.c.c.c.c.c (X:=Unit) (λ_=>True) (λ_ E=>(9,.bool (decide (X≠A)||ch))::E) (λ_=>[F]) ?_ ?_
 refine .cond rfl (λr=>?_) λr=>?_
 refine .region<|.ag rfl<|.nil ?_
 ·exact aF () trivial (kE.c.c.c.c.c.c.c.bU rfl (by simp[r])) (aQ [1])
 refine .skip ?_
 ·exact aF () trivial (kE.c.c.c.c.c.c.c.bU rfl (by simp[r])) (aQ [1])
 intro x g
 refine aV<|av<|.region<|.ia (j+1) .add<|.mo rfl<|.nil ?_
 ·exact aW (j+1,gp X (c.ed e),L1,F) ⟨b2,by simp only;rw[dG a2,List.map_append,List.foldl_append, <-v];rfl,by simp only;rw[pO,n],c5,d7,λy hy=>by have:=Pv K y hy;simp only;omega,λi=>Nat.le_trans (a3 i) (tf X _ (by rw[n];exact b0) i)⟩ (by simp only;omega) ((kE.c.c.c.c.c.c.bU rfl (by
   simp only
   rw[c7, <-Bool.decide_or]
   exact decide_eq_decide.2 (Py a3 (by rw[n,Y]) (by rw[n];exact b0)).symm)).cons rfl) rH
 have d1:j=a.length:=by have:=bA V;omega
 have a1:X=pass (a.map c.ed) A:=by rw[v,d1,List.take_length];rfl
 refine .exit<|bm<|bs<|bo<|av<|.sr<|.mo rfl<|.q .not<|.zn<|.cond rfl (λW=>?_) λW=>?_
 have J:X=A:=Decidable.not_not.1 (show ¬¬X=A by simpa using W)
 refine .sr<|.mo rfl<|.ag rfl<|.az rfl<|.ret (bh (aH (cB (bh (aH (bp _ (.two (.tmp rfl) (.tmp rfl)) (.one [0] _) ?_))))))
 ·refine⟨_,rfl,?_⟩
  rw[M,show tot+1-m=tot+1-(m+1)+1 by omega,settle,if_pos (by rw[<-a1];exact J)]
  obtain⟨e2,a8,c2,c1⟩:=I
  refine⟨_,C.map (·.1),rfl,⟨c2.rs λp hp=>?_,λq hq=>?_⟩,?_⟩
  ·show p∈_
   simp[take,a8,hp]
  ·obtain⟨q2,b4,rfl⟩:=List.mem_map.1 hq
   refine(c1 q2 b4).rs λp hp=>?_
   show p∈_
   have:p∈C.flatMap (·.2):=List.mem_flatMap.2 ⟨q2,b4,hp⟩
   simp only[take,a8,List.getD_cons_zero,List.flatten_cons,List.flatten_nil,List.append_nil]
   exact List.mem_append_right _ this
  ·rw[List.map_map, <-J]
   exact L
 have J:X≠A:=by simpa using W
 refine .skip<|aV<|av<|.region<|.ia (m+1) .add<|.mo rfl<|.nil ?_
 ·exact aW (m+1,X,C,TX) ⟨d4,n,I,L,λx g=>by have h6:=K x g;simp only;rw[Nat.add_mul];omega,by
   simp only
   rw[M,show tot+1-m=tot+1-(m+1)+1 by omega,settle,if_neg (by rw[<-a1];exact J), <-a1]⟩ (by simp only;omega) kE.c.c.c.c rH
 refine .exit<|bm<|bs<|bo<|av<|.sr<|.ag rfl<|.az rfl<|.ret (bp _ (.two (.tmp rfl) (.tmp rfl)) (.one [0] _) ?_)
 ·refine⟨_,rfl,?_⟩
  have d3:m=tot+1:=by have:=bA H;omega
  rw[M,d3,Nat.sub_self,settle]
theorem Qv{c:bN}{k:Nat}{E:List Ed}(h:c.plain.all.length=k):settle E (k+1) (List.replicate k 0)=settle E (c.plain.all.length+1) (List.replicate c.plain.all.length 0):=by rw[h]
def SA(c:bN)(ok:Bool)(w:Value)(T:ay)(o:Option (List Nat)):Prop:=match o with
 |none=>ok=false
 |some A=>ok=true/\∃ll,NN (sg T) w ll/\ll.map (·.2)=rows c.plain.bg A
theorem OB(c:bN)(R:aB)(h:c.is R):Spec prog 67 [.agg c.enc.toArray] R [] λu H'=>∃T,H'=[T]/\∃w ll,u=.tuple [w,.int .i64 (c.plain.numbers isWord dj).1].toArray/\NN (sg T) w ll/\ll.map (·.2)=(c.plain.numbers isWord dj).2:=by
 rw[<-Oz]
 have hR:=Pr c R h
 have Z:=Of c R h
 have a2:=rX (c:=c)
 have a:c.plain.sQ isWord dj=if c.plain.right isWord dj=false then((4:Int),([]:List (List Nat)))else if ¬c.plain.dU then(10,[])else match c.plain.lW with|none=>(14,[])|some E=>match settle E (c.plain.all.length+1) (List.replicate c.plain.all.length 0)with|none=>(15,[])|some n=>(0,rows c.plain.bg n):=rfl
 have a1:=λ(R:aB) xb vm (H:IX R xb vm c) U F=>Qd (R:=R) (xb:=xb) (vm:=vm) H U F
 have a5:=λ(R:aB) xb vm (H:IX R xb vm c) F ve f a8 hl hv=>Qx (R:=R) (xb:=xb) (vm:=vm) H F ve f a8 hl hv
 have a6:=oT c.plain
 have i1:One c.vs:=RS.ap h.ss
 have i2:One c.vc:=RS.ap h.sc
 generalize a9:c.plain.sQ isWord dj=nn at *
 refine Spec.body Tryz.func67 rfl Tryz.results67 Tryz.ntmps67 rfl<|.sr ?_
 refine .bY rfl (λb1=>?_)
 refine .ag rfl<|.ag rfl<|.zs<|.sr<|.q (.aM rfl)<|.aY (hR.weaken cZ) (λu x=>?_)
 subst x
 refine .q .not<|.zn<|.cond rfl (λk=>?_) λk=>?_
 refine .sr<|.ag rfl<|.az rfl<|.ret (aH (bp _ (.two (.tmp rfl) (.tmp rfl)) bf.ke ?_))
 ·refine⟨[],rfl,sZ,[],?_,.nil,?_⟩
  ·rw[a,if_pos (by simpa using k)]
  ·rw[a,if_pos (by simpa using k)];rfl
 have Q:c.plain.right isWord dj=true:=by simpa using k
 obtain⟨N,a0⟩:=a2 Q
 rw[if_neg (by rw[Q];simp)]at a
 refine .kn<|.sr<|.q (.aM rfl)<|.cO (Z.weaken cZ) (λu J x=>?_)
 obtain⟨o,m,rfl,y,x⟩:∃(o:Option Addr) (m:Bool),u=.tuple [.pointer o,.bool m].toArray/\m=decide c.plain.dU/\(m=true->∃xb,o=some ⟨xb,0,none⟩/\qf xb c J):=by
  rcases x with⟨i,xb,rfl,X⟩|⟨i,rfl⟩
  ·exact⟨_,true,rfl,(decide_eq_true i).symm,λ_=>⟨xb,rfl,X⟩⟩
  ·exact⟨_,false,rfl,(decide_eq_false i).symm,λG=>(by cases G)⟩
 refine .mo rfl<|.q .extract<|.q .extract<|.ag rfl<|.ag rfl<|.zs<|.sr<|.mo rfl<|.q .not<|.zn<|.cond rfl (λt=>?_) λt=>?_
 refine .sr<|.ag rfl<|.az rfl<|.ret (aH (bp _ (.two (.tmp rfl) (.tmp rfl)) bf.ke ?_))
 ·have d:m=false:=by simpa using t
  rw[d]at y
  have i:¬c.plain.dU:=bA y.symm
  refine⟨[],rfl,sZ,[],?_,.nil,?_⟩
  ·rw[a,if_pos i]
  ·rw[a,if_pos i];rfl
 have O:m=true:=by simpa using t
 obtain⟨xb,rfl,Y⟩:=x O
 rw[O]at y
 have i:c.plain.dU:=bS y.symm
 rw[if_neg (λG=>G i)]at a
 obtain⟨vm,K⟩:=Y.view h
 refine .kn<|.sr<|.mo rfl<|.cO ((a1 _ xb vm K (yT a0) N).weaken λb o hb=>hb.elim .inl λhb=>.inr (by simp[hb])) (λu S a7=>?_)
 obtain⟨w6,f,I,rfl,M,a3,j⟩:=a7
 have i6:=M.ap
 refine .mo rfl<|.q .extract<|.q .extract<|.ag rfl<|.ag rfl<|.zs<|.sr<|.mo rfl<|.q .not<|.zn<|.cond rfl (λv=>?_) λv=>?_
 have d:I=false:=by simpa using v
 have D:c.plain.lW=none:=by
  cases he:c.plain.lW with
  |none=>rfl
  |some E=>rw[he]at j;rw[j.1]at d;cases d
 rw[D]at a
 simp only at a
 refine .sr<|.ag rfl<|.az rfl<|.ret (aH (bp _ (.two (.tmp rfl) (.tmp rfl)) bf.ke ?_))
 ·refine⟨[],rfl,sZ,[],?_,.nil,?_⟩
  ·rw[a]
  ·rw[a];rfl
 have d:I=true:=by simpa using v
 obtain⟨E,D,V,W⟩:∃E,c.plain.lW=some E/\f.map c.ed=E/\∀e∈f,c.valid e.1/\c.valid e.2.1:=by
  cases he:c.plain.lW with
  |none=>rw[he]at j;rw[show I=false from j]at d;cases d
  |some E=>rw[he]at j;exact⟨E,rfl,j.2.1,j.2.2⟩
 subst V
 rw[D]at a
 simp only at a
 rw[<-Qv a6.symm]at a
 refine .kn<|.sr<|.mo rfl<|.mo rfl<|.cO ((a5 _ xb vm (K.mono (R':=λb o=>R b o\/(b,o)∈J\/(b,o)∈S) λb o hb=>hb.elim .inl λhb=>.inr (.inl hb)) N w6 f (M.rs λp hp=>.inr (.inr hp)) a3 W).weaken λb o hb=>hb.elim .inl λhb=>.inr (by rcases hb with hb|hb<;>simp[hb])) (λu B z=>?_)
 obtain⟨s,r,rfl,l⟩:∃(s:Value) (r:Bool),u=.tuple [s,.bool r].toArray/\SA c r s B (settle (f.map c.ed) (total c.plain.bg+1) (List.replicate (total c.plain.bg) 0)):=by
  cases g:settle (f.map c.ed) (total c.plain.bg+1) (List.replicate (total c.plain.bg) 0)with
  |none=>rw[g]at z;exact⟨_,_,z,rfl⟩
  |some A=>rw[g]at z;obtain⟨w,ll,k,t,v⟩:=z;exact⟨w,true,k,rfl,ll,t,v⟩
 refine .mo rfl<|.q .extract<|.q .extract<|.ag rfl<|.ag rfl<|.zs<|.sr<|.mo rfl<|.q .not<|.zn<|.cond rfl (λC=>?_) λC=>?_
 have d:r=false:=by simpa using C
 have g:settle (f.map c.ed) (total c.plain.bg+1) (List.replicate (total c.plain.bg) 0)=none:=by
  cases g:settle (f.map c.ed) (total c.plain.bg+1) (List.replicate (total c.plain.bg) 0)with
  |none=>rfl
  |some A=>rw[g]at l;rw[l.1]at d;cases d
 rw[g]at a
 simp only at a
 refine .sr<|.ag rfl<|.az rfl<|.ret (aH (bp _ (.two (.tmp rfl) (.tmp rfl)) bf.ke ?_))
 ·refine⟨[],rfl,sZ,[],?_,.nil,?_⟩
  ·rw[a]
  ·rw[a];rfl
 have d:r=true:=by simpa using C
 obtain⟨A,g,ll,L,a4⟩:∃A,settle (f.map c.ed) (total c.plain.bg+1) (List.replicate (total c.plain.bg) 0)=some A/\∃ll,NN (sg B) s ll/\ll.map (·.2)=rows c.plain.bg A:=by
  cases g:settle (f.map c.ed) (total c.plain.bg+1) (List.replicate (total c.plain.bg) 0)with
  |none=>rw[g]at l;rw[show r=false from l]at d;cases d
  |some A=>rw[g]at l;exact⟨A,rfl,l.2⟩
 rw[g]at a
 simp only at a
 have i9:One s:=L.rs.ap
 refine .kn<|.sr<|.mo rfl<|.ag rfl<|.az rfl<|.ret (bp _ (.two (.tmp rfl) (.tmp rfl)) (.one [0] _) ?_)
 ·refine⟨B,by simp[take],s,ll,?_,L,?_⟩
  ·rw[a]
  ·rw[a];exact a4
def qA(r:Rl):Rl:=⟨r.name,r.types.take 9,r.nodes.take 66⟩
def rW(s:Sp):Sp:=⟨short s.name 40,(s.bR.take 6).map qA⟩
def iG(c:Cf):Cf:=⟨(c.bg.take 5).map rW,c.scopes.take 5⟩
theorem cv.is.taken{R:aB}{i g d c:Value}{r:Rl}(h:cv.is R ⟨i,g,r⟩){R':aB}(j:∀b o,R b o->R' b o){n m:Nat}(f:RS R' 2 Ty.enc d (r.types.take n))(e:RS R' 5 Nd.enc c (r.nodes.take m)):cv.is R' ⟨d,c,⟨r.name,r.types.take n,r.nodes.take m⟩⟩:=
 ⟨h.n,f,e,λx a=>h.ft x (List.mem_of_mem_take a),λx a=>h.fd x (List.mem_of_mem_take a)⟩
theorem MW(c:bN)(R:aB)(h:c.is R):Spec prog 22 [.agg c.enc.toArray] R [] λu H'=>∃T,H'=[T]/\∃c':bN,u=.agg c'.enc.toArray/\c'.is (λb o=>R b o\/(b,o)∈T)/\c'.plain=iG c.plain:=by
 obtain⟨vs,vc,K,A⟩:=c
 have J:=h.ss
 have Z:=h.sc
 have i1:=J.ap
 have i2:=Z.ap
 simp only at J Z i1 i2
 have e0:=J.le
 have d9:=Z.le
 refine Spec.body Tryz.func22 rfl Tryz.results22 Tryz.ntmps22 rfl ?_
 refine .sr ?_
 refine .bY rfl (λO=>?_)
 refine .bX (λQ=>?_)
 refine .z ?_
 refine .q .cR ?_
 refine .bX (λD=>?_)
 refine .bP rfl rfl<|.zs<|.sr<|.az rfl<|.block ?_
 refine .cz [(1,_),(2,_),(3,_)] (X:=Nat×Value×List cy×ay×ay) (λy=>(y.1<=5/\y.1<=K.length)/\OS 164 2 cy.enc y.2.1 y.2.2.1 y.2.2.2.1/\(∀s∈y.2.2.1,s.is (λb o=>R b o\/(b,o)∈y.2.2.2.2))/\y.2.2.1.map (·.plain)=((K.take y.1).map (·.plain)).map rW) (λy E=>(4,iN y.1)::E) (λy G=>y.2.2.2.1::y.2.2.2.2::bl D [y.2.1,sZ] 25::G) (λy=>5-y.1) (0,sZ,[],[],[]) ⟨⟨by simp,by simp⟩,OS.nil,λs a=>(by cases a),by simp⟩ kE.c.c.c.c bf.jy ?_
 rintro⟨i,w,L,M,C⟩ ⟨⟨c0,hi⟩,hO,f,V⟩
 simp only at c0 hi hO f V⊢
 have io:=hO.ap
 have d8:L.length=i:=by have:=congrArg List.length V;rw[List.length_map,List.length_map,List.length_map,List.length_take]at this;omega
 refine .seq<|.seq ?_
 refine bz.cS [(1,_),(2,_),(3,_),(4,_)] kE.c.c.c.c (X:=Unit) (λ_=>True) (λ_ E=>(21,.bool (decide (i<K.length/\i<5)))::E) (λ_=>[M,C,bl D [w,sZ] 25,bl Q [sZ,sZ] 25,bl O [vs,vc] 25]) ?_ ?_
 refine .region<|.mo rfl<|.fa rfl<|.lo rfl<|.q (.bH J) ?_
 refine .q .lss<|.mo rfl ?_
 refine .split (t:=18) rfl (λH=>?_) (λH=>?_)
 refine .gT H<|.mo rfl<|.gT H<|.q .lss<|.q (.aT H) ?_
 refine .nil ?_
 ·exact aF () trivial (kE.c.c.c.c.bU rfl (by clear f;grind)) rH
 refine .gF H<|.gF H<|.q (.aS H) ?_
 refine .nil ?_
 ·exact aF () trivial (kE.c.c.c.c.bU rfl (by clear f;grind)) rH
 intro y l
 refine av ?_
 refine .cond rfl (λh1=>?_) λh1=>?_
 obtain⟨b0,c8⟩:=bS h1
 obtain⟨⟨B,sv,m⟩,a⟩:=bL b0
 have b6:=h.all _ (aO a)
 have a6:RS R 3 cv.enc sv m:=b6.rs
 have e5:=a6.ap
 have e1:=a6.le
 refine .kn<|.seq<|.block<|.sr<|.fa rfl<|.lo rfl<|.mo rfl ?_
 refine .bx i J a (λf0=>?_)
 refine .fa rfl<|.lo rfl ?_
 refine .aY (QE B 40 _) (λu hu=>?_)
 subst hu
 refine .q .cR ?_
 refine .bX (λb5=>?_)
 refine .bP rfl rfl<|.zs<|.sr<|.az rfl<|.block ?_
 refine .cz [(1,_),(2,_),(3,_),(4,_),(5,_)] (X:=Nat×Value×List cv×ay) (λy=>(y.1<=6/\y.1<=m.length)/\OS 167 3 cv.enc y.2.1 y.2.2.1 y.2.2.2/\(∀r∈y.2.2.1,r.is R)/\y.2.2.1.map (·.r)=((m.take y.1).map (·.r)).map qA) (λy E=>(6,iN y.1)::E) (λy G=>y.2.2.2::bl b5 [.string (short B 40),y.2.1] 164::G) (λy=>6-y.1) (0,sZ,[],[]) ⟨⟨by simp,by simp⟩,OS.nil,λs a=>(by cases a),by simp⟩ kE.c.c.c.c.c.c bf.eL ?_
 rintro⟨k,w2,L2,T2⟩ ⟨⟨c5,hk⟩,a2,U,a1⟩
 simp only at c5 hk a2 U a1⊢
 have c9:=a2.ap
 have d7:L2.length=k:=by have:=congrArg List.length a1;rw[List.length_map,List.length_map,List.length_map,List.length_take]at this;omega
 refine .seq<|.seq ?_
 refine bz.cS [(1,_),(2,_),(3,_),(4,_),(5,_),(6,_)] kE.c.c.c.c.c.c (X:=Unit) (λ_=>True) (λ_ E=>(44,.bool (decide (k<m.length/\k<6)))::E) (λ_=>[T2,bl b5 [.string (short B 40),w2] 164,M,C,bl D [w,sZ] 25,bl Q [sZ,sZ] 25,bl O [vs,vc] 25]) ?_ ?_
 refine .region<|.mo rfl<|.fa rfl<|.lo rfl<|.mo rfl ?_
 refine .bx i J a (λf1=>?_)
 refine .fa rfl<|.lo rfl<|.q (.bH a6) ?_
 refine .q .lss<|.mo rfl ?_
 refine .split (t:=41) rfl (λI=>?_) (λI=>?_)
 refine .gT I<|.mo rfl<|.gT I<|.q .lss<|.q (.aT I) ?_
 refine .nil ?_
 ·exact aF () trivial (kE.c.c.c.c.c.c.bU rfl (by clear f U;grind)) rH
 refine .gF I<|.gF I<|.q (.aS I) ?_
 refine .nil ?_
 ·exact aF () trivial (kE.c.c.c.c.c.c.bU rfl (by clear f U;grind)) rH
 intro y l
 refine av ?_
 refine .cond rfl (λh2=>?_) λh2=>?_
 obtain⟨a9,c7⟩:=bS h2
 obtain⟨⟨vt,vn,r⟩,Y⟩:=bL a9
 have a5:=b6.all _ (aO Y)
 have a7:RS R 2 Ty.enc vt r.types:=a5.t
 have a4:RS R 5 Nd.enc vn r.nodes:=a5.d
 have e6:=a7.ap
 have e4:=a4.ap
 have e2:ca (cv.enc ⟨vt,vn,r⟩):=⟨a5.cT⟩
 refine .kn<|.seq<|.block<|.sr<|.fa rfl<|.lo rfl<|.mo rfl ?_
 refine .bx i J a (λf2=>?_)
 refine .fa rfl<|.lo rfl<|.mo rfl ?_
 refine .bx k a6 Y (λf3=>?_)
 refine .q (.aM rfl) ?_
 refine .bX (λb7=>?_)
 refine .bP rfl rfl<|.zs<|.sr<|.fa rfl<|.lo rfl<|.q (.bH a7) ?_
 refine .q .gtr<|.zn ?_
 refine bz.cS [(1,_),(2,_),(3,_),(4,_),(5,_),(6,_),(7,_)] kE.c.c.c.c.c.c.c (X:=Value) (λv=>RS R 2 Ty.enc v (r.types.take 9)) (λ_ E=>E) (λv=>[bl b7 [.string r.name,v,vn] 167,T2,bl b5 [.string (short B 40),w2] 164,M,C,bl D [w,sZ] 25,bl Q [sZ,sZ] 25,bl O [vs,vc] 25]) ?_ ?_
 refine .cond rfl (λh3=>?_) λh3=>?_
 refine .region<|.fa rfl<|.lo rfl ?_
 refine .oJ 0 9 a7 rfl ⟨_,rfl⟩ (by omega) (by have:=bS h3;omega) (λv2 a0=>?_)
 have d0:=a0.ap
 refine .fa rfl<|.dZ rfl rfl<|.nil ?_
 ·exact aF v2 (by simpa using a0) kE.c.c.c.c.c.c.c rH
 refine .skip ?_
 ·exact aF vt (by rw[dw (gd h3)];exact a7) kE.c.c.c.c.c.c.c rH
 intro x hx
 have b9:RS R 2 Ty.enc x (r.types.take 9):=hx
 clear hx
 obtain⟨xt,rfl⟩:∃z,z=x:=⟨_,rfl⟩
 have e8:=b9.ap
 refine av<|.seq<|.sr<|.fa rfl<|.lo rfl<|.q (.bH a4) ?_
 refine .q .gtr<|.zn ?_
 refine bz.cS [(1,_),(2,_),(3,_),(4,_),(5,_),(6,_),(7,_)] kE.c.c.c.c.c.c.c (X:=Value) (λv=>RS R 5 Nd.enc v (r.nodes.take 66)) (λ_ E=>E) (λv=>[bl b7 [.string r.name,xt,v] 167,T2,bl b5 [.string (short B 40),w2] 164,M,C,bl D [w,sZ] 25,bl Q [sZ,sZ] 25,bl O [vs,vc] 25]) ?_ ?_
 refine .cond rfl (λh4=>?_) λh4=>?_
 refine .region<|.fa rfl<|.lo rfl ?_
 refine .oJ 0 66 a4 rfl ⟨_,rfl⟩ (by omega) (by have:=bS h4;omega) (λv2 a0=>?_)
 have d0:=a0.ap
 refine .fa rfl<|.dZ rfl rfl<|.nil ?_
 ·exact aF v2 (by simpa using a0) kE.c.c.c.c.c.c.c rH
 refine .skip ?_
 ·exact aF vn (by rw[dw (gd h4)];exact a4) kE.c.c.c.c.c.c.c rH
 intro x hx
 have b8:RS R 5 Nd.enc x (r.nodes.take 66):=hx
 have e7:=b8.ap
 have b4:cv.is R ⟨xt,x,qA r⟩:=a5.taken (λb o e=>e) b9 b8
 refine av<|.sr<|.fa rfl<|.lo rfl<|.az rfl<|.region<|.mo rfl<|.q (.aM rfl) ?_
 refine .ej (λd2=>?_)
 refine .append a2 (RS.lits (xs:=[(⟨xt,x,qA r⟩:cv)]) rfl (by simp[cv.enc]) (by intro y l;rw[List.mem_singleton]at l;subst l;exact b4.cT)) (by simp only[List.length_singleton];omega) (λv5 N g=>?_)
 have i5:=g.ap
 refine .fa rfl<|.dZ rfl rfl<|.nil<|aV<|av<|.region<|.mo rfl ?_
 refine .ia (k+1) .add ?_
 refine .ag rfl<|.nil ?_
 ·exact aW (k+1,v5,L2++[⟨xt,x,qA r⟩],N) ⟨⟨c7,a9⟩,g,λq hq=>by
   rcases List.mem_append.1 hq with hq|hq
   ·exact U q hq
   ·rw[List.mem_singleton]at hq;subst hq;exact b4,by simp only;rw[dG Y,List.map_append,List.map_append,List.map_append,a1];rfl⟩ (by simp only;omega) kE.c.c.c.c.c.c (aQ [2,2,2,2,2,2,2])
 refine .exit<|bm<|bs<|bo<|av<|.sr<|.fa rfl<|.lo rfl<|.az rfl<|.region<|.mo rfl<|.q (.aM rfl) ?_
 refine .ej (λd3=>?_)
 refine .append hO (RS.lits (xs:=[(⟨short B 40,w2,L2⟩:cy)]) rfl (by simp[cy.enc]) (by intro y l u hu;rw[List.mem_singleton]at l;subst l;simp only[cy.enc,List.mem_cons,List.not_mem_nil,or_false]at hu;rcases hu with rfl|rfl;rfl;exact c9.h)) (by simp only[List.length_singleton];omega) (λv5 N g=>?_)
 have i5:=g.ap
 refine .fa rfl<|.dZ rfl rfl<|.nil<|aV<|av<|.region<|.mo rfl ?_
 refine .ia (i+1) .add ?_
 refine .ag rfl<|.nil ?_
 ·exact aW (i+1,v5,L++[⟨short B 40,w2,L2⟩],N,T2++C) ⟨⟨c8,b0⟩,g,λq hq=>by
   rcases List.mem_append.1 hq with hq|hq
   ·exact(f q hq).mono λb o e=>e.elim .inl λe=>.inr (List.mem_append_right _ e)
   ·rw[List.mem_singleton]at hq
    subst hq
    refine⟨?_,a2.rs λp W=>.inr (List.mem_append_left _ W),λr Y=>(U r Y).mono λb o e=>.inl e⟩
    have:=QD (s:=B) (n:=40)
    simp only
    omega,by
   simp only
   rw[dG a,List.map_append,List.map_append,List.map_append,V]
   have c6:m.take k=m.take 6:=by
    have d5:=bA h2
    by_cases h6:k=6
    ·rw[h6]
    ·rw[dw (show m.length<=k by omega),dw (show m.length<=6 by omega)]
   simp only[List.map_cons,List.map_nil]
   congr 1
   unfold cy.plain rW
   simp only
   rw[a1,c6]
   simp[List.map_take]⟩ (by simp only;omega) kE.c.c.c.c ((aQ [3,1,2,2,2,2]).trans (bf.fq (by simp[take,bJ,dc,bN.enc])))
 have c1:K.take i=K.take 5:=by
  have d4:=bA h1
  by_cases S:i=5
  ·rw[S]
  ·rw[dw (show K.length<=i by omega),dw (show K.length<=5 by omega)]
 rw[c1]at V
 refine .exit<|bm<|bs<|bo<|av<|.seq<|.sr<|.az rfl<|.block ?_
 refine .cz [(1,_),(2,_),(3,_)] (X:=Nat×Value×ay) (λy=>(y.1<=5/\y.1<=A.length)/\OS 169 4 Sc.enc y.2.1 (A.take y.1) y.2.2) (λy E=>(10,iN y.1)::E) (λy G=>y.2.2::M::C::bl D [w,y.2.1] 25::G) (λy=>5-y.1) (0,sZ,[]) ⟨⟨by simp,by simp⟩,OS.nil⟩ kE.c.c.c.c bf.eL ?_
 rintro⟨j,w3,T3⟩ ⟨⟨c2,hj⟩,a3⟩
 simp only at c2 hj a3⊢
 have e3:=a3.ap
 refine .seq<|.seq ?_
 refine bz.cS [(1,_),(2,_),(3,_),(10,_)] kE.c.c.c.c (X:=Unit) (λ_=>True) (λ_ E=>(94,.bool (decide (j<A.length/\j<5)))::E) (λ_=>[T3,M,C,bl D [w,w3] 25,bl Q [sZ,sZ] 25,bl O [vs,vc] 25]) ?_ ?_
 refine .region<|.mo rfl<|.fa rfl<|.lo rfl<|.q (.bH Z) ?_
 refine .q .lss<|.mo rfl ?_
 refine .split (t:=91) rfl (λF=>?_) (λF=>?_)
 refine .gT F<|.mo rfl<|.gT F<|.q .lss<|.q (.aT F) ?_
 refine .nil ?_
 ·exact aF () trivial (kE.c.c.c.c.bU rfl (by clear f;grind)) rH
 refine .gF F<|.gF F<|.q (.aS F) ?_
 refine .nil ?_
 ·exact aF () trivial (kE.c.c.c.c.bU rfl (by clear f;grind)) rH
 intro y l
 refine av ?_
 refine .cond rfl (λS=>?_) λS=>?_
 obtain⟨a8,c4⟩:=bS S
 obtain⟨s,a⟩:=bL a8
 refine .kn<|.seq<|.block<|.sr<|.fa rfl<|.lo rfl<|.az rfl<|.region<|.mo rfl<|.fa rfl<|.lo rfl<|.mo rfl ?_
 refine .bx j Z a (λe9=>?_)
 refine .q (.aM rfl) ?_
 refine .ej (λd1=>?_)
 refine .append a3 (RS.lits (xs:=[s]) rfl (by simp[Sc.enc]) (by simp[Sc.enc,ap])) (by simp only[List.length_take,List.length_singleton];omega) (λv5 N g=>?_)
 have i5:=g.ap
 refine .fa rfl<|.dZ rfl rfl<|.nil<|aV<|av<|.region<|.mo rfl ?_
 refine .ia (j+1) .add ?_
 refine .ag rfl<|.nil ?_
 ·exact aW (j+1,v5,N) ⟨⟨c4,a8⟩,by simp only;rw[dG a];exact g⟩ (by simp only;omega) kE.c.c.c.c (aQ [1,1,1,1,1,1])
 refine .exit<|bm<|bs<|bo<|av<|.sr<|.q (.aM rfl)<|.bP rfl rfl<|.zn ?_
 refine .ret (bp _ (.one (.fB rfl rfl)) (.one [1,1,0] _) ?_)
 ·refine⟨_,rfl,⟨w,w3,L,A.take j⟩,rfl,⟨hO.rs λp W=>.inr (by simp[take,bJ,W]),a3.rs λp W=>.inr (by simp[take,bJ,W]),λs a=>(f s a).mono λb o e=>e.elim .inl λe=>.inr (by simp[take,bJ,e]),λs a=>h.fc s (List.mem_of_mem_take a)⟩,?_⟩
  have c3:A.take j=A.take 5:=by
   have d6:=bA S
   by_cases h6:j=5
   ·rw[h6]
   ·rw[dw (show A.length<=j by omega),dw (show A.length<=5 by omega)]
  unfold bN.plain iG
  simp only
  rw[V,c3,List.map_take]
namespace LIN
theorem nY(v:Value)(xs:List Nat)(R:aB)(h:RS R 1 cM v xs)(i:xs.length<=1000000):
  Spec prog 143 [v] R [] λv' H'=>∃T,H'=[T]/\OS 3 1 cM v' xs T:=by
 obtain⟨b,d,rfl⟩:=h.val
 have f:∀H,RS (Rx R H) 1 cM (.slice b xs.length d) xs:=λH=>h.rx
 refine Spec.gu (H':=[[]]) (by simp)<|Spec.body Tryz.func143 rfl Tryz.results143 Tryz.ntmps143 rfl<|.sr<|.ag rfl<|.zs<|.sr<|.mo rfl<|.q (.rU rfl rfl)<|.zn<|.cond rfl (λa=>?_) λa=>?_
 refine .sr<|.az rfl<|.ret (aH (bp _ (.one (.tmp rfl)) (.one [0] _) ?_))
 ·obtain rfl:b=none:=by simpa using a
  have:=h.sP
  subst this
  exact⟨[],rfl,OS.nil⟩
 refine .kn<|.sr ?_
 refine .rM (λg=>?_)
 refine .mo rfl ?_
 refine .append (OS.empty (enc:=cM) (sz:=1)) (f _) (by simp;omega) (λv' c e=>?_)
 refine .az rfl<|.ret (bp _ (.one (.tmp rfl)) (.one [0] _) ?_)
 ·exact⟨c,by simp[take],by simpa using e⟩
end LIN
def bN.uG(c:bN):Prop:=c.iI/\c.qz/\c.scopes.length<=16
theorem yU{c:bN}(h:c.plain.right isWord dj=true):c.uG:=by
 obtain⟨b,d⟩:=rX h
 refine⟨b,yT d,?_⟩
 have a:c.plain.lH isWord=false:=by
  unfold Cf.right at h
  simp only[Bool.and_eq_true,Bool.not_eq_true']at h
  exact h.2
 rw[qL]at a
 simp only[Bool.or_eq_false_iff,decide_eq_false_iff_not,Nat.not_lt]at a
 exact a.1.2
theorem yh(c:bN)(R:aB)(h:c.is R)(hf:c.uG):Spec prog 68 [.agg c.enc.toArray] R [] λu H'=>∃T,H'=[T]/\∃c':bN,u=.agg c'.enc.toArray/\c'.is (sg T)/\c'.plain=c.plain:=by
 obtain⟨⟨b4,a4⟩,h8,b0⟩:=hf
 obtain⟨vs,vc,O,a7⟩:=c
 have F:=h.ss
 have a0:=h.sc
 have i1:=F.ap
 have i2:=a0.ap
 simp only at F a0 i1 i2 b4 a4 b0
 have c4:=F.le
 refine Spec.body Tryz.func68 rfl Tryz.results68 Tryz.ntmps68 rfl ?_
 refine .sr ?_
 refine .bY rfl (λb1=>?_)
 refine .bX (λb2=>?_)
 refine .z ?_
 refine .bX (λb3=>?_)
 refine .zs<|.sr<|.fa rfl<|.lo rfl<|.q (.bH F) ?_
 refine .mo rfl<|.zn<|.block ?_
 refine .cz [(1,_),(2,_),(3,_),(10,_),(11,_)] (X:=Nat×Value×List cy×ay×ay) (λy=>y.1<=O.length/\OS 164 2 cy.enc y.2.1 y.2.2.1 y.2.2.2.1/\(∀s∈y.2.2.1,s.is (sg y.2.2.2.2))/\y.2.2.1.map (·.plain)=(O.take y.1).map (·.plain)) (λy E=>(12,iN y.1)::E) (λy G=>y.2.2.2.1::y.2.2.2.2::bl b3 [y.2.1,sZ] 25::G) (λy=>O.length-y.1) (0,sZ,[],[],[]) ⟨by simp,OS.nil,λs e=>(by cases e),by simp⟩ kE.c.c.c.c.c.c bf.jy ?_
 rintro⟨i,w,L,To,Ti⟩ ⟨hi,J,Y,C⟩
 simp only at hi J Y C⊢
 have io:=J.ap
 have c3:L.length=i:=by have:=congrArg List.length C;rw[List.length_map,List.length_map,List.length_take]at this;omega
 refine .sr<|.q .lss<|.zs ?_
 refine .cond rfl (λV=>?_) λV=>?_
 have a2:i<O.length:=cb V
 obtain⟨⟨x,sv,j⟩,e⟩:=bL a2
 have N:=h.all _ (aO e)
 have M:RS R 3 cv.enc sv j:=N.rs
 have c8:=M.ap
 have c5:=M.le
 have d0:ca (cy.enc ⟨x,sv,j⟩):=⟨N.cT⟩
 have a9:=a4 _ (aO e)
 simp only at a9
 refine .kn<|.seq<|.block<|.sr ?_
 refine .bx i F e (λd4=>?_)
 refine .q (.aM rfl) ?_
 refine .bX (λb5=>?_)
 refine .bP rfl rfl<|.z<|.fa rfl<|.lo rfl ?_
 refine .q .cR ?_
 refine .bX (λb6=>?_)
 refine .bP rfl rfl<|.zs<|.sr<|.fa rfl<|.lo rfl<|.q (.bH M) ?_
 refine .mo rfl<|.zn<|.block ?_
 refine .cz [(1,_),(2,_),(3,_),(6,_),(10,_),(11,_),(12,_),(20,_),(21,_)] (X:=Nat×Value×List cv×ay×ay) (λy=>y.1<=j.length/\OS 167 3 cv.enc y.2.1 y.2.2.1 y.2.2.2.1/\(∀r∈y.2.2.1,r.is (sg y.2.2.2.2))/\y.2.2.1.map (·.r)=(j.take y.1).map (·.r)) (λy E=>(22,iN y.1)::E) (λy G=>y.2.2.2.1::y.2.2.2.2::bl b6 [.string x,y.2.1] 164::G) (λy=>j.length-y.1) (0,sZ,[],[],[]) ⟨by simp,OS.nil,λs e=>(by cases e),by simp⟩ kE.c.c.c.c.c.c.c.c.c.c bf.jy ?_
 rintro⟨k,w2,A,T2,S⟩ ⟨hk,K,Z,D⟩
 simp only at hk K Z D⊢
 have b9:=K.ap
 have c2:A.length=k:=by have:=congrArg List.length D;rw[List.length_map,List.length_map,List.length_take]at this;omega
 refine .sr<|.q .lss<|.zs ?_
 refine .cond rfl (λW=>?_) λW=>?_
 have a1:k<j.length:=cb W
 obtain⟨⟨vt,vn,r⟩,l⟩:=bL a1
 have m:=N.all _ (aO l)
 have a5:RS R 2 Ty.enc vt r.types:=m.t
 have a3:RS R 5 Nd.enc vn r.nodes:=m.d
 have c9:=a5.ap
 have c7:=a3.ap
 have c6:ca (cv.enc ⟨vt,vn,r⟩):=⟨m.cT⟩
 obtain⟨b7,a8,_⟩:=h8 _ (aO e) _ (aO l)
 simp only at b7 a8
 refine .kn<|.seq<|.block<|.sr ?_
 refine .bx k M l (λd5=>?_)
 refine .q (.aM rfl) ?_
 refine .bX (λb8=>?_)
 refine .bP rfl rfl<|.zn ?_
 refine bz.cS [(1,_),(2,_),(3,_),(6,_),(10,_),(11,_),(12,_),(20,_),(21,_),(22,_)] kE.c.c.c.c.c.c.c.c.c.c (X:=(Value×ay)×(Value×ay)×(Value×ay)) (λy=>OS 167 3 cv.enc y.1.1 (A++[(⟨y.2.1.1,y.2.2.1,r⟩:cv)]) y.1.2/\OS 249 2 Ty.enc y.2.1.1 r.types y.2.1.2/\OS 199 5 Nd.enc y.2.2.1 r.nodes y.2.2.2) (λ_ E=>E) (λy=>[y.1.2,y.2.1.2,y.2.2.2,S,bl b6 [.string x,y.1.1] 164,bl b5 (cy.enc ⟨x,sv,j⟩) 164,To,Ti,bl b3 [w,sZ] 25,bl b2 [sZ,sZ] 25,bl b1 [vs,vc] 25]) ?_ ?_
 refine .cL [12,14] mixed ?_
 refine .tO 0 rfl (.fieldAddr rfl)<|.tO 1 rfl (.bZ rfl)<|.tO 2 rfl (.fieldAddr rfl)<|.tO 3 rfl (.bZ rfl)<|.tO 4 rfl (.fieldAddr rfl)<|.tO 5 rfl (.bZ rfl)<|.tO 7 rfl (.fieldAddr rfl)<|.tO 8 rfl (.bZ rfl) ?_
 refine .sT 6 rfl ?_
 refine .cO (LTY.nY vt r.types _ a5.rx (by omega)) (λut U v=>?_)
 obtain⟨pt,ct,rfl,_⟩:=v.shape
 have d3:=v.ap
 refine .nil (Next.sub ?_)
 refine .sT 9 rfl ?_
 refine .cO (LND.nY vn r.nodes _ a3.rx (by omega)) (λun Q p=>?_)
 obtain⟨pn,cn,rfl,_⟩:=p.shape
 have d2:=p.ap
 refine .nil (Next.sub ?_)
 refine .tO 10 rfl .cR ?_
 refine .sT 11 rfl ?_
 refine .ej (λc0=>?_)
 refine .nil (Next.sub ?_)
 refine .sT 12 rfl ?_
 refine .append K (RS.lits (xs:=[(⟨.slice pt r.types.length ct,.slice pn r.nodes.length cn,r⟩:cv)]) rfl (by simp[cv.enc]) (by intro y g u H;rw[List.mem_singleton]at g;subst g;simp only[cv.enc,List.mem_cons,List.not_mem_nil,or_false]at H;rcases H with rfl|rfl|rfl<;>rfl)) (by simp only[List.length_singleton];omega) (λI B f=>?_)
 have i5:=f.ap
 refine .nil (Next.mod rfl ?_)
 refine .tK 13 rfl (.gz rfl) ?_
 refine .sT 14 rfl ?_
 refine .dZ rfl rfl ?_
 refine .nil (Next.mod rfl ?_)
 refine RA.nil (by kernel_rfl) ?_
 ·exact aF ((I,B),(_,U),(_,Q)) ⟨f,v,p⟩ ((((((((((kE.d rfl).d rfl).d rfl).d rfl).d rfl).d rfl).d rfl).d rfl).d rfl).d rfl) (aQ [4,2,1,2,2,2,2,2,2,2,2])
 intro y g
 obtain⟨⟨I,B⟩,⟨ut,U⟩,⟨un,Q⟩⟩:=y
 obtain⟨f,v,p⟩:=g
 simp only at f v p⊢
 have i5:=f.ap
 refine aV<|av<|.region ?_
 refine .ia (k+1) .add ?_
 refine .mo rfl<|.nil ?_
 ·exact aW (k+1,I,A++[⟨ut,un,r⟩],B,U++(Q++S)) ⟨a1,f,λq hq=>by
   rcases List.mem_append.1 hq with hq|hq
   ·exact(Z q hq).mono λb o a=>iM (iM a)
   ·rw[List.mem_singleton]at hq
    subst hq
    exact⟨m.n,v.sg.mono λb o a=>jO a,p.sg.mono λb o a=>iM (jO a),m.ft,m.fd⟩,by simp only;rw[dG l,List.map_append,List.map_append,D];rfl⟩ (by simp only;omega) kE.c.c.c.c.c.c.c.c.c.c (bf.fq (by simp[dc,bN.enc,cy.enc]))
 rw[dw (gd W)]at D
 refine .exit<|bm<|bs<|bo<|av<|.region<|.fa rfl<|.lo rfl<|.q (.aM rfl) ?_
 refine .ej (λc1=>?_)
 refine .append J (RS.lits (xs:=[(⟨x,w2,A⟩:cy)]) rfl (by simp[cy.enc]) (by intro y g u H;rw[List.mem_singleton]at g;subst g;simp only[cy.enc,List.mem_cons,List.not_mem_nil,or_false]at H;rcases H with rfl|rfl;rfl;exact b9.h)) (by simp only[List.length_singleton];omega) (λI B f=>?_)
 have i5:=f.ap
 refine .fa rfl<|.dZ rfl rfl<|.nil<|aV<|av<|.region ?_
 refine .ia (i+1) .add ?_
 refine .mo rfl<|.nil ?_
 ·exact aW (i+1,I,L++[⟨x,w2,A⟩],B,T2++(S++Ti)) ⟨a2,f,λq hq=>by
   rcases List.mem_append.1 hq with hq|hq
   ·exact(Y q hq).mono λb o a=>iM (iM a)
   ·rw[List.mem_singleton]at hq
    subst hq
    exact⟨N.n,K.sg.mono λb o a=>jO a,λr l=>(Z r l).mono λb o a=>iM (jO a)⟩,by
   simp only
   rw[dG e,List.map_append,List.map_append,C]
   simp only[List.map_cons,List.map_nil]
   congr 1
   unfold cy.plain
   simp only
   rw[D]⟩ (by simp only;omega) kE.c.c.c.c.c.c ((aQ [5,1,1,3,3,3,3]).trans (bf.fq (by simp[take,bJ,dc,bN.enc])))
 rw[dw (gd V)]at C
 refine .exit<|bm<|bs<|bo<|av<|.sr<|.fa rfl<|.lo rfl ?_
 refine .cO (LSC.nY vc a7 _ a0.rx (by omega)) (λuc Tc a6=>?_)
 have d1:=a6.ap
 refine .fa rfl<|.dZ rfl rfl<|.z<|.q (.aM rfl)<|.bP rfl rfl<|.zn ?_
 refine .ret (bp _ (.one (.fB rfl rfl)) (.one [1,1,0] _) ?_)
 ·refine⟨_,rfl,⟨w,uc,L,a7⟩,rfl,⟨J.sg.mono λb o a=>?_,a6.sg.mono λb o a=>?_,λs e=>(Y s e).mono λb o a=>?_,h.fc⟩,?_⟩
  ·simp only[take,bJ,List.getD_cons_zero,List.getD_cons_succ,List.flatten_cons,List.flatten_nil,List.append_nil];exact jO a
  ·simp only[take,bJ,List.getD_cons_zero,List.getD_cons_succ,List.flatten_cons,List.flatten_nil,List.append_nil];exact iM (iM a)
  ·simp only[take,bJ,List.getD_cons_zero,List.getD_cons_succ,List.flatten_cons,List.flatten_nil,List.append_nil];exact iM (jO a)
  ·unfold bN.plain;simp only;rw[C]
def cv.zero:cv:=⟨sZ,sZ,⟨⟨#[]⟩,[],[]⟩⟩
def mV(c:bN)(t:Ty)(r:cv)(ok:Bool):Prop:=match bW c.plain.all t with
 |none=>ok=false/\r=cv.zero
 |some j=>ok=true/\∃p s,c.bg[p.1]? =some s/\s.bR[p.2]? =some r/\c.ix p=j
theorem ze{l:List (ByteArray×Rl)}{t:Ty}(h:∀j x,j<l.length->l[j]? =some x->dY x≠t):bW l t=none:=by
 unfold bW
 rw[List.findIdx?_eq_none_iff]
 intro x b
 obtain⟨j,a,e⟩:=List.mem_iff_getElem.1 b
 have:=h j x a (by rw[aX a,e])
 simpa using this
theorem zf{l:List (ByteArray×Rl)}{t:Ty}{i:Nat}{x:ByteArray×Rl}(d:l[i]? =some x)(b:dY x=t)(h:∀j y,j<i->l[j]? =some y->dY y≠t):bW l t=some i:=by
 obtain⟨c,e⟩:=List.getElem?_eq_some_iff.1 d
 unfold bW
 rw[List.findIdx?_eq_some_iff_getElem]
 refine⟨c,by rw[e];exact decide_eq_true b,λj a=>?_⟩
 have:=h j _ a (aX (by omega))
 simpa using this
theorem Bu(c:bN)(R:aB)(h:c.is R)(f b:ByteArray):Spec prog 144 [.agg c.enc.toArray,.string f,.string b] R [] λu H'=>H'=[]/\∃r ok,u=.tuple [.agg r.enc.toArray,.bool ok].toArray/\mV c ⟨f,b⟩ r ok:=by
 have B:=h.ss
 have i1:=B.ap
 have i2:One c.vc:=RS.ap h.sc
 have b2:=B.le
 have a2:=h.all
 have a8:=oT c.plain
 have a7:c.plain.bg.length=c.bg.length:=by unfold bN.plain;simp
 have a6:∀(i:Nat) (s:cy),c.bg[i]? =some s->c.plain.bg[i]? =some s.plain:=λi s g=>oF g
 have a9:=λ(p:gl) (s:cy) (r:cv)=>oB (c:=c) (p:=p) (s:=s) (r:=r)
 have S:∀i k,c.ix (i,k)=cG c.plain.bg i+k:=λ_ _=>rfl
 have Q:∀r ok,mV c ⟨f,b⟩ r ok=(match bW c.plain.all ⟨f,b⟩with
  |none=>ok=false/\r=cv.zero
  |some j=>ok=true/\∃p s,c.bg[p.1]? =some s/\s.bR[p.2]? =some r/\c.ix p=j):=λ_ _=>rfl
 generalize hA:c.plain.all=A at *
 generalize J:cG c.plain.bg=of at *
 have a3:of 0=0:=by rw[<-J];cases c.plain.bg<;>rfl
 refine Spec.body Tryz.func144 rfl Tryz.results144 Tryz.ntmps144 rfl<|.sr ?_
 refine .bY rfl (λY=>?_)
 refine .bX (λZ=>?_)
 refine .ag rfl<|.zs<|.sr<|.fa rfl<|.lo rfl<|.q (.bH B)<|.mo rfl<|.zn<|.block<|.cz [(1,_),(2,_),(6,_),(13,_),(14,_)] (X:=Nat) (λi=>i<=c.bg.length/\∀j x,j<of i->A[j]? =some x->dY x≠⟨f,b⟩) (λi E=>(15,iN i)::E) (λ_ G=>G) (λi=>c.bg.length-i) 0 ⟨Nat.zero_le _,λj x o=>by rw[a3]at o;omega⟩ kE.c.c.c.c.c.c rH ?_
 rintro i ⟨hi,V⟩
 refine .sr<|.q .lss<|.zs<|.cond rfl (λH=>?_) λH=>?_
 have U:i<c.bg.length:=cb H
 obtain⟨⟨m,C,e⟩,g⟩:=bL U
 have N:=a2 _ (aO g)
 have w:RS R 3 cv.enc C e:=N.rs
 have b8:=w.ap
 have b4:=w.le
 have c1:ca (cy.enc ⟨m,C,e⟩):=⟨N.cT⟩
 have a5:=a6 i _ g
 have a4:=oD a5
 rw[J,show(cy.plain ⟨m,C,e⟩).bR.length=e.length by simp[cy.plain]]at a4
 refine .kn<|.seq<|.block<|.sr ?_
 refine .bx i B g (λc2=>?_)
 refine .q (.aM rfl) ?_
 refine .bX (λb9=>?_)
 refine .bP rfl rfl<|.z<|.fa rfl<|.lo rfl<|.q (.bH w)<|.mo rfl<|.zn<|.block<|.cz [(1,_),(2,_),(6,_),(9,_),(13,_),(14,_),(15,_),(20,_),(21,_)] (X:=Nat) (λk=>k<=e.length/\∀j x,j<of i+k->A[j]? =some x->dY x≠⟨f,b⟩) (λk E=>(22,iN k)::E) (λ_ G=>G) (λk=>e.length-k) 0 ⟨Nat.zero_le _,λj x o=>V j x (by omega)⟩ kE.c.c.c.c.c.c.c.c.c.c rH ?_
 rintro k ⟨hk,L⟩
 refine .sr<|.q .lss<|.zs<|.cond rfl (λn=>?_) λn=>?_
 have T:k<e.length:=cb n
 obtain⟨⟨F,D,r⟩,v⟩:=bL T
 have M:=N.all _ (aO v)
 have c0:One F:=RS.ap M.t
 have b7:One D:=RS.ap M.d
 have b5:ca (cv.enc ⟨F,D,r⟩):=⟨M.cT⟩
 have K:=a9 (i,k) _ _ g v
 rw[S]at K
 refine .kn<|.seq<|.block<|.sr ?_
 refine .bx k w v (λc3=>?_)
 refine .q (.aM rfl) ?_
 refine .bX (λW=>?_)
 refine .bP rfl rfl<|.zs ?_
 refine bz.cS [(1,_),(2,_),(6,_),(9,_),(11,_),(13,_),(14,_),(15,_),(20,_),(21,_),(22,_)] kE.c.c.c.c.c.c.c.c.c.c.c (X:=Unit) (λ_=>True) (λ_ E=>(35,.bool (decide (m=f)&&decide (r.name=b)))::E) (λ_=>[bl W (cv.enc ⟨F,D,r⟩) 167,bl b9 (cy.enc ⟨m,C,e⟩) 164,bl Z [.string ⟨#[]⟩,sZ,sZ] 167,bl Y c.enc 25]) ?_ ?_
 refine .region<|.fa rfl<|.lo rfl<|.mo rfl<|.q .dP<|.mo rfl<|.split (t:=30) rfl (λa=>?_) (λa=>?_)
 refine .gT a<|.fa rfl<|.gT a<|.lo rfl<|.gT a<|.mo rfl<|.gT a<|.q .dP<|.q (.aT a)<|.nil ?_
 ·exact aF () trivial (kE.c.c.c.c.c.c.c.c.c.c.c.bU rfl (by simp[n,a])) rH
 refine .gF a<|.gF a<|.gF a<|.gF a<|.q (.aS a)<|.nil ?_
 ·exact aF () trivial (kE.c.c.c.c.c.c.c.c.c.c.c.bU rfl (by simp[n,a])) rH
 intro y hy
 refine av<|.cond rfl (λI=>?_) λI=>?_
 refine .sr<|.q (.aM rfl)<|.bP rfl rfl<|.az rfl ?_
 refine .ret (bh (aH (cB (bh (bh (aH (cB (bh (aH (bp _ (.two (.fB rfl rfl) (.tmp rfl)) (.none _) ?_))))))))))
 ·refine⟨rfl,⟨F,D,r⟩,true,rfl,?_⟩
  have O:m=f/\r.name=b:=by simpa using I
  rw[Q,zf K (show(⟨m,r.name⟩:Ty)=_ by rw[O.1,O.2]) L]
  exact⟨rfl,(i,k),_,g,v,S i k⟩
 refine .skip<|aV<|av<|.region<|.ia (k+1) .add<|.mo rfl<|.nil ?_
 ·exact aW (k+1) ⟨T,λj x o l=>by
   rcases Nat.lt_or_ge j (of i+k)with hh|hh
   ·exact L j x hh l
   ·obtain rfl:j=of i+k:=by omega
    rw[K]at l
    cases l
    intro he
    injection he with e1 e2
    have a0:m=f:=e1
    have a1:r.name=b:=e2
    simp[a0,a1]at I⟩ (by omega) kE.c.c.c.c.c.c.c.c.c.c (aQ [1,1,1])
 have b1:k=e.length:=by have:=bA n;omega
 refine .exit<|bm<|bs<|bo<|aV<|av<|.region<|.ia (i+1) .add<|.mo rfl<|.nil ?_
 ·exact aW (i+1) ⟨U,λj x o l=>L j x (by omega) l⟩ (by omega) kE.c.c.c.c.c.c (aQ [1,1])
 refine .exit<|bm<|bs<|bo<|av<|.sr<|.q .cR<|.bP rfl rfl<|.az rfl ?_
 refine .ret (bp _ (.two (.fB rfl rfl) (.tmp rfl)) (.none _) ?_)
 ·refine⟨rfl,cv.zero,false,rfl,?_⟩
  have b0:of i=A.length:=by
   have:i=c.bg.length:=by have:=bA H;omega
   rw[this, <-a7, <-J, <-a8]
   rfl
  rw[Q,ze λj x o l=>V j x (by omega) l]
  exact⟨rfl,rfl⟩
theorem QC(t:Ty)(s:Sub)(R:aB):Spec prog 243 [.agg t.enc.toArray,.agg s.enc.toArray] R [] λu H'=>u=.bool (jL s t)/\H'=[]:=by
 obtain⟨e,d⟩:=t
 obtain⟨k,j,h,i⟩:=s
 refine Spec.body Tryz.func243 rfl Tryz.results243 Tryz.ntmps243 rfl<|.sr ?_
 refine .bY rfl (λf=>?_)
 refine .bY rfl (λg=>?_)
 refine .ag rfl<|.zs<|.sr<|.fa rfl<|.lo rfl<|.q .fU<|.zn<|.cond rfl (λc=>?_) λc=>?_
 refine .sr<|.q (.aM rfl)<|.q .cR<|.q (.cast (.mE (xs:=Ty.enc ⟨e,d⟩) (ys:=Ty.enc ⟨⟨#[]⟩,⟨#[]⟩⟩) rfl rfl (Ty.kinds _) (Ty.kinds _)) (congrArg Value.bool (Ty.eq _ _)))<|.az rfl<|.ret (aH (aP rfl ?_))
 ·refine⟨congrArg _ ?_,rfl⟩
  simp only[jL]
  grind
 refine .kn<|.sr<|.fa rfl<|.lo rfl<|.q .fU<|.mo rfl<|.split (t:=14) rfl (λa=>?_) (λa=>?_)
 refine .gT a<|.fa rfl<|.gT a<|.lo rfl<|.gT a<|.fa rfl<|.gT a<|.fa rfl<|.gT a<|.lo rfl<|.gT a<|.q .dP<|.q (.aT a)<|.mo rfl<|.split (t:=22) rfl (λb=>?_) (λb=>?_)
 refine .gT b<|.fa rfl<|.gT b<|.lo rfl<|.gT b<|.fa rfl<|.gT b<|.lo rfl<|.gT b<|.q .dP<|.q (.aT b)<|.az rfl<|.ret (aP rfl ?_)
 ·refine⟨congrArg _ ?_,rfl⟩
  simp only[jL]
  grind
 refine .gF b<|.gF b<|.gF b<|.gF b<|.gF b<|.q (.aS b)<|.az rfl<|.ret (aP rfl ?_)
 ·refine⟨congrArg _ ?_,rfl⟩
  simp only[jL]
  grind
 refine .gF a<|.gF a<|.gF a<|.gF a<|.gF a<|.gF a<|.q (.aS a)<|.mo rfl<|.gX<|.gX<|.gX<|.gX<|.gX<|.q .db<|.az rfl<|.ret (aP rfl ?_)
 ·refine⟨congrArg _ ?_,rfl⟩
  simp only[jL]
  grind
theorem Cw(t:Ty)(s:Sub)(b c d:Value)(q:Nat)(R:aB) [pc:PC R (pT q) (b::c::d::s.enc)]:Spec prog 242 [.agg t.enc.toArray,pT q] R [] λu H'=>u=.bool (jL s t)/\H'=[]:=by
 refine Spec.body Tryz.func242 rfl Tryz.results242 Tryz.ntmps242 rfl<|.sr ?_
 refine .bY rfl (λe=>?_)
 refine .ag rfl<|.z<|.q (.aM rfl)<|.fa rfl<|.q (.loadT rfl)<|.aY (QC t s _) (λu a=>?_)
 subst a
 refine .az rfl<|.ret (aP rfl ?_)
 ·exact⟨rfl,rfl⟩
theorem Cx(c:bN)(R:aB)(h:c.is R)(t:aE):Spec prog 189 [.agg c.enc.toArray,.agg t.enc.toArray] R [] λu H'=>u=.int .i64 (if allowed c.plain t.cJ t.sub then 0 else 14)/\H'=[]:=by
 have B:=Bu c R h t.os t.rel
 have n:=h.all
 have I:One c.vs:=RS.ap h.ss
 have J:One c.vc:=RS.ap h.sc
 have A:allowed c.plain t.cJ t.sub=match bW c.plain.all ⟨t.os,t.rel⟩with
  |none=>false
  |some i=>((c.plain.all.map (·.2.types)).getD i []).any (jL t.sub):=rfl
 refine Spec.body Tryz.func189 rfl Tryz.results189 Tryz.ntmps189 rfl<|.sr ?_
 refine .bY rfl (λF=>?_)
 refine .bY rfl (λk=>?_)
 refine .ag rfl<|.z<|.q (.aM rfl)<|.fa rfl<|.fa rfl<|.lo rfl<|.fa rfl<|.lo rfl<|.aY ((B.mono λu H' d=>⟨d.2,d.1⟩).weaken cZ) (λu d=>?_)
 obtain⟨r,C,rfl,b⟩:=d
 obtain⟨g,v,l⟩:∃g,RS R 2 Ty.enc r.vt g/\allowed c.plain t.cJ t.sub=(C&&g.any (jL t.sub)):=by
  rw[A]
  unfold mV at b
  cases hf:bW c.plain.all ⟨t.os,t.rel⟩with
  |none=>rw[hf]at b;obtain⟨rfl,rfl⟩:=b;exact⟨[],RS.fk,rfl⟩
  |some j=>
   rw[hf]at b
   obtain⟨rfl,p,s,f,e,o⟩:=b
   refine⟨r.r.types,((n _ (aO f)).all _ (aO e)).t,?_⟩
   have:=oB f e
   rw[o]at this
   simp only[Bool.true_and]
   rw[List.getD_eq_getElem?_getD,List.getElem?_map,this]
   rfl
 have H:ca r.enc:=by
  unfold mV at b
  cases hf:bW c.plain.all ⟨t.os,t.rel⟩with
  |none=>rw[hf]at b;obtain⟨_,rfl⟩:=b;exact⟨by simp[cv.enc,cv.zero,ap]⟩
  |some j=>rw[hf]at b;obtain⟨_,p,s,f,e,o⟩:=b;exact⟨((n _ (aO f)).all _ (aO e)).cT⟩
 obtain⟨D,L,r⟩:=r
 simp only at v
 refine .mo rfl<|.q .extract<|.q .extract ?_
 refine .bX (λG=>?_)
 refine .bP rfl rfl<|.ag rfl<|.zs<|.sr<|.mo rfl<|.q .not<|.mo rfl<|.split (t:=19) rfl (λa=>?_) (λa=>?_)
 refine .gF a<|.gF a<|.gF a<|.gF a<|.gF a<|.q (.aT a)<|.zn<|.iH<|.sr<|.az rfl<|.ret (aH (aP rfl ?_))
 ·refine⟨?_,rfl⟩
  rw[l,if_neg (by simp_all)]
 refine .gT a<|.fa rfl<|.gT a<|.lo rfl<|.gT a<|.q .makeFunc<|.gT a ?_
 refine .aY (LTY.jS 242 [pT k] (jL t.sub) D g _ v.rx (λy _ m x=>by
  have K:PC m (pT k) (.string t.os:: .string t.oi:: .string t.rel::t.sub.enc):=PC.of (E:=119) (fr:=(0,0)) (x _ _ (.inr (by simp[aE.enc,Sub.enc,aE.sub])))
  exact Cw y t.sub _ _ _ k m)) (λu d=>?_)
 subst d
 refine .gT a<|.q .not<|.q (.aS a)<|.zn<|.cond rfl (λw=>?_) λw=>?_
 refine .sr<|.az rfl<|.ret (aH (aP rfl ?_))
 ·refine⟨?_,rfl⟩
  rw[l,if_neg (by simp_all)]
 refine .kn<|.sr<|.az rfl<|.ret (aP rfl ?_)
 ·refine⟨?_,rfl⟩
  rw[l,if_pos (by simp_all)]
structure ep where
 rev:Int
 c:bN
 vn:Value
 ll:List fA
def ep.enc(e:ep):List Value:=[.int .u64 e.rev,e.c.vs,e.c.vc,e.vn]
structure ep.is(R:aB)(e:ep):Prop where
 c:e.c.is R
 n:NN R e.vn e.ll
 ok:(e.c.plain.numbers isWord dj).1=0
 eq:e.ll.map (·.2)=(e.c.plain.numbers isWord dj).2
theorem ep.is.mono{R R':aB}{e:ep}(h:e.is R)(a:∀b o,R b o->R' b o):e.is R':=⟨h.c.mono a,h.n.mono a,h.ok,h.eq⟩
theorem ep.is.cT{R:aB}{e:ep}(h:e.is R):∀u∈e.enc,ap u=true:=by
 have b:=h.c.ss.ap
 have d:=h.c.sc.ap
 have f:=h.n.rs.ap
 intro u a
 simp only[ep.enc,List.mem_cons,List.not_mem_nil,or_false]at a
 rcases a with rfl|rfl|rfl|rfl
 ·rfl
 ·exact b.h
 ·exact d.h
 ·exact f.h
theorem A3{c:Cf}(h:(c.numbers isWord dj).1=0):c.right isWord dj=true:=by
 cases hr:c.right isWord dj with
 |true=>rfl
 |false=>unfold Cf.numbers at h;rw[if_pos hr]at h;cases h
def HI(hb:Nat)(es:List ep)(gone:Nat)(T:ay):Prop:=∃vl Te Tp,T=(hb,.cells [.bool true,vl,iN gone].toArray 155 (0,0))::(Te++Tp)/\OS 159 4 ep.enc vl es Te/\∀e∈es,e.is (sg Tp)
structure HV(R:aB)(hb:Nat)(vl:Value)(es:List ep)(gone:Nat):Prop where
 pc:PC R (pT hb) [.bool true,vl,iN gone]
 rs:RS R 4 ep.enc vl es
 all:∀e∈es,e.is R
theorem HV.mono{R R':aB}{f:Nat}{g:Value}{c:List ep}{d:Nat}(h:HV R f g c d)(a:∀b o,R b o->R' b o):HV R' f g c d:=⟨h.pc.mono a,h.rs.mono a,λe i=>(h.all e i).mono a⟩
theorem HI.view{a:Nat}{d:List ep}{f:Nat}{T:ay}{R:aB}(h:HI a d f T)(c:∀p∈T,R p.1 p.2):∃vl,HV R a vl d f:=by
 obtain⟨vl,m,g,rfl,j,i⟩:=h
 refine⟨vl,PC.of (E:=155) (fr:=(0,0)) (c (a,_) (by simp)),j.rs λp l=>c p (by simp[l]),λe k=>(i e k).mono λb o a=>c (b,o) ?_⟩
 have:(b,o)∈g:=a
 simp[this]
theorem Nj(R:aB):Spec prog 48 [] R [] λu H'=>∃T,H'=[T]/\∃hb,u=pT hb/\HI hb [] 0 T:=by
 refine Spec.body Tryz.func48 rfl Tryz.results48 Tryz.ntmps48 rfl<|.sr<|.ag rfl<|.z<|.q .cR ?_
 refine .bY rfl (λa=>?_)
 refine .az rfl<|.ret (bp _ (.one (.tmp rfl)) (.one [0] _) ?_)
 ·exact⟨_,rfl,a,rfl,sZ,[],[],rfl,OS.nil,λe b=>(by cases b)⟩
section
variable{R:aB}{hb:Nat}{vl:Value}{es:List ep}{gone:Nat}
theorem HV.made(h:HV R hb vl es gone):Spec prog 66 [pT hb] R [] λu H'=>u=.bool true/\H'=[]:=by
 have b:=h.pc
 have a:=h.rs.ap
 refine Spec.body Tryz.func66 rfl Tryz.results66 Tryz.ntmps66 rfl<|.sr<|.ag rfl<|.z<|.mo rfl<|.q (.Aq rfl rfl)<|.mo rfl<|.gt rfl<|.mo rfl<|.gt rfl<|.nc rfl<|.gt rfl<|.fa rfl<|.gt rfl<|.lo rfl<|.q .cU<|.az rfl<|.ret (aP rfl ?_)
 ·exact⟨rfl,rfl⟩
def hl(es:List ep)(r:Int):Nat->Option Nat
 |0=>none
 |n+1=>match es[n]? with
  |some e=>if e.rev<=r then some n else hl es r n
  |none=>hl es r n
theorem sh{b:List ep}{r:Int}:∀{n i:Nat},hl b r n=some i->i<n/\∃e,b[i]? =some e
 |0,i,h=>by cases h
 |n+1,i,h=>by
  unfold hl at h
  split at h
  ·rename_i e d
   split at h
   ·cases h;exact⟨by omega,e,d⟩
   ·obtain⟨c,a⟩:=sh h;exact⟨by omega,a⟩
  ·obtain⟨c,a⟩:=sh h;exact⟨by omega,a⟩
theorem HV.last(h:HV R hb vl es gone)(r:Int):Spec prog 75 [pT hb,.int .u64 r] R [] λu H'=>u=.int .i64 (fI (hl es r es.length))/\H'=[]:=by
 have w:=h.pc
 have b:=h.rs
 have t:=b.ap
 have o:=b.le
 have k:=h.all
 refine Spec.body Tryz.func75 rfl Tryz.results75 Tryz.ntmps75 rfl<|.sr<|.ag rfl<|.zs<|.sr<|.mo rfl<|.aY (h.made.weaken cZ) (λu l=>?_)
 subst l
 refine .q .not<|.zn<|.cP<|.kn<|.sr<|.ag rfl<|.zs<|.sr<|.mo rfl<|.nc rfl<|.fa rfl<|.lo rfl<|.q (.bH b)<|.mo rfl<|.zn<|.block<|.cz [(1,_),(14,_),(15,_)] (X:=Nat) (λi=>i<=es.length) (λi E=>(16,iN i)::(5,.int .i64 (fI (hl es r i)))::E) (λ_ G=>G) (λi=>es.length-i) 0 (Nat.zero_le _) kE.c.c.c.c.c rH ?_
 rintro i n
 refine .sr<|.q .lss<|.zs<|.cond rfl (λd=>?_) λd=>?_
 have g:i<es.length:=cb d
 obtain⟨e,f⟩:=bL g
 have p:ca e.enc:=⟨(k e (aO f)).cT⟩
 have j:hl es r (i+1)=if e.rev<=r then some i else hl es r i:=by rw[hl,f]
 refine .kn<|.seq<|.block<|.sr<|.mo rfl ?_
 refine .bx i b f (λv=>?_)
 refine .q (.aM rfl) ?_
 refine .bX (λm=>?_)
 refine .ag rfl<|.bP rfl rfl<|.z<|.fa rfl<|.fa rfl<|.lo rfl<|.mo rfl<|.q .leq<|.zn ?_
 refine bz.cS [(1,_),(14,_),(15,_),(16,_)] kE.c.c.c.c (X:=Unit) (λ_=>True) (λ_ E=>(5,.int .i64 (fI (hl es r (i+1))))::E) (λ_=>[]) ?_ ?_
 refine .cond rfl (λa=>?_) λa=>?_
 refine .region<|.mo rfl<|.ag rfl<|.nil ?_
 ·exact aF () trivial (kE.c.c.c.c.kT rfl (by rw[j];first|rw[if_pos (bS a)];rfl|rw[if_neg (bA a)])) (bf.none _)
 refine .skip ?_
 ·exact aF () trivial (kE.c.c.c.c.kT rfl (by rw[j];first|rw[if_pos (bS a)];rfl|rw[if_neg (bA a)])) (bf.none _)
 intro x s
 refine aV<|av<|.region<|.ia (i+1) .add<|.mo rfl<|.nil ?_
 ·exact aW (i+1) g (by omega) kE.c.c.c.c.c rH
 refine .exit<|bm<|bs<|bo<|av<|.sr<|.mo rfl<|.az rfl<|.ret (aP rfl ?_)
 ·refine⟨?_,rfl⟩
  rw[show i=es.length by have:=bA d;omega]
def tS(es:List ep)(gone:Nat)(r:Int):Int:=match hl es r es.length with
 |none=>0
 |some i=>(gone+i+1:Nat)
def lB(es:List ep)(r:Int):Option ep:=(hl es r es.length).bind λi=>es[i]?
theorem HV.at_(h:HV R hb vl es gone)(r:Int)(x:gone<=1000000/\es.length<=1000000):Spec prog 27 [pT hb,.int .u64 r] R [] λu H'=>∃T,H'=[T]/\∃c':bN,u=.tuple [.agg c'.enc.toArray,.int .i64 (tS es gone r)].toArray/\c'.is (sg T)/\c'.plain=((lB es r).map (·.c.plain)).getD ⟨[],[]⟩:=by
 have L:=h.pc
 have j:=h.rs
 have K:=j.ap
 have G:=j.le
 have t:=h.all
 obtain⟨C,D⟩:=x
 refine Spec.body Tryz.func27 rfl Tryz.results27 Tryz.ntmps27 rfl<|.sr ?_
 refine .bX (λp=>?_)
 refine .ag rfl<|.z<|.mo rfl<|.mo rfl<|.aY ((h.last r).weaken cZ) (λu n=>?_)
 subst n
 refine .ag rfl<|.zs<|.sr<|.mo rfl<|.q .lss<|.zn<|.cond rfl (λb=>?_) λb=>?_
 have o:hl es r es.length=none:=by
  cases hh:hl es r es.length with
  |none=>rfl
  |some i=>rw[hh]at b;simp only[fI]at b;have:=bS b;omega
 refine .sr<|.q .cR<|.bP rfl rfl<|.az rfl ?_
 refine .ret (aH (bp _ (.two (.fB rfl rfl) (.tmp rfl)) bf.ke ?_))
 ·refine⟨[],rfl,⟨sZ,sZ,[],[]⟩,?_,⟨RS.fk,RS.fk,λs m=>(by cases m),λs m=>(by cases m)⟩,?_⟩
  ·unfold tS;rw[o];rfl
  ·unfold lB;rw[o];rfl
 obtain⟨i,g⟩:∃i,hl es r es.length=some i:=by
  cases hh:hl es r es.length with
  |none=>rw[hh]at b;simp[fI]at b
  |some i=>exact⟨i,rfl⟩
 obtain⟨F,e,f⟩:=sh g
 have l:=t e (aO f)
 have H:ca e.enc:=⟨l.cT⟩
 have v:=yh e.c R l.c (yU (A3 l.ok))
 have w:fI (hl es r es.length)=(i:Int):=by rw[g];rfl
 have M:=j.pc f
 rw[w]
 refine .kn<|.seq ?_
 refine bz.cS [(4,_)] kE.c (X:=bN×ay) (λy=>y.1.is (sg y.2)/\y.1.plain=e.c.plain) (λ_ E=>(5,.int .i64 ((gone+i+1:Nat):Int))::E) (λy=>[y.2,bl p y.1.enc 25]) ?_ ?_
 refine .cL [17] mixed<|.tO 0 rfl .move<|.tO 1 rfl (.nilCheck rfl)<|.tO 2 rfl (.fieldAddr rfl)<|.tO 3 rfl (.bZ rfl)<|.tO 4 rfl .move<|.tO 5 rfl (.bx i j f rfl rfl rfl)<|.tO 6 rfl (.fieldAddr rfl)<|.tO 7 rfl (.fieldAddr rfl)<|.tO 8 rfl (.loadT rfl)<|.tK 10 rfl .move<|.tK 11 rfl (.lI rfl)<|.tK 12 rfl (.gz rfl)<|.tK 13 rfl (.bZ rfl)<|.tK 14 rfl .move<|.take 15 rfl (.i64 ((gone+i:Nat):Int) .add ⟨by omega,by omega,by omega⟩) (by kernel_rfl)<|.take 16 rfl (.i64 ((gone+i+1:Nat):Int) .add ⟨by omega,by omega,by omega⟩) (by kernel_rfl)<|.sT 9 rfl<|.cO (v.weaken cZ) (λu k n=>?_)
 obtain⟨c',rfl,a,d⟩:=n
 have B:ca c'.enc:=⟨a.cT⟩
 have I:One c'.vs:=RS.ap a.ss
 have J:One c'.vc:=RS.ap a.sc
 refine .nil<|Next.sub<|.sT 17 rfl<|.bP rfl rfl<|.nil<|Next.mod rfl<|.tK 18 rfl .assign<|RA.nil (by kernel_rfl) ?_
 ·exact aF (c',k) ⟨a,d⟩ kE.c.c (by first|exact bf.refl _|exact bf.pick [0,0] _|exact aQ [1,0])
 intro y A
 obtain⟨c',k⟩:=y
 obtain⟨a,d⟩:=A
 simp only at a d⊢
 refine av<|.ret (bp _ (.two (.fB rfl rfl) (.tmp rfl)) (.one [0] _) ?_)
 ·refine⟨k,by simp[take],c',?_,a,?_⟩
  ·unfold tS;rw[g]
  ·unfold lB;rw[g,Option.bind_some,f];exact d
end
theorem HV.numbers{R:aB}{d:Nat}{vl:Value}{a:List ep}{O:Nat}(h:HV R d vl a O)(r:Int)(W:∀e∈a,e.ll.length<=1000000/\∀q∈e.ll,q.2.length<=1000000):Spec prog 82 [pT d,.int .u64 r] R [] λu H'=>∃T,H'=[T]/\∃ll,NN (sg T) u ll/\ll.map (·.2)=((lB a r).map λe=>e.ll.map (·.2)).getD []:=by
 have pc:=h.pc
 have B:=h.rs
 have il:=B.ap
 have a4:=B.le
 have Q:=h.all
 refine Spec.body Tryz.func82 rfl Tryz.results82 Tryz.ntmps82 rfl<|.sr<|.ag rfl<|.z<|.mo rfl<|.mo rfl<|.aY ((h.last r).weaken cZ) (λu l=>?_)
 subst l
 refine .ag rfl<|.zs<|.sr<|.mo rfl<|.q .lss<|.zn<|.cond rfl (λg=>?_) λg=>?_
 have s:hl a r a.length=none:=by
  cases hh:hl a r a.length with
  |none=>rfl
  |some i=>rw[hh]at g;simp only[fI]at g;have:=bS g;omega
 refine .sr<|.az rfl<|.ret (aH (bp _ (.one (.tmp rfl)) bf.ke ?_))
 ·refine⟨[],rfl,[],.nil,?_⟩
  unfold lB;rw[s];rfl
 obtain⟨i,x⟩:∃i,hl a r a.length=some i:=by
  cases hh:hl a r a.length with
  |none=>rw[hh]at g;simp[fI]at g
  |some i=>exact⟨i,rfl⟩
 obtain⟨a2,e,p⟩:=sh x
 have w:=Q e (aO p)
 have s:=w.n
 have A:=s.rs
 have inr:=A.ap
 obtain⟨a3,V⟩:=W e (aO p)
 have a5:One e.c.vs:=RS.ap w.c.ss
 have a6:One e.c.vc:=RS.ap w.c.sc
 have S:fI (hl a r a.length)=(i:Int):=by rw[x];rfl
 rw[S]
 refine .kn<|.sr<|.ag rfl<|.zs<|.sr<|.mo rfl<|.nc rfl<|.fa rfl<|.lo rfl<|.mo rfl ?_
 refine .bx i B p (λa7=>?_)
 refine .fa rfl<|.lo rfl<|.q (.bH A)<|.mo rfl<|.zn<|.block<|.cz [(21,_),(22,_)] (X:=Nat×Value×List fA×ay×ay) (λy=>y.1<=e.ll.length/\OS 182 1 dW y.2.1 y.2.2.1 y.2.2.2.1/\(∀q∈y.2.2.1,RS (sg y.2.2.2.2) 1 cM q.1 q.2)/\y.2.2.1.map (·.2)=(e.ll.take y.1).map (·.2)) (λy E=>(23,iN y.1)::(6,y.2.1)::E) (λy G=>y.2.2.2.1::y.2.2.2.2::G) (λy=>e.ll.length-y.1) (0,sZ,[],[],[]) ⟨Nat.zero_le _,OS.nil,λq f=>(by cases f),rfl⟩ kE.c.c.c.c bf.jy ?_
 rintro⟨k,vo,L,N,C⟩ ⟨U,m,v,j⟩
 simp only at U m v j⊢
 have io:=m.ap
 have a1:L.length=k:=by have:=congrArg List.length j;rw[List.length_map,List.length_map,List.length_take]at this;omega
 refine .sr<|.q .lss<|.zs<|.cond rfl (λt=>?_) λt=>?_
 have F:k<e.ll.length:=cb t
 obtain⟨q,f⟩:=bL F
 have H:=s.all q (aO f)
 have iq:=H.ap
 refine .kn<|.seq<|.block<|.sr ?_
 refine .bx k A f (λa8=>?_)
 refine .lo rfl<|.az rfl<|.region<|.mo rfl<|.mo rfl<|.cO (LIN.nY q.1 q.2 _ H.rx (V q (aO f))) (λu K l=>?_)
 have iu:=l.ap
 obtain⟨J,D,rfl,_⟩:=l.shape
 refine .gM (λa0=>?_)
 refine .append m (RS.lits (xs:=[((.slice J q.2.length D,q.2):fA)]) rfl (by simp[dW]) (by simp[dW,ap])) (by simp only[List.length_singleton];omega) (λZ M I=>?_)
 have i5:=I.ap
 refine .ag rfl<|.nil<|aV<|av<|.region<|.ia (k+1) .add<|.mo rfl<|.nil ?_
 ·exact aW (k+1,Z,L++[(.slice J q.2.length D,q.2)],M,K++C) ⟨F,I,λY hq'=>by
   rcases List.mem_append.1 hq' with hq'|hq'
   ·exact(v Y hq').mono λb o d=>iM d
   ·rw[List.mem_singleton]at hq'
    subst hq'
    exact l.sg.mono λb o d=>jO d,by simp only;rw[dG f,List.map_append,List.map_append,j];rfl⟩ (by simp only;omega) kE.c.c.c.c ((aQ [2,1,1]).trans (bf.fq (by simp[take,bJ])))
 refine .exit<|bm<|bs<|bo<|av<|.sr<|.mo rfl<|.az rfl<|.ret (bp _ (.one (.tmp rfl)) (.one [0,0] _) ?_)
 ·refine⟨N++C,by simp[take,bJ],L,⟨m.sg.mono λb o d=>jO d,λq f=>(v q f).mono λb o d=>iM d⟩,?_⟩
  rw[dw (gd t)]at j
  unfold lB;rw[x,Option.bind_some,p,j];rfl
def od(es:List ep)(rev:Int)(c:Cf):Int:=
 if(es.getLast?.map λe=>decide (rev<=e.rev)).getD false then 12 else if(c.numbers isWord dj).1≠0 then(c.numbers isWord dj).1 else if 16<=es.length then 8 else 0
theorem Nh(f:Nat)(d:List ep)(j:Nat)(T:ay)(h:HI f d j T)(c0:d.length<=1000)(rev:Int)(c:bN)(R:aB)(C:c.is R):
  Spec prog 20 [pT f,.int .u64 rev,.agg c.enc.toArray] R [T] λu H'=>∃T',H'=[T']/\u=.int .i64 (od d rev c.plain)/\(od d rev c.plain=0->∃e:ep,e.rev=rev/\e.c.plain=c.plain/\HI f (d++[e]) j T')/\(od d rev c.plain≠0->HI f d j T'):=by
 have b6:=OB c R C
 have b0:=yh c R C
 have i1:One c.vs:=RS.ap C.ss
 have i2:One c.vc:=RS.ap C.sc
 obtain⟨l,m,g,rfl,k,x⟩:=h
 have il:=k.ap
 have b7:(c.plain.numbers isWord dj).1=0->c.uG:=λv=>yU (A3 v)
 have D:od d rev c.plain=if(d.getLast?.map λe=>decide (rev<=e.rev)).getD false then 12 else if(c.plain.numbers isWord dj).1≠0 then(c.plain.numbers isWord dj).1 else if 16<=d.length then 8 else 0:=rfl
 generalize hk:od d rev c.plain=kc at *
 generalize a6:c.plain.numbers isWord dj=nn at *
 have a9:∀F:aB,(∀p∈((f,.cells [.bool true,l,iN j].toArray 155 (0,0))::(m++g):ay),F p.1 p.2)->HV F f l d j:=λF N=>by
  refine⟨PC.of (E:=155) (fr:=(0,0)) (N (f,_) (by simp)),k.rs λp hp=>N p (by simp[hp]),λe he=>(x e he).mono λb o f=>N (b,o) ?_⟩
  have:(b,o)∈g:=f
  simp[this]
 have O:∀w,HI f d j w↔∃l m g,w=(f,.cells [.bool true,l,iN j].toArray 155 (0,0))::(m++g)/\OS 159 4 ep.enc l d m/\∀e∈d,e.is (sg g):=λ_=>Iff.rfl
 refine Spec.gu (H':=[bl f [.bool true,l,iN j] 155,m,g]) (by simp)<|Spec.body Tryz.func20 rfl Tryz.results20 Tryz.ntmps20 rfl<|.sr ?_
 refine .bY rfl (λb5=>?_)
 refine .ag rfl<|.zs<|.block<|.sr<|.mo rfl ?_
 refine .aY (HV.made (a9 _ λp hp=>.inr (by
  rcases List.mem_cons.1 hp with rfl|hp
  ·simp
  ·rcases List.mem_append.1 hp with hp|hp<;>simp[hp]))) (λu V=>?_)
 subst V
 refine .q .not<|.az rfl<|.cP<|.seq ?_
 refine bz.cS [(0,_),(1,_),(5,_)] kE.c.c.c (X:=Unit) (λ_=>True) (λ_ E=>(13,.bool ((d.getLast?.map λe=>decide (rev<=e.rev)).getD false))::E) (λ_=>[bl b5 c.enc 25,bl f [.bool true,l,iN j] 155,m,g]) ?_ ?_
 refine .gn mixed (by kernel_rfl)<|.mo rfl<|.nc rfl<|.fa rfl<|.lo rfl<|.q (.dK k)<|.q .gtr<|.mo rfl<|.split (t:=20) rfl (λa=>?_) (λa=>?_)
 obtain⟨n,hn⟩:∃n,d.length=n+1:=⟨d.length-1,by have:=bS a;omega⟩
 obtain⟨J,S⟩:∃e,d[n]? =some e:=⟨_,aX (by omega)⟩
 have a4:d.getLast? =some J:=by rw[List.getLast?_eq_getElem?,hn];exact S
 have b1:=x J (aO S)
 have c3:ca J.enc:=⟨b1.cT⟩
 refine .gT a<|.mo rfl<|.gT a<|.mo rfl<|.gT a<|.nc rfl<|.gT a<|.fa rfl<|.gT a<|.lo rfl<|.gT a<|.mo rfl<|.gT a<|.nc rfl<|.gT a<|.fa rfl<|.gT a<|.lo rfl<|.gT a<|.q (.dK k)<|.gT a<|.q (.i64 (n:Int) .sub ⟨by omega,by omega,by omega⟩)<|.gT a ?_
 refine .aL n k S (λc4=>?_)
 refine .gT a<|.fa rfl<|.gT a<|.fa rfl<|.gT a<|.lo rfl<|.gT a<|.q .leq<|.q (.aT a)<|.ag rfl<|.nil ?_
 ·exact aF () trivial (kE.c.c.c.bU rfl (by first|rfl|(rw[a4];rfl))) rH
 have b4:d=[]:=List.eq_nil_of_length_eq_zero (by have:=bA a;omega)
 subst b4
 refine .gF a<|.gF a<|.gF a<|.gF a<|.gF a<|.gF a<|.gF a<|.gF a<|.gF a<|.gF a<|.gF a<|.gF a<|.gF a<|.gF a<|.gF a<|.gF a<|.q (.aS a)<|.ag rfl<|.nil ?_
 ·exact aF () trivial (kE.c.c.c.bU rfl (by first|rfl|(rw[a4];rfl))) rH
 intro y hy
 refine av<|.cond rfl (λz=>?_) λz=>?_
 refine .sr<|.az rfl<|.ret (bh (aH (bp _ (.one (.tmp rfl)) (.one [1,1,1] _) ?_)))
 ·have r:((d.getLast?.map λe=>decide (rev<=e.rev)).getD false)=true:=z
  have i:kc=12:=by rw[D,if_pos r]
  have U:kc≠0:=by rw[i];decide
  exact⟨_,rfl,by rw[i],λs=>absurd s U,λ_=>(O _).2 ⟨l,m,g,by simp[take,bJ],k,x⟩⟩
 refine .skip<|aV<|av<|.sr<|.q (.aM rfl)<|.cO (b6.weaken cZ) (λu T7 b8=>?_)
 obtain⟨w7,ll,rfl,M,b2⟩:=b8
 have i7:=M.rs.ap
 refine .mo rfl<|.q .extract<|.q .extract<|.ag rfl<|.ag rfl<|.zs<|.block<|.sr<|.mo rfl<|.q .et<|.az rfl<|.cond rfl (λK=>?_) λK=>?_
 have a5:nn.1≠0:=by simpa using K
 refine .sr<|.mo rfl<|.az rfl<|.ret (bh (aH (bp _ (.one (.tmp rfl)) (.one [2,2,2] _) ?_)))
 ·have r:((d.getLast?.map λe=>decide (rev<=e.rev)).getD false)=false:=z
  have i:kc=nn.1:=by rw[D,if_neg (by rw[r];simp),if_pos a5]
  exact⟨_,rfl,by rw[i],λs=>absurd (i.symm.trans s) a5,λ_=>(O _).2 ⟨l,m,g,by simp[take,bJ],k,x⟩⟩
 have v:nn.1=0:=by simpa using K
 refine .sr<|.mo rfl<|.nc rfl<|.fa rfl<|.lo rfl<|.q (.dK k)<|.q .geq<|.az rfl<|.cond rfl (λL=>?_) λL=>?_
 refine .sr<|.az rfl<|.ret (bh (aH (bp _ (.one (.tmp rfl)) (.one [2,2,2] _) ?_)))
 ·have r:((d.getLast?.map λe=>decide (rev<=e.rev)).getD false)=false:=z
  have i:kc=8:=by rw[D,if_neg (by rw[r];simp),if_neg (by rw[v];simp),if_pos (by have:=bS L;omega)]
  have U:kc≠0:=by rw[i];decide
  exact⟨_,rfl,by rw[i],λs=>absurd s U,λ_=>(O _).2 ⟨l,m,g,by simp[take,bJ],k,x⟩⟩
 have b3:¬16<=d.length:=by have:=bA L;omega
 have r:((d.getLast?.map λe=>decide (rev<=e.rev)).getD false)=false:=z
 have i:kc=0:=by rw[D,if_neg (by rw[r];simp),if_neg (by rw[v];simp),if_neg b3]
 refine .skip<|aV<|av<|.seq ?_
 refine bz.cS [] (dM.nil _) (X:=Value×ay×ep×ay) (λy=>OS 159 4 ep.enc y.1 (d++[y.2.2.1]) y.2.1/\y.2.2.1.is (sg y.2.2.2)/\y.2.2.1.rev=rev/\y.2.2.1.c.plain=c.plain) (λ_ E=>E) (λy=>[bl f [.bool true,y.1,iN j] 155,y.2.1,y.2.2.2,g]) ?_ ?_
 refine .cL [12,15] mixed<|.tK 0 rfl .move<|.tO 1 rfl .move<|.tO 2 rfl (.nilCheck rfl)<|.tO 3 rfl (.fieldAddr rfl)<|.tO 4 rfl (.bZ rfl)<|.tO 5 rfl .move<|.tO 6 rfl (.aM rfl)<|.tO 9 rfl .move<|.sT 7 rfl<|.cO ((b0 (b7 v)).weaken cZ) (λu H V=>?_)
 obtain⟨I,rfl,A,Q⟩:=V
 have c1:One I.vs:=RS.ap A.ss
 have c2:One I.vc:=RS.ap A.sc
 obtain⟨ps,cs,Y⟩:=A.ss.val
 obtain⟨pc,cc,Z⟩:=A.sc.val
 obtain⟨pw,cw,a0⟩:=M.rs.val
 obtain⟨c6,c5,a8,a7⟩:=I
 simp only at Y Z a0
 subst Y Z a0
 refine .nil<|Next.sub<|.tO 8 rfl .cR<|.tO 10 rfl .cR<|.sT 11 rfl ?_
 refine .ej (λb9=>?_)
 refine .nil<|Next.sub<|.sT 12 rfl<|.append k (RS.lits (xs:=[(⟨rev,⟨.slice ps a8.length cs,.slice pc a7.length cc,a8,a7⟩,.slice pw ll.length cw,ll⟩:ep)]) rfl (by simp[ep.enc]) (by simp[ep.enc,ap])) (by simp only[List.length_singleton];omega) (λW G B=>?_)
 have i5:=B.ap
 refine .nil<|Next.mod rfl<|.tK 13 rfl (.lI rfl)<|.tK 14 rfl (.gz rfl)<|.sT 15 rfl<|.dZ rfl rfl<|.nil<|Next.mod rfl<|RA.nil (by kernel_rfl) ?_
 ·exact aF (W,G,_,H++T7) ⟨B,⟨A.mono λb o f=>jO f,M.mono λb o f=>iM f,by simp only;rw[Q,a6];exact v,by simp only;rw[Q,a6];exact b2⟩,rfl,Q⟩ (dM.nil _) (by first|exact(aQ [4,4,1,1,2]).trans (bf.fq (by simp[take,bJ,dc]))|exact(aQ [3,3,0,1,2]).trans (bf.fq (by simp[take,bJ,dc])))
 intro y hy
 obtain⟨W,G,e5,H⟩:=y
 obtain⟨B,a1,a3,a2⟩:=hy
 simp only at B a1 a3 a2⊢
 refine av<|.sr<|.az rfl<|.ret (bp _ (.one (.tmp rfl)) (.one [0,0,0,0] _) ?_)
 ·refine⟨_,rfl,by rw[i],λ_=>⟨e5,a3,a2,W,G,H++g,by simp[take,bJ],B,λe he=>?_⟩,λs=>absurd i s⟩
  rcases List.mem_append.1 he with he|he
  ·exact(x e he).mono λb o f=>iM f
  ·rw[List.mem_singleton]at he
   subst he
   exact a1.mono λb o f=>jO f
theorem Pa(a b:bC)(R:aB):Spec prog 169 [.agg a.enc.toArray,.agg b.enc.toArray] R [] λv H'=>v=.bool (eI a b)/\H'=[]:=by
 refine Spec.body Tryz.func169 rfl Tryz.results169 Tryz.ntmps169 rfl<|.sr ?_
 refine .bY rfl (λf=>?_)
 refine .bY rfl (λg=>?_)
 refine .ag rfl<|.z<|.fa rfl<|.q (.loadT rfl)<|.fa rfl<|.q (.loadT rfl)<|.aY (PB a.t b.t _) (λv e=>?_)
 subst e
 refine .mo rfl<|.split (t:=10) rfl (λc=>?_) (λc=>?_)
 refine .gF c<|.gF c<|.gF c<|.gF c<|.gF c<|.gF c<|.dm rfl<|.dm rfl<|.dm rfl<|.dm rfl<|.dm rfl<|.gF c<|.q (.aT c)<|.az rfl<|.ret (aP rfl ?_)
 ·refine⟨congrArg _ ?_,rfl⟩
  unfold eI
  simp_all
 refine .gT c<|.fa rfl<|.gT c<|.q (.loadT rfl) ?_
 refine .gT c<|.fa rfl<|.gT c<|.q (.loadT rfl) ?_
 refine .gT c<|.q (.mE rfl rfl (aE.kinds a.t) (aE.kinds b.t)) ?_
 rw[show eA (List.take 7 (List.drop 0 a.enc)) (List.take 7 (List.drop 0 b.enc))=decide (a.t=b.t)from aE.eq a.t b.t]
 refine .gT c<|.mo rfl<|.split (t:=16) rfl (λd=>?_) (λd=>?_)
 refine .gT d<|.fa rfl<|.gT d<|.lo rfl<|.gT d<|.fa rfl<|.gT d<|.lo rfl<|.gT d<|.q .lss<|.gT c<|.q (.aT d)<|.q (.aS c)<|.az rfl<|.ret (aP rfl ?_)
 ·refine⟨congrArg _ ?_,rfl⟩
  unfold eI
  simp_all
 refine .gF d<|.gF d<|.gF d<|.gF d<|.gF d<|.gT c<|.q (.aS d)<|.q (.aS c)<|.az rfl<|.ret (aP rfl ?_)
 ·refine⟨congrArg _ ?_,rfl⟩
  unfold eI
  simp_all
theorem Ps(v:Value)(l:List bC)(t:bC)(R:aB)(h:RS R 9 bC.enc v l)(hl:l.length<=100000):
    Spec prog 110 [v,.agg t.enc.toArray] R [] λu H'=>∃T,H'=[T]/\OS 226 9 bC.enc u (gP eI t l) T:=by
  obtain⟨J,I,rfl⟩:=h.val
  refine Spec.gu (H':=[[]]) (by simp)<|Spec.body Tryz.func110 rfl Tryz.results110 Tryz.ntmps110 rfl<|.sr ?_
  refine .bY rfl (λm=>?_)
  refine .ag rfl<|.z<|.ag rfl<|.z<|.ag rfl<|.zs<|.sr<|.az rfl<|.block<|.loop (X:=Nat×Value×ay) (λy=>y.1<=l.length/\OS 226 9 bC.enc y.2.1 (iY eI t (l.take y.1)) y.2.2) (λy=>[(0,.slice J l.length I),(3,pT m),(5,y.2.1),(6,.bool ((l.take y.1).any (eI t))),(7,iN y.1)]) (λy=>[bl m t.enc 226,y.2.2]) (λy=>l.length-y.1) (0,sZ,[]) ⟨Nat.zero_le _,OS.nil⟩ kE.c.c.c.c.c rH ?_
  rintro⟨i,D,s⟩ ⟨N,e⟩
  simp only at N e⊢
  have io:=e.ap
  have M:(iY eI t (l.take i)).length<=100001:=Nat.le_trans sf (by rw[List.length_take];omega)
  refine .seq<|.sr<|.mo rfl<|.mo rfl<|.q (.bH h)<|.q .lss<|.zn<|.cond rfl (λA=>?_) λA=>?_
  have H:i<l.length:=cb A
  obtain⟨x,f⟩:=bL H
  have E:=zu (lt:=eI) (p:=t) f
  refine .kn<|.seq<|.block<|.seq ?_
  refine bz.cut (X:=Value×ay) (λz=>OS 226 9 bC.enc z.1 (lY eI t (l.take i) x) z.2) (λz=>[(0,.slice J l.length I),(3,pT m),(5,z.1),(6,.bool ((l.take (i+1)).any (eI t))),(7,iN i)]) (λz=>[bl m t.enc 226,z.2]) ?_ ?_
  refine .seq<|.dt 8 mixed (by kernel_rfl) ?_
  conv=>arg 6;dsimp only[List.take]
  refine .mo rfl<|.q .not<|.mo rfl<|.split (t:=16) rfl (λa=>?_) (λa=>?_)
  refine .gT a<|.q (.aM rfl)<|.gT a<|.mo rfl<|.gT a<|.mo rfl<|.gT a ?_
  refine .bx i h f (λa0=>?_)
  refine .gT a<|.q (.aM rfl)<|.nil<|.gT a<|.aY (Pa t x _) (λv Q=>?_)
  subst Q
  refine .q (.aT a)<|.zn<|.cond rfl (λn=>?_) λn=>?_
  first|have C:=zv f a n|skip
  refine .sr<|.mo rfl<|.q (.aM rfl) ?_
  refine .ej (λW=>?_)
  refine .append e (RS.lits (xs:=[t]) rfl (by simp[bC.enc,aE.enc]) (by simp[bC.enc,aE.enc,ap])) (by simp only[List.length_singleton];omega) (λr k g=>?_)
  refine .az rfl<|.region<|.ag rfl<|.nil ?_
  ·first
      |(obtain⟨d,b⟩:=C
        exact aF (r,k) (by simp only;rw[d];exact g) (by simp only;rw[b];exact kE.c.c.c.c.c) (aQ [1,1]))
      |(obtain⟨d,b⟩:=j
        exact aF (D,s) (by simp only;rw[d];simpa using e) (by simp only;rw[b];exact kE.c.c.c.c.c) rH)
  first|have j:=pC (p:=t) f (.inr n)|skip
  refine .skip ?_
  ·first
      |(obtain⟨d,b⟩:=C
        exact aF (r,k) (by simp only;rw[d];exact g) (by simp only;rw[b];exact kE.c.c.c.c.c) (aQ [1,1]))
      |(obtain⟨d,b⟩:=j
        exact aF (D,s) (by simp only;rw[d];simpa using e) (by simp only;rw[b];exact kE.c.c.c.c.c) rH)
  have j:=pC (p:=t) f (.inl a)
  refine .gF a<|.gF a<|.gF a<|.gF a<|.gF a<|.nil<|.gF a<|.q (.aS a)<|.zn<|.cP ?_
  first|have j:=pC (p:=t) f (.inr n)|skip
  refine .skip ?_
  ·first
      |(obtain⟨d,b⟩:=C
        exact aF (r,k) (by simp only;rw[d];exact g) (by simp only;rw[b];exact kE.c.c.c.c.c) (aQ [1,1]))
      |(obtain⟨d,b⟩:=j
        exact aF (D,s) (by simp only;rw[d];simpa using e) (by simp only;rw[b];exact kE.c.c.c.c.c) rH)
  intro y S
  obtain⟨V,L⟩:=y
  have F:OS 226 9 bC.enc V (lY eI t (l.take i) x) L:=S
  have i6:=F.ap
  simp only
  refine av<|.region<|.mo rfl<|.mo rfl<|.mo rfl ?_
  refine .bx i h f (λa1=>?_)
  refine .q (.aM rfl) ?_
  refine .ej (λY=>?_)
  refine .append F (RS.lits (xs:=[x]) rfl (by simp[bC.enc,aE.enc]) (by simp[bC.enc,aE.enc,ap])) (by have:=sf (lt:=eI) (p:=t) (X:=l.take (i+1));rw[<-E,List.length_take]at this;simp at this⊢;omega) (λU K G=>?_)
  rw[E]at G
  refine .ag rfl<|.nil<|aV<|av<|.region<|.mo rfl<|.ia (i+1) .add<|.ag rfl<|.nil ?_
  ·exact aW (i+1,U,K) ⟨H,G⟩ (by simp only;omega) kE.c.c.c.c.c (aQ [1,1])
  have O:i=l.length:=by have:=bA A;omega
  subst O
  rw[List.take_length]at e M⊢
  refine .exit<|bm<|bs<|bo<|av<|.seq<|.sr<|.mo rfl<|.q .not<|.zn<|.cond rfl (λB=>?_) λB=>?_
  refine .region<|.mo rfl<|.q (.aM rfl) ?_
  refine .ej (λZ=>?_)
  refine .append e (RS.lits (xs:=[t]) rfl (by simp[bC.enc,aE.enc]) (by simp[bC.enc,aE.enc,ap])) (by simp;omega) (λr k g=>?_)
  refine .ag rfl<|.z<|.mo rfl<|.az rfl<|.ret (bp _ (.one (.tmp rfl)) ((aQ [2])) ?_)
  ·have o:l.any (eI t)=false:=by simpa using B
   refine⟨_,by simp[take,bJ];rfl,?_⟩
   have w:iY eI t l=l:=by unfold iY;rw[o];rfl
   rw[w]at g
   rw[zq o];exact g
  refine .kn<|.sr<|.mo rfl<|.az rfl<|.ret (bp _ (.one (.tmp rfl)) ((aQ [1])) ?_)
  ·have o:l.any (eI t)=true:=by simpa using B
   refine⟨_,by simp[take,bJ];rfl,?_⟩
   have w:iY eI t l=gP eI t l:=by unfold iY;rw[o];rfl
   rw[w]at e;exact e
def qd(L:List bC)(t:aE)(z:Int):Prop:=(∃(j:Nat) (x:bC),z=j/\L[j]? =some x/\x.eM t=true/\∀k y,k<j->L[k]? =some y->y.eM t=false)\/(z= -1/\dy L t=false)
theorem qd.lt{L:List bC}{t:aE}{z:Int}(h:qd L t z):decide (z<0)= !dy L t:=by
 rcases h with⟨j,x,rfl,b,a,_⟩|⟨rfl,h⟩
 ·rw[decide_eq_false (by omega),dy,List.any_eq_true.2 ⟨x,aO b,a⟩];rfl
 ·rw[h];rfl
theorem qd.ge{L:List bC}{t:aE}{z:Int}(h:qd L t z):decide (0<=z)=dy L t:=by
 have a:=h.lt
 have b:decide (0<=z)= !decide (z<0):=by rw[Bool.eq_iff_iff];simp
 rw[b,a,Bool.not_not]
section
variable{R:aB}{b:Nat}{S:cW}{vL:Value}{L:List bC}
theorem DV.find(h:DV R b S vL L)(t:aE):Spec prog 111 [pT b,.agg t.enc.toArray] R [] λu H'=>(∃z,u=.int .i64 z/\qd L t z)/\H'=[]:=by
 have F:=h.pc
 have B:=h.rs.ap
 have A:=h.rs.le
 obtain⟨G,C,rfl⟩:=h.rs.val
 have n:=h.rs
 refine Spec.body Tryz.func111 rfl Tryz.results111 Tryz.ntmps111 rfl<|.sr ?_
 refine .bY rfl (λo=>?_)
 refine .ag rfl<|.zs<|.sr<|.az rfl<|.block<|.loop (X:=Nat) (λi=>i<=L.length/\∀k y,k<i->L[k]? =some y->y.eM t=false) (λi=>[(0,pT b),(3,pT o),(5,iN i)]) (λ_=>[bl o t.enc 119]) (λi=>L.length-i) 0 ⟨Nat.zero_le _,λk y e=>absurd e (Nat.not_lt_zero _)⟩ kE.c.c.c rH ?_
 rintro i ⟨v,g⟩
 refine .seq<|.sr<|.mo rfl<|.mo rfl<|.nc rfl<|.fa rfl<|.lo rfl<|.q (.bH n)<|.q .lss<|.zn<|.cond rfl (λl=>?_) λl=>?_
 have m:i<L.length:=cb l
 obtain⟨x,f⟩:=bL m
 refine .kn<|.seq<|.block<|.seq<|.gn mixed (by kernel_rfl) ?_
 refine .mo rfl<|.nc rfl<|.fa rfl<|.lo rfl<|.mo rfl ?_
 refine .bx i n f (λD=>?_)
 refine .fa rfl<|.q (.loadT rfl) ?_
 refine .q (.aM rfl)<|.q (.mE rfl rfl (aE.kinds x.t) (aE.kinds t)) ?_
 rw[show eA (List.take 7 (List.drop 0 x.enc)) t.enc=decide (x.t=t)from aE.eq x.t t]
 refine .mo rfl<|.split (t:=25) rfl (λa=>?_) (λa=>?_)
 refine .gT a<|.mo rfl<|.gT a<|.nc rfl<|.gT a<|.fa rfl<|.gT a<|.lo rfl<|.gT a<|.mo rfl<|.gT a ?_
 refine .bx i n f (λE=>?_)
 refine .gT a<|.fa rfl<|.gT a<|.lo rfl<|.gT a<|.q .bQ<|.q (.aT a)<|.zn<|.cond rfl (λr=>?_) λr=>?_
 refine .sr<|.mo rfl<|.az rfl<|.ret (bh (aH (cB (bh (aH (aP rfl ?_))))))
 ·exact⟨⟨_,rfl,.inl ⟨i,x,rfl,f,by unfold bC.eM;simp_all,g⟩⟩,rfl⟩
 refine .skip<|aV<|av<|.region<|.mo rfl<|.ia (i+1) .add<|.ag rfl<|.nil ?_
 ·exact aW (i+1) ⟨m,λk y e d=>by
   rcases Nat.lt_or_eq_of_le (Nat.le_of_lt_succ e)with h3|h3
   ·exact g k y h3 d
   ·subst h3
    rw[f]at d
    cases d
    unfold bC.eM
    simp_all⟩ (by omega) kE.c.c.c rH
 refine .gF a<|.gF a<|.gF a<|.gF a<|.gF a<|.gF a<|.gF a<|.gF a<|.gF a<|.q (.aS a)<|.zn<|.cP<|.skip<|aV<|av<|.region<|.mo rfl<|.ia (i+1) .add<|.ag rfl<|.nil ?_
 ·exact aW (i+1) ⟨m,λk y e d=>by
   rcases Nat.lt_or_eq_of_le (Nat.le_of_lt_succ e)with h3|h3
   ·exact g k y h3 d
   ·subst h3
    rw[f]at d
    cases d
    unfold bC.eM
    simp_all⟩ (by omega) kE.c.c.c rH
 refine .exit<|bm<|bs<|bo<|av<|.sr<|.az rfl<|.ret (aP rfl ?_)
 ·have w:i=L.length:=by have:=bA l;omega
  refine⟨⟨_,rfl,.inr ⟨rfl,?_⟩⟩,rfl⟩
  unfold dy
  rw[List.any_eq_false]
  intro y d p
  obtain⟨j,s,rfl⟩:=List.mem_iff_getElem.1 d
  have:=g j _ (by omega) (aX s)
  rw[this]at p
  cases p
theorem Pc(vm vn vc:Value)(bF no:List aE)(cs:List cD)(R:aB)(s:RS R 7 aE.enc vm bF)(w:RS R 7 aE.enc vn no)(m:RS R 8 cD.enc vc cs)(fm:∀t∈bF,t.fits)(fn:∀t∈no,t.fits)(fc:∀c∈cs,c.t.fits):
  Spec prog 108 [vm,vn,vc] R [] λu H'=>u=.int .i64 (fX bF no cs)/\H'=[]:=by
 have lm:=s.le
 have ln:=w.le
 have lc:=m.le
 obtain⟨D,B,rfl⟩:=s.val
 obtain⟨E,C,rfl⟩:=w.val
 obtain⟨F,A,rfl⟩:=m.val
 refine Spec.body Tryz.func108 rfl Tryz.results108 Tryz.ntmps108 rfl ?_
 refine .sr<|.ag rfl<|.zs<|.sr<|.mo rfl<|.q (.bH m) ?_
 refine .q .gtr<|.mo rfl ?_
 refine .split (t:=15) rfl (λj=>?_) (λj=>?_)
 refine .gF j<|.gF j<|.gF j<|.q (.aT j) ?_
 refine .mo rfl<|.gX<|.gX<|.gX<|.q .cU<|.mo rfl<|.gX<|.gX<|.gX<|.q .cU<|.zn<|.iH ?_
 have f:32<cs.length\/cs.length=0\/32<bF.length\/32<no.length:=by simp_all;try omega
 refine .sr<|.az rfl ?_
 refine .ret (aH (aP rfl ?_))
 ·(refine⟨?_,rfl⟩;rw[nF f];done)
 refine .gT j<|.mo rfl<|.gT j<|.q (.bH m) ?_
 refine .gT j<|.q .bQ<|.q (.aS j) ?_
 refine .mo rfl ?_
 refine .split (t:=20) rfl (λl=>?_) (λl=>?_)
 refine .gF l<|.gF l<|.gF l<|.q (.aT l) ?_
 refine .mo rfl<|.gX<|.gX<|.gX<|.q .cU<|.zn<|.iH ?_
 have f:32<cs.length\/cs.length=0\/32<bF.length\/32<no.length:=by simp_all;try omega
 refine .sr<|.az rfl ?_
 refine .ret (aH (aP rfl ?_))
 ·(refine⟨?_,rfl⟩;rw[nF f];done)
 refine .gT l<|.mo rfl<|.gT l<|.q (.bH s) ?_
 refine .gT l<|.q .gtr<|.q (.aS l) ?_
 refine .mo rfl ?_
 refine .split (t:=25) rfl (λh=>?_) (λh=>?_)
 refine .gF h<|.gF h<|.gF h<|.q (.aT h) ?_
 refine .zn<|.iH ?_
 have f:32<cs.length\/cs.length=0\/32<bF.length\/32<no.length:=by simp_all;try omega
 refine .sr<|.az rfl ?_
 refine .ret (aH (aP rfl ?_))
 ·(refine⟨?_,rfl⟩;rw[nF f];done)
 refine .gT h<|.mo rfl<|.gT h<|.q (.bH w) ?_
 refine .gT h<|.q .gtr<|.q (.aS h) ?_
 refine .zn ?_
 refine .cond rfl (λh1=>?_) λh1=>?_
 have f:32<cs.length\/cs.length=0\/32<bF.length\/32<no.length:=by simp_all;try omega
 refine .sr<|.az rfl ?_
 refine .ret (aH (aP rfl ?_))
 ·(refine⟨?_,rfl⟩;rw[nF f];done)
 have f:¬(32<cs.length\/cs.length=0\/32<bF.length\/32<no.length):=by simp_all;try omega
 refine .kn<|.seq<|.sr<|.az rfl<|.block ?_
 refine .loop (X:=Nat) (λi=>i<=bF.length/\(bF.take i).any (λt=> !eB t)=false) (λi=>[(0,.slice D bF.length B),(1,.slice E no.length C),(2,.slice F cs.length A),(7,iN i)]) (λ_=>[]) (λi=>bF.length-i) 0 ⟨Nat.zero_le _,by simp⟩ kE.c.c.c.c rH ?_
 rintro i ⟨T,p⟩
 refine .seq<|.sr<|.mo rfl<|.mo rfl<|.q (.bH s) ?_
 refine .q .lss<|.zn ?_
 refine .cond rfl (λH=>?_) λH=>?_
 have g:i<bF.length:=cb H
 obtain⟨x,d⟩:=bL g
 refine .kn<|.seq<|.block<|.sr<|.mo rfl<|.mo rfl ?_
 refine .bx i s d (λa2=>?_)
 refine .q (.aM rfl) ?_
 refine .aY (wB x (fm x (aO d)) _) (λv z=>?_)
 subst z
 refine .q .not<|.zn ?_
 refine .cond rfl (λI=>?_) λI=>?_
 have n:fX bF no cs=9:=pX f (by rw[List.any_eq_true.2 ⟨x,aO d,I⟩];simp)
 refine .sr<|.az rfl ?_
 refine .ret (bh (aH (cB (bh (aH (aP rfl ?_))))))
 ·(refine⟨?_,rfl⟩;rw[n];done)
 refine .skip<|aV<|av<|.region<|.mo rfl ?_
 refine .ia (i+1) .add ?_
 refine .ag rfl<|.nil ?_
 ·exact aW (i+1) ⟨g,by rw[List.take_add_one,d,List.any_append,p];simp;simpa using I⟩ (by omega) kE.c.c.c.c rH
 have o:i=bF.length:=by have:=bA H;omega
 subst o
 rw[List.take_length]at p
 refine .exit<|bm<|bs<|bo<|av<|.seq<|.sr<|.az rfl<|.block ?_
 refine .loop (X:=Nat) (λi=>i<=no.length/\(no.take i).any (λt=> !eB t)=false) (λi=>[(0,.slice D bF.length B),(1,.slice E no.length C),(2,.slice F cs.length A),(8,iN i)]) (λ_=>[]) (λi=>no.length-i) 0 ⟨Nat.zero_le _,by simp⟩ kE.c.c.c.c rH ?_
 rintro i ⟨T,r⟩
 refine .seq<|.sr<|.mo rfl<|.mo rfl<|.q (.bH w) ?_
 refine .q .lss<|.zn ?_
 refine .cond rfl (λJ=>?_) λJ=>?_
 have g:i<no.length:=cb J
 obtain⟨x,d⟩:=bL g
 refine .kn<|.seq<|.block<|.sr<|.mo rfl<|.mo rfl ?_
 refine .bx i w d (λa3=>?_)
 refine .q (.aM rfl) ?_
 refine .aY (wB x (fn x (aO d)) _) (λv z=>?_)
 subst z
 refine .q .not<|.zn ?_
 refine .cond rfl (λK=>?_) λK=>?_
 have n:fX bF no cs=9:=pX f (by rw[p,List.any_eq_true.2 ⟨x,aO d,K⟩];simp)
 refine .sr<|.az rfl ?_
 refine .ret (bh (aH (cB (bh (aH (aP rfl ?_))))))
 ·(refine⟨?_,rfl⟩;rw[n];done)
 refine .skip<|aV<|av<|.region<|.mo rfl ?_
 refine .ia (i+1) .add ?_
 refine .ag rfl<|.nil ?_
 ·exact aW (i+1) ⟨g,by rw[List.take_add_one,d,List.any_append,r];simp;simpa using K⟩ (by omega) kE.c.c.c.c rH
 have o:i=no.length:=by have:=bA J;omega
 subst o
 rw[List.take_length]at r
 refine .exit<|bm<|bs<|bo<|av<|.seq<|.sr<|.az rfl<|.block ?_
 refine .loop (X:=Nat) (λi=>i<=cs.length/\(cs.take i).any (λc=> !eB c.t)=false) (λi=>[(0,.slice D bF.length B),(1,.slice E no.length C),(2,.slice F cs.length A),(9,iN i)]) (λ_=>[]) (λi=>cs.length-i) 0 ⟨Nat.zero_le _,by simp⟩ kE.c.c.c.c rH ?_
 rintro i ⟨T,Q⟩
 refine .seq<|.sr<|.mo rfl<|.mo rfl<|.q (.bH m) ?_
 refine .q .lss<|.zn ?_
 refine .cond rfl (λL=>?_) λL=>?_
 have g:i<cs.length:=cb L
 obtain⟨x,d⟩:=bL g
 refine .kn<|.seq<|.block<|.sr<|.mo rfl<|.mo rfl ?_
 refine .bx i m d (λa4=>?_)
 refine .fa rfl<|.q (.loadT rfl) ?_
 refine .aY (wB x.t (fc x (aO d)) _) (λv z=>?_)
 subst z
 refine .q .not<|.zn ?_
 refine .cond rfl (λM=>?_) λM=>?_
 have n:fX bF no cs=9:=pX f (by rw[p,r,List.any_eq_true.2 ⟨x,aO d,M⟩];simp)
 refine .sr<|.az rfl ?_
 refine .ret (bh (aH (cB (bh (aH (aP rfl ?_))))))
 ·(refine⟨?_,rfl⟩;rw[n];done)
 refine .skip<|aV<|av<|.region<|.mo rfl ?_
 refine .ia (i+1) .add ?_
 refine .ag rfl<|.nil ?_
 ·exact aW (i+1) ⟨g,by rw[List.take_add_one,d,List.any_append,Q];simp;simpa using M⟩ (by omega) kE.c.c.c.c rH
 have o:i=cs.length:=by have:=bA L;omega
 subst o
 rw[List.take_length]at Q
 have V:∀c∈cs,eB c.t=true:=λc n=>by
  have:=List.any_eq_false.1 Q c n
  simpa using this
 refine .exit<|bm<|bs<|bo<|av<|.seq<|.sr<|.az rfl<|.block ?_
 refine .loop (X:=Nat) (λi=>i<=cs.length/\((cs.take i).map (·.t)).Nodup) (λi=>[(0,.slice D bF.length B),(1,.slice E no.length C),(2,.slice F cs.length A),(10,iN i)]) (λ_=>[]) (λi=>cs.length-i) 0 ⟨Nat.zero_le _,by simp⟩ kE.c.c.c.c rH ?_
 rintro i ⟨T,S⟩
 refine .seq<|.sr<|.mo rfl<|.mo rfl<|.q (.bH m) ?_
 refine .q .lss<|.zn ?_
 refine .cond rfl (λN=>?_) λN=>?_
 have g:i<cs.length:=cb N
 obtain⟨x,d⟩:=bL g
 have a1:(cs.take (i+1)).map (·.t)=(cs.take i).map (·.t)++[x.t]:=by rw[List.take_add_one,d,Option.toList_some,List.map_append];rfl
 refine .kn<|.seq<|.block<|.sr<|.az rfl<|.block ?_
 refine .loop (X:=Nat) (λk=>k<=i/\x.t∉(cs.take k).map (·.t)) (λk=>[(0,.slice D bF.length B),(1,.slice E no.length C),(2,.slice F cs.length A),(10,iN i),(11,iN k)]) (λ_=>[]) (λk=>i-k) 0 ⟨Nat.zero_le _,by simp⟩ kE.c.c.c.c.c rH ?_
 rintro k ⟨hk,W⟩
 refine .seq<|.sr<|.mo rfl<|.mo rfl<|.q .lss<|.zn ?_
 refine .cond rfl (λO=>?_) λO=>?_
 have Z:k<i:=cb O
 obtain⟨y,U⟩:∃x,cs[k]? =some x:=⟨_,aX (by omega)⟩
 refine .kn<|.seq<|.block<|.seq ?_
 refine .gn mixed (by kernel_rfl) ?_
 refine .mo rfl<|.mo rfl ?_
 refine .bx i m d (λa5=>?_)
 refine .fa rfl<|.q (.loadT rfl) ?_
 refine .mo rfl<|.mo rfl ?_
 refine .bx k m U (λa6=>?_)
 refine .fa rfl<|.q (.loadT rfl) ?_
 refine .q (.mE rfl rfl (aE.kinds x.t) (aE.kinds y.t)) ?_
 rw[show eA (List.take 7 (List.drop 1 x.enc)) (List.take 7 (List.drop 1 y.enc))=decide (x.t=y.t)from aE.eq x.t y.t]
 refine .zn ?_
 refine .cond rfl (λG=>?_) λG=>?_
 have n:fX bF no cs=2:=by
  rw[tq f p r V true ?_];rfl
  rw[eq_comm,Bool.not_eq_true',decide_eq_false_iff_not]
  intro hn
  have:=List.pairwise_iff_getElem.1 hn k i (by simp;omega) (by simp;omega) Z
  rw[List.getElem_map,List.getElem_map,(List.getElem?_eq_some_iff.1 d).2,(List.getElem?_eq_some_iff.1 U).2]at this
  exact this (bS G).symm
 refine .sr<|.az rfl ?_
 refine .ret (bh (aH (cB (bh (bh (aH (cB (bh (aH (aP rfl ?_))))))))))
 ·(refine⟨?_,rfl⟩;rw[n];done)
 refine .skip<|aV<|av<|.region<|.mo rfl ?_
 refine .ia (k+1) .add ?_
 refine .ag rfl<|.nil ?_
 ·exact aW (k+1) ⟨Z,by
   rw[List.take_add_one,U,Option.toList_some,List.map_append,List.mem_append,not_or]
   exact⟨W,by simpa using G⟩⟩ (by omega) kE.c.c.c.c.c rH
 have a0:k=i:=by have:=bA O;omega
 subst a0
 refine .exit<|bm<|bs<|bo<|aV<|av<|.region<|.mo rfl ?_
 refine .ia (k+1) .add ?_
 refine .ag rfl<|.nil ?_
 ·exact aW (k+1) ⟨g,by
   rw[a1,List.nodup_append]
   exact⟨S,by simp,λa ha b Y=>by simp only[List.mem_singleton]at Y;subst Y;exact λe=>W (e▸ha)⟩⟩ (by omega) kE.c.c.c.c rH
 have o:i=cs.length:=by have:=bA N;omega
 subst o
 rw[List.take_length]at S
 refine .exit<|bm<|bs<|bo<|av<|.sr<|.az rfl ?_
 refine .ret (aP rfl ?_)
 ·(refine⟨?_,rfl⟩;rw[tq f p r V false (by simp[S])];rfl)
end
theorem ph{α:Type}{p:α->Bool}{l:List α}{i:Nat}{x:α}(h:(l.take i).any p=false)(b:l[i]? =some x)(a:p x=false):(l.take (i+1)).any p=false:=by
 rw[List.take_add_one,b,List.any_append,h]
 simp[a]
theorem Bv{L:List bC}{head:Int}{bF no:List aE}{cs:List cD}(h:(bF.any (λt=> !dy L t)||no.any (λt=>dy L t))=true):fb L head bF no cs=13:=by unfold fb;rw[if_pos h]
theorem QA{L:List bC}{head:Int}{bF no:List aE}{cs:List cD}(a:bF.any (λt=> !dy L t)=false)(b:no.any (λt=>dy L t)=false)(h:cs.any (λc=>c.put&&dy L c.t)=true):fb L head bF no cs=10:=by unfold fb;rw[a,b,if_neg (by simp),if_pos h]
theorem Qy{L:List bC}{head:Int}{bF no:List aE}{cs:List cD}(a:bF.any (λt=> !dy L t)=false)(b:no.any (λt=>dy L t)=false)(d:cs.any (λc=>c.put&&dy L c.t)=false)(h:cs.any (λc=> !c.put&& !dy L c.t)=true):fb L head bF no cs=11:=by unfold fb;rw[a,b,if_neg (by simp),if_neg (by rw[d];simp),if_pos h]
theorem QB{L:List bC}{head:Int}{bF no:List aE}{cs:List cD}(a:bF.any (λt=> !dy L t)=false)(b:no.any (λt=>dy L t)=false)(d:cs.any (λc=>c.put&&dy L c.t)=false)(e:cs.any (λc=> !c.put&& !dy L c.t)=false):fb L head bF no cs=if 4611686018427387903<=head\/4096<L.length+fv cs/\0<fv cs then 8 else 0:=by unfold fb;rw[a,b,if_neg (by simp),if_neg (by rw[d];simp),if_neg (by rw[e];simp)]
theorem Po{R:aB}{b:Nat}{S:cW}{vL:Value}{L:List bC}(h:DV R b S vL L)(a4:L.length<=5000)(vm vn vc:Value)(bF no:List aE)(cs:List cD)(E:RS R 7 aE.enc vm bF)(F:RS R 7 aE.enc vn no)(m:RS R 8 cD.enc vc cs)(a3:cs.length<=1000):
  Spec prog 109 [pT b,vm,vn,vc] R [] λu H'=>u=.int .i64 (fb L S.head bF no cs)/\H'=[]:=by
 have pc:=h.pc
 have a6:=h.rs.ap
 obtain⟨pw,a7,rfl⟩:=h.rs.val
 have a0:=h.rs
 have lm:=E.le
 have ln:=F.le
 have lc:=m.le
 obtain⟨M,J,rfl⟩:=E.val
 obtain⟨N,K,rfl⟩:=F.val
 obtain⟨O,I,rfl⟩:=m.val
 refine Spec.body Tryz.func109 rfl Tryz.results109 Tryz.ntmps109 rfl ?_
 refine .sr<|.ag rfl<|.zs<|.sr<|.az rfl<|.block ?_
 refine .loop (X:=Nat) (λi=>i<=bF.length/\(bF.take i).any (λt=> !dy L t)=false) (λi=>[(0,pT b),(1,.slice M bF.length J),(2,.slice N no.length K),(3,.slice O cs.length I),(9,iN i)]) (λ_=>[]) (λi=>bF.length-i) 0 ⟨Nat.zero_le _,by simp⟩ kE.c.c.c.c.c rH ?_
 rintro i ⟨hi,y⟩
 refine .seq<|.sr<|.mo rfl<|.mo rfl<|.q (.bH E) ?_
 refine .q .lss<|.zn ?_
 refine .cond rfl (λQ=>?_) λQ=>?_
 have j:i<bF.length:=cb Q
 obtain⟨x,e⟩:=bL j
 refine .kn<|.seq<|.block<|.sr<|.mo rfl<|.mo rfl<|.mo rfl ?_
 refine .bx i E e (λa8=>?_)
 refine .q (.aM rfl) ?_
 refine .aY ((h.mono λb o n=>.inl n).find x) (λv s=>?_)
 obtain⟨z,rfl,w⟩:=s
 have k:=w.lt
 refine .q .lss<|.zn ?_
 refine .cond rfl (λT=>?_) λT=>?_
 have p:fb L S.head bF no cs=13:=Bv (by rw[List.any_eq_true.2 ⟨x,aO e,by rw[<-k];exact T⟩];simp)
 refine .sr<|.az rfl ?_
 refine .ret (bh (aH (cB (bh (aH (aP rfl ?_))))))
 ·(refine⟨?_,rfl⟩;rw[p];done)
 refine .skip<|aV<|av<|.region<|.mo rfl ?_
 refine .ia (i+1) .add ?_
 refine .ag rfl<|.nil ?_
 ·exact aW (i+1) ⟨j,ph y e (by rw[<-k];exact T)⟩ (by omega) kE.c.c.c.c.c (aQ [])
 have r:i=bF.length:=by have:=bA Q;omega
 subst r
 rw[List.take_length]at y
 refine .exit<|bm<|bs<|bo<|av<|.seq<|.sr<|.az rfl<|.block ?_
 refine .loop (X:=Nat) (λi=>i<=no.length/\(no.take i).any (λt=>dy L t)=false) (λi=>[(0,pT b),(1,.slice M bF.length J),(2,.slice N no.length K),(3,.slice O cs.length I),(10,iN i)]) (λ_=>[]) (λi=>no.length-i) 0 ⟨Nat.zero_le _,by simp⟩ kE.c.c.c.c.c rH ?_
 rintro i ⟨hi,B⟩
 refine .seq<|.sr<|.mo rfl<|.mo rfl<|.q (.bH F) ?_
 refine .q .lss<|.zn ?_
 refine .cond rfl (λU=>?_) λU=>?_
 have j:i<no.length:=cb U
 obtain⟨x,e⟩:=bL j
 refine .kn<|.seq<|.block<|.sr<|.mo rfl<|.mo rfl<|.mo rfl ?_
 refine .bx i F e (λa9=>?_)
 refine .q (.aM rfl) ?_
 refine .aY ((h.mono λb o n=>.inl n).find x) (λv s=>?_)
 obtain⟨z,rfl,w⟩:=s
 have k:=w.ge
 refine .q .geq<|.zn ?_
 refine .cond rfl (λV=>?_) λV=>?_
 have p:fb L S.head bF no cs=13:=Bv (by rw[y,List.any_eq_true.2 ⟨x,aO e,by rw[<-k];exact V⟩];rfl)
 refine .sr<|.az rfl ?_
 refine .ret (bh (aH (cB (bh (aH (aP rfl ?_))))))
 ·(refine⟨?_,rfl⟩;rw[p];done)
 refine .skip<|aV<|av<|.region<|.mo rfl ?_
 refine .ia (i+1) .add ?_
 refine .ag rfl<|.nil ?_
 ·exact aW (i+1) ⟨j,ph B e (by rw[<-k];exact V)⟩ (by omega) kE.c.c.c.c.c (aQ [])
 have r:i=no.length:=by have:=bA U;omega
 subst r
 rw[List.take_length]at B
 refine .exit<|bm<|bs<|bo<|av<|.seq<|.sr<|.az rfl<|.block ?_
 refine .loop (X:=Nat) (λi=>i<=cs.length/\(cs.take i).any (λc=>c.put&&dy L c.t)=false) (λi=>[(0,pT b),(1,.slice M bF.length J),(2,.slice N no.length K),(3,.slice O cs.length I),(11,iN i)]) (λ_=>[]) (λi=>cs.length-i) 0 ⟨Nat.zero_le _,by simp⟩ kE.c.c.c.c.c rH ?_
 rintro i ⟨hi,C⟩
 refine .seq<|.sr<|.mo rfl<|.mo rfl<|.q (.bH m) ?_
 refine .q .lss<|.zn ?_
 refine .cond rfl (λW=>?_) λW=>?_
 have j:i<cs.length:=cb W
 obtain⟨x,e⟩:=bL j
 refine .kn<|.seq<|.block<|.sr<|.mo rfl<|.mo rfl ?_
 refine .bx i m e (λb0=>?_)
 refine .fa rfl<|.lo rfl<|.mo rfl ?_
 refine .split (t:=51) rfl (λd=>?_) (λd=>?_)
 refine .gT d<|.mo rfl<|.gT d<|.mo rfl<|.gT d<|.mo rfl<|.gT d ?_
 refine .bx i m e (λb1=>?_)
 refine .gT d<|.fa rfl<|.gT d<|.q (.loadT rfl) ?_
 refine .gT d ?_
 refine .aY ((h.mono λb o n=>.inl n).find x.t) (λv s=>?_)
 obtain⟨z,rfl,w⟩:=s
 have k:=w.ge
 refine .gT d<|.q .geq<|.q (.aT d) ?_
 refine .zn ?_
 refine .cond rfl (λY=>?_) λY=>?_
 have p:fb L S.head bF no cs=10:=QA y B (List.any_eq_true.2 ⟨x,aO e,by rw[<-k,d];exact Y⟩)
 refine .sr<|.az rfl ?_
 refine .ret (bh (aH (cB (bh (aH (aP rfl ?_))))))
 ·(refine⟨?_,rfl⟩;rw[p];done)
 refine .skip<|aV<|av<|.region<|.mo rfl ?_
 refine .ia (i+1) .add ?_
 refine .ag rfl<|.nil ?_
 ·exact aW (i+1) ⟨j,ph C e (by rw[<-k,d];exact Y)⟩ (by omega) kE.c.c.c.c.c (aQ [])
 refine .gF d<|.gF d<|.gF d<|.gF d<|.gF d<|.gF d<|.gF d<|.gF d<|.q (.aS d) ?_
 refine .zn<|.cP<|.skip<|aV<|av<|.region<|.mo rfl ?_
 refine .ia (i+1) .add ?_
 refine .ag rfl<|.nil ?_
 ·exact aW (i+1) ⟨j,ph C e (by rw[d];rfl)⟩ (by omega) kE.c.c.c.c.c (aQ [])
 have r:i=cs.length:=by have:=bA W;omega
 subst r
 rw[List.take_length]at C
 refine .exit<|bm<|bs<|bo<|av<|.sr<|.mo rfl<|.nc rfl<|.fa rfl<|.lo rfl<|.q (.bH a0) ?_
 refine .ag rfl<|.zs<|.sr<|.az rfl<|.block ?_
 refine .loop (X:=Nat) (λi=>i<=cs.length/\(cs.take i).any (λc=> !c.put&& !dy L c.t)=false) (λi=>[(0,pT b),(1,.slice M bF.length J),(2,.slice N no.length K),(3,.slice O cs.length I),(12,.int .i64 ((L.length+fv (cs.take i):Nat):Int)),(13,iN i)]) (λ_=>[]) (λi=>cs.length-i) 0 ⟨Nat.zero_le _,by simp⟩ kE.c.c.c.c.c.c rH ?_
 rintro i ⟨hi,D⟩
 have a5:fv (cs.take i)<=1000:=by unfold fv;exact Nat.le_trans (List.length_filter_le _ _) (by rw[List.length_take];omega)
 refine .seq<|.sr<|.mo rfl<|.mo rfl<|.q (.bH m) ?_
 refine .q .lss<|.zn ?_
 refine .cond rfl (λZ=>?_) λZ=>?_
 have j:i<cs.length:=cb Z
 obtain⟨x,e⟩:=bL j
 have H:=BD e
 refine .kn<|.seq<|.block<|.seq<|.sr<|.mo rfl<|.mo rfl ?_
 refine .bx i m e (λb2=>?_)
 refine .fa rfl<|.lo rfl<|.q .not<|.mo rfl ?_
 refine .split (t:=78) rfl (λa=>?_) (λa=>?_)
 refine .gT a<|.mo rfl<|.gT a<|.mo rfl<|.gT a<|.mo rfl<|.gT a ?_
 refine .bx i m e (λb3=>?_)
 refine .gT a<|.fa rfl<|.gT a<|.q (.loadT rfl) ?_
 refine .gT a ?_
 refine .aY ((h.mono λb o n=>.inl n).find x.t) (λv s=>?_)
 obtain⟨z,rfl,w⟩:=s
 have k:=w.lt
 refine .gT a<|.q .lss<|.q (.aT a) ?_
 refine .zn ?_
 refine .cond rfl (λh8=>?_) λh8=>?_
 have p:fb L S.head bF no cs=11:=Qy y B C (List.any_eq_true.2 ⟨x,aO e,by rw[<-k,a];exact h8⟩)
 refine .sr<|.az rfl ?_
 refine .ret (aH (bh (aH (cB (bh (aH (aP rfl ?_)))))))
 ·(refine⟨?_,rfl⟩;rw[p];done)
 refine .kn<|.sr<|.mo rfl<|.mo rfl ?_
 refine .bx i m e (λa2=>?_)
 refine .fa rfl<|.lo rfl<|.zn ?_
 refine .cond rfl (λl=>?_) λl=>?_
 have A:L.length+fv (cs.take (i+1))=L.length+fv (cs.take i)+1:=by rw[H,if_pos l];rfl
 refine .region<|.mo rfl ?_
 refine .ia (L.length+fv (cs.take i)+1) .add ?_
 refine .ag rfl<|.nil<|aV<|av<|.region<|.mo rfl ?_
 refine .ia (i+1) .add ?_
 refine .ag rfl<|.nil ?_
 ·(exfalso;rw[l]at a;cases a;done)
 have A:L.length+fv (cs.take (i+1))=L.length+fv (cs.take i):=by rw[H,if_neg (by rw[l];simp)];rfl
 refine .skip<|aV<|av<|.region<|.mo rfl ?_
 refine .ia (i+1) .add ?_
 refine .ag rfl<|.nil ?_
 ·(refine aW (i+1) ⟨j,ph D e ?_⟩ (by omega) (by simp only[A];exact kE.c.c.c.c.c.c) (aQ []);rw[<-k,a];exact h8)
 refine .gF a<|.gF a<|.gF a<|.gF a<|.gF a<|.gF a<|.gF a<|.gF a<|.q (.aS a) ?_
 refine .zn<|.cP<|.kn<|.sr<|.mo rfl<|.mo rfl ?_
 refine .bx i m e (λa2=>?_)
 refine .fa rfl<|.lo rfl<|.zn ?_
 refine .cond rfl (λl=>?_) λl=>?_
 have A:L.length+fv (cs.take (i+1))=L.length+fv (cs.take i)+1:=by rw[H,if_pos l];rfl
 refine .region<|.mo rfl ?_
 refine .ia (L.length+fv (cs.take i)+1) .add ?_
 refine .ag rfl<|.nil<|aV<|av<|.region<|.mo rfl ?_
 refine .ia (i+1) .add ?_
 refine .ag rfl<|.nil ?_
 ·(refine aW (i+1) ⟨j,ph D e ?_⟩ (by omega) (by simp only[A];exact kE.c.c.c.c.c.c) (aQ []);rw[l];rfl)
 have A:L.length+fv (cs.take (i+1))=L.length+fv (cs.take i):=by rw[H,if_neg (by rw[l];simp)];rfl
 refine .skip<|aV<|av<|.region<|.mo rfl ?_
 refine .ia (i+1) .add ?_
 refine .ag rfl<|.nil ?_
 ·(exfalso;rw[l]at a;cases a;done)
 have r:i=cs.length:=by have:=bA Z;omega
 subst r
 rw[List.take_length]at D
 rw[List.take_length]
 have G:=QB (head:=S.head) y B C D
 refine .exit<|bm<|bs<|bo<|av<|.seq<|.sr<|.mo rfl<|.nc rfl<|.fa rfl<|.lo rfl<|.q .geq<|.mo rfl ?_
 refine .split (t:=100) rfl (λg=>?_) (λg=>?_)
 refine .gF g<|.gF g<|.gF g<|.dm rfl ?_
 refine .dm rfl ?_
 refine .dm rfl ?_
 refine .dm rfl ?_
 refine .dm rfl ?_
 refine .dm rfl ?_
 refine .dm rfl ?_
 refine .gF g<|.q (.aT g) ?_
 refine .zn<|.iH<|.sr<|.az rfl ?_
 refine .ret (aH (aP rfl ?_))
 ·(refine⟨?_,rfl⟩;rw[G];congr 1;split<;>first|rfl|(exfalso;simp_all;done)|(exfalso;simp_all;omega))
 refine .gT g<|.mo rfl<|.gT g<|.q .gtr<|.gT g<|.mo rfl ?_
 refine .split (t:=103) rfl (λf=>?_) (λf=>?_)
 refine .gT f<|.mo rfl<|.gT f<|.mo rfl<|.gT f<|.nc rfl<|.gT f<|.fa rfl<|.gT f<|.lo rfl<|.gT f<|.q (.bH a0) ?_
 refine .gT f<|.q .gtr<|.gT g<|.q (.aT f) ?_
 refine .q (.aS g) ?_
 refine .zn ?_
 refine .cond rfl (λa1=>?_) λa1=>?_
 refine .sr<|.az rfl ?_
 refine .ret (aH (aP rfl ?_))
 ·(refine⟨?_,rfl⟩;rw[G];congr 1;split<;>first|rfl|(exfalso;simp_all;done)|(exfalso;simp_all;omega))
 refine .kn<|.sr<|.az rfl ?_
 refine .ret (aP rfl ?_)
 ·(refine⟨?_,rfl⟩;rw[G];congr 1;split<;>first|rfl|(exfalso;simp_all;done)|(exfalso;simp_all;omega))
 refine .gF f<|.gF f<|.gF f<|.gF f<|.gF f<|.gF f<|.gF f<|.gT g<|.q (.aS f) ?_
 refine .q (.aS g) ?_
 refine .zn<|.cP<|.kn<|.sr<|.az rfl ?_
 refine .ret (aP rfl ?_)
 ·(refine⟨?_,rfl⟩;rw[G];congr 1;split<;>first|rfl|(exfalso;simp_all;done)|(exfalso;simp_all;omega))
def DO(b:Nat)(S:cW)(T:ay):Prop:=∃vL L TL,T=(b,.cells [vL,.int .u64 S.head,.int .u64 S.dT].toArray 103 (0,0))::TL/\OS 226 9 bC.enc vL L TL/\RL S L
theorem DO.view{b:Nat}{S:cW}{T:ay}{R:aB}(h:DO b S T)(a:∀p∈T,R p.1 p.2):∃vL L,DV R b S vL L/\RL S L:=by
 obtain⟨vL,L,f,rfl,c,d⟩:=h
 exact⟨vL,L,⟨PC.of (E:=103) (fr:=(0,0)) (a (b,_) (by simp)),c.rs λp e=>a p (by simp[e])⟩,d⟩
theorem RL.len{S:cW}(a:gj S){L:List bC}(h:RL S L):L.length<=4096:=by rw[h.pm.length_eq];exact a.len
theorem Qc(b:Nat)(S:cW)(T:ay)(h:DO b S T)(g:gj S)(vm vn vc:Value)(bF no:List aE)(cs:List cD)(R:aB)(D:RS R 7 aE.enc vm bF)(F:RS R 7 aE.enc vn no)(a:RS R 8 cD.enc vc cs)(fm:∀t∈bF,t.fits)(fn:∀t∈no,t.fits)(fc:∀c∈cs,c.t.fits)(a5:cs.length<=1000):
  Spec prog 58 [pT b,vm,vn,vc] R [T] λu H'=>∃T',H'=[T']/\u=.tuple [.int .u64 (if gq S bF no cs=0 then S.head+1 else 0),.int .i64 (gq S bF no cs)].toArray/\DO b (iO S bF no cs) T':=by
 have a0:=g.h0
 have a1:=g.h1
 have a2:=g.h2
 have h0:=h
 obtain⟨pm,km,rfl⟩:=D.val
 obtain⟨pn,kn,rfl⟩:=F.val
 obtain⟨pv,kc,rfl⟩:=a.val
 obtain⟨c1,L0,a3,W⟩:=h.view (R:=Rx R [T]) λp hp=>.inr (by simp[hp])
 have b2:=W.len g
 refine Spec.body Tryz.func58 rfl Tryz.results58 Tryz.ntmps58 rfl ?_
 refine .sr<|.ag rfl<|.ag rfl<|.z<|.mo rfl<|.mo rfl<|.mo rfl ?_
 refine .aY (Pc _ _ _ bF no cs _ D.rx F.rx a.rx fm fn fc) (λv n=>?_)
 subst n
 refine .ag rfl<|.zs<|.sr<|.mo rfl<|.q .bQ<|.zn ?_
 refine bz.cut (X:=Unit) (λ_=>True) (λ_=>[(0,pT b),(1,.slice pm bF.length km),(2,.slice pn no.length kn),(3,.slice pv cs.length kc),(10,.int .i64 (gq S bF no cs))]) (λ_=>[T]) ?_ ?_
 refine .cond rfl (λw=>?_) λw=>?_
 have G:fX bF no cs=0:=by simpa using w
 have s:fb L0 S.head bF no cs=gq S bF no cs:=by rw[tt G,Qz W.pm]
 refine .region<|.mo rfl<|.mo rfl<|.mo rfl<|.mo rfl ?_
 refine .aY (Po a3 (by omega) _ _ _ bF no cs D.rx F.rx a.rx a5) (λv n=>?_)
 subst n
 refine .ag rfl<|.nil ?_
 ·exact aF () trivial (by rw[<-s];exact kE.c.c.c.c.c) rH
 have G:fX bF no cs≠0:=by simpa using w
 have s:fX bF no cs=gq S bF no cs:=by rw[wJ G]
 refine .skip ?_
 ·exact aF () trivial (by rw[<-s];exact kE.c.c.c.c.c) rH
 intro x hx
 skip
 refine av<|.seq<|.sr<|.mo rfl<|.q .et<|.zn ?_
 refine .cond rfl (λA=>?_) λA=>?_
 have f:gq S bF no cs≠0:=by simpa using A
 refine .sr<|.mo rfl<|.ag rfl<|.az rfl ?_
 refine .ret (aH (bp _ (.two (.tmp rfl) (.tmp rfl)) (.one [0] _) ?_))
 ·exact⟨T,by simp[take],by rw[if_neg f],by rw[rn f];exact h0⟩
 have f:gq S bF no cs=0:=by simpa using A
 have K:=tu f
 have b4:=K.head
 obtain⟨vL,L,O,rfl,V,U⟩:=h
 have b6:=V.ap
 refine .kn<|.sr ?_
 refine .sub (H':=[bl b [vL,.int .u64 S.head,.int .u64 S.dT] 103,O]) (bf.fq (by simp)) ?_
 refine .mo rfl<|.mo rfl<|.nc rfl<|.fa rfl<|.lo rfl ?_
 refine .q (.u64 (S.head+1) .add ⟨rfl,by omega,by omega⟩) ?_
 refine .nc rfl<|.fa rfl<|.dZ rfl rfl<|.zs<|.sr<|.az rfl<|.block ?_
 refine .loop (X:=Nat×Value×List bC×ay) (λy=>y.1<=cs.length/\OS 226 9 bC.enc y.2.1 y.2.2.1 y.2.2.2/\RL ⟨(cs.take y.1).foldl (eZ (S.head+1)) S.rows,S.head+1,S.dT⟩ y.2.2.1) (λy=>[(0,pT b),(3,.slice pv cs.length kc),(11,iN y.1)]) (λy=>[bl b [y.2.1,.int .u64 (S.head+1),.int .u64 S.dT] 103,y.2.2.2]) (λy=>cs.length-y.1) (0,vL,L,O) ⟨Nat.zero_le _,V,⟨U.pm,U.st⟩⟩ kE.c.c.c rH ?_
 rintro⟨i,M,N,Q⟩ ⟨hi,e,o⟩
 simp only at hi e o⊢
 have b5:=e.ap
 have b3:=o.len (g.fold (K.take i))
 have lc:=a.le
 refine .seq<|.sr<|.mo rfl<|.mo rfl<|.q (.bH a) ?_
 refine .q .lss<|.zn ?_
 refine .cond rfl (λB=>?_) λB=>?_
 have H:i<cs.length:=cb B
 obtain⟨c,l⟩:=bL H
 have c0:=a.pc l
 obtain⟨m,a6⟩:=RL.next g K l o
 refine .kn<|.seq<|.block<|.sr<|.mo rfl<|.mo rfl ?_
 refine .bx i a l (λb7=>?_)
 refine .fa rfl<|.lo rfl<|.zn ?_
 refine .cond rfl (λC=>?_) λC=>?_
 refine .cL [18] mixed ?_
 refine .tO 0 rfl .move<|.tO 1 rfl .move<|.tO 2 rfl (.nilCheck rfl)<|.tO 3 rfl (.fieldAddr rfl)<|.tO 4 rfl (.bZ rfl)<|.tO 5 rfl .move<|.tO 6 rfl .move ?_
 refine .tO 7 rfl (.bx i a l rfl rfl rfl) ?_
 refine .tO 8 rfl (.fieldAddr rfl) ?_
 refine .tO 9 rfl (.loadT rfl) ?_
 refine .tO 10 rfl .move<|.tO 11 rfl (.nilCheck rfl)<|.tO 12 rfl (.fieldAddr rfl)<|.tO 13 rfl (.bZ rfl) ?_
 refine .tO 14 rfl .cR ?_
 refine .sT 15 rfl ?_
 refine .cO (Ps _ N ⟨c.t,S.head+1,0⟩ _ e.rx (by omega)) (λu Tn hu=>?_)
 have iu:=hu.ap
 refine .nil (Next.sub ?_)
 refine .tO 16 rfl (.nilCheck rfl)<|.tO 17 rfl (.fieldAddr rfl) ?_
 refine .sT 18 rfl ?_
 refine .dZ rfl rfl ?_
 refine .nil (Next.mod rfl ?_)
 refine RA.nil (by kernel_rfl) ?_
 refine aV<|av<|.region<|.mo rfl ?_
 refine .ia (i+1) .add ?_
 refine .ag rfl<|.nil ?_
 ·exact aW (i+1,u,_,Tn) ⟨H,by simp only;exact hu,by simp only;unfold pL at m;rw[if_pos C]at m;exact m⟩ (by simp only;omega) (((kE.d rfl).d rfl).d rfl) (aQ [1,0])
 obtain⟨j,x,r,J,b0,b1⟩:=a6 C
 refine .sr<|.mo rfl<|.mo rfl<|.mo rfl ?_
 refine .bx i a l (λb8=>?_)
 refine .fa rfl<|.q (.loadT rfl) ?_
 refine .aY (DV.find (S:=⟨[],S.head+1,S.dT⟩) ⟨PC.of (E:=103) (fr:=(0,0)) (.inr (by simp)),e.rx⟩ c.t) (λv n=>?_)
 obtain⟨z,rfl,hz⟩:=n
 obtain rfl:z=(j:Int):=by
  rcases hz with⟨k,y,rfl,hy,Y,a9⟩|⟨_,I⟩
  ·rcases Nat.lt_trichotomy k j with h9|h9|h9
   ·rw[b0 k y h9 hy]at Y;cases Y
   ·rw[h9]
   ·rw[a9 j x h9 r]at J;cases J
  ·unfold dy at I
   rw[List.any_eq_true.2 ⟨x,aO r,J⟩]at I
   cases I
 refine .az rfl ?_
 refine .dt 11 mixed (by kernel_rfl) ?_
 conv=>arg 6;dsimp only[List.take]
 refine .mo rfl<|.nc rfl<|.fa rfl<|.lo rfl<|.mo rfl<|.mo rfl ?_
 refine .nc rfl<|.fa rfl<|.lo rfl ?_
 refine .aL j e r (λb9=>?_)
 refine .fa rfl<|.nil ?_
 refine .oO (k:=8) (cs:=[.int .u64 (S.head+1)]) (z':=⟨x.t,x.fr,S.head+1⟩) j e r rfl rfl rfl rfl rfl (by simp[ap]) rfl (by simp) (λTd a4=>?_)
 refine .nil<|aV<|av<|.region<|.mo rfl ?_
 refine .ia (i+1) .add ?_
 refine .ag rfl<|.nil ?_
 ·exact aW (i+1,M,_,Td) ⟨H,by simp only;exact a4,by simp only;rw[b1]at m;exact m⟩ (by simp only;omega) (((kE.d rfl).d rfl).d rfl) (aQ [0,0])
 refine .exit<|bm<|bs<|bo<|av<|.sr<|.mo rfl<|.nc rfl<|.fa rfl<|.lo rfl<|.ag rfl<|.az rfl ?_
 refine .ret (bp _ (.two (.tmp rfl) (.tmp rfl)) ((bf.fq (H':=[(b,.cells [M,.int .u64 (S.head+1),.int .u64 S.dT].toArray 103 (0,0))::Q]) (by simp))) ?_)
 ·have a8:i=cs.length:=by have:=bA B;omega
  subst a8
  have a7:=o.write f
  have Z:(iO S bF no cs).head=S.head+1/\(iO S bF no cs).dT=S.dT:=by unfold iO;rw[if_pos f];exact⟨rfl,rfl⟩
  exact⟨_,rfl,by rw[f];rfl,M,N,Q,by rw[Z.1,Z.2],e,a7⟩
structure kR where
 c:bN
 vw:Value
 calls:List fK
def kR.enc(w:kR):List Value:=[w.c.vs,w.c.vc,w.vw]
structure kR.is(R:aB)(w:kR):Prop where
 c:w.c.is R
 rs:RS R 12 fK.enc w.vw w.calls
 all:∀d∈w.calls,d.is R
theorem R5{S:cW}(d:gj S)(bF no:List aE)(cs:List cD):(iO S bF no cs).rows.length<=S.rows.length+32:=by
 by_cases h:gq S bF no cs=0
 ·rw[BM d h]
  have b:fX bF no cs=0:=by
   unfold gq at h
   split at h
   ·rename_i a;exact absurd h a
   ·rename_i a;simpa using a
  have e:cs.length<=32:=by
   unfold fX at b
   split at b
   ·cases b
   ·omega
  simp only[List.length_append,List.length_map,news]
  have:=List.length_filter_le (λc:cD=>c.put) cs
  omega
 ·rw[rn h];omega
theorem gj.new:gj ⟨[],0,0⟩:=⟨λx a=>(by cases a),List.Pairwise.nil,by simp,Int.le_refl _,Int.le_refl _,by decide⟩
theorem Ni(c:Cf):od [] 0 c=(c.numbers isWord dj).1:=by
 unfold od
 simp only[List.getLast?_nil,Option.map_none,Option.getD_none,Bool.false_eq_true,if_false,List.length_nil]
 by_cases h:(c.numbers isWord dj).1=0
 ·rw[if_neg (by rw[h];simp),h];rfl
 ·rw[if_pos h]
def Ce(R:aB)(w:kR)(u:Value)(H:aR):Prop:=∃Tc Th Ts Tx hb g x e S,∃c:bN,H=[Tc,Th,Ts,Tx]/\u=.tuple [pT hb,pT g,.agg c.enc.toArray,pT x,.bool true].toArray/\
 c.is (λb o=>R b o\/(b,o)∈Tc)/\c.plain=iG w.c.plain/\((iG w.c.plain).numbers isWord dj).1=0/\ep.rev e=0/\(ep.c e).plain=iG w.c.plain/\HI hb [e] 0 Th/\SI g S Ts/\gj S/\DO x S Tx/\S.rows.length<=512
theorem NW(w:kR)(R:aB)(h:w.is R):Spec prog 14 [.agg w.enc.toArray] R [] λu H'=>Ce R w u H'\/
  ∃T c,∃x:Nat,H'=[T]/\u=.tuple [.pointer none,.pointer none,.agg (bN.enc c).toArray,pT x,.bool false].toArray/\c.is (λb o=>R b o\/(b,o)∈T)/\c.plain=iG w.c.plain/\((iG w.c.plain).numbers isWord dj).1≠0:=by
 obtain⟨c,vw,a4⟩:=w
 have I:=h.c
 have M:=h.rs
 have Z:=h.all
 simp only at I M Z⊢
 have i1:One c.vs:=RS.ap I.ss
 have i2:One c.vc:=RS.ap I.sc
 have i3:=M.ap
 have a9:=Ni (iG c.plain)
 refine Spec.body Tryz.func14 rfl Tryz.results14 Tryz.ntmps14 rfl ?_
 refine .sr ?_
 refine .bY rfl (λb1=>?_)
 refine .ag rfl<|.ag rfl ?_
 refine .bX (λb4=>?_)
 refine .ag rfl<|.ag rfl<|.z<|.fa rfl<|.q (.loadT rfl) ?_
 refine .cO ((MW c R I).weaken cZ) (λu Tc a=>?_)
 obtain⟨n,rfl,r,J⟩:=a
 have ic:ca n.enc:=⟨r.cT⟩
 have c7:One n.vs:=RS.ap r.ss
 have c8:One n.vc:=RS.ap r.sc
 refine .bX (λb7=>?_)
 refine .bP rfl rfl<|.z<|.q (.aM rfl) ?_
 refine .cO ((A6 n _ r).weaken λb o j=>j.elim .inl λj=>.inr (by simp[j])) (λu Tn a=>?_)
 obtain⟨wn,d3,rfl,a7,c4⟩:=a
 rw[J]
 have c9:One wn:=a7.rs.ap
 refine .mo rfl<|.q .extract<|.q .extract<|.ag rfl<|.ag rfl<|.z ?_
 refine .cO (Nj _) (λu Th a=>?_)
 obtain⟨j,rfl,hH⟩:=a
 refine .cO (QL _) (λu A a=>?_)
 obtain⟨g,rfl,v⟩:=a
 refine .q .cR ?_
 refine .bY rfl (λD=>?_)
 refine .ag rfl<|.ag rfl<|.ag rfl<|.zs<|.sr<|.mo rfl<|.q .et<|.mo rfl ?_
 refine .split (t:=29) rfl (λk=>?_) (λk=>?_)
 have b9:((iG c.plain).numbers isWord dj).1≠0:=by simpa using k
 refine .gF k<|.gF k<|.gF k<|.gF k<|.q (.aT k) ?_
 refine .zn<|.iH<|.seq<|.cL [4] mixed ?_
 refine .tO 0 rfl (.aM rfl)<|.tK 1 rfl .move<|.tO 2 rfl .assign<|.tO 3 rfl .assign ?_
 refine .sT 4 rfl ?_
 refine .bP rfl rfl ?_
 refine .nil (Next.mod rfl ?_)
 refine .tK 5 rfl .assign<|.tK 6 rfl .assign ?_
 refine RA.nil (by kernel_rfl) ?_
 refine av ?_
 refine .ret (aH (bp _ (.uJ (.tmp rfl) (.tmp rfl) (.fB rfl rfl) (.tmp rfl) (.tmp rfl)) (.one [5] _) ?_))
 ·exact .inr ⟨_,n,_,rfl,rfl,r.mono λb o j=>j.elim .inl λj=>.inr (by simp[take,bJ,j]),J,b9⟩
 have O:((iG c.plain).numbers isWord dj).1=0:=by simpa using k
 refine .gT k<|.mo rfl<|.gT k<|.q (.aM rfl)<|.gT k ?_
 refine .CX (Nh j [] 0 Th hH (by simp) 0 n _ (r.mono λb o j=>j.elim .inl λj=>.inr (by simp[j]))) (λu a1 a=>?_)
 rw[J,a9]at a
 obtain⟨rfl,a5,c0⟩:=a
 refine .gT k<|.q .et<|.q (.aS k) ?_
 refine .zn ?_
 refine .cond rfl (λL=>?_) λL=>?_
 refine .seq<|.cL [4] mixed ?_
 refine .tO 0 rfl (.aM rfl)<|.tK 1 rfl .move<|.tO 2 rfl .assign<|.tO 3 rfl .assign ?_
 refine .sT 4 rfl ?_
 refine .bP rfl rfl ?_
 refine .nil (Next.mod rfl ?_)
 refine .tK 5 rfl .assign<|.tK 6 rfl .assign ?_
 refine RA.nil (by kernel_rfl) ?_
 refine av ?_
 refine .ret (aH (bp _ (.uJ (.tmp rfl) (.tmp rfl) (.fB rfl rfl) (.tmp rfl) (.tmp rfl)) (.one [5] _) ?_))
 ·exfalso
  rw[O]at L
  simp at L
 obtain⟨e,b6,b5,Y⟩:=a5 O
 rw[List.nil_append]at Y
 refine .kn<|.sr<|.fa rfl<|.lo rfl ?_
 refine .cO (MV _ a4 16 (by omega) _ R M.rx Z) (λu a0 a=>?_)
 obtain⟨F,l,b3,b2⟩:=a
 have c6:=l.ap
 have c3:F.length<=16:=by rw[b2];exact Nat.min_le_right _ _
 refine .ag rfl<|.zs<|.sr<|.az rfl<|.block ?_
 refine .cz [(4,_),(7,_),(10,_),(11,_),(12,_),(13,_)] (X:=Nat×cW×ay×ay) (λy=>y.1<=F.length/\SI g y.2.1 y.2.2.1/\gj y.2.1/\DO D y.2.1 y.2.2.2/\y.2.1.rows.length<=32*y.1) (λy E=>(14,iN y.1)::E) (λy G=>a0::y.2.2.2::y.2.2.1::G) (λy=>F.length-y.1) (0,⟨[],0,0⟩,A,bl D [sZ,.int .u64 0,.int .u64 0] 103) ⟨Nat.zero_le _,v,gj.new,⟨_,[],[],rfl,OS.nil,RL.new⟩,by simp⟩ kE.c.c.c.c.c.c.c rH ?_
 rintro⟨i,S,A,K⟩ ⟨hi,v,p,H,b8⟩
 simp only at hi v p H b8⊢
 refine .seq<|.sr<|.mo rfl<|.mo rfl<|.q (.dK l) ?_
 refine .q .lss<|.zn ?_
 refine .cond rfl (λW=>?_) λW=>?_
 have N:i<F.length:=cb W
 obtain⟨d,m⟩:=bL N
 obtain⟨f,c1,c2,b0⟩:=b3 d (aO m)
 obtain⟨dk,U,V,Q,df,dr,B,C,s⟩:=d
 have c5:=R5 p B C s
 have d0:One U:=RS.ap f.hm
 have d1:One V:=RS.ap f.hn
 have d2:One Q:=RS.ap f.hc
 refine .kn<|.seq<|.block<|.sr<|.mo rfl<|.mo rfl ?_
 refine .aL i l m (λd4=>?_)
 refine .fa rfl<|.lo rfl<|.q .bQ<|.zn ?_
 refine .cond rfl (λh3=>?_) λh3=>?_
 refine .seq ?_
 refine .dt 16 mixed (by kernel_rfl) ?_
 conv=>arg 6;dsimp only[List.take]
 refine .mo rfl<|.mo rfl<|.mo rfl ?_
 refine .aL i l m (λd5=>?_)
 refine .fa rfl<|.lo rfl<|.mo rfl<|.mo rfl ?_
 refine .aL i l m (λd6=>?_)
 refine .fa rfl<|.lo rfl<|.mo rfl<|.mo rfl ?_
 refine .aL i l m (λd7=>?_)
 refine .fa rfl<|.lo rfl<|.nil ?_
 refine .dg (R6 g S A v p U V Q B C s _ f.hm f.hn f.hc f.fm f.fn f.fc) (λu a2 a=>?_)
 obtain⟨rfl,a8⟩:=a
 refine .zn ?_
 refine .dt 16 mixed (by kernel_rfl) ?_
 conv=>arg 6;dsimp only[List.take]
 refine .mo rfl<|.mo rfl<|.mo rfl ?_
 refine .aL i l m (λd8=>?_)
 refine .fa rfl<|.lo rfl<|.mo rfl<|.mo rfl ?_
 refine .aL i l m (λd9=>?_)
 refine .fa rfl<|.lo rfl<|.mo rfl<|.mo rfl ?_
 refine .aL i l m (λe0=>?_)
 refine .fa rfl<|.lo rfl<|.nil ?_
 refine .dg (Qc D S K H p U V Q B C s _ f.hm f.hn f.hc f.fm f.fn f.fc (by have h9:s.length<=34:=b0;omega)) (λu a3 a=>?_)
 obtain⟨rfl,a6⟩:=a
 refine .nil<|aV<|av<|.region<|.mo rfl ?_
 refine .ia (i+1) .add ?_
 refine .ag rfl<|.nil ?_
 ·exact aW (i+1,iO S B C s,a2,a3) ⟨N,a8,p.write B C s,a6,by simp only;omega⟩ (by simp only;omega) kE.c.c.c.c.c.c.c rH
 refine .skip<|aV<|av<|.region<|.mo rfl ?_
 refine .ia (i+1) .add ?_
 refine .ag rfl<|.nil ?_
 ·exact aW (i+1,S,A,K) ⟨N,v,p,H,by simp only;omega⟩ (by simp only;omega) kE.c.c.c.c.c.c.c rH
 refine .exit<|bm<|bs<|bo<|av<|.seq<|.cL [6] mixed ?_
 refine .tO 0 rfl .move<|.tO 1 rfl .move<|.tO 2 rfl (.aM rfl)<|.tK 3 rfl .move<|.tO 4 rfl .assign<|.tO 5 rfl .assign ?_
 refine .sT 6 rfl ?_
 refine .bP rfl rfl ?_
 refine .nil (Next.mod rfl ?_)
 refine .tK 7 rfl .assign<|.tK 8 rfl .assign ?_
 refine RA.nil (by kernel_rfl) ?_
 refine av ?_
 refine .ret (bp _ (.uJ (.tmp rfl) (.tmp rfl) (.fB rfl rfl) (.tmp rfl) (.tmp rfl)) (aQ [6,3,2,1]) ?_)
 ·exact .inl ⟨Tc,a1,A,K,j,g,D,e,S,n,rfl,rfl,r,J,O,b6,b5,Y,v,p,H,by omega⟩
abbrev kP(n:Nat):Value:=iN n
def mi(c:Cf)(num:List Nat):List (Ty×Nat):=(c.all.map dY).zip num
theorem Oy(c:Cf)(num:List Nat)(a:num.length=c.all.length)(t:Ty):(di t (mi c num)).getD 0=match bW c.all t with|none=>0|some i=>num.getD i 0:=by
 unfold mi bW
 generalize c.all=A at *
 induction A generalizing num with
 |nil=>simp[di]
 |cons x A ih=>
  cases num with
  |nil=>simp at a
  |cons n num=>
   have:=ih num (by simpa using a)
   rw[List.map_cons,List.zip_cons_cons,di,List.findIdx?_cons]
   by_cases e:t=dY x
   ·subst e;simp
   ·rw[if_neg e,this]
    have b:decide (dY x=t)=false:=decide_eq_false λh=>e h.symm
    rw[b]
    cases List.findIdx? (λx=>decide (dY x=t)) A with
    |none=>rfl
    |some i=>rfl
theorem vM(c:bN)(R:aB)(h:c.is R)(hu:c.plain.dU)(w:Value)(N:List fA)(num:List Nat)(U:NN R w N)(a9:N.map (·.2)=rows c.plain.bg num)(W:num.length=c.plain.all.length):
  Spec prog 81 [.agg c.enc.toArray,w] R [] λu H'=>∃T,H'=[T]/\MS mg kP u (mi c.plain num) T:=by
 have o:=h.ss
 have i1:=o.ap
 have i2:One c.vc:=RS.ap h.sc
 have c2:=o.le
 have a5:=h.all
 have a0:=U.rs
 have iw:=a0.ap
 have b0:=U.all
 have b6:=oT c.plain
 have b5:c.plain.bg.length=c.bg.length:=by unfold bN.plain;simp
 have a2:∀(i:Nat) (s:cy),c.bg[i]? =some s->c.plain.bg[i]? =some s.plain:=λi s f=>oF f
 have b8:=λ(p:gl) (s:cy) (r:cv)=>oB (c:=c) (p:=p) (s:=s) (r:=r)
 have a7:∀i k,c.ix (i,k)=cG c.plain.bg i+k:=λ_ _=>rfl
 have c0:(c.plain.all.map dY).Nodup:=hu.2.1
 have I:mi c.plain num=(c.plain.all.map dY).zip num:=rfl
 generalize hA:c.plain.all=A at *
 generalize hQ:mi c.plain num=Q at *
 have a4:Q.length=A.length:=by rw[I];simp[W]
 have a3:Q.map (·.1)=A.map dY:=by rw[I];exact List.map_fst_zip (by simp[W])
 have b4:∀i s,c.bg[i]? =some s->∃v,N[i]? =some (v,(num.drop (cG c.plain.bg i)).take s.bR.length):=λi s f=>by
  have g:=pP (n:=num) (a2 i s f)
  rw[<-a9,List.getElem?_map,show s.plain.bR.length=s.bR.length by simp[cy.plain]]at g
  obtain⟨⟨v,r⟩,j,O⟩:=Option.map_eq_some_iff.1 g
  exact⟨v,by rw[j];simp only at O;rw[O]⟩
 generalize C:cG c.plain.bg=of at *
 have b1:of 0=0:=by rw[<-C];cases c.plain.bg<;>rfl
 refine Spec.body Tryz.func81 rfl Tryz.results81 Tryz.ntmps81 rfl<|.sr ?_
 refine .bY rfl (λb2=>?_)
 refine .ag rfl<|.z ?_
 refine .makeMap (λB=>?_)
 refine .ag rfl<|.zs<|.sr<|.fa rfl<|.lo rfl<|.q (.bH o)<|.mo rfl<|.zn<|.block<|.cz [(1,_),(5,_),(12,_),(13,_)] (X:=Nat×ay) (λy=>y.1<=c.bg.length/\MS mg kP (.map (some B)) (Q.take (of y.1)) y.2) (λy E=>(14,iN y.1)::E) (λy G=>y.2::G) (λy=>c.bg.length-y.1) (0,[(B,.map #[] 0)]) ⟨Nat.zero_le _,by rw[b1];exact MS.nil⟩ kE.c.c.c.c.c rH ?_
 rintro⟨i,T⟩ ⟨hi,b⟩
 simp only at hi b⊢
 refine .sr<|.q .lss<|.zs<|.cond rfl (λg=>?_) λg=>?_
 have Y:i<c.bg.length:=cb g
 obtain⟨⟨l,x,a⟩,f⟩:=bL Y
 have M:=a5 _ (aO f)
 have m:RS R 3 cv.enc x a:=M.rs
 have c6:=m.ap
 have c3:=m.le
 have c8:ca (cy.enc ⟨l,x,a⟩):=⟨M.cT⟩
 have a1:=oD (a2 i _ f)
 rw[C,show(cy.plain ⟨l,x,a⟩).bR.length=a.length by simp[cy.plain]]at a1
 obtain⟨vr,H⟩:=b4 i _ f
 simp only at H
 have L:=b0 _ (aO H)
 simp only at L
 have c9:One vr:=L.ap
 refine .kn<|.seq<|.block<|.sr<|.mo rfl ?_
 refine .bx i o f (λd0=>?_)
 refine .q (.aM rfl) ?_
 refine .bX (λb7=>?_)
 refine .ag rfl<|.bP rfl rfl<|.z<|.fa rfl<|.lo rfl<|.q (.bH m)<|.mo rfl<|.zn<|.block<|.cz [(1,_),(5,_),(6,_),(7,_),(12,_),(13,_),(14,_),(20,_),(21,_)] (X:=Nat×ay) (λy=>y.1<=a.length/\MS mg kP (.map (some B)) (Q.take (of i+y.1)) y.2) (λy E=>(22,iN y.1)::E) (G:=[bl b2 c.enc 25]) (λy G=>bl b7 (cy.enc ⟨l,x,a⟩) 164::y.2::G) (λy=>a.length-y.1) (0,T) ⟨Nat.zero_le _,b⟩ kE.c.c.c.c.c.c.c.c.c.c rH ?_
 rintro⟨k,T⟩ ⟨hk,b⟩
 simp only at hk b⊢
 refine .sr<|.q .lss<|.zs<|.cond rfl (λj=>?_) λj=>?_
 have F:k<a.length:=cb j
 obtain⟨⟨vt,vn,r⟩,J⟩:=bL F
 have K:=M.all _ (aO J)
 have c7:One vt:=RS.ap K.t
 have c5:One vn:=RS.ap K.d
 have c4:ca (cv.enc ⟨vt,vn,r⟩):=⟨K.cT⟩
 have D:=b8 (i,k) _ _ f J
 rw[a7]at D
 have c1:of i+k<A.length:=(List.getElem?_eq_some_iff.1 D).1
 obtain⟨n,Z⟩:∃n,num[of i+k]? =some n:=⟨_,aX (by omega)⟩
 have b3:((num.drop (of i)).take a.length)[k]? =some n:=by rw[List.getElem?_take_of_lt F,List.getElem?_drop];exact Z
 have V:Q[of i+k]? =some (⟨l,r.name⟩,n):=by
  rw[I,List.getElem?_zip_eq_some]
  exact⟨by rw[List.getElem?_map,D];rfl,Z⟩
 refine .kn<|.seq<|.block<|.sr<|.mo rfl ?_
 refine .bx k m J (λd1=>?_)
 refine .q (.aM rfl) ?_
 refine .bX (λb9=>?_)
 refine .ag rfl<|.bP rfl rfl<|.zn<|.dt 13 mixed (by kernel_rfl) ?_
 conv=>arg 6;dsimp only[List.take]
 refine .mo rfl<|.fa rfl<|.lo rfl<|.fa rfl<|.lo rfl ?_
 refine .q .cR ?_
 refine .mo rfl<|.mo rfl ?_
 refine .bx i a0 H (λd2=>?_)
 refine .lo rfl<|.mo rfl ?_
 refine .bx k L b3 (λd3=>?_)
 refine .lo rfl<|.nil<|.update (key:=(⟨l,r.name⟩:Ty)) (u:=n) b rfl rfl rfl (λT2 S _=>?_)
 rw[mK (λhm=>by
  obtain⟨q,hq,e⟩:=List.mem_iff_getElem.1 hm
  rw[List.length_map,List.length_take]at hq
  rw[List.getElem_map,List.getElem_take]at e
  have g:(Q.map (·.1))[of i+k]? =some ⟨l,r.name⟩:=by rw[List.getElem?_map,V];rfl
  have j:(Q.map (·.1))[q]? =some ⟨l,r.name⟩:=by rw[List.getElem?_map,aX (by omega),Option.map_some,e]
  exact mM (show q<of i+k by omega) g j rfl (by rw[a3];exact c0)), <-dG V]at S
 refine .nil<|aV<|av<|.region<|.ia (k+1) .add<|.mo rfl<|.nil ?_
 ·exact aW (k+1,T2) ⟨F,S⟩ (by simp only;omega) kE.c.c.c.c.c.c.c.c.c.c (aQ [1,1,1])
 have a8:k=a.length:=by have:=bA j;omega
 rw[a8, <-a1]at b
 refine .exit<|bm<|bs<|bo<|aV<|av<|.region<|.ia (i+1) .add<|.mo rfl<|.nil ?_
 ·exact aW (i+1,T) ⟨Y,b⟩ (by simp only;omega) kE.c.c.c.c.c (aQ [1,1])
 refine .exit<|bm<|bs<|bo<|av<|.sr<|.mo rfl<|.az rfl<|.ret (bp _ (.one (.tmp rfl)) (.one [0] _) ?_)
 ·refine⟨_,rfl,?_⟩
  have a6:i=c.bg.length:=by have:=bA g;omega
  have:of i=Q.length:=by
   rw[a6,a4, <-b5, <-C];exact b6
  rw[this,List.take_length]at b
  simpa[take]using b
structure aD where
 k:bc
 found:Bool
 vn:Value
 nodes:List Nd
 vu:Value
 eR:List ByteArray
 vl:Value
 ll:List fA
 number:Nat
def aD.enc(p:aD):List Value:=[.string p.k.os,.string p.k.oi,.string p.k.rel,.bool p.found,p.vn,p.vu,p.vl,iN p.number]
def aD.plain(p:aD):bM:=⟨p.k,p.found,p.nodes,p.number,p.eR,p.ll.map (·.2)⟩
structure aD.is(R:aB)(p:aD):Prop where
 n:RS R 5 Nd.enc p.vn p.nodes
 u:RS R 1 cg p.vu p.eR
 l:NN R p.vl p.ll
theorem aD.is.mono{R R':aB}{p:aD}(h:p.is R)(a:∀b o,R b o->R' b o):p.is R':=⟨h.n.mono a,h.u.mono a,h.l.mono a⟩
theorem aD.is.cT{R:aB}{p:aD}(h:p.is R):∀u∈p.enc,ap u=true:=by
 have b:=h.n.ap
 have c:=h.u.ap
 have d:=h.l.rs.ap
 intro u a
 simp only[aD.enc,List.mem_cons,List.not_mem_nil,or_false]at a
 rcases a with rfl|rfl|rfl|rfl|rfl|rfl|rfl|rfl
 ·rfl
 ·rfl
 ·rfl
 ·rfl
 ·exact b.h
 ·exact c.h
 ·exact d.h
 ·rfl
instance bc.Sn:fz prog 269 (λk:bc=>.agg k.enc.toArray):=fz.agg yL Tryz.underlying269 rfl bc.kinds bc.eq
abbrev zP(k:bc):Value:=.agg k.enc.toArray
structure XC where
 c:bN
 num:List Nat
 vn:Value
 g:Nat
 S:cW
 L:List bC
 rev:Int
 b:Int
def XC.sub(x:XC)(k:bc):List Sub:=if scan x.S x.rev then(x.L.filter λy=>y.there x.rev&&decide (y.t.cJ=k)).map (·.t.sub)else []
structure XC.ok(R:aB)(x:XC):Prop where
 c:x.c.is R
 n:RM R mg kP x.vn (mi x.c.plain x.num)
 nl:x.num.length=x.c.plain.all.length
 s:∃ps vf vr Mf Mr,SV R x.g x.S ps vf vr Mf Mr
 l:RL x.S x.L
 len:x.S.rows.length<=1000
theorem XC.ok.mono{R R':aB}{x:XC}(h:x.ok R)(a:∀b o,R b o->R' b o):x.ok R':=⟨h.c.mono a,h.n.mono a,h.nl,let ⟨ps,vf,vr,Mf,Mr,h1⟩:=h.s;⟨ps,vf,vr,Mf,Mr,h1.mono a⟩,h.l,h.len⟩
def XC.cells(x:XC)(va vp:Value)(e:Nat):List Value:=[x.c.vs,x.c.vc,x.vn,.pointer (some ⟨x.g,0,none⟩),.int .u64 x.rev,va,vp,iN e,.int .i64 x.b]
abbrev XC.iF(x:XC)(xb:Nat)(va vp:Value)(e:Nat):ay:=(bl xb (x.cells va vp e) 190)
def iP(ps:List aD)(va:Value)(T:ay):Prop:=∃M,MS zP kP va M T/\∀k,di k M=eY (ps.map aD.plain) k
theorem OQ(x:XC)(R:aB)(h:x.ok R)(xb:Nat)(va d:Value)(e:Nat)(ps:List aD) [o:One va] [pc:PC R (pT xb) (x.cells va d e)](a:RS R 8 aD.enc d ps)(g:e<=1000000000000)(f:0<=x.b/\x.b<=9223372036854775807):
  Spec prog 84 [pT xb] R [] λu H'=>u=.bool (decide (x.b<(ps.length+e:Nat)))/\H'=[]:=by
 have j:One x.c.vs:=RS.ap h.c.ss
 have k:One x.c.vc:=RS.ap h.c.sc
 have l:=h.n.one
 have m:=a.ap
 have i:=a.le
 refine Spec.body Tryz.func84 rfl Tryz.results84 Tryz.ntmps84 rfl<|.sr<|.ag rfl<|.zs<|.gn mixed (by kernel_rfl)<|.mo rfl<|.nc rfl<|.fa rfl<|.fa rfl<|.lo rfl<|.q (.bH a) ?_
 refine .mo rfl<|.nc rfl<|.fa rfl<|.lo rfl<|.mo rfl ?_
 refine .nc rfl<|.fa rfl<|.fa rfl<|.lo rfl ?_
 refine .q (.i64 (x.b-e) .sub ⟨by omega,by omega,by omega⟩) ?_
 refine .q .gtr<|.az rfl<|.ret (aP rfl ?_)
 ·refine⟨congrArg _ ?_,rfl⟩
  rw[decide_eq_decide]
  omega
theorem OU{ps:List bM}{p:bM}(h:eY ps p.k=none)(k:bc):eY (ps++[p]) k=if k=p.k then some ps.length else eY ps k:=by
 unfold eY at h⊢
 rw[List.findIdx?_append]
 by_cases e:k=p.k
 ·subst e
  rw[h,if_pos rfl]
  simp[List.findIdx?_cons]
 ·rw[if_neg e]
  have a:decide (p.k=k)=false:=decide_eq_false λh=>e h.symm
  simp[List.findIdx?_cons,a]
theorem iP.add{ps:List aD}{p:aD}{va:Value}{T:ay}{M:List (bc×Nat)}(b:MS zP kP va (dL p.k ps.length M) T)(a:∀k,di k M=eY (ps.map aD.plain) k)(h:eY (ps.map aD.plain) p.k=none):iP (ps++[p]) va T:=
 ⟨_,b,λk=>by
  rw[pI,a,List.map_append,List.map_cons,List.map_nil,OU h]
  rw[List.length_map]
  rfl⟩
def xl(x:XC)(R:aB)(xb:Nat)(ps:List aD)(e:Nat)(va:Value)(k:bc)(u:Value)(H':aR):Prop:=∃ps' vp Ta To,H'=[x.iF xb va vp e,Ta,To]/\u=.int .i64 ((ew x.c.plain x.num (ps.map aD.plain) k).2:Nat)/\ps'.map aD.plain=(ew x.c.plain x.num (ps.map aD.plain) k).1/\iP ps' va Ta/\OS 95 8 aD.enc vp ps' To/\∃l,ps'=ps++l/\∀p∈l,p.is R
theorem AQ(x:XC)(R:aB)(h:x.ok R)(xb:Nat)(ps:List aD)(e:Nat)(va t:Value)(g m:ay)(hA:iP ps va g)(G:OS 95 8 aD.enc t ps m)(hl:ps.length<=3000000)(k:bc):
  Spec prog 83 [pT xb,.agg [.string k.os,.string k.oi].toArray,.string k.rel] R [x.iF xb va t e,g,m] (xl x R xb ps e va k):=by
 have U:∀u D,xl x R xb ps e va k u D↔∃ps' t g m,D=[x.iF xb va t e,g,m]/\u=.int .i64 ((ew x.c.plain x.num (ps.map aD.plain) k).2:Nat)/\ps'.map aD.plain=(ew x.c.plain x.num (ps.map aD.plain) k).1/\iP ps' va g/\OS 95 8 aD.enc t ps' m/\∃l,ps'=ps++l/\∀p∈l,p.is R:=λ_ _=>Iff.rfl
 have a1:=Bu x.c R h.c k.os k.rel
 have i1:One x.c.vs:=RS.ap h.c.ss
 have i2:One x.c.vc:=RS.ap h.c.sc
 have i3:=h.n.one
 have hn:=h.n
 have a8:=Oy x.c.plain x.num h.nl
 obtain⟨M,F,L⟩:=hA
 have iv:=F.one
 have ip:=G.ap
 have a5:∀i,eY (ps.map aD.plain) k=some i->ew x.c.plain x.num (ps.map aD.plain) k=(ps.map aD.plain,i):=λi O=>by unfold ew;rw[O]
 have a6:eY (ps.map aD.plain) k=none->ew x.c.plain x.num (ps.map aD.plain) k=(ps.map aD.plain++[one x.c.plain x.num k],ps.length):=λO=>by unfold ew;rw[O];simp
 have a4:=λ(p:aD) (T:ay)=>iP.add (ps:=ps) (p:=p) (va:=va) (T:=T) (M:=M)
 have b1:one x.c.plain x.num k=match bW x.c.plain.all ⟨k.os,k.rel⟩with
  |none=>⟨k,false,[],0,[],[]⟩
  |some i=>⟨k,true,(x.c.plain.all.map (·.2.nodes)).getD i [],x.num.getD i 0,[],[]⟩:=rfl
 have N:=h.c.all
 have b5:=λ(p:gl) (s:cy) (r:cv)=>oB (c:=x.c) (p:=p) (s:=s) (r:=r)
 obtain⟨i0,ok,b3,Z⟩:∃(i:Nat) (ok:Bool),[((di k M).map kP).getD (kP 0),Value.bool (di k M).isSome]=[kP i,.bool ok]/\eY (ps.map aD.plain) k=if ok then some i else none:=by
  rw[L k]
  cases eY (ps.map aD.plain) k with
  |none=>exact⟨0,false,rfl,rfl⟩
  |some i=>exact⟨i,true,rfl,rfl⟩
 refine Spec.body Tryz.func83 rfl Tryz.results83 Tryz.ntmps83 rfl<|.sr ?_
 refine .bY rfl (λb4=>?_)
 refine .ag rfl<|.z<|.q (.aM rfl)<|.mo rfl<|.q .cR ?_
 refine .bX (λb7=>?_)
 refine .bP rfl rfl<|.zs<|.seq<|.gn mixed (by kernel_rfl)<|.mo rfl<|.nc rfl<|.fa rfl<|.lo rfl<|.q (.aM rfl)<|.q (.cast (.pH F.rx rfl rfl) (congrArg (λl:List Value=>Value.tuple l.toArray) b3))<|.mo rfl<|.q .extract<|.q .extract<|.ag rfl<|.ag rfl<|.z<|.mo rfl<|.zn<|.cond rfl (λK=>?_) λK=>?_
 have b2:ok=true:=K
 subst b2
 have V:=a5 i0 Z
 refine .sr<|.mo rfl<|.az rfl<|.ret (aH (bp _ (.one (.tmp rfl)) (aQ [2,2,2]) ?_))
 ·refine(U _ _).2 ⟨ps,t,g,m,?_,?_,?_,⟨M,F,L⟩,G,[],by simp,λp I=>(by cases I)⟩
  ·simp[take,bJ]
  ·rw[V]
  ·rw[V]
 have b0:ok=false:=K
 subst b0
 have Y:eY (ps.map aD.plain) k=none:=Z
 have W:=a6 Y
 refine .kn<|.seq ?_
 refine bz.cS [(0,_),(2,_),(4,_),(7,_)] kE.c.c.c.c (X:=Nat×cv×Bool) (λy=>mV x.c ⟨k.os,k.rel⟩ y.2.1 y.2.2/\ca y.2.1.enc) (λy E=>(10,.pointer (some ⟨y.1,0,none⟩))::(11,.bool y.2.2)::E) (λy=>[[(y.1,.cells y.2.1.enc.toArray 167 (0,0))],bl b7 k.enc 269,bl b4 [.string k.os,.string k.oi] 44,x.iF xb va t e,g,m]) ?_ ?_
 refine .cL [12] mixed<|.tO 0 rfl .move<|.tO 1 rfl (.nilCheck rfl)<|.tO 2 rfl (.fieldAddr rfl) ?_
 refine .tO 3 rfl (.loadT rfl) ?_
 refine .tO 4 rfl (.fieldAddr rfl)<|.tO 5 rfl (.bZ rfl)<|.tO 6 rfl .move<|RA.kL 7 11 rfl rfl (by kernel_rfl) rfl ?_ ?_
 refine .aY ((a1.mono λu D f=>⟨f.2,f.1⟩).weaken cZ) (λu f=>?_)
 obtain⟨r,v,rfl,a⟩:=f
 have B:ca r.enc:=by
  unfold mV at a
  cases hf:bW x.c.plain.all ⟨k.os,k.rel⟩with
  |none=>rw[hf]at a;obtain⟨_,rfl⟩:=a;exact⟨by simp[cv.enc,cv.zero,ap]⟩
  |some j=>rw[hf]at a;obtain⟨_,p,s,A,w,Q⟩:=a;exact⟨((N _ (aO A)).all _ (aO w)).cT⟩
 refine .nil<|Next.sub<|.tO 8 rfl .move<|.tO 9 rfl .extract<|.tK 10 rfl .extract<|.sT 11 rfl ?_
 refine .bX (λJ=>?_)
 refine .nil<|Next.sub<|.sT 12 rfl<|.bP rfl rfl<|.nil<|Next.mod rfl<|.tK 13 rfl .assign<|RA.nil (by kernel_rfl) ?_
 ·exact aF (J,r,v) ⟨a,B⟩ kE.c.c.c.c.c.c rH
 refine .bX (λJ=>?_)
 refine .nil<|Next.sub<|.sT 7 rfl<|.aY ((a1.mono λu D f=>⟨f.2,f.1⟩).weaken cZ) (λu f=>?_)
 obtain⟨r,v,rfl,a⟩:=f
 have B:ca r.enc:=by
  unfold mV at a
  cases hf:bW x.c.plain.all ⟨k.os,k.rel⟩with
  |none=>rw[hf]at a;obtain⟨_,rfl⟩:=a;exact⟨by simp[cv.enc,cv.zero,ap]⟩
  |some j=>rw[hf]at a;obtain⟨_,p,s,A,w,Q⟩:=a;exact⟨((N _ (aO A)).all _ (aO w)).cT⟩
 refine .nil<|Next.sub<|.tO 8 rfl .move<|.tO 9 rfl .extract<|.tK 10 rfl .extract<|.sT 12 rfl<|.bP rfl rfl<|.nil<|Next.mod rfl<|.tK 13 rfl .assign<|RA.nil (by kernel_rfl) ?_
 ·exact aF (J,r,v) ⟨a,B⟩ kE.c.c.c.c.c.c rH
 intro y hy
 obtain⟨bb,r,v⟩:=y
 obtain⟨a,B⟩:=hy
 simp only at a B⊢
 obtain⟨C,a9,a7⟩:∃C,(di (⟨k.os,k.rel⟩:Ty) (mi x.c.plain x.num)).getD 0=C/\((di (⟨k.os,k.rel⟩:Ty) (mi x.c.plain x.num)).map kP).getD (kP 0)=kP C:=by
  cases di (⟨k.os,k.rel⟩:Ty) (mi x.c.plain x.num)with
  |none=>exact⟨0,rfl,rfl⟩
  |some i=>exact⟨i,rfl,rfl⟩
 obtain⟨a0,H⟩:one x.c.plain x.num k=⟨k,v,r.r.nodes,C,[],[]⟩/\RS R 5 Nd.enc r.vn r.r.nodes:=by
  rw[b1, <-a9,a8]
  unfold mV at a
  cases hf:bW x.c.plain.all ⟨k.os,k.rel⟩with
  |none=>rw[hf]at a;obtain⟨rfl,rfl⟩:=a;exact⟨rfl,RS.fk⟩
  |some j=>
   rw[hf]at a
   obtain⟨rfl,p,s,A,w,Q⟩:=a
   refine⟨?_,((N _ (aO A)).all _ (aO w)).d⟩
   have:=b5 p s r A w
   rw[Q]at this
   simp only[List.getD_eq_getElem?_getD,List.getElem?_map,this]
   rfl
 obtain⟨vt,vd,r⟩:=r
 simp only at a0 H
 have b8:One vd:=H.ap
 obtain⟨pd,cd,rfl⟩:=H.val
 refine av<|.seq<|.dt 11 mixed (by kernel_rfl) ?_
 conv=>arg 6;dsimp only[List.take]
 refine .mo rfl<|.nc rfl<|.fa rfl<|.lo rfl<|.q (.aM rfl)<|.mo rfl<|.nc rfl<|.fa rfl<|.fa rfl<|.lo rfl<|.q (.dK G)<|.nil ?_
 refine .update (key:=k) (u:=ps.length) F rfl rfl rfl (λa3 S _=>?_)
 refine .zs<|.cL [22,26] mixed<|.tK 0 rfl .move<|.tO 1 rfl .move<|.tO 2 rfl (.nilCheck rfl)<|.tO 3 rfl (.fieldAddr rfl)<|.tO 4 rfl (.fieldAddr rfl)<|.tO 5 rfl (.bZ rfl)<|.tO 6 rfl (.aM rfl)<|.tO 7 rfl .move<|.tO 8 rfl .move<|.tO 9 rfl (.fieldAddr rfl)<|.tO 10 rfl (.bZ rfl)<|.tO 11 rfl .move<|.tO 12 rfl (.nilCheck rfl)<|.tO 13 rfl (.fieldAddr rfl)<|.tO 14 rfl (.bZ rfl)<|.tO 15 rfl (.fieldAddr rfl)<|.tO 16 rfl (.bZ rfl)<|.tO 17 rfl .move<|.tO 18 rfl .cR<|.fw 19 rfl (.ou (hn.mono λb o hb=>.inl hb) rfl rfl (key:=(⟨k.os,k.rel⟩:Ty)) a7) (by kernel_rfl)<|.tO 20 rfl .cR<|.sT 21 rfl ?_
 refine .ej (λb6=>?_)
 refine .nil<|Next.sub<|.sT 22 rfl<|.append G (RS.lits (xs:=[(⟨k,v,.slice pd r.nodes.length cd,r.nodes,sZ,[],sZ,[],C⟩:aD)]) rfl (by simp[aD.enc]) (by simp[aD.enc,ap])) (by simp only[List.length_singleton];omega) (λv5 T5 a2=>?_)
 have i5:=a2.ap
 refine .nil<|Next.mod rfl<|.tK 23 rfl (.lI rfl)<|.tK 24 rfl (.gz rfl)<|.tK 25 rfl (.gz rfl)<|.sT 26 rfl<|.dZ rfl rfl<|.nil<|Next.mod rfl<|RA.nil (by kernel_rfl)<|av<|.seq<|.gn mixed (by kernel_rfl)<|.mo rfl<|.nc rfl<|.fa rfl<|.lo rfl<|.q (.aM rfl)<|.q (.ou S.rx rfl rfl (key:=k) rfl)<|.az rfl<|.ret (bp _ (.one (.tmp rfl)) (aQ [4,4,4]) ?_)
 ·refine(U _ _).2 ⟨_,v5,a3,T5,?_,?_,?_,a4 _ _ S L Y,a2,_,rfl,λp I=>?_⟩
  ·simp[take,bJ,dc,XC.cells]
  ·rw[W,pI,if_pos rfl];rfl
  ·rw[W,a0,List.map_append];rfl
  ·rw[List.mem_singleton]at I
   subst I
   exact⟨H,RS.fk,NN.nil⟩
def oU(c:Cf)(k:bc)(l:List Sub):List ByteArray:=((l.filter (allowed c k)).filter λs=> !decide (s.us=⟨#[]⟩)).map (·.us)
def oL(c:Cf)(k:bc)(l:List Sub):List Sub:=(l.filter (allowed c k)).filter λs=>decide (s.us=⟨#[]⟩)
theorem RT{c:Cf}{k:bc}{l:List Sub}{i:Nat}{s:Sub}(h:l[i]? =some s):oU c k (l.take (i+1))=oU c k (l.take i)++if allowed c k s=true/\s.us≠⟨#[]⟩then [s.us]else []:=by
 rw[dG h]
 unfold oU
 rw[List.filter_append,List.filter_append,List.map_append]
 congr 1
 by_cases a:allowed c k s=true<;>by_cases b:s.us=⟨#[]⟩<;>simp[a,b]
theorem QM{c:Cf}{k:bc}{l:List Sub}{i:Nat}{s:Sub}(h:l[i]? =some s):oL c k (l.take (i+1))=oL c k (l.take i)++if allowed c k s=true/\s.us=⟨#[]⟩then [s]else []:=by
 rw[dG h]
 unfold oL
 rw[List.filter_append,List.filter_append]
 congr 1
 by_cases a:allowed c k s=true<;>by_cases b:s.us=⟨#[]⟩<;>simp[a,b]
theorem XC.BI{x:XC}{R:aB}(h:x.ok R)(k:bc):(x.sub k).length<=1000:=by
 unfold XC.sub
 split
 ·rw[List.length_map]
  have a:=List.length_filter_le (λy:bC=>y.there x.rev&&decide (y.t.cJ=k)) x.L
  have b:=h.l.pm.length_eq
  have c:=h.len
  omega
 ·simp
theorem BJ(x:XC)(R:aB)(h:x.ok R)(xb:Nat)(va U:Value)(e:Nat) [iv:One va] [ip:One U] [pc:PC R (pT xb) (x.cells va U e)](k:bc):
  Spec prog 145 [pT xb,.agg [.string k.os,.string k.oi].toArray,.string k.rel] R [] λu H'=>∃Tu Ts,H'=[Tu,Ts]/\∃wu ws,u=.tuple [wu,ws].toArray/\OS 9 1 cg wu (gS x.c.plain x.sub k) Tu/\OS 117 4 Sub.enc ws (fu x.c.plain x.sub k) Ts:=by
 have Z:=Cx x.c R h.c
 have i1:One x.c.vs:=RS.ap h.c.ss
 have i2:One x.c.vc:=RS.ap h.c.sc
 have i3:=h.n.one
 obtain⟨ps,vf,vr,Mf,Mr,W⟩:=h.s
 have b3:=XC.BI h k
 have hl:=h.l
 have b1:=h.len
 have Y:gS x.c.plain x.sub k=oU x.c.plain k (x.sub k):=rfl
 have V:fu x.c.plain x.sub k=oL x.c.plain k (x.sub k):=rfl
 have a4:x.sub k=if scan x.S x.rev then(x.L.filter λy=>y.there x.rev&&decide (y.t.cJ=k)).map (·.t.sub)else []:=rfl
 have a6:∀i,(oU x.c.plain k ((x.sub k).take i)).length<=1000:=λi=>by
  unfold oU
  rw[List.length_map]
  refine Nat.le_trans (List.length_filter_le _ _) (Nat.le_trans (List.length_filter_le _ _) ?_)
  rw[List.length_take];omega
 have a2:∀i,(oL x.c.plain k ((x.sub k).take i)).length<=1000:=λi=>by
  unfold oL
  refine Nat.le_trans (List.length_filter_le _ _) (Nat.le_trans (List.length_filter_le _ _) ?_)
  rw[List.length_take];omega
 have a5:=λ(l:List Sub) (i:Nat) (s:Sub) (h:l[i]? =some s)=>RT (c:=x.c.plain) (k:=k) h
 have a3:=λ(l:List Sub) (i:Nat) (s:Sub) (h:l[i]? =some s)=>QM (c:=x.c.plain) (k:=k) h
 rw[Y,V]
 generalize hL:x.sub k=l at *
 refine Spec.body Tryz.func145 rfl Tryz.results145 Tryz.ntmps145 rfl ?_
 refine .sr ?_
 refine .bY rfl (λb4=>?_)
 refine .ag rfl<|.ag rfl<|.z<|.ag rfl<|.z<|.ag rfl<|.zs<|.seq<|.cL [] mixed ?_
 refine .tO 0 rfl .move<|.tO 1 rfl (.nilCheck rfl)<|.tO 2 rfl (.fieldAddr rfl)<|.tO 3 rfl (.bZ rfl)<|.tO 4 rfl (.aM rfl)<|.tO 5 rfl .move<|.tO 6 rfl .move<|.tO 7 rfl (.nilCheck rfl)<|.tO 8 rfl (.fieldAddr rfl)<|.tO 9 rfl (.bZ rfl)<|.tO 12 rfl .move ?_
 refine .sT 10 rfl ?_
 refine .cO ((SV.Ra (W.mono λb o N=>.inl N) (by omega) k x.rev hl).weaken λb o N=>N) (λu a7 J=>?_)
 rw[<-a4]at J
 have iu:=J.ap
 refine .nil (Next.sub ?_)
 refine .tO 11 rfl (.dK J) ?_
 refine RA.nil (by kernel_rfl) ?_
 refine av<|.block ?_
 refine .cz [(0,_),(2,_),(4,_),(22,_),(23,_)] (X:=Nat×Value×Value×ay×ay) (λy=>y.1<=l.length/\OS 9 1 cg y.2.1 (oU x.c.plain k (l.take y.1)) y.2.2.2.1/\OS 117 4 Sub.enc y.2.2.1 (oL x.c.plain k (l.take y.1)) y.2.2.2.2) (λy E=>(24,iN y.1)::(8,y.2.1)::(9,y.2.2.1)::E) (λy G=>y.2.2.2.1::y.2.2.2.2::G) (λy=>l.length-y.1) (0,sZ,sZ,[],[]) ⟨Nat.zero_le _,OS.nil,OS.nil⟩ kE.c.c.c.c.c.c.c.c bf.jy ?_
 rintro⟨i,F,D,Tu,Ts⟩ ⟨hi,f,d⟩
 simp only at hi f d⊢
 have b6:=f.ap
 have b7:=d.ap
 refine .sr<|.q .lss<|.zs ?_
 refine .cond rfl (λK=>?_) λK=>?_
 have g:i<l.length:=cb K
 obtain⟨s,Q⟩:=bL g
 have b5:=a6 i
 have b2:=a2 i
 have m:=a5 l i s Q
 have j:=a3 l i s Q
 obtain⟨a,v,p,r⟩:=s
 refine .kn<|.seq<|.block<|.sr ?_
 refine .aL i J Q (λb8=>?_)
 refine .q (.aM rfl) ?_
 refine .bX (λa8=>?_)
 refine .bP rfl rfl<|.zn<|.block<|.seq ?_
 refine .dt 8 mixed (by kernel_rfl) ?_
 conv=>arg 6;dsimp only[List.take]
 refine .mo rfl<|.nc rfl<|.fa rfl<|.q (.loadT rfl) ?_
 refine .q (.aM rfl)<|.mo rfl<|.q (.aM rfl) ?_
 refine .q .cR ?_
 refine .nil ?_
 refine .aY ((Z ⟨k.os,k.oi,k.rel,a,v,p,r⟩).weaken cZ) (λw hw=>?_)
 subst hw
 refine .q .et<|.az rfl ?_
 refine .cond rfl (λH=>?_) λH=>?_
 have a1:allowed x.c.plain k ⟨a,v,p,r⟩=false:=by
  cases hq:allowed x.c.plain k ⟨a,v,p,r⟩with
  |false=>rfl
  |true=>
   have:allowed x.c.plain (⟨k.os,k.oi,k.rel,a,v,p,r⟩:aE).cJ (⟨k.os,k.oi,k.rel,a,v,p,r⟩:aE).sub=true:=hq
   rw[this]at H;simp at H
 rw[if_neg (by rw[a1];simp),List.append_nil]at m j
 refine .skip<|aV<|aV<|av<|.region ?_
 refine .ia (i+1) .add ?_
 refine .mo rfl<|.nil ?_
 ·first
   |exact aW (i+1,C,D,B,Ts) ⟨g,A,by rw[j];exact d⟩ (by simp only;omega) kE.c.c.c.c.c.c.c.c (bf.drop [0,0] _)
   |exact aW (i+1,F,C,Tu,B) ⟨g,by rw[m];exact f,A⟩ (by simp only;omega) kE.c.c.c.c.c.c.c.c (bf.drop [0,0] _)
   |exact aW (i+1,F,D,Tu,Ts) ⟨g,by rw[m];exact f,by rw[j];exact d⟩ (by simp only;omega) kE.c.c.c.c.c.c.c.c (bf.drop [0] _)
 have T:allowed x.c.plain k ⟨a,v,p,r⟩=true:=by
  cases hq:allowed x.c.plain k ⟨a,v,p,r⟩with
  |true=>rfl
  |false=>
   have:allowed x.c.plain (⟨k.os,k.oi,k.rel,a,v,p,r⟩:aE).cJ (⟨k.os,k.oi,k.rel,a,v,p,r⟩:aE).sub=false:=hq
   rw[this]at H;simp at H
 refine .sr<|.fa rfl<|.lo rfl<|.q .fU<|.az rfl ?_
 refine .cond rfl (λM=>?_) λM=>?_
 have I:a≠⟨#[]⟩:=by simpa using M
 rw[if_pos ⟨T,I⟩]at m
 rw[if_neg (λO=>I O.2),List.append_nil]at j
 refine .region<|.mo rfl<|.fa rfl<|.lo rfl ?_
 refine .gM (λb0=>?_)
 refine .append f (RS.lits (xs:=[a]) rfl (by simp[cg]) (by simp[cg,ap])) (by simp only[List.length_singleton];omega) (λC B A=>?_)
 rw[<-m]at A
 refine .ag rfl<|.nil<|aV<|aV<|av<|.region ?_
 refine .ia (i+1) .add ?_
 refine .mo rfl<|.nil ?_
 ·first
   |exact aW (i+1,C,D,B,Ts) ⟨g,A,by rw[j];exact d⟩ (by simp only;omega) kE.c.c.c.c.c.c.c.c (bf.drop [0,0] _)
   |exact aW (i+1,F,C,Tu,B) ⟨g,by rw[m];exact f,A⟩ (by simp only;omega) kE.c.c.c.c.c.c.c.c (bf.drop [0,0] _)
   |exact aW (i+1,F,D,Tu,Ts) ⟨g,by rw[m];exact f,by rw[j];exact d⟩ (by simp only;omega) kE.c.c.c.c.c.c.c.c (bf.drop [0] _)
 have I:a=⟨#[]⟩:=by simpa using M
 rw[if_neg (λO=>O.2 I),List.append_nil]at m
 rw[if_pos ⟨T,I⟩]at j
 refine .region<|.mo rfl<|.q (.aM rfl) ?_
 refine .ej (λa9=>?_)
 refine .append d (RS.lits (xs:=[(⟨a,v,p,r⟩:Sub)]) rfl (by simp[Sub.enc]) (by simp[Sub.enc,ap])) (by simp only[List.length_singleton];omega) (λC B A=>?_)
 rw[<-j]at A
 refine .ag rfl<|.nil<|aV<|aV<|av<|.region ?_
 refine .ia (i+1) .add ?_
 refine .mo rfl<|.nil ?_
 ·first
   |exact aW (i+1,C,D,B,Ts) ⟨g,A,by rw[j];exact d⟩ (by simp only;omega) kE.c.c.c.c.c.c.c.c (bf.drop [0,0] _)
   |exact aW (i+1,F,C,Tu,B) ⟨g,by rw[m];exact f,A⟩ (by simp only;omega) kE.c.c.c.c.c.c.c.c (bf.drop [0,0] _)
   |exact aW (i+1,F,D,Tu,Ts) ⟨g,by rw[m];exact f,by rw[j];exact d⟩ (by simp only;omega) kE.c.c.c.c.c.c.c.c (bf.drop [0] _)
 refine .exit<|bm<|bs<|bo<|av<|.sr<|.mo rfl<|.mo rfl<|.ag rfl<|.az rfl ?_
 refine .ret (bp _ (.two (.tmp rfl) (.tmp rfl)) (aQ [0,0]) ?_)
 ·have a0:i=l.length:=by have:=bA K;omega
  subst a0
  rw[List.take_length]at f d
  exact⟨Tu,Ts,by simp[take,bJ],F,D,rfl,f,d⟩
structure lR(x:XC)(R:aB)(ps:List aD)(va:Value)(ks:List bc)(ps':List aD)(vp:Value)(Ta To:ay)(vo:Value)(Tl:ay):Prop where
 l:OS 3 1 cM vo (dl x.c.plain x.num (ps.map aD.plain) ks).2 Tl
 eq:ps'.map aD.plain=(dl x.c.plain x.num (ps.map aD.plain) ks).1
 at_:iP ps' va Ta
 o:OS 95 8 aD.enc vp ps' To
 gr:∃l,ps'=ps++l/\∀p∈l,p.is R
theorem lR.len{x:XC}{R:aB}{ps a:List aD}{va g f:Value}{ks:List bc}{b e d:ay}(h:lR x R ps va ks a g b e f d):a.length=(dl x.c.plain x.num (ps.map aD.plain) ks).1.length:=by rw[<-h.eq,List.length_map]
theorem lR.next{x:XC}{R:aB}{ps d b:List aD}{va D s C r:Value}{ks:List bc}{i:Nat}{k:bc}{t v f m u j:ay}(h:lR x R ps va (ks.take i) d D t v C u)(z:ks[i]? =some k)
  (e:b.map aD.plain=(ew x.c.plain x.num (d.map aD.plain) k).1)(a:iP b va f)(o:OS 95 8 aD.enc s b m)(g:∃l,b=d++l/\∀p∈l,p.is R)
  (q:OS 3 1 cM r ((dl x.c.plain x.num (ps.map aD.plain) (ks.take i)).2++[(ew x.c.plain x.num (d.map aD.plain) k).2]) j):lR x R ps va (ks.take (i+1)) b s f m r j:=by
 have n:=xy (c:=x.c.plain) (num:=x.num) z (ps.map aD.plain)
 rw[h.eq]at e q
 refine⟨by rw[n];exact q,by rw[n];exact e,a,o,?_⟩
 obtain⟨A,rfl,w⟩:=h.gr
 obtain⟨B,rfl,y⟩:=g
 refine⟨A++B,by rw[List.append_assoc],λp hp=>?_⟩
 rcases List.mem_append.1 hp with hp|hp
 ·exact w p hp
 ·exact y p hp
def xf(x:XC)(R:aB)(xb:Nat)(ps:List aD)(e:Nat)(va:Value)(ks:List bc)(u:Value)(H':aR):Prop:=∃ps' vp Ta To Tl,H'=[Tl,x.iF xb va vp e,Ta,To]/\lR x R ps va ks ps' vp Ta To u Tl
theorem NK(x:XC)(R:aB)(h:x.ok R)(xb:Nat)(ps:List aD)(e:Nat)(va j:Value)(m p:ay)(hA:iP ps va m)(hO:OS 95 8 aD.enc j ps p)(k:bc)(H:List Value)(n:Nd) [ie:ca H]
  (hl:(dl x.c.plain x.num (ps.map aD.plain) (dX x.c.plain x.sub k n)).1.length<=3000000)(b1:H.length=5):
  Spec prog 146 [pT xb,.agg (.string k.os:: .string k.oi:: .string k.rel::H).toArray,.agg n.enc.toArray] R [x.iF xb va j e,m,p] (xf x R xb ps e va (dX x.c.plain x.sub k n)):=by
 obtain⟨x3,x4,x5,x6,x7,rfl⟩:∃a b c d f,H=[a,b,c,d,f]:=by
  match H,b1 with
  |[a,b,c,d,f],_=>exact⟨a,b,c,d,f,rfl⟩
 have c9:ca (Value.string k.os:: .string k.oi:: .string k.rel::[x3,x4,x5,x6,x7]):=⟨λu hu=>by
  simp only[List.mem_cons,List.not_mem_nil,or_false]at hu
  rcases hu with rfl|rfl|rfl|hu
  ·rfl
  ·rfl
  ·rfl
  ·exact ie.h u (by simpa using hu)⟩
 have a9:=BJ x
 have a4:=AQ x R h xb
 have i1:One x.c.vs:=RS.ap h.c.ss
 have i2:One x.c.vc:=RS.ap h.c.sc
 have i3:=h.n.one
 obtain⟨M0,b0,_⟩:=id hA
 have d0:=b0.one
 have d1:=hO.ap
 have a0:∀ks u H',xf x R xb ps e va ks u H'↔∃ps' j m p w,H'=[w,x.iF xb va j e,m,p]/\lR x R ps va ks ps' j m p u w:=λ_ _ _=>Iff.rfl
 have r:dX x.c.plain x.sub k n=if n.kind=1 then(fu x.c.plain x.sub k).map λs=>⟨s.ss,s.si,s.sr⟩
  else if n.kind=3 then(fu x.c.plain x.sub ⟨k.os,k.oi,n.rel⟩).map λs=>⟨s.ss,s.si,n.dz⟩
  else if n.kind=2 then [⟨k.os,k.oi,n.rel⟩]
  else []:=rfl
 generalize c8:dX x.c.plain x.sub k n=ks at *
 have a6:=λi=>xw (c:=x.c.plain) (num:=x.num) ks i (ps.map aD.plain)
 have b2:=Cq (c:=x.c.plain) (num:=x.num) ks (ps.map aD.plain)
 rw[List.length_map]at b2
 have a7:=λi=>rC (c:=x.c.plain) (num:=x.num) (ks.take i) (ps.map aD.plain)
 have a8:∀k',(fu x.c.plain x.sub k').length<=1000:=λk'=>by
  unfold fu fitting
  exact Nat.le_trans (List.length_filter_le _ _) (Nat.le_trans (List.length_filter_le _ _) (XC.BI h k'))
 have S:lR x R ps va (ks.take 0) ps j m p (sZ) []:=⟨OS.nil,by simp[dl],hA,hO,[],by simp,by simp⟩
 refine Spec.gu (H':=[[],x.iF xb va j e,m,p]) (by simp) ?_
 refine Spec.body Tryz.func146 rfl Tryz.results146 Tryz.ntmps146 rfl ?_
 refine .sr ?_
 refine .bY rfl (λb4=>?_)
 refine .bY rfl (λb5=>?_)
 refine .ag rfl<|.z<|.ag rfl<|.zs<|.sr<|.fa rfl<|.lo rfl<|.zn<|.block<|.sr<|.q .bQ<|.az rfl ?_
 refine .cond rfl (λh1=>?_) λh1=>?_
 have M:n.kind=1:=bS h1
 rw[if_pos M]at r
 have b9:=a8 k
 refine .sr<|.mo rfl<|.fa rfl<|.q (.loadT rfl) ?_
 refine .fa rfl<|.lo rfl ?_
 refine .call [] (a9 _ (h.mono λb o hb=>.inl hb) xb va j e (pc:=PC.of (E:=190) (fr:=(0,0)) (.inr (by simp[rest]))) k) (λu H' hu=>?_)
 obtain⟨Tu,Ts,rfl,wu,ws,rfl,a1,t⟩:=hu
 have c1:=a1.ap
 have c2:=t.ap
 conv=>arg 8;simp only[rest,bJ,List.cons_append,List.nil_append]
 refine .mo rfl<|.q .extract<|.q .extract<|.ag rfl<|.ag rfl<|.z<|.mo rfl<|.q (.dK t) ?_
 refine .mo rfl<|.zn<|.block ?_
 refine .cz [(0,_),(29,_),(30,_)] (X:=Nat×List aD×Value×ay×ay×Value×ay) (λy=>y.1<=(fu x.c.plain x.sub k).length/\lR x R ps va (ks.take y.1) y.2.1 y.2.2.1 y.2.2.2.1 y.2.2.2.2.1 y.2.2.2.2.2.1 y.2.2.2.2.2.2) (λy E=>(31,iN y.1)::(7,y.2.2.2.2.2.1)::E) (G:=[Ts,bl b5 n.enc 199,bl b4 (Value.string k.os:: .string k.oi:: .string k.rel::[x3,x4,x5,x6,x7]) 95]) (λy G=>y.2.2.2.2.2.2::x.iF xb va y.2.2.1 e::y.2.2.2.1::y.2.2.2.2.1::G) (λy=>(fu x.c.plain x.sub k).length-y.1) (0,ps,j,m,p,sZ,[]) ⟨Nat.zero_le _,S⟩ kE.c.c.c.c.c (aQ [4,4,4,4,1,1,1]) ?_
 rintro⟨i,v,Y,B,D,vo,w⟩ ⟨hi,g⟩
 simp only at hi g⊢
 have io:=g.l.ap
 have c0:=g.o.ap
 have b8:=g.len
 have b7:=a6 i
 have a3:=a7 i
 rw[List.length_take]at a3
 refine .sr<|.q .lss<|.zs ?_
 refine .cond rfl (λh2=>?_) λh2=>?_
 have O:i<(fu x.c.plain x.sub k).length:=by have:=bS h2;omega
 obtain⟨s,Q⟩:=bL O
 have N:ks[i]? =some ⟨s.ss,s.si,s.sr⟩:=by rw[r,List.getElem?_map,Q];rfl
 obtain⟨us,W,V,sr⟩:=s
 refine .kn<|.seq<|.block<|.sr ?_
 refine .aL i t Q (λd2=>?_)
 refine .q (.aM rfl) ?_
 refine .bX (λc3=>?_)
 refine .bP rfl rfl<|.zn<|.region<|.mo rfl<|.mo rfl<|.fa rfl<|.q (.loadT rfl) ?_
 refine .fa rfl<|.lo rfl ?_
 refine .call [2,2,2] ((a4 v e va Y B D g.at_ g.o (by omega) ⟨W,V,sr⟩).weaken cZ) (λu H' hu=>?_)
 obtain⟨U,Z,C,F,rfl,rfl,K,I,J,L⟩:=hu
 conv=>arg 8;simp only[rest,bJ,List.cons_append,List.nil_append]
 refine .gM (λc5=>?_)
 refine .append g.l (RS.lits (xs:=[(ew x.c.plain x.num (v.map aD.plain) ⟨W,V,sr⟩).2]) rfl (by simp[cM]) (by simp[cM,ap])) (by simp only[List.length_singleton];omega) (λv5 A T=>?_)
 refine .ag rfl<|.nil<|aV<|av<|.region ?_
 refine .ia (i+1) .add ?_
 refine .mo rfl<|.nil ?_
 ·exact aW (i+1,U,Z,C,F,v5,A) ⟨O,g.next N K I J L T⟩ (by simp only;omega) kE.c.c.c.c.c (aQ [5,1,1,1,2,2,2])
 have a2:i=ks.length:=by rw[r,List.length_map];have:=bA h2;omega
 rw[a2,List.take_length]at g
 refine .exit<|bm<|bs<|bo<|aV<|av<|.sr<|.mo rfl<|.az rfl ?_
 refine .ret (bp _ (.one (.tmp rfl)) (aQ [0,0,0,0]) ?_)
 ·exact(a0 _ _ _).2 ⟨v,Y,B,D,w,by simp[take,bJ],g⟩
 refine .sr<|.q .bQ<|.az rfl ?_
 refine .cond rfl (λh3=>?_) λh3=>?_
 have M:n.kind=2:=bS h3
 rw[if_neg (by omega),if_neg (by omega),if_pos M]at r
 have N:ks[0]? =some ⟨k.os,k.oi,n.rel⟩:=by rw[r];rfl
 have b3:ks.take 1=ks:=by rw[r];rfl
 refine .region<|.mo rfl<|.mo rfl<|.fa rfl<|.q (.loadT rfl) ?_
 refine .fa rfl<|.lo rfl ?_
 refine .call [3,3,3] ((a4 ps e va j m p hA hO (by omega) ⟨k.os,k.oi,n.rel⟩).weaken cZ) (λu H' hu=>?_)
 obtain⟨U,Z,C,F,rfl,rfl,K,I,J,L⟩:=hu
 conv=>arg 8;simp only[rest,bJ,List.cons_append,List.nil_append]
 refine .gM (λc6=>?_)
 refine .append S.l (RS.lits (xs:=[(ew x.c.plain x.num (ps.map aD.plain) ⟨k.os,k.oi,n.rel⟩).2]) rfl (by simp[cM]) (by simp[cM,ap])) (by simp[dl]) (λv5 A T=>?_)
 have a5:=S.next N K I J L T
 rw[show(0:Nat)+1=1 from rfl,b3]at a5
 refine .ag rfl<|.nil<|aV<|av<|.sr<|.mo rfl<|.az rfl ?_
 refine .ret (bp _ (.one (.tmp rfl)) (aQ [6,1,1,1]) ?_)
 ·exact(a0 _ _ _).2 ⟨U,Z,C,F,A,by simp[take,bJ],a5⟩
 refine .sr<|.q .bQ<|.az rfl ?_
 refine .cond rfl (λh4=>?_) λh4=>?_
 have M:n.kind=3:=bS h4
 rw[if_neg (by omega),if_pos M]at r
 have b9:=a8 ⟨k.os,k.oi,n.rel⟩
 refine .sr<|.mo rfl<|.fa rfl<|.q (.loadT rfl) ?_
 refine .fa rfl<|.lo rfl ?_
 refine .call [] (a9 _ (h.mono λb o hb=>.inl hb) xb va j e (pc:=PC.of (E:=190) (fr:=(0,0)) (.inr (by simp[rest]))) ⟨k.os,k.oi,n.rel⟩) (λu H' hu=>?_)
 obtain⟨Tu,Ts,rfl,wu,ws,rfl,a1,t⟩:=hu
 have c1:=a1.ap
 have c2:=t.ap
 conv=>arg 8;simp only[rest,bJ,List.cons_append,List.nil_append]
 refine .mo rfl<|.q .extract<|.q .extract<|.ag rfl<|.ag rfl<|.z<|.mo rfl<|.q (.dK t) ?_
 refine .mo rfl<|.zn<|.block ?_
 refine .cz [(0,_),(5,_),(67,_),(68,_)] (X:=Nat×List aD×Value×ay×ay×Value×ay) (λy=>y.1<=(fu x.c.plain x.sub ⟨k.os,k.oi,n.rel⟩).length/\lR x R ps va (ks.take y.1) y.2.1 y.2.2.1 y.2.2.2.1 y.2.2.2.2.1 y.2.2.2.2.2.1 y.2.2.2.2.2.2) (λy E=>(69,iN y.1)::(7,y.2.2.2.2.2.1)::E) (G:=[Ts,bl b5 n.enc 199,bl b4 (Value.string k.os:: .string k.oi:: .string k.rel::[x3,x4,x5,x6,x7]) 95]) (λy G=>y.2.2.2.2.2.2::x.iF xb va y.2.2.1 e::y.2.2.2.1::y.2.2.2.2.1::G) (λy=>(fu x.c.plain x.sub ⟨k.os,k.oi,n.rel⟩).length-y.1) (0,ps,j,m,p,sZ,[]) ⟨Nat.zero_le _,S⟩ kE.c.c.c.c.c.c (aQ [4,4,4,4,1,1,1]) ?_
 rintro⟨i,v,Y,B,D,vo,w⟩ ⟨hi,g⟩
 simp only at hi g⊢
 have io:=g.l.ap
 have c0:=g.o.ap
 have b8:=g.len
 have b7:=a6 i
 have a3:=a7 i
 rw[List.length_take]at a3
 refine .sr<|.q .lss<|.zs ?_
 refine .cond rfl (λh5=>?_) λh5=>?_
 have O:i<(fu x.c.plain x.sub ⟨k.os,k.oi,n.rel⟩).length:=by have:=bS h5;omega
 obtain⟨s,Q⟩:=bL O
 have N:ks[i]? =some ⟨s.ss,s.si,n.dz⟩:=by rw[r,List.getElem?_map,Q];rfl
 obtain⟨us,W,V,sr⟩:=s
 refine .kn<|.seq<|.block<|.sr ?_
 refine .aL i t Q (λd3=>?_)
 refine .q (.aM rfl) ?_
 refine .bX (λc4=>?_)
 refine .bP rfl rfl<|.zn<|.region<|.mo rfl<|.mo rfl<|.fa rfl<|.q (.loadT rfl) ?_
 refine .fa rfl<|.lo rfl ?_
 refine .call [2,2,2] ((a4 v e va Y B D g.at_ g.o (by omega) ⟨W,V,n.dz⟩).weaken cZ) (λu H' hu=>?_)
 obtain⟨U,Z,C,F,rfl,rfl,K,I,J,L⟩:=hu
 conv=>arg 8;simp only[rest,bJ,List.cons_append,List.nil_append]
 refine .gM (λc7=>?_)
 refine .append g.l (RS.lits (xs:=[(ew x.c.plain x.num (v.map aD.plain) ⟨W,V,n.dz⟩).2]) rfl (by simp[cM]) (by simp[cM,ap])) (by simp only[List.length_singleton];omega) (λv5 A T=>?_)
 refine .ag rfl<|.nil<|aV<|av<|.region ?_
 refine .ia (i+1) .add ?_
 refine .mo rfl<|.nil ?_
 ·exact aW (i+1,U,Z,C,F,v5,A) ⟨O,g.next N K I J L T⟩ (by simp only;omega) kE.c.c.c.c.c.c (aQ [5,1,1,1,2,2,2])
 have a2:i=ks.length:=by rw[r,List.length_map];have:=bA h5;omega
 rw[a2,List.take_length]at g
 refine .exit<|bm<|bs<|bo<|aV<|av<|.sr<|.mo rfl<|.az rfl ?_
 refine .ret (bp _ (.one (.tmp rfl)) (aQ [0,0,0,0]) ?_)
 ·exact(a0 _ _ _).2 ⟨v,Y,B,D,w,by simp[take,bJ],g⟩
 have b6:ks=[]:=by
  rw[r,if_neg (bA h1),if_neg (bA h4),if_neg (bA h3)]
 refine .skip<|aV<|av<|.sr<|.mo rfl<|.az rfl ?_
 refine .ret (bp _ (.one (.tmp rfl)) (aQ [2,2,2,2]) ?_)
 ·refine(a0 _ _ _).2 ⟨ps,j,m,p,[],by simp[take,bJ],?_⟩
  have:=S
  rw[List.take_zero, <-b6]at this
  exact this
instance Sm:fz prog 3 (λs:Int=>.int .i64 s):=fz.int ur yG
abbrev kI(n:Int):Value:=.int .i64 n
structure Ch(x:XC)(R:aB)(ps:List aD)(va:Value)(k:bc)(ns:List Nd)(mp:Value)(ps1:List aD)(vp:Value)(Ta To:ay)(vL:Value)(L:List fA)(TL Tr:ay)(M:List (Int×Bool))(Tm:ay):Prop where
 eq:ps1.map aD.plain=(de x.c.plain x.num x.sub k (ps.map aD.plain) ns).1
 at_:iP ps1 va Ta
 o:OS 95 8 aD.enc vp ps1 To
 gr:∃l,ps1=ps++l/\∀p∈l,p.is R
 le:OS 182 1 dW vL L TL
 rows:∀q∈L,RS (sg Tr) 1 cM q.1 q.2
 ll:L.map (·.2)=(de x.c.plain x.num x.sub k (ps.map aD.plain) ns).2
 ms:MS kI Value.bool mp M Tm
 Af:M.map (·.1)=(jC [] (de x.c.plain x.num x.sub k (ps.map aD.plain) ns).2.flatten).map λn:Nat=>(n:Int)
theorem N2{β:Type}{M:List (Int×β)}{l:List Nat}(h:M.map (·.1)=l.map λn:Nat=>(n:Int))(y:β)(j:Nat):(dL (j:Int) y M).map (·.1)=(if j∈l then l else l++[j]).map λn:Nat=>(n:Int):=by
 by_cases c:j∈l
 ·rw[if_pos c, <-h]
  have b:(j:Int)∈M.map (·.1):=by rw[h];exact List.mem_map.2 ⟨j,c,rfl⟩
  clear h
  induction M with
  |nil=>simp at b
  |cons a M ih=>
   obtain⟨g,i⟩:=a
   rw[dL]
   split
   ·rename_i e;simp[e]
   ·rename_i e
    simp only[List.map_cons,List.mem_cons]at b⊢
    rw[ih (b.resolve_left e)]
 ·rw[if_neg c,mK (λb=>by
   rw[h]at b
   obtain⟨n,f,e⟩:=List.mem_map.1 b
   have k:(n:Int)=(j:Int):=e
   have d:n=j:=by omega
   exact c (d▸f)),List.map_append,List.map_append,h]
  rfl
theorem Bp{α:Type}{l:List α}{i:Nat}{x:α}(h:l[i]? =some x):l.set i x=l:=by
 obtain⟨a,e⟩:=List.getElem?_eq_some_iff.1 h
 rw[<-e]
 exact List.set_getElem_self a
theorem OS.xQ{α:Type}{E sz:Nat}{enc:α->List Value}{v:Value}{xs:List α}{T:ay}{i:Nat}{z:α}(h:OS E sz enc v xs T)(d:xs[i]? =some z):∃a,ei v (i*sz)=.pointer (some a):=by
 rcases h.h with⟨_,rfl,_⟩|⟨b,f,c,e,rfl,_⟩
 ·simp at d
 ·exact⟨_,rfl⟩
theorem OV{a b:List bM}(h:a.map (·.k)=b.map (·.k))(k:bc):eY a k=eY b k:=by
 have c:∀l:List bM,eY l k=(l.map (·.k)).findIdx? λy=>decide (y=k):=λl=>by
  unfold eY
  rw[List.findIdx?_map]
  rfl
 rw[c,c,h]
theorem Qt{ps:List aD}{i:Nat}{p q:aD}(a:ps[i]? =some p)(b:q.k=p.k):((ps.set i q).map aD.plain).map (·.k)=(ps.map aD.plain).map (·.k):=by
 rw[List.map_map,List.map_map]
 refine List.ext_getElem? λj=>?_
 rw[List.getElem?_map,List.getElem?_map,List.getElem?_set]
 split
 ·rename_i e
  subst e
  rw[if_pos (List.getElem?_eq_some_iff.1 a).1,a]
  show some q.k=some p.k
  rw[b]
 ·rfl
theorem iP.set{ps:List aD}{i:Nat}{p q:aD}{va:Value}{T:ay}(h:iP ps va T)(d:ps[i]? =some p)(c:q.k=p.k):iP (ps.set i q) va T:=by
 obtain⟨M,b,a⟩:=h
 exact⟨M,b,λk=>by rw[a];exact OV (Qt d c).symm k⟩
def tN(x:XC)(Rc:aB)(xb:Nat)(ps:List aD)(e:Nat)(va:Value)(i:Nat)(p:aD)(H':aR):Prop:=∃vp Ta To TL Tr Tu l q,
 H'=[x.iF xb va vp (e+(eH x.c.plain x.num x.sub (ps.map aD.plain) i).2),Ta,To,TL,Tr,Tu]/\(∀p∈l,aD.is Rc p)/\((ps++l).set i q).map aD.plain=(eH x.c.plain x.num x.sub (ps.map aD.plain) i).1/\iP ((ps++l).set i q) va Ta/\OS 95 8 aD.enc vp ((ps++l).set i q) To/\
 (q=p\/q.vn=p.vn/\q.nodes=p.nodes/\RS (sg Tu) 1 cg q.vu q.eR/\RS (sg TL) 1 dW q.vl q.ll/\∀y∈q.ll,RS (sg Tr) 1 cM y.1 y.2)
theorem OH(x:XC)(A R:aB)(b5:∀b o,A b o->R b o)(h:x.ok A)(xb:Nat)(ps:List aD)(e:Nat)(va w:Value)(B C:ay)(hA:iP ps va B)(W:OS 95 8 aD.enc w ps C)(i:Nat)(p:aD)(v:ps[i]? =some p)(hn:RS R 5 Nd.enc p.vn p.nodes)(a3:p.plain=one x.c.plain x.num p.k)(f1:p.nodes.length<=1000000)
  (hl:(eH x.c.plain x.num x.sub (ps.map aD.plain) i).1.length<=3000000)(he:e<=1000000000000):
  Spec prog 85 [pT xb,iN i] R [x.iF xb va w e,B,C] λ_ H'=>tN x A xb ps e va i p H':=by
 have f5:=BJ x
 have e8:=NK x A h xb
 have i1:One x.c.vs:=RS.ap h.c.ss
 have i2:One x.c.vc:=RS.ap h.c.sc
 have i3:=h.n.one
 obtain⟨M0,d8,_⟩:=id hA
 have h4:=d8.one
 have h5:=W.ap
 have f3:=aO v
 have f8:ca p.enc:=⟨W.one p f3⟩
 have a5:(ps.map aD.plain)[i]? =some p.plain:=by rw[List.getElem?_map,v];rfl
 have e3:=(List.getElem?_eq_some_iff.1 v).1
 have b6:∀H',tN x A xb ps e va i p H'↔∃w B C V I J l q,
  H'=[x.iF xb va w (e+(eH x.c.plain x.num x.sub (ps.map aD.plain) i).2),B,C,V,I,J]/\(∀p∈l,aD.is A p)/\((ps++l).set i q).map aD.plain=(eH x.c.plain x.num x.sub (ps.map aD.plain) i).1/\iP ((ps++l).set i q) va B/\OS 95 8 aD.enc w ((ps++l).set i q) C/\
  (q=p\/q.vn=p.vn/\q.nodes=p.nodes/\RS (sg J) 1 cg q.vu q.eR/\RS (sg V) 1 dW q.vl q.ll/\∀y∈q.ll,RS (sg I) 1 cM y.1 y.2):=λ_=>Iff.rfl
 have Y:=AD (c:=x.c.plain) (num:=x.num) (sub:=x.sub) a5
 have a4:=OG (c:=x.c.plain) (num:=x.num) (sub:=x.sub) a5 a3
 have e7:=hn.le
 obtain⟨k,f,vn,d,T,S,t,s,g⟩:=p
 have f2:aD.plain ⟨k,f,vn,d,T,S,t,s,g⟩=⟨k,f,d,g,S,s.map (·.2)⟩:=rfl
 rw[f2]at Y a4 a5 a3
 simp only at Y a4 hn a3 e7 f1
 have c0:=λj=>xB (c:=x.c.plain) (num:=x.num) (sub:=x.sub) k d j (ps.map aD.plain)
 have g5:=Cr (c:=x.c.plain) (num:=x.num) (sub:=x.sub) k d (ps.map aD.plain)
 have e9:=rE (c:=x.c.plain) (num:=x.num) (sub:=x.sub) k d (ps.map aD.plain)
 have f7:=λ(j:Nat) (n:Nd) (hj:d[j]? =some n)=>xD (c:=x.c.plain) (num:=x.num) (sub:=x.sub) hj k (ps.map aD.plain)
 have g7:=λj=>rE (c:=x.c.plain) (num:=x.num) (sub:=x.sub) k (d.take j) (ps.map aD.plain)
 have b9:(de x.c.plain x.num x.sub k (ps.map aD.plain) d).1.length<=3000000:=by
  rw[Y]at hl
  rwa [List.length_set]at hl
 refine Spec.body Tryz.func85 rfl Tryz.results85 Tryz.ntmps85 rfl<|.sr<|.mo rfl<|.nc rfl<|.fa rfl<|.fa rfl<|.lo rfl<|.mo rfl ?_
 refine .aL i W v (λh6=>?_)
 refine .q (.aM rfl) ?_
 refine .bX (λb4=>?_)
 refine .bP rfl rfl<|.zs<|.sr<|.fa rfl<|.lo rfl<|.q .not<|.zn<|.cond rfl (λh1=>?_) λh1=>?_
 have hf:f=false:=by simpa using h1
 have c4:=a4 hf
 refine .ret (aH (bp _ .none (bf.Ar.trans (aQ [4,4,4,0,0,0])) ?_))
 ·refine(b6 _).2 ⟨w,B,C,[],[],[],[],⟨k,f,vn,d,T,S,t,s,g⟩,?_,λq hq=>(by cases hq),?_,?_,?_,.inl rfl⟩
  ·rw[c4];simp[take,bJ]
  ·rw[c4,List.append_nil]
   rw[Bp v]
  ·rw[List.append_nil];exact hA.set v rfl
  ·rw[List.append_nil]
   rw[Bp v];exact W
 have hf:f=true:=by simpa using h1
 refine .kn<|.sr<|.mo rfl<|.fa rfl<|.q (.loadT rfl)<|.fa rfl<|.lo rfl<|.call [] (f5 _ (h.mono λb o F=>.inl (b5 b o F)) xb va w e (pc:=PC.of (E:=190) (fr:=(0,0)) (.inr (by simp[rest]))) k) (λu H' O=>?_)
 obtain⟨J,Ts,rfl,U,ws,rfl,b3,e1⟩:=O
 have c7:=b3.ap
 have h0:=e1.ap
 conv=>arg 8;simp only[rest,bJ,List.cons_append,List.nil_append]
 refine .mo rfl<|.q .extract<|.q .extract<|.ag rfl<|.ag rfl<|.z<|.ag rfl<|.z ?_
 refine .makeMap (λa1=>?_)
 refine .ag rfl<|.zs<|.sr<|.fa rfl<|.lo rfl<|.q (.bH hn)<|.mo rfl<|.zn<|.block<|.cz [(0,_),(1,_),(4,_),(5,_),(8,_),(36,_),(37,_)] (X:=Nat×List aD×Value×ay×ay×Value×List fA×ay×ay×List (Int×Bool)×ay) (λy=>y.1<=d.length/\Ch x A ps va k (d.take y.1) (.map (some a1)) y.2.1 y.2.2.1 y.2.2.2.1 y.2.2.2.2.1 y.2.2.2.2.2.1 y.2.2.2.2.2.2.1 y.2.2.2.2.2.2.2.1 y.2.2.2.2.2.2.2.2.1 y.2.2.2.2.2.2.2.2.2.1 y.2.2.2.2.2.2.2.2.2.2) (λy E=>(38,iN y.1)::(7,y.2.2.2.2.2.1)::E) (G:=[J,bl b4 (aD.enc ⟨k,f,vn,d,T,S,t,s,g⟩) 95]) (λy G=>x.iF xb va y.2.2.1 e::y.2.2.2.1::y.2.2.2.2.1::y.2.2.2.2.2.2.2.1::y.2.2.2.2.2.2.2.2.1::y.2.2.2.2.2.2.2.2.2.2::G) (λy=>d.length-y.1) (0,ps,w,B,C,sZ,[],[],[],[],[(a1,.map #[] 0)]) ⟨Nat.zero_le _,⟨rfl,hA,W,⟨[],by simp,λq hq=>(by cases hq)⟩,OS.nil,λq hq=>(by cases hq),rfl,MS.nil,rfl⟩⟩ kE.c.c.c.c.c.c.c.c.c (bf.jy.trans (aQ [6,6,6,0,0,0,0,1])) ?_
 rintro⟨j,Q,c9,a7,d2,vL,L,V,I,M,Tm⟩ ⟨hj,a⟩
 simp only at hj a⊢
 have c8:=a.le.ap
 have g9:=a.o.ap
 have g3:L.length<=j:=by
  have h9:=congrArg List.length a.ll
  have h8:=(rD (c:=x.c.plain) (num:=x.num) (sub:=x.sub) k (d.take j) (ps.map aD.plain)).1
  rw[List.length_map]at h9
  rw[List.length_take]at h8
  omega
 have g1:Q.length=(de x.c.plain x.num x.sub k (ps.map aD.plain) (d.take j)).1.length:=by rw[<-a.eq,List.length_map]
 have g6:=c0 j
 refine .sr<|.q .lss<|.zs<|.cond rfl (λh2=>?_) λh2=>?_
 have b7:j<d.length:=cb h2
 obtain⟨n,c3⟩:=bL b7
 have a0:=f7 j n c3
 have c1:=c0 (j+1)
 have e6:(dl x.c.plain x.num (Q.map aD.plain) (dX x.c.plain x.sub k n)).1.length<=3000000:=by
  rw[a.eq]
  rw[a0]at c1
  exact Nat.le_trans c1 b9
 refine .kn<|.seq<|.block<|.sr ?_
 refine .bx j hn c3 (λh7=>?_)
 refine .q (.aM rfl) ?_
 refine .bX (λd3=>?_)
 refine .bP rfl rfl<|.z<|.mo rfl<|.q (.aM rfl)<|.q (.aM rfl)<|.call [1,1,1] ((e8 Q e va c9 a7 d2 a.at_ a.o k [.bool f,vn,T,t,iN g] n (ie:=⟨λu O=>f8.h u (by simp only[aD.enc];simp only[List.mem_cons,List.not_mem_nil,or_false]at O⊢;simp[O])⟩) e6 rfl).weaken λb o F=>.inl (b5 b o F)) (λu H' O=>?_)
 obtain⟨f9,d0,a8,b0,Tl,rfl,D⟩:=O
 have iu:=D.l.ap
 have N:=D.l
 have g2:=D.len
 conv=>arg 8;simp only[rest,bJ,List.cons_append,List.nil_append]
 obtain⟨r,a6⟩:∃r,r=(dl x.c.plain x.num (Q.map aD.plain) (dX x.c.plain x.sub k n)).2:=⟨_,rfl⟩
 rw[<-a6]at N
 have g8:=N.le
 refine .ag rfl<|.zs<|.sr<|.mo rfl<|.q (.dK N)<|.mo rfl<|.zn<|.block<|.cz [(0,_),(1,_),(4,_),(5,_),(7,_),(8,_),(11,_),(36,_),(37,_),(38,_),(46,_),(47,_)] (X:=Nat×List (Int×Bool)×ay) (λy=>y.1<=r.length/\MS kI Value.bool (.map (some a1)) y.2.1 y.2.2/\y.2.1.map (·.1)=(jC (jC [] (de x.c.plain x.num x.sub k (ps.map aD.plain) (d.take j)).2.flatten) (r.take y.1)).map λn:Nat=>(n:Int)) (λy E=>(48,iN y.1)::E) (G:=[Tl,x.iF xb va d0 e,a8,b0,bl d3 n.enc 199,V,I,J,bl b4 (aD.enc ⟨k,f,vn,d,T,S,t,s,g⟩) 95]) (λy G=>y.2.2::G) (λy=>r.length-y.1) (0,M,Tm) ⟨Nat.zero_le _,a.ms,a.Af⟩ kE.c.c.c.c.c.c.c.c.c.c.c.c.c (aQ [7,0,0,0,0,0,0,0,0,0]) ?_
 rintro⟨m,M2,d1⟩ ⟨hm,a2,Z⟩
 simp only at hm a2 Z⊢
 refine .sr<|.q .lss<|.zs<|.cond rfl (λh3=>?_) λh3=>?_
 have c2:m<r.length:=cb h3
 obtain⟨to,c5⟩:=bL c2
 have f6:=Qp c5 (jC [] (de x.c.plain x.num x.sub k (ps.map aD.plain) (d.take j)).2.flatten)
 refine .kn<|.seq<|.block<|.sr ?_
 refine .aL m N c5 (λi0=>?_)
 refine .lo rfl<|.az rfl<|.region<|.mo rfl<|.mo rfl<|.update (key:=(to:Int)) (u:=true) a2 rfl rfl rfl (λT2 d9 _=>?_)
 have b8:=N2 Z true to
 rw[<-f6]at b8
 refine .nil<|aV<|av<|.region<|.ia (m+1) .add<|.mo rfl<|.nil ?_
 ·exact aW (m+1,dL (to:Int) true M2,T2) ⟨c2,d9,b8⟩ (by simp only;omega) kE.c.c.c.c.c.c.c.c.c.c.c.c.c rH
 have f0:m=r.length:=by have:=bA h3;omega
 rw[f0,List.take_length]at Z
 obtain⟨pu,cu,rfl,_⟩:=N.shape
 refine .exit<|bm<|bs<|bo<|av<|.region<|.mo rfl<|.mo rfl ?_
 refine .gM (λg0=>?_)
 refine .append a.le (RS.lits (xs:=[((.slice pu r.length cu,r):fA)]) rfl (by simp[dW]) (by simp[dW,ap])) (by simp only[List.length_singleton];omega) (λv5 T5 c6=>?_)
 have i5:=c6.ap
 refine .ag rfl<|.nil<|aV<|av<|.region<|.ia (j+1) .add<|.mo rfl<|.nil ?_
 ·exact aW (j+1,f9,d0,a8,b0,v5,L++[(.slice pu r.length cu,r)],T5,Tl++I,M2,d1) ⟨b7,⟨by rw[a0,D.eq,a.eq],D.at_,D.o,by
   obtain⟨l1,d4,d5⟩:=a.gr
   obtain⟨l2,d6,d7⟩:=D.gr
   refine⟨l1++l2,by rw[d6,d4,List.append_assoc],λq hq=>?_⟩
   rcases List.mem_append.1 hq with hq|hq
   ·exact d5 q hq
   ·exact d7 q hq,c6,λq hq=>by
   rcases List.mem_append.1 hq with hq|hq
   ·exact(a.rows q hq).mono λb o F=>iM F
   ·rw[List.mem_singleton]at hq
    subst hq
    exact N.sg.mono λb o F=>jO F,by rw[a0,List.map_append,a.ll,a6,a.eq];rfl,a2,by rw[a0,List.flatten_append,ra,Z,a6,a.eq];simp⟩⟩ (by simp only;omega) kE.c.c.c.c.c.c.c.c.c ((aQ [3,3,3,4,2,3,1,2,2]).trans (bf.fq (by simp[take,bJ])))
 have e4:j=d.length:=by have:=bA h2;omega
 rw[e4,List.take_length]at a
 have K:Q[i]? =some ⟨k,f,vn,d,T,S,t,s,g⟩:=by
  obtain⟨l,H,_⟩:=a.gr
  rw[H,List.getElem?_append_left e3,v]
 obtain⟨a9,e2⟩:=a.o.xQ K
 have b1:M.length=kC (de x.c.plain x.num x.sub k (ps.map aD.plain) d).2.flatten:=by
  have:=congrArg List.length a.Af
  rw[List.length_map,List.length_map]at this
  exact this
 have g4:M.length<=3000000:=by
  rw[b1]
  refine Nat.le_trans (Ap (n:=(de x.c.plain x.num x.sub k (ps.map aD.plain) d).1.length) λy hy=>?_) b9
  obtain⟨l,H,hy⟩:=List.mem_flatten.1 hy
  exact e9 l H y hy
 refine .exit<|bm<|bs<|bo<|av<|.seq<|.cL [16,19] mixed<|.tO 0 rfl .move<|.tO 1 rfl (.nilCheck rfl)<|.tO 2 rfl (.fieldAddr rfl)<|.tO 3 rfl (.fieldAddr rfl)<|.tO 4 rfl (.bZ rfl)<|.tO 5 rfl .move<|.tO 6 rfl .move<|.tO 7 rfl (.nilCheck rfl)<|.tO 8 rfl (.fieldAddr rfl)<|.tO 9 rfl (.fieldAddr rfl)<|.tO 10 rfl (.bZ rfl)<|.tK 11 rfl .move<|.tO 12 rfl .move<|.tK 13 rfl .move ?_
 refine RA.aL 14 rfl i a.o K rfl rfl rfl (by kernel_rfl) (λi4=>?_)
 refine .tO 15 rfl (.fieldAddr rfl)<|.sT 16 rfl<|.oO (k:=5) (cs:=[U]) (z':=(⟨k,f,vn,d,U,gS x.c.plain x.sub k,t,s,g⟩:aD)) i a.o K rfl rfl rfl (nk c7.h) rfl (by simpa using c7.h) rfl (by simp) (λTd e0=>?_)
 have f4:(Q.set i (⟨k,f,vn,d,U,gS x.c.plain x.sub k,t,s,g⟩:aD))[i]? =some ⟨k,f,vn,d,U,gS x.c.plain x.sub k,t,s,g⟩:=by rw[List.getElem?_set_self (List.getElem?_eq_some_iff.1 K).1]
 refine .nil (Next.mod rfl ?_)
 refine RA.aL 17 rfl i a.o K rfl rfl rfl (by kernel_rfl) (λi6=>?_)
 refine .tK 18 rfl (.gz rfl e2)<|.sT 19 rfl<|.oO (k:=6) (cs:=[vL]) (z':=(⟨k,f,vn,d,U,gS x.c.plain x.sub k,vL,L,g⟩:aD)) i e0 f4 rfl rfl rfl (nk c8.h) rfl (by simpa using c8.h) rfl (by simp) (λTe b2=>?_)
 rw[List.set_set]at b2
 refine .nil<|Next.mod rfl<|RA.nil (by kernel_rfl)<|av<|.dt 11 mixed (by kernel_rfl) ?_
 conv=>arg 6;dsimp only[List.take]
 refine .mo rfl<|.nc rfl<|.fa rfl<|.fa rfl<|.lo rfl<|.mo rfl<|.q (.zV a.ms.rx rfl) ?_
 refine .ia (e+M.length) .add ?_
 refine .nc rfl<|.fa rfl<|.fa rfl<|.nil<|.dZ rfl rfl<|.nil<|gg _ .none (aQ [0,0,0,0,0,1]) ?_
 ·obtain⟨l,H,e5⟩:=a.gr
  refine(b6 _).2 ⟨c9,a7,Te,V,I,J,l,⟨k,f,vn,d,U,gS x.c.plain x.sub k,vL,L,g⟩,?_,e5,?_,?_,?_,.inr ⟨rfl,rfl,b3.sg,a.le.sg,a.rows⟩⟩
  ·rw[Y, <-b1];simp[take,bJ];rfl
  ·rw[Y, <-H,List.map_set,a.eq]
   simp only[hf,if_true]
   rw[<-a.ll]
   rfl
  ·rw[<-H];exact a.at_.set K rfl
  ·rw[<-H];exact b2
def nP(R:aB)(out:List bM×Nat×Int)(u:Value)(H':aR):Prop:=∃vp ps T,H'=[T]/\u=.tuple [.agg [vp,iN out.2.1].toArray,.int .i64 out.2.2].toArray/\RS (λb o=>R b o\/(b,o)∈T) 8 aD.enc vp ps/\(∀p∈ps,aD.is (λb o=>R b o\/(b,o)∈T) p)/\ps.map aD.plain=out.1
theorem vO{W:ByteArray->Bool}{F:ByteArray->ByteArray->Bool}{c:Cf}{num:List Nat}{k:bc}(b:c.right W F=true):(one c num k).nodes.length<=64:=by
 unfold one
 split
 ·simp
 ·rename_i i e
  simp only[List.getD_eq_getElem?_getD,List.getElem?_map]
  cases hy:c.all[i]? with
  |none=>simp
  |some y=>
   have a:=(mP b y (aO hy)).2
   unfold iK at a
   simp only[Bool.or_eq_false_iff,decide_eq_false_iff_not]at a
   have d:=a.1.2
   simp only[Option.map_some,Option.getD_some]
   omega
theorem AG{c:Cf}{num:List Nat}{sub:bc->List Sub}{k:bc}{N i:Nat}(b:eW c num sub k N)(h:∀j,j<i->j<(opened c num sub k j).1.length):i<=N:=Nat.not_lt.1 λa=>by have:=h N a;have:=b.1;omega
theorem Dm{R:aB}{hb:Nat}{vl:Value}{es:List ep}{b4:Nat}(hV:HV R hb vl es b4){g:Nat}{S:cW}{c8:List RB}{vf vr:Value}{Mf:List (bc×(Value×ay))}{Mr:List (Sub×(Value×ay))}(hS:SV R g S c8 vf vr Mf Mr)
    {L:List bC}(hL:RL S L)(hl:S.rows.length<=1000)(rev:Int)(en:ep)(b5:lB es rev=some en)(num:List Nat)(V:lv isWord dj en.c.plain num)(f3:en.ll.map (·.2)=rows en.c.plain.bg num)(e9:b4<=1000000/\es.length<=1000000)(c2:∀e∈es,e.ll.length<=1000000/\∀q∈e.ll,q.2.length<=1000000)
    (k:bc)(b:Int)(g6:b<=9223372036854775807)(sub:bc->List Sub)(f9:sub=λk=>if scan S rev then(L.filter λy=>y.there rev&&decide (y.t.cJ=k)).map (·.t.sub)else [])
    (c3:∀i,(∀j,j<i->j<(opened en.c.plain num sub k j).1.length)->(opened en.c.plain num sub k i).1.length+(opened en.c.plain num sub k i).2<=1048576)(N:Nat)(hN:eW en.c.plain num sub k N):
    Spec prog 34 [pT hb,pT g,.int .u64 rev,.agg [.string k.os,.string k.oi].toArray,.string k.rel,.int .i64 b] R [] (nP R (gW en.c.plain num sub k b (scan S rev) N)):=by
  have d9:((lB es rev).map λe=>e.c.plain).getD ⟨[],[]⟩=en.c.plain:=by rw[b5];rfl
  have b6:((lB es rev).map λe=>e.ll.map (·.2)).getD []=rows en.c.plain.bg num:=by rw[b5];exact f3
  have J:∀out u H',nP R out u H'↔∃A s T,H'=[T]/\u=.tuple [.agg [A,iN out.2.1].toArray,.int .i64 out.2.2].toArray/\RS (λb o=>R b o\/(b,o)∈T) 8 aD.enc A s/\(∀p∈s,aD.is (λb o=>R b o\/(b,o)∈T) p)/\s.map aD.plain=out.1:=λ_ _ _=>Iff.rfl
  have r:gW en.c.plain num sub k b (scan S rev) N=if b<1 then([],0,2)else if scan S rev=false then([],0,12)
    else if(((opened en.c.plain num sub k N).1.length+(opened en.c.plain num sub k N).2:Nat):Int)<=b then((opened en.c.plain num sub k N).1,(opened en.c.plain num sub k N).2,0)else([],0,16):=rfl
  generalize g7:en.c.plain=cp at *
  refine Spec.body Tryz.func34 rfl Tryz.results34 Tryz.ntmps34 rfl ?_
  refine .sr ?_
  refine .bY rfl (λb9=>?_)
  refine .bX (λb3=>?_)
  refine .ag rfl<|.z<|.mo rfl<|.fa rfl<|.lo rfl<|.fa rfl<|.lo rfl<|.mo rfl ?_
  refine .q .cR ?_
  refine .mo rfl ?_
  refine .cO ((Pg hS (by omega) ⟨k.os,k.oi,k.rel,⟨#[]⟩,⟨#[]⟩,⟨#[]⟩,⟨#[]⟩⟩ rev).weaken cZ) (λu g4 a=>?_)
  obtain⟨wr,ys,rfl,d8,_⟩:=a
  have i3:=d8.ap
  refine .mo rfl<|.q .extract<|.q .extract<|.ag rfl<|.ag rfl<|.zs<|.block<|.sr<|.mo rfl ?_
  refine .aY ((HV.made hV).weaken cZ) (λu a=>?_)
  subst a
  refine .q .not<|.mo rfl ?_
  refine .split (t:=36) rfl (λa4=>?_) (λa4=>?_)
  ·simp at a4
  refine .gT a4<|.mo rfl<|.gT a4<|.q .bQ<|.q (.aS a4) ?_
  refine .az rfl ?_
  refine .cond rfl (λh1=>?_) λh1=>?_
  ·cases I:scan S rev<;>simp[I]at h1
  refine .sr<|.mo rfl<|.q .lss<|.az rfl ?_
  refine .cond rfl (λh2=>?_) λh2=>?_
  have a1:b<1:=bS h2
  refine .sr ?_
  refine .q .cR ?_
  refine .bP rfl rfl<|.az rfl ?_
  refine .ret (bh (aH (bp _ (.two (.fB rfl rfl) (.tmp rfl)) (bf.one [] _) ?_)))
  ·exact(J _ _ _).2 ⟨_,[],_,rfl,by rw[r,if_pos a1];rfl,RS.fk,λp f=>(by cases f),by rw[r,if_pos a1];rfl⟩
  have a1:¬b<1:=bA h2
  refine .sr<|.mo rfl<|.q .et<|.az rfl ?_
  refine .cond rfl (λh3=>?_) λh3=>?_
  have I:scan S rev=false:=by
    cases I:scan S rev with
    |false=>rfl
    |true=>simp[I]at h3
  refine .sr ?_
  refine .q .cR ?_
  refine .mo rfl<|.bP rfl rfl<|.az rfl ?_
  refine .ret (bh (aH (bp _ (.two (.fB rfl rfl) (.tmp rfl)) (bf.one [] _) ?_)))
  ·exact(J _ _ _).2 ⟨_,[],_,rfl,by rw[r,if_neg a1,if_pos I,I];rfl,RS.fk,λp f=>(by cases f),by rw[r,if_neg a1,if_pos I];rfl⟩
  have I:scan S rev=true:=by
    cases I:scan S rev with
    |true=>rfl
    |false=>simp[I]at h3
  rw[if_neg a1,if_neg (by rw[I];simp)]at r
  refine .skip<|aV<|av<|.sr<|.mo rfl<|.mo rfl ?_
  refine .cO ((hV.at_ rev e9).weaken cZ) (λu Tc a=>?_)
  obtain⟨U,rfl,Z,v⟩:=a
  rw[d9]at v
  have i0:ca U.enc:=⟨Z.cT⟩
  have h6:One U.vs:=RS.ap Z.ss
  have h7:One U.vc:=RS.ap Z.sc
  refine .mo rfl<|.q .extract<|.q .extract ?_
  refine .bX (λg5=>?_)
  refine .bP rfl rfl<|.ag rfl<|.zs ?_
  refine bz.cS [(4,_),(9,_),(12,_)] kE.c.c.c (X:=Nat×Nat×Value×ay) (λy=>MS mg kP y.2.2.1 (mi cp num) y.2.2.2) (λy E=>(18,.pointer (some ⟨y.1,0,none⟩))::E) (λy=>[XC.iF ⟨U,num,y.2.2.1,g,S,L,rev,b⟩ y.1 (.map (some y.2.1)) (sZ) 0,[(y.2.1,.map #[] 0)],[],[],Tc,y.2.2.2,bl b3 [sZ,.int .i64 0] 81,bl b9 [.string k.os,.string k.oi] 44]) ?_ ?_
  refine .cL [] mixed ?_
  refine .tO 0 rfl (.aM rfl)<|.tO 1 rfl (.aM rfl)<|.tO 2 rfl .move<|.tO 3 rfl .move<|.tO 6 rfl .move<|.tO 7 rfl .move<|.tO 9 rfl .move ?_
  refine RA.kL 4 8 rfl rfl (by kernel_rfl) rfl ?_ ?_
  refine .cO ((hV.numbers rev c2).weaken cZ) (λu Tn a=>?_)
  obtain⟨ll,a0,a2⟩:=a
  rw[b6]at a2
  have g0:=a0.rs.ap
  refine .nil (Next.sub ?_)
  refine RA.kL 5 8 rfl rfl (by kernel_rfl) rfl ?_ ?_
  refine .cO ((vM U (λb o=>(b,o)∈Tc\/(b,o)∈Tn) (Z.mono λb o hb=>.inl hb) (by rw[v];exact V.dU) _ ll num (a0.mono λb o hb=>.inr hb) (by rw[v];exact a2) (by rw[v];exact V.len)).weaken λb o hb=>.inr (by rcases hb with hb|hb<;>simp[hb])) (λu w a=>?_)
  obtain⟨mn,rfl⟩:∃m,u=.map (some m):=by obtain⟨b,_,_,h,_⟩:=a;exact⟨b,h⟩
  refine .nil (Next.sub ?_)
  refine .sT 8 rfl ?_
  refine .makeMap (λB=>?_)
  refine .nil (Next.sub ?_)
  refine .tO 10 rfl .cR ?_
  refine .sT 11 rfl ?_
  refine .bY rfl (λC=>?_)
  refine .nil (Next.sub ?_)
  refine .tO 12 rfl .assign ?_
  refine RA.nil (by kernel_rfl) ?_
  ·first
      |exact aF (C,B,_,w) (by rw[<-v];exact a) ((((kE.d rfl).d rfl).d rfl).d rfl) (bf.jy.trans (aQ [2,2,0,0,3,0,3,3]))
      |exact aF (C,B,_,w) (by rw[<-v];exact a) ((((kE.d rfl).d rfl).d rfl).d rfl) (bf.jy.trans (aQ [2,3,0,0,3,0,3,3]))
      |exact aF (C,B,_,w) (by rw[<-v];exact a) ((((kE.d rfl).d rfl).d rfl).d rfl) (bf.jy.trans (aQ [2,4,0,0,3,0,3,3]))
  refine .makeMap (λB=>?_)
  refine .nil (Next.sub ?_)
  refine .sT 5 rfl ?_
  refine .cO ((vM U (λb o=>(b,o)∈Tc\/(b,o)∈Tn) (Z.mono λb o hb=>.inl hb) (by rw[v];exact V.dU) _ ll num (a0.mono λb o hb=>.inr hb) (by rw[v];exact a2) (by rw[v];exact V.len)).weaken λb o hb=>.inr (by rcases hb with hb|hb<;>simp[hb])) (λu w a=>?_)
  obtain⟨mn,rfl⟩:∃m,u=.map (some m):=by obtain⟨b,_,_,h,_⟩:=a;exact⟨b,h⟩
  refine .nil (Next.sub ?_)
  refine .tO 10 rfl .cR ?_
  refine .sT 11 rfl ?_
  refine .bY rfl (λC=>?_)
  refine .nil (Next.sub ?_)
  refine .tO 12 rfl .assign ?_
  refine RA.nil (by kernel_rfl) ?_
  ·first
      |exact aF (C,B,_,w) (by rw[<-v];exact a) ((((kE.d rfl).d rfl).d rfl).d rfl) (bf.jy.trans (aQ [2,2,0,0,3,0,3,3]))
      |exact aF (C,B,_,w) (by rw[<-v];exact a) ((((kE.d rfl).d rfl).d rfl).d rfl) (bf.jy.trans (aQ [2,3,0,0,3,0,3,3]))
      |exact aF (C,B,_,w) (by rw[<-v];exact a) ((((kE.d rfl).d rfl).d rfl).d rfl) (bf.jy.trans (aQ [2,4,0,0,3,0,3,3]))
  refine .makeMap (λB=>?_)
  refine .nil (Next.sub ?_)
  refine .sT 4 rfl ?_
  refine .cO ((hV.numbers rev c2).weaken cZ) (λu Tn a=>?_)
  obtain⟨ll,a0,a2⟩:=a
  rw[b6]at a2
  have g0:=a0.rs.ap
  refine .nil (Next.sub ?_)
  refine .sT 5 rfl ?_
  refine .cO ((vM U (λb o=>(b,o)∈Tc\/(b,o)∈Tn) (Z.mono λb o hb=>.inl hb) (by rw[v];exact V.dU) _ ll num (a0.mono λb o hb=>.inr hb) (by rw[v];exact a2) (by rw[v];exact V.len)).weaken λb o hb=>.inr (by rcases hb with hb|hb<;>simp[hb])) (λu w a=>?_)
  obtain⟨mn,rfl⟩:∃m,u=.map (some m):=by obtain⟨b,_,_,h,_⟩:=a;exact⟨b,h⟩
  refine .nil (Next.sub ?_)
  refine .tO 10 rfl .cR ?_
  refine .sT 11 rfl ?_
  refine .bY rfl (λC=>?_)
  refine .nil (Next.sub ?_)
  refine .tO 12 rfl .assign ?_
  refine RA.nil (by kernel_rfl) ?_
  ·first
      |exact aF (C,B,_,w) (by rw[<-v];exact a) ((((kE.d rfl).d rfl).d rfl).d rfl) (bf.jy.trans (aQ [2,2,0,0,3,0,3,3]))
      |exact aF (C,B,_,w) (by rw[<-v];exact a) ((((kE.d rfl).d rfl).d rfl).d rfl) (bf.jy.trans (aQ [2,3,0,0,3,0,3,3]))
      |exact aF (C,B,_,w) (by rw[<-v];exact a) ((((kE.d rfl).d rfl).d rfl).d rfl) (bf.jy.trans (aQ [2,4,0,0,3,0,3,3]))
  intro y hy
  obtain⟨xb,Q,vn,w⟩:=y
  simp only at hy⊢
  obtain⟨x,a3⟩:∃x:XC,x=⟨U,num,vn,g,S,L,rev,b⟩:=⟨_,rfl⟩
  have i2:=hy.one
  have c7:x.sub=sub:=by rw[f9,a3];rfl
  have a7:x.c.plain=cp:=by rw[a3];exact v
  have a8:x.num=num:=by rw[a3]
  have K:x.b=b:=by rw[a3]
  obtain⟨Rc,H⟩:∃Rc:aB,Rc=λb o=>R b o\/(b,o)∈Tc\/(b,o)∈w:=⟨_,rfl⟩
  have a5:x.ok Rc:=by
    rw[a3,H]
    exact⟨Z.mono λb o hb=>.inr (.inl hb),by simp only;rw[v];exact hy.rm λp f=>.inr (.inr f),by simp only;rw[v];exact V.len,⟨c8,vf,vr,Mf,Mr,hS.mono λb o hb=>.inl hb⟩,hL,hl⟩
  have f7:=AQ x Rc a5 xb
  have f5:=λR h=>OH x Rc R h a5 xb
  have b2:=λR h=>OQ x R h xb
  rw[<-a3]
  refine av<|.sr<|.mo rfl<|.q (.aM rfl)<|.mo rfl ?_
  refine .call [0,0,0] ((f7 [] 0 (.map (some Q)) (sZ) [(Q,.map #[] 0)] [] ⟨[],MS.nil,λk=>rfl⟩ OS.nil (by simp) k).weaken λb o hb=>by
    rw[H]at hb
    rcases hb with hb|hb|hb
    ·exact .inl hb
    ·exact .inr (by simp[rest,bJ,hb])
    ·exact .inr (by simp[rest,bJ,hb])) (λu H' a=>?_)
  obtain⟨c9,g2,d0,d2,rfl,rfl,e0,d4,d6,l1,c1,f6⟩:=a
  rw[List.nil_append]at c1
  subst c1
  conv=>arg 8;simp only[rest,bJ,List.cons_append,List.nil_append]
  have h0:c9.map aD.plain=(opened cp num sub k 0).1:=by rw[e0,a7,a8];rfl
  refine .zs<|.sr<|.az rfl<|.block ?_
  refine .cz [(12,_),(18,_)] (X:=Nat×List aD×Value×ay×ay×ay) (λy=>(∀j,j<y.1->j<(opened cp num sub k j).1.length/\(((opened cp num sub k j).1.length+(opened cp num sub k j).2:Nat):Int)<=b)/\y.2.1.map aD.plain=(opened cp num sub k y.1).1/\iP y.2.1 (.map (some Q)) y.2.2.2.1/\OS 95 8 aD.enc y.2.2.1 y.2.1 y.2.2.2.2.1/\∀q∈y.2.1,q.is λb o=>Rc b o\/(b,o)∈y.2.2.2.2.2) (λy E=>(19,iN y.1)::E) (G:=[Tc,w,bl b3 [sZ,.int .i64 0] 81,bl b9 [.string k.os,.string k.oi] 44]) (λy G=>x.iF xb (.map (some Q)) y.2.2.1 (opened cp num sub k y.1).2::y.2.2.2.1::y.2.2.2.2.1::y.2.2.2.2.2::G) (λy=>N+1-y.1) (0,c9,g2,d0,d2,[]) ⟨λj hj=>(by omega),h0,d4,d6,λq hq=>(f6 q hq).mono λb o hb=>.inl hb⟩ kE.c.c.c rH ?_
  rintro⟨i,s,A,Ta,To,Tp⟩ ⟨hj,O,hA,F,M⟩
  simp only at hj O hA F M⊢
  have g1:=F.ap
  have i1:ca (List.take 2 (List.drop 6 (x.cells (.map (some Q)) A (opened cp num sub k i).2))):=⟨λu a=>by
    simp[XC.cells]at a
    rcases a with rfl|rfl
    ·exact g1.h
    ·rfl⟩
  have a9:∀j,j<i->j<(opened cp num sub k j).1.length:=λj Y=>(hj j Y).1
  have b7:=AG hN a9
  have g8:=c3 i a9
  have c6:s.length=(opened cp num sub k i).1.length:=by rw[<-O,List.length_map]
  refine .seq<|.sr<|.mo rfl<|.mo rfl<|.nc rfl<|.fa rfl<|.fa rfl<|.lo rfl<|.q (.dK F) ?_
  refine .q .lss<|.mo rfl ?_
  refine .split (t:=80) rfl (λD=>?_) (λD=>?_)
  have b8:i<s.length:=by have:=bS D;omega
  refine .gT D<|.mo rfl<|.gT D ?_
  refine .aY (b2 _ (a5.mono λb o hb=>by
    rw[H]at hb
    rcases hb with hb|hb|hb
    ·exact .inl hb
    ·exact .inr (by simp[hb])
    ·exact .inr (by simp[hb])) (.map (some Q)) A (opened cp num sub k i).2 s (pc:=PC.of (E:=190) (fr:=(0,0)) (.inr (by simp))) F.rx (by omega) (by rw[K];omega)) (λu a=>?_)
  subst a
  refine .gT D<|.q .not<|.q (.aT D) ?_
  refine .zn ?_
  refine .cond rfl (λh4=>?_) λh4=>?_
  have f1:(((opened cp num sub k i).1.length+(opened cp num sub k i).2:Nat):Int)<=b:=by
    have:¬x.b<(s.length+(opened cp num sub k i).2:Nat):=by simpa using h4
    rw[K]at this;omega
  obtain⟨p,f⟩:=bL b8
  have b0:p.plain=one x.c.plain x.num p.k:=by
    rw[a7,a8]
    exact vQ (c:=cp) (num:=num) (sub:=sub) (k:=k) i i p.plain (Nat.le_refl _) (by rw[<-O,List.getElem?_map,f];rfl)
  have f2:p.nodes.length<=1000000:=by
    have Y:=vO (num:=num) (k:=p.k) V.right
    rw[a7,a8]at b0
    rw[<-b0]at Y
    exact Nat.le_trans Y (by omega)
  have c0:∀j,j<i+1->j<(opened cp num sub k j).1.length/\(((opened cp num sub k j).1.length+(opened cp num sub k j).2:Nat):Int)<=b:=λj Y=>by
    rcases Nat.lt_or_ge j i with h8|h8
    ·exact hj j h8
    ·obtain rfl:j=i:=by omega
     exact⟨by omega,f1⟩
  have g9:=c3 (i+1) λj Y=>(c0 j Y).1
  have c5:=AH (c:=cp) (num:=num) (sub:=sub) (k:=k) i
  have c4:(eH cp num sub (s.map aD.plain) i).1=(opened cp num sub k (i+1)).1:=by rw[c5,O]
  have f4:(opened cp num sub k i).2+(eH cp num sub (s.map aD.plain) i).2=(opened cp num sub k (i+1)).2:=by rw[c5,O]
  refine .kn<|.seq<|.block<|.region<|.mo rfl<|.mo rfl ?_
  refine .call [0,0,0] (f5 _ (λb o hb=>by
    rw[H]at hb
    rcases hb with hb|hb|hb
    ·exact .inl hb
    ·exact .inr (by simp[rest,bJ,hb])
    ·exact .inr (by simp[rest,bJ,hb])) s (opened cp num sub k i).2 (.map (some Q)) A Ta To hA F i p f ((M p (aO f)).n.mono λb o hb=>by
    rw[H]at hb
    rcases hb with(hb|hb|hb)|hb
    ·exact .inl hb
    ·exact .inr (by simp[rest,bJ,hb])
    ·exact .inr (by simp[rest,bJ,hb])
    ·exact .inr (by simp[rest,bJ,hb])) b0 f2 (by rw[a7,a8,c7,c4];omega) (by omega)) (λu H' a=>?_)
  rw[tN,a7,a8,c7,c4,f4]at a
  obtain⟨g3,d1,d3,TL,Tr,Tu,l,q,rfl,f0,e6,d5,d7,f8⟩:=a
  conv=>arg 8;simp only[rest,bJ,List.cons_append,List.nil_append]
  refine .nil<|aV<|av<|.region<|.mo rfl ?_
  refine .ia (i+1) .add ?_
  refine .ag rfl<|.nil ?_
  ·exact aW (i+1,(s++l).set i q,g3,d1,d3,TL++(Tr++(Tu++Tp))) ⟨c0,e6,d5,d7,λz hz=>by
      rcases List.mem_or_eq_of_mem_set hz with hz|rfl
      ·rcases List.mem_append.1 hz with hz|hz
       ·exact(M z hz).mono λb o hb=>hb.imp id λhb=>List.mem_append_right _ (List.mem_append_right _ (List.mem_append_right _ hb))
       ·exact(f0 z hz).mono λb o hb=>.inl hb
      ·rcases f8 with rfl|⟨e1,e2,e3,e4,e5⟩
       ·exact(M _ (aO f)).mono λb o hb=>hb.imp id λhb=>List.mem_append_right _ (List.mem_append_right _ (List.mem_append_right _ hb))
       ·refine⟨?_,e3.mono λb o hb=>.inr (List.mem_append_right _ (List.mem_append_right _ (List.mem_append_left _ hb))),e4.mono λb o hb=>.inr (List.mem_append_left _ hb),λy hy=>(e5 y hy).mono λb o hb=>.inr (List.mem_append_right _ (List.mem_append_left _ hb))⟩
        rw[e1,e2]
        exact(M p (aO f)).n.mono λb o hb=>hb.imp id λhb=>List.mem_append_right _ (List.mem_append_right _ (List.mem_append_right _ hb))⟩ (by simp only;omega) kE.c.c.c (bf.fq (by simp[dc]))
  refine .exit<|bm<|bs<|bo<|av<|.seq<|.sr<|.mo rfl ?_
  refine .aY (b2 _ (a5.mono λb o hb=>by
    rw[H]at hb
    rcases hb with hb|hb|hb
    ·exact .inl hb
    ·exact .inr (by simp[hb])
    ·exact .inr (by simp[hb])) (.map (some Q)) A (opened cp num sub k i).2 s (pc:=PC.of (E:=190) (fr:=(0,0)) (.inr (by simp))) F.rx (by omega) (by rw[K];omega)) (λu a=>?_)
  subst a
  refine .zn ?_
  refine .cond rfl (λW=>?_) λW=>?_
  have a6:b<(((opened cp num sub k i).1.length+(opened cp num sub k i).2:Nat):Int):=by
    have:x.b<(s.length+(opened cp num sub k i).2:Nat):=by simpa using W
    rw[K]at this;omega
  obtain⟨e7,e8⟩:=vT (c:=cp) (num:=num) (sub:=sub) (k:=k) b7
  rw[if_neg (by omega)]at r
  refine .sr ?_
  refine .q .cR ?_
  refine .bP rfl rfl<|.az rfl ?_
  refine .ret (aH (bp _ (.two (.fB rfl rfl) (.tmp rfl)) (bf.one [2,2,2,2] _) ?_))
  ·first
      |exact(J _ _ _).2 ⟨_,[],_,rfl,by rw[r];rfl,RS.fk,λp f=>(by cases f),by rw[r];rfl⟩
      |exact(J _ _ _).2 ⟨A,s,_,rfl,by rw[r];rfl,F.rs λp f=>.inr (by simp[take,bJ,f]),λp f=>(M p f).mono λb o hb=>(by
          rw[H]at hb
          rcases hb with(hb|hb|hb)|hb
          ·exact .inl hb
          ·exact .inr (by simp[take,bJ,hb])
          ·exact .inr (by simp[take,bJ,hb])
          ·exact .inr (by simp[take,bJ,hb])),by rw[r];exact O⟩
  have a6:(((opened cp num sub k i).1.length+(opened cp num sub k i).2:Nat):Int)<=b:=by
    have:¬x.b<(s.length+(opened cp num sub k i).2:Nat):=by simpa using W
    rw[K]at this;omega
  have b1:i=N:=by
    refine eW.dU (c:=cp) (num:=num) (sub:=sub) (k:=k) ⟨?_,a9⟩ hN
    first
      |(rw[<-c6];omega)
      |(exfalso
        have:x.b<(s.length+(opened cp num sub k i).2:Nat):=by simpa using h4
        rw[K]at this
        omega)
  subst b1
  rw[if_pos a6]at r
  refine .kn<|.sr<|.mo rfl<|.nc rfl<|.fa rfl<|.q (.loadT rfl) ?_
  refine .bP rfl rfl<|.az rfl ?_
  refine .ret (bp _ (.two (.fB rfl rfl) (.tmp rfl)) (bf.one [2,2,2,2] _) ?_)
  ·first
      |exact(J _ _ _).2 ⟨_,[],_,rfl,by rw[r];rfl,RS.fk,λp f=>(by cases f),by rw[r];rfl⟩
      |exact(J _ _ _).2 ⟨A,s,_,rfl,by rw[r];rfl,F.rs λp f=>.inr (by simp[take,bJ,f]),λp f=>(M p f).mono λb o hb=>(by
          rw[H]at hb
          rcases hb with(hb|hb|hb)|hb
          ·exact .inl hb
          ·exact .inr (by simp[take,bJ,hb])
          ·exact .inr (by simp[take,bJ,hb])
          ·exact .inr (by simp[take,bJ,hb])),by rw[r];exact O⟩
  have b8:¬i<s.length:=by have:=bA D;omega
  refine .gF D<|.gF D<|.gF D<|.q (.aS D) ?_
  refine .zn<|.cP<|.exit<|bm<|bs<|bo<|av<|.seq<|.sr<|.mo rfl ?_
  refine .aY (b2 _ (a5.mono λb o hb=>by
    rw[H]at hb
    rcases hb with hb|hb|hb
    ·exact .inl hb
    ·exact .inr (by simp[hb])
    ·exact .inr (by simp[hb])) (.map (some Q)) A (opened cp num sub k i).2 s (pc:=PC.of (E:=190) (fr:=(0,0)) (.inr (by simp))) F.rx (by omega) (by rw[K];omega)) (λu a=>?_)
  subst a
  refine .zn ?_
  refine .cond rfl (λW=>?_) λW=>?_
  have a6:b<(((opened cp num sub k i).1.length+(opened cp num sub k i).2:Nat):Int):=by
    have:x.b<(s.length+(opened cp num sub k i).2:Nat):=by simpa using W
    rw[K]at this;omega
  obtain⟨e7,e8⟩:=vT (c:=cp) (num:=num) (sub:=sub) (k:=k) b7
  rw[if_neg (by omega)]at r
  refine .sr ?_
  refine .q .cR ?_
  refine .bP rfl rfl<|.az rfl ?_
  refine .ret (aH (bp _ (.two (.fB rfl rfl) (.tmp rfl)) (bf.one [2,2,2,2] _) ?_))
  ·first
      |exact(J _ _ _).2 ⟨_,[],_,rfl,by rw[r];rfl,RS.fk,λp f=>(by cases f),by rw[r];rfl⟩
      |exact(J _ _ _).2 ⟨A,s,_,rfl,by rw[r];rfl,F.rs λp f=>.inr (by simp[take,bJ,f]),λp f=>(M p f).mono λb o hb=>(by
          rw[H]at hb
          rcases hb with(hb|hb|hb)|hb
          ·exact .inl hb
          ·exact .inr (by simp[take,bJ,hb])
          ·exact .inr (by simp[take,bJ,hb])
          ·exact .inr (by simp[take,bJ,hb])),by rw[r];exact O⟩
  have a6:(((opened cp num sub k i).1.length+(opened cp num sub k i).2:Nat):Int)<=b:=by
    have:¬x.b<(s.length+(opened cp num sub k i).2:Nat):=by simpa using W
    rw[K]at this;omega
  have b1:i=N:=by
    refine eW.dU (c:=cp) (num:=num) (sub:=sub) (k:=k) ⟨?_,a9⟩ hN
    first
      |(rw[<-c6];omega)
      |(exfalso
        have:x.b<(s.length+(opened cp num sub k i).2:Nat):=by simpa using h4
        rw[K]at this
        omega)
  subst b1
  rw[if_pos a6]at r
  refine .kn<|.sr<|.mo rfl<|.nc rfl<|.fa rfl<|.q (.loadT rfl) ?_
  refine .bP rfl rfl<|.az rfl ?_
  refine .ret (bp _ (.two (.fB rfl rfl) (.tmp rfl)) (bf.one [2,2,2,2] _) ?_)
  ·first
      |exact(J _ _ _).2 ⟨_,[],_,rfl,by rw[r];rfl,RS.fk,λp f=>(by cases f),by rw[r];rfl⟩
      |exact(J _ _ _).2 ⟨A,s,_,rfl,by rw[r];rfl,F.rs λp f=>.inr (by simp[take,bJ,f]),λp f=>(M p f).mono λb o hb=>(by
          rw[H]at hb
          rcases hb with(hb|hb|hb)|hb
          ·exact .inl hb
          ·exact .inr (by simp[take,bJ,hb])
          ·exact .inr (by simp[take,bJ,hb])
          ·exact .inr (by simp[take,bJ,hb])),by rw[r];exact O⟩
def dD.enc(x:dD):List Value:=[iN x.1,iN x.2]
instance dD.one(x:dD):ca (dD.enc x):=⟨by simp[dD.enc,ap]⟩
abbrev jc(sb:Nat)(vp:Value)(e:Nat)(us:ByteArray)(vv vb vw vq:Value):ay:=(bl sb [vp,iN e,.string us,vv,vb,vw,vq] 206)
abbrev qU(sb:Nat):Value:=jm (pT sb) 6
def QI(sb:Nat)(vp:Value)(e:Nat)(us:ByteArray)(vv vb vw:Value)(L:List dD)(T:ay):Prop:=∃vq Tq,T=jc sb vp e us vv vb vw vq++Tq/\OS 280 2 dD.enc vq L Tq/\L.length<=1000000000
theorem Bw(v:Value)(L:List dD)(R:aB)(h:RS R 2 dD.enc v L):Spec Tryz.prog 92 [v] R [] λu H'=>u=.int .i64 L.length/\H'=[]:=by
 have a:=h.ap
 refine Spec.body Tryz.func92 rfl Tryz.results92 Tryz.ntmps92 rfl<|.sr<|.ag rfl<|.z<|.mo rfl<|.q (.bH h)<|.az rfl<|.ret (aP rfl ?_)
 ·exact⟨rfl,rfl⟩
theorem QR(v:Value)(L:List dD)(R:aB)(h:RS R 2 dD.enc v L)(i k:Nat)(x y:dD)(f:L[i]? =some x)(g:L[k]? =some y):Spec Tryz.prog 297 [v,.int .i64 i,.int .i64 k] R [] λu H'=>u=.bool (lZ x y)/\H'=[]:=by
 have l:=h.ap
 have e:lZ x y=(decide (x.1<y.1)||(decide (x.1=y.1)&&decide (x.2<y.2))):=rfl
 obtain⟨a,b⟩:=x
 obtain⟨c,d⟩:=y
 simp only at e
 generalize lZ (a,b) (c,d)=r at *
 refine Spec.body Tryz.func297 rfl Tryz.results297 Tryz.ntmps297 rfl<|.sr<|.ag rfl<|.zs<|.seq<|.gn mixed (by kernel_rfl)<|.mo rfl<|.mo rfl ?_
 refine .bx i h f (λt=>?_)
 refine .fa rfl<|.lo rfl<|.mo rfl<|.mo rfl ?_
 refine .bx k h g (λm=>?_)
 refine .fa rfl<|.lo rfl<|.q .et<|.zn<|.cond rfl (λj=>?_) λj=>?_
 refine .seq<|.gn mixed (by kernel_rfl)<|.mo rfl<|.mo rfl ?_
 refine .bx i h f (λn=>?_)
 refine .fa rfl<|.lo rfl<|.mo rfl<|.mo rfl ?_
 refine .bx k h g (λo=>?_)
 refine .fa rfl<|.lo rfl<|.q .lss<|.az rfl<|.ret (aH (aP rfl ?_))
 ·refine⟨congrArg _ ?_,rfl⟩
  rw[e]
  grind
 refine .kn<|.seq<|.gn mixed (by kernel_rfl)<|.mo rfl<|.mo rfl ?_
 refine .bx i h f (λp=>?_)
 refine .fa rfl<|.lo rfl<|.mo rfl<|.mo rfl ?_
 refine .bx k h g (λs=>?_)
 refine .fa rfl<|.lo rfl<|.q .lss<|.az rfl<|.ret (aP rfl ?_)
 ·refine⟨congrArg _ ?_,rfl⟩
  rw[e]
  grind
theorem Q1(v:Value)(L:List dD)(T:ay)(R:aB)(a:OS 280 2 dD.enc v L T)(i k:Nat)(e:i<L.length)(f:k<L.length):Spec Tryz.prog 298 [v,.int .i64 i,.int .i64 k] R [T] λ_ H'=>∃T',H'=[T']/\OS 280 2 dD.enc v (cX L i k) T':=by
 have m:=a.ap
 obtain⟨x,b⟩:=bL e
 obtain⟨y,c⟩:=bL f
 refine Spec.body Tryz.func298 rfl Tryz.results298 Tryz.ntmps298 rfl<|.cL [13,15] mixed<|.tO 0 rfl .move<|.tO 1 rfl .move<|.tK 2 rfl .move<|.tK 3 rfl .move<|.tO 4 rfl .move<|.tO 5 rfl .move ?_
 refine RA.aL 6 rfl (k) a c rfl rfl rfl (by kernel_rfl) (λn=>?_)
 refine .tO 7 rfl (.aM rfl)<|.tO 8 rfl .move<|.tO 9 rfl .move ?_
 refine RA.aL 10 rfl (i) a b rfl rfl rfl (by kernel_rfl) (λo=>?_)
 refine .tO 11 rfl (.aM rfl) ?_
 refine RA.aL 12 rfl (i) a b rfl rfl rfl (by kernel_rfl) (λp=>?_)
 refine .sT 13 rfl<|.eD (i) a b y (λj g=>?_) (a.one _ (aO c))
 refine .nil (Next.mod rfl ?_)
 refine RA.aL 14 rfl (k) a c rfl rfl rfl (by kernel_rfl) (λq=>?_)
 refine .sT 15 rfl ?_
 obtain⟨r,h⟩:∃u,(L.set (i) y)[k]? =some u:=⟨_,aX (by rw[List.length_set];exact(List.getElem?_eq_some_iff.1 c).1)⟩
 refine .eD (k) g h x (λl d=>?_) (a.one _ (aO b))
 rw[<-eQ b c]at d
 refine .nil<|Next.mod rfl<|RA.nil (by kernel_rfl)<|gg _ .none rH ?_
 ·exact⟨_,rfl,d⟩
section
variable(sb:Nat)(vp:Value)(e:Nat)(us:ByteArray)(vv vb vw:Value)
theorem QZ(L:List dD)(T:ay)(h:QI sb vp e us vv vb vw L T)(x:dD)(j:L.length<1000000000)(R:aB):
  Spec Tryz.prog 300 [qU sb,.iface 280 (.agg (dD.enc x).toArray)] R [T] λv H'=>∃T',H'=[T']/\QI sb vp e us vv vb vw (L++[x]) T':=by
 obtain⟨g,f,rfl,b,_⟩:=h
 refine Spec.gu (H':=[jc sb vp e us vv vb vw g,f]) (by simp) ?_
 have k:=b.ap
 refine Spec.body Tryz.func300 rfl Tryz.results300 Tryz.ntmps300 rfl<|.cL [7,9] mixed<|.tK 0 rfl .move<|.tO 1 rfl .move<|.tO 2 rfl (.nilCheck rfl)<|.tO 3 rfl (.bZ rfl)<|.tO 4 rfl .move<|.tO 5 rfl (.xM (ut:=⟨Tryz.underlying280⟩))<|.sT 6 rfl ?_
 refine .ej (λi=>?_)
 refine .nil<|Next.sub<|.sT 7 rfl<|.append b (RS.lits (xs:=[x]) rfl (by simp[dD.enc]) (by simp[dD.enc,ap])) (by simp;omega) (λd a c=>?_)
 have l:=c.ap
 refine .nil<|Next.mod rfl<|.tK 8 rfl (.lI rfl)<|.sT 9 rfl<|.dZ rfl rfl<|.nil<|Next.mod rfl<|RA.nil (by kernel_rfl)<|gg _ .none ((aQ [1,1]).trans (bf.fq (H':=[jc sb vp e us vv vb vw d++a]) (by simp[take,bJ,dc]))) ?_
 ·exact⟨_,rfl,d,a,rfl,c,by simp;omega⟩
theorem QY(L:List dD)(x:dD)(T:ay)(h:QI sb vp e us vv vb vw (L++[x]) T)(R:aB):
  Spec Tryz.prog 299 [qU sb] R [T] λv H'=>∃T',H'=[T']/\v=.iface 280 (.agg (dD.enc x).toArray)/\QI sb vp e us vv vb vw L T':=by
 obtain⟨g,b,rfl,a,f⟩:=h
 simp only[List.length_append,List.length_singleton]at f
 refine Spec.gu (H':=[jc sb vp e us vv vb vw g,b]) (by simp) ?_
 have j:=a.ap
 refine Spec.body Tryz.func299 rfl Tryz.results299 Tryz.ntmps299 rfl<|.sr<|.ag rfl<|.z<|.mo rfl<|.nc rfl<|.lo rfl<|.ag rfl<|.z<|.mo rfl<|.mo rfl<|.q (.dK a)<|.q (.i64 ((L.length:Nat):Int) .sub ⟨by simp,by omega,by omega⟩) ?_
 refine .aL L.length a (z:=x) (by simp) (λl=>?_)
 refine .q (.aM rfl) ?_
 refine .bX (λi=>?_)
 refine .bP rfl rfl<|.z<|.mo rfl<|.mo rfl<|.mo rfl<|.q (.dK a)<|.q (.i64 ((L.length:Nat):Int) .sub ⟨by simp,by omega,by omega⟩)<|.re 0 L.length a rfl ⟨_,rfl⟩ (by omega) (by simp) (λd c=>?_)
 have k:=c.ap
 refine .nc rfl<|.dZ rfl rfl<|.z<|.q (.aM rfl)<|.q (.makeInterface (ut:=⟨Tryz.underlying280⟩))<|.az rfl<|.ret (bp _ (.one (.tmp rfl)) ((aQ [1,1]).trans (bf.fq (H':=[jc sb vp e us vv vb vw d++b]) (by simp[take,bJ,dc]))) ?_)
 ·exact⟨_,rfl,rfl,d,b,rfl,by simpa using c,by omega⟩
theorem rf:∀w,(typeInfo 282).run Tryz.prog w=.ok Tryz.t282 w:=Tryz.typeInfo282
theorem AW(R:aB):qe Tryz.prog R 282 (qU sb) lZ (QI sb vp e us vv vb vw) where
 lC L T h:=by obtain⟨a,b,rfl,d,g⟩:=h;exact g
 len L T h:=by
  obtain⟨a,b,rfl,d,g⟩:=h
  have j:RS (Rx R [jc sb vp e us vv vb vw a++b]) 2 dD.enc a L:=d.rs λp c=>.inr (by simp[c])
  have c:PC (Rx R [jc sb vp e us vv vb vw a++b]) (pT sb) [vp,iN e,.string us,vv,vb,vw,a]:=PC.of (E:=206) (fr:=(0,0)) (.inr (by simp))
  refine(hB.im (r:=a) (f:=92) (jF.val rf (by kernel_rfl) inferInstance (by kernel_rfl) inferInstance (c.add 6)) (Bw a L _ j)).mono λu n l=>?_
  obtain⟨rfl,rfl⟩:=l
  exact⟨rfl,a,b,rfl,d,g⟩
 less L T i k x y h hx hy:=by
  obtain⟨a,b,rfl,d,g⟩:=h
  have j:RS (Rx R [jc sb vp e us vv vb vw a++b]) 2 dD.enc a L:=d.rs λp c=>.inr (by simp[c])
  have c:PC (Rx R [jc sb vp e us vv vb vw a++b]) (pT sb) [vp,iN e,.string us,vv,vb,vw,a]:=PC.of (E:=206) (fr:=(0,0)) (.inr (by simp))
  refine(hB.im (r:=a) (f:=297) (jF.val rf (by kernel_rfl) inferInstance (by kernel_rfl) inferInstance (c.add 6)) (QR a L _ j i k x y hx hy)).mono λu n l=>?_
  obtain⟨rfl,rfl⟩:=l
  exact⟨rfl,a,b,rfl,d,g⟩
 swap L T i k h hi hk:=by
  obtain⟨a,b,rfl,d,g⟩:=h
  have c:PC (Rx R [jc sb vp e us vv vb vw a++b]) (pT sb) [vp,iN e,.string us,vv,vb,vw,a]:=PC.of (E:=206) (fr:=(0,0)) (.inr (by simp))
  refine⟨298,a,jF.val rf (by kernel_rfl) inferInstance (by kernel_rfl) inferInstance (c.add 6),inferInstance,?_⟩
  refine Spec.gu (H':=[jc sb vp e us vv vb vw a,b]) (by simp)<|Spec.flat ((Spec.qI [1] (Q1 a L b _ d i k hi hk)).mono λv H' q=>?_)
  obtain⟨s,rfl,m,rfl,o⟩:=q
  refine⟨_,jc sb vp e us vv vb vw a++m,rfl,?_,_,rfl,a,m,rfl,o,by rw[mq];exact g⟩
  simp only[rest,bJ,List.flatten_append,List.flatten_cons,List.flatten_nil,List.append_nil]
  exact List.perm_append_comm
theorem O7(L:List dD)(T:ay)(h:QI sb vp e us vv vb vw L T)(x:dD)(hl:L.length<1000000000)(R:aB):hB Tryz.prog 282 (qU sb) "Push" [.iface 280 (.agg (dD.enc x).toArray)] R T fun _ T'=>QI sb vp e us vv vb vw (L++[x]) T':=
 ⟨300,_,jF.ptr rf (by kernel_rfl) inferInstance (by kernel_rfl),inferInstance,QZ sb vp e us vv vb vw L T h x hl R⟩
theorem O6(L:List dD)(x:dD)(T:ay)(h:QI sb vp e us vv vb vw (L++[x]) T)(R:aB):hB Tryz.prog 282 (qU sb) "Pop" [] R T fun v T'=>v=.iface 280 (.agg (dD.enc x).toArray)∧QI sb vp e us vv vb vw L T':=
 ⟨299,_,jF.ptr rf (by kernel_rfl) inferInstance (by kernel_rfl),inferInstance,QY sb vp e us vv vb vw L x T h R⟩
end
def dF(b:Bool):List Value:=[.bool b]
structure QW(ps:List bM)(q:List Bool)(L:List dD):Prop where
 p:L.Perm (items ps q)
 h:fH lZ L L.length
section
variable(sb:Nat)(vp:Value)(e:Nat)(us:ByteArray)(vv vb vw:Value)
theorem Bx(L:List dD)(T k:ay)(h:QI sb vp e us vv vb vw L T)(ps:List aD)(R:aB)(C:RS R 8 aD.enc vp ps)(B:∀p∈ps,∀u∈p.enc,ap u=true)(q:List Bool)(d:OS 4 1 dF vw q k)(M:q.length=ps.length)(a:QW (ps.map aD.plain) q L)(i:Nat)(A:i<ps.length)(J:ps.length<1000000000)
  [Q:One vp] [S:One vv] [O:One vb] [U:One vw]:Spec prog 95 [pT sb,.int .i64 i] R [T,k] λ_ H'=>∃T' Tw' L',H'=[T',Tw']/\QI sb vp e us vv vb vw L' T'/\OS 4 1 dF vw (q.set i true) Tw'/\QW (ps.map aD.plain) (q.set i true) L':=by
 have l:=h
 obtain⟨o,r,rfl,v,I⟩:=h
 have N:=v.ap
 have a0:PS (jc sb vp e us vv vb vw o++r) (pT sb) [vp,iN e,.string us,vv,vb,vw,o]:=PS.of (E:=206) (fr:=(0,0)) (by simp)
 obtain⟨b,c⟩:∃b,q[i]? =some b:=⟨_,aX (by omega)⟩
 obtain⟨p,g⟩:=bL A
 have K:ca p.enc:=⟨B p (aO g)⟩
 have j:q.getD i false=b:=by rw[List.getD_eq_getElem?_getD,c];rfl
 have m:fV (ps.map aD.plain) i=p.number:=by
  unfold fV
  rw[List.getElem?_map,g]
  rfl
 obtain⟨V,G,vn,X,vu,a1,vl,W,n⟩:=p
 simp only at m
 have H:=Nv a.p
 refine Spec.body Tryz.func95 rfl Tryz.results95 Tryz.ntmps95 rfl<|.sr<|.mo rfl<|.nc rfl<|.fa rfl<|.lo rfl<|.mo rfl ?_
 refine .aL i d c (λp9=>?_)
 refine .lo rfl<|.q .not<|.zn<|.cond rfl (λf=>?_) λf=>?_
 have y:b=false:=by simpa using f
 subst y
 refine .sr<|.mo rfl<|.nc rfl<|.fa rfl<|.lo rfl<|.mo rfl ?_
 refine .aL i d c (λY=>?_)
 refine .dv i d c true (λF w=>?_)
 refine .zn<|.dt 16 mixed (by kernel_rfl) ?_
 conv=>arg 6;dsimp only[List.take]
 refine .mo rfl<|.nc rfl<|.fa rfl<|.q .makeInterface<|.mo rfl<|.nc rfl<|.fa rfl<|.fa rfl<|.lo rfl<|.mo rfl ?_
 refine .bx i C g (λZ=>?_)
 refine .fa rfl<|.lo rfl<|.mo rfl ?_
 refine .q .cR ?_
 refine .q (.makeInterface (ut:=⟨Tryz.underlying280⟩))<|.nil<|.dg (R:=R) (O0 (AW sb vp e us vv vb vw R) uW L _ _ (n,i) (O7 sb vp e us vv vb vw L _ l (n,i) (by omega) R) a.h) (λu T' D=>?_)
 obtain⟨rfl,L',t,x,s⟩:=D
 refine .nil<|gg _ .none rH ?_
 ·exact⟨_,_,L',rfl,t,w,⟨x.trans (by rw[<-m];exact(a.p.append_right _).trans (Nx (by omega) j)),s⟩⟩
 have z:b=true:=by simpa using f
 subst z
 refine .skip<|gg _ .none rH ?_
 ·exact⟨_,_,L,rfl,l,by rw[tW j (by omega)];exact d,by rw[tW j (by omega)];exact a⟩
theorem QX(L:List dD)(T g:ay)(h:QI sb vp e us vv vb vw L T)(R:aB)(ps:List bM)(q:List Bool)(l:OS 4 1 dF vw q g)(c:QW ps q L)(x:dD)(m:L[0]? =some x) [Q:One vp] [S:One vv] [O:One vb] [U:One vw]:
  Spec prog 93 [pT sb] R [T,g] λu H'=>∃T' Tw' L',H'=[T',Tw']/\u=iN x.2/\QI sb vp e us vv vb vw L' T'/\OS 4 1 dF vw (q.set x.2 false) Tw'/\QW ps (q.set x.2 false) L'/\mI ps q x.2/\x.2<q.length:=by
 have D:=h
 obtain⟨o,s,rfl,y,G⟩:=h
 have M:=y.ap
 have W:PS (jc sb vp e us vv vb vw o++s) (pT sb) [vp,iN e,.string us,vv,vb,vw,o]:=PS.of (E:=206) (fr:=(0,0)) (by simp)
 obtain⟨f,n,d⟩:=zy c.p c.h m
 obtain⟨a,i⟩:=x
 simp only at f n d
 obtain⟨b,k⟩:=bL d
 refine Spec.body Tryz.func93 rfl Tryz.results93 Tryz.ntmps93 rfl<|.sr<|.ag rfl<|.z<|.mo rfl<|.nc rfl<|.fa rfl<|.q .makeInterface<|.dg (R:=R) (OZ (AW sb vp e us vv vb vw R) uW L _ D (a,i) m c.h (λx=>.iface 280 (.agg (dD.enc x).toArray)) (QI sb vp e us vv vb vw) (λL' T' w G=>O6 sb vp e us vv vb vw L' (a,i) T' w R)) (λu T' H=>?_)
 obtain⟨rfl,L',j,C,v⟩:=H
 have F:=j
 obtain⟨r,t,rfl,A,K⟩:=j
 have N:=A.ap
 have X:PS (jc sb vp e us vv vb vw r++t) (pT sb) [vp,iN e,.string us,vv,vb,vw,r]:=PS.of (E:=206) (fr:=(0,0)) (by simp)
 refine .q (.xM (ut:=⟨Tryz.underlying280⟩)) ?_
 refine .bX (λJ=>?_)
 refine .bP rfl rfl<|.zs<|.dt 7 mixed (by kernel_rfl) ?_
 conv=>arg 6;dsimp only[List.take]
 refine .mo rfl<|.nc rfl<|.fa rfl<|.lo rfl<|.fa rfl<|.lo rfl ?_
 refine .aL i l k (λV=>?_)
 refine .nil ?_
 skip
 refine .dv i l k false (λI B=>?_)
 refine .z<|.fa rfl<|.lo rfl<|.az rfl<|.ret (bp _ (.one (.tmp rfl)) (aQ [1,1]) ?_)
 ·exact⟨_,_,L',rfl,rfl,F,B,⟨Nu c.p d f.1 (by rw[<-n];exact C),v⟩,f,d⟩
theorem QO(a:Value) [g:One a](v:List Bool)(j:Nat)(b:Bool)(c:v[j]? =some b)(R:aB)(d:RS R 1 dF vv v)(pc:PC R (pT sb) [vp,iN e,.string us,vv,vb,vw,a]) [f:One vp] [h:One vv]:
  Spec prog 152 [pT sb,.int .i64 j] R [] λu H'=>u=.bool b/\H'=[]:=by
 refine Spec.body Tryz.func152 rfl Tryz.results152 Tryz.ntmps152 rfl<|.sr<|.ag rfl<|.z<|.mo rfl<|.nc rfl<|.fa rfl<|.lo rfl<|.mo rfl ?_
 refine .bx j d c (λi=>?_)
 refine .lo rfl<|.az rfl<|.ret (aP rfl ?_)
 ·exact⟨rfl,rfl⟩
end
namespace LIM
theorem Nn(f:FuncId)(g:List Value) [e:aZ prog f](p:Nat->Bool)(v:Value)(l:List Nat)(R:aB)(h:RS R 1 cM v l)(D:∀s∈l,∀R',(∀b o,R b o->R' b o)->Spec prog f (g++[(λn:Nat=>iN n) s]) R' [] λu H'=>u=.bool (p s)/\H'=[]):
  Spec prog 192 [v,.func (.func f) g.toArray #[]] R [] λu H'=>(∃k:Int,u=.int .i64 k/\((∃(i:Nat) (x:Nat),l[i]? =some x/\p x=true/\(∀j y,j<i->l[j]? =some y->p y=false)/\k=i)\/((∀y∈l,p y=false)/\k= -1)))/\H'=[]:=by
 have H:=h.le
 refine Spec.body Tryz.func192 rfl Tryz.results192 Tryz.ntmps192 rfl<|.sr<|.ag rfl<|.zs<|.sr<|.mo rfl<|.q (.bH h)<|.mo rfl<|.zn<|.block<|.loop (X:=Nat) (λi=>i<=l.length/\∀j z,j<i->l[j]? =some z->p z=false) (λi=>[(0,v),(1,.func (.func f) g.toArray #[]),(7,.int .i64 l.length),(8,iN i)]) (λ_=>[]) (λi=>l.length-i) 0 ⟨by omega,by omega⟩ kE.c.c.c.c rH ?_
 rintro i ⟨G,w⟩
 refine .sr<|.q .lss<|.zs<|.cond rfl (λm=>?_) λm=>?_
 have E:i<l.length:=by simp at m;omega
 obtain⟨z,d⟩:=bL E
 have A:=aO d
 have I:=(⟨h.one z A⟩:ca (cM z))
 refine .kn<|.seq<|.block<|.sr<|.mo rfl<|.ag rfl<|.z<|.mo rfl<|.mo rfl<|.mo rfl ?_
 refine .bx i h d (λJ=>?_)
 refine .lo rfl<|.gy (first:=g) (captured:=[]) (vs:=[(λn:Nat=>iN n) z]) (by rw[List.append_nil];exact D z A _ λb o B=>.inl B) (λu F=>?_)
 subst F
 refine .zn<|.cond rfl (λr=>?_) λr=>?_
 refine .sr<|.mo rfl<|.az rfl<|.ret (bh (aH (cB (bh (aH (aP rfl ?_))))))
 ·exact⟨⟨_,rfl,.inl ⟨i,z,d,r,w,rfl⟩⟩,rfl⟩
 refine .skip<|aV<|av<|.region<|.q (.inc (n:=i) (by omega))<|.mo rfl<|.nil ?_
 ·exact aW (i+1) ⟨by omega,λj y t a=>by
   rcases Nat.lt_or_ge j i with hh|hh
   ·exact w j y hh a
   ·obtain rfl:j=i:=by omega
    rw[d]at a;cases a;exact r⟩ (by omega) kE.c.c.c.c rH
 refine .exit<|bm<|bs<|bo<|av<|.sr<|.az rfl<|.ret (aP rfl ?_)
 ·have C:i=l.length:=by simp at m;omega
  subst C
  refine⟨⟨_,rfl,.inr ⟨λy a=>?_,rfl⟩⟩,rfl⟩
  obtain⟨j,t,rfl⟩:=List.mem_iff_getElem.1 a
  exact w j _ t (aX t)
theorem yg(f:FuncId)(c:List Value) [e:aZ prog f](p:Nat->Bool)(v:Value)(l:List Nat)(R:aB)(h:RS R 1 cM v l)(m:∀s∈l,∀R',(∀b o,R b o->R' b o)->Spec prog f (c++[(λn:Nat=>iN n) s]) R' [] λu H'=>u=.bool (p s)/\H'=[]):
  Spec prog 151 [v,.func (.func f) c.toArray #[]] R [] λu H'=>u=.bool (l.any p)/\H'=[]:=by
 refine Spec.body Tryz.func151 rfl Tryz.results151 Tryz.ntmps151 rfl<|.sr<|.ag rfl<|.z<|.mo rfl<|.mo rfl<|.aY (Nn f c p v l _ h.rx λs w R' g=>m s w R' λb o j=>g b o (.inl j)) (λu A=>?_)
 obtain⟨k,rfl,r⟩:=A
 have t:decide (0<=k)=l.any p:=by
  rcases r with⟨i,x,a,d,_,rfl⟩|⟨a,rfl⟩
  ·rw[List.any_eq_true.2 ⟨x,aO a,d⟩];simp
  ·rw[List.any_eq_false.2 λy B=>by rw[a y B];simp];rfl
 refine .q .geq<|.az rfl<|.ret (aP rfl ?_)
 ·exact⟨by simp only[t],rfl⟩
end LIM
end Go.Proofs.YtdljmchhecoakaaGreat

/- What the law 'MemoChecks' uses. No condition. -/
import Derived.Test.YtdljmchhecoakaaGreatKMemoChecksB
import Derived.Test.YtdljmchhecoakaaGreatKMemoChecksF
import Derived.Test.YtdljmchhecoakaaGreatKMemoChecksH
import Derived.Test.YtdljmchhecoakaaGreatKMemoChecksI
import Derived.Test.YtdljmchhecoakaaGreatKMemoChecksL
import Derived.Test.YtdljmchhecoakaaGreatKMemoChecksO
namespace Go.Proofs.YtdljmchhecoakaaGreat
set_option linter.defProp false
def afy:=@if_neg
def afz:=@if_pos
def afA:=@Nat.zero_le
def afB:=@List.length_map
def afC:=@List.map_append
def afD:=@congrArg
def afE:=@List.take_length
def afF:=@trivial
def afG:=@List.getElem?_map
def afH:=@List.length_take
def afI:=@List.length_singleton
def afJ:=@List.mem_singleton
def afK:=@List.mem_append_right
def afL:=@List.mem_append
def afM:=@List.append_nil
def afN:=@List.nil_append
def afO:=@Nat.le_trans
def afP:=@List.getElem?_eq_some_iff
def afQ:=@List.any_eq_true
def afR:=@List.mem_cons
def afS:=@List.length_filter_le
def afT:=@List.cons_append
def afU:=@List.getD_eq_getElem?_getD
def afV:=@List.not_mem_nil
def afW:=@or_false
def afX:=@List.take_add_one
def afY:=@List.flatten_cons
def afZ:=@List.flatten_nil
def af0:=@List.map_cons
def af1:=@List.map_nil
def af2:=@List.getD_cons_zero
def af3:=@decide_eq_false
def af4:=@List.mem_append_left
def af5:=@List.mem_iff_getElem
def af6:=@List.any_append
def af7:=@List.filter_append
def af8:=@List.length_append
def af9:=@List.mem_of_mem_take
def aga:=@decide_eq_false_iff_not
def agb:=@List.getD_cons_succ
def agc:=@List.any_eq_false
def agd:=@List.getElem_map
def agf:=@List.findIdx?_cons
open Tryz
set_option linter.unusedVariables false
set_option linter.unusedSimpArgs false
set_option maxRecDepth 4000
theorem vB{c:bO}{X:List Nat}{p:gu}(g:c.valid p)(i:X.length=total c.plain.aV):∃s:Sp,c.plain.aV[p.1]? =some s/\p.2<s.bS.length/\(rows c.plain.aV X)[p.1]? =some ((X.drop (cO c.plain.aV p.1)).take s.bS.length)/\c.ix p<X.length/\
  ((X.drop (cO c.plain.aV p.1)).take s.bS.length)[p.2]? =some (X.getD (c.ix p) 0):=by
 obtain⟨s,r,f,e⟩:=g
 have a:=pC f
 have d:=(afP.1 (z7 e)).1
 have h:=sB a
 have b:c.ix p<X.length:=by unfold bO.ix;omega
 refine⟨s.plain,a,d,pH a,b,?_⟩
 rw[List.getElem?_take,afz d,List.getElem?_drop,afU]
 unfold bO.ix at b⊢
 rw[bk b]
 rfl
theorem O3{c:bO}(w:Value)(a:List iD)(T:av)(h:nO w a T)(X:List Nat)(j:X.length=total c.plain.aV)(k:a.map (·.1.2)=rows c.plain.aV X)(e:jN)(s:c.valid e.1/\c.valid e.2.1)(D:∀x∈X,x<=1000000000)(R:aA):
  Spec prog 182 [w,.agg (jD e).toArray] R [T] λu H'=>∃T',H'=[T']/\∃ch LL',u=.bool ch/\ch=decide (gi X (c.ed e)≠X)/\nO w LL' T'/\LL'.map (·.1.2)=rows c.plain.aV (gi X (c.ed e)):=by
 obtain⟨Q,t,v,y,z,A⟩:=vB s.1 j
 obtain⟨S,U,V,K,L,M⟩:=vB s.2 j
 have p:∀{i:Nat} {o:List Nat},(rows c.plain.aV X)[i]? =some o->∃q:iD,a[i]? =some q/\q.1.2=o:=λ{i o} b=>by
  rw[<-k,afG]at b
  cases hq:a[i]? with
  |none=>rw[hq]at b;cases b
  |some q=>rw[hq]at b;exact⟨q,rfl,by simpa using b⟩
 obtain⟨I,F,r⟩:=p y
 obtain⟨J,G,H⟩:=p K
 have C:X.getD (c.ix e.2.1) 0<=1000000000:=D _ (by rw[afU,bk L];exact List.getElem_mem _)
 have O:X.getD (c.ix e.1) 0=X.getD (c.ed e).f 0:=rfl
 refine(O5 w a T h e (X.getD (c.ix e.1) 0) (X.getD (c.ix e.2.1) 0) I J F G (by rw[r];exact A) (by rw[H];exact M) C R).mono λu H' m=>?_
 obtain⟨T',rfl,m⟩:=m
 refine⟨T',rfl,?_⟩
 rcases m with⟨rfl,B,g⟩|⟨rfl,B,N,g⟩
 ·have d:gi X (c.ed e)=X:=afy (by show ¬X.getD (c.ix e.1) 0<X.getD (c.ix e.2.1) 0+_;unfold Ed.w bO.ed;simp only;omega)
  refine⟨false,a,rfl,?_,g,?_⟩
  ·rw[d];simp
  ·rw[d];exact k
 ·have d:gi X (c.ed e)=X.set (c.ix e.1) (X.getD (c.ix e.2.1) 0+if e.2.2 then 1 else 0):=afz (by show X.getD (c.ix e.1) 0<X.getD (c.ix e.2.1) 0+_;unfold Ed.w bO.ed;simp only;omega)
  refine⟨true,_,rfl,?_,g,?_⟩
  ·rw[d,eq_comm,decide_eq_true_iff]
   intro E
   have:=afD (λl:List Nat=>l.getD (c.ix e.1) 0) E
   rw[nZ _ _ _ _ z,afz rfl]at this
   omega
  ·rw[d]
   have:=At (n:=X) (x:=X.getD (c.ix e.2.1) 0+if e.2.2 then 1 else 0) t v j
   unfold bO.ix at this⊢
   rw[this,List.map_set,k,r]
theorem O4{A X:List Nat}{e:Ed}(d:∀i,A.getD i 0<=X.getD i 0)(l:X.length=A.length)(k:e.f<X.length):gi X e≠A↔(X≠A\/gi X e≠X):=by
 have c:=λi=>sN X e k i
 constructor
 ·intro h
  by_cases g:X=A
  ·exact .inr (by rw[g]at h⊢;exact h)
  ·exact .inl g
 ·rintro(h|h) b
  ·refine h (ob l λi _=>?_)
   have j:=d i
   have a:=c i
   rw[b]at a
   omega
  ·refine h (ob (by rw[pG]) λi _=>?_)
   have j:=d i
   have a:=c i
   rw[b]at a⊢
   omega
theorem O1{X:List Nat}{e:Ed}{b:Nat}(h:∀x∈X,x<=b):∀x∈gi X e,x<=b+1:=by
 intro x hx
 unfold gi at hx
 split at hx
 ·rcases List.mem_or_eq_of_mem_set hx with hx|rfl
  ·have:=h x hx;omega
  ·have a:X.getD e.t 0<=b:=by
    rw[afU]
    cases hq:X[e.t]? with
    |none=>exact afA _
    |some q=>exact h q (aR hq)
   have c:e.w<=1:=by unfold Ed.w;split<;>omega
   omega
 ·have:=h x hx;omega
theorem P5{R:aA}{xb:Nat}{vm:Value}{c:bO}(h:IX R xb vm c)(hf:c.jF)(ve:Value)(a:List jN)(b7:RS R 5 jD ve a)(c0:a.length<=131072)(N:∀e∈a,c.valid e.1/\c.valid e.2.1):
  Spec prog 123 [pT xb,ve] R [] λu H'=>∃T,H'=[T]/\match settle (a.map c.ed) (total c.plain.aV+1) (List.replicate (total c.plain.aV) 0)with
   |none=>u=.tuple [sZ,.bool false].toArray
   |some A=>∃w ll,u=.tuple [w,.bool true].toArray/\NN (sg T) w ll/\ll.map (·.2)=rows c.plain.aV A:=by
 have d0:=h
 have pc:=h.pc
 have L:=h.ci.ss
 have e5:=L.le
 have e6:=hf.1
 have c6:=h.ci.all
 have f2:=pR c.plain
 have e4:c.plain.all.length=c.fV.length:=by rw[<-po,afB]
 have e9:=hf.fV
 have f1:c.plain.aV.length=c.aV.length:=by unfold bO.plain;simp
 have d6:∀(i:Nat) (s:cF),c.aV[i]? =some s->c.plain.aV[i]? =some s.plain:=λi s t=>pC t
 have e0:=Au c.plain.aV
 have d8:=λw O T hh X v hr e N hb R=>O3 (c:=c) w O T hh X v hr e N hb R
 have e1:=vU c.plain.aV 0
 have c8:∀e∈a,(c.ed e).f<total c.plain.aV:=λe he=>by
  obtain⟨s,_,F,_,r,_⟩:=vB (X:=List.replicate (total c.plain.aV) 0) (N e he).1 (by simp)
  rw[List.length_replicate]at r
  exact r
 generalize f3:total c.plain.aV=tot at *
 refine Spec.body func123 rfl results123 ntmps123 rfl<|.sr<|.ag rfl<|.ag rfl<|.z<|.mo rfl<|.nc rfl<|.fa rfl<|.fa rfl<|.lo rfl<|.q (.bK L) ?_
 refine .makeSlice (enc:=eD) c.aV.length ((sZ,[]):fR) rfl rfl (by decide) (by simp[eD,ay]) rfl rfl (by omega) (by omega) (λQ T6 c3=>?_)
 refine .ag rfl<|.zs<|.sr<|.mo rfl<|.nc rfl<|.fa rfl<|.fa rfl<|.lo rfl<|.q (.bK L)<|.mo rfl<|.zn<|.block<|.cX [(0,_),(1,_),(6,_),(23,_),(24,_)] (X:=Nat×List iD×av) (λy=>y.1<=c.aV.length/\y.2.1.length=y.1/\OS 182 1 eD (.slice (some ⟨Q,0,none⟩) c.aV.length c.aV.length) (y.2.1.map (·.1)++List.replicate (c.aV.length-y.1) ((sZ,[]):fR)) y.2.2/\(∀q∈y.2.1,OS 3 1 dv q.1.1 q.1.2 q.2)/\y.2.1.map (·.1.2)=((c.plain.aV.take y.1).map λs=>List.replicate s.bS.length 0)) (λy E=>(25,iN y.1)::E) (λy G=>y.2.2::y.2.1.flatMap (·.2)::G) (λy=>c.aV.length-y.1) (0,[],T6) (G:=[]) ⟨afA _,rfl,by simp only[af1,afN,Nat.sub_zero];exact c3,λq hq=>(by cases hq),by simp⟩ kE.c.c.c.c.c.c ((aK [0]).trans (bz.fH (by simp[take]))) ?_
 rintro⟨i,D,To⟩ ⟨hi,Z,l,hI,Y⟩
 simp only at hi Z l hI Y⊢
 refine .sr<|.q .lss<|.zs<|.cond rfl (λS=>?_) λS=>?_
 have b1:i<c.aV.length:=cK S
 obtain⟨⟨sn,sv,d⟩,t⟩:=ca b1
 have b5:=c6 _ (aR t)
 have b4:RS R 3 cm.enc sv d:=b5.rs
 have e7:=b4.le
 have f4:cM (cF.enc ⟨sn,sv,d⟩):=⟨b5.dl⟩
 have f0:d.length<=16:=hf.2 _ (aR t)
 have d5:=d6 i _ t
 obtain⟨k,hk⟩:∃k,c.aV.length-i=k+1:=⟨c.aV.length-i-1,by omega⟩
 have d2:c.aV.length-(i+1)=k:=by omega
 rw[hk]at l
 have a3:(D.map (·.1)).length=i:=by rw[afB,Z]
 obtain⟨z,hz⟩:∃z,(D.map (·.1)++List.replicate (k+1) ((sZ,[]):fR))[i]? =some z:=⟨_,bk (by rw[af8,a3,List.length_replicate];omega)⟩
 refine .kn<|.seq<|.block<|.sr<|.mo rfl ?_
 refine .bF i L t (λf5=>?_)
 refine .q (.aL rfl) ?_
 refine .cq (λb8=>?_)
 refine .ag rfl<|.bZ rfl rfl<|.zn<|.region<|.mo rfl<|.mo rfl<|.fa rfl<|.lo rfl<|.q (.bK b4) ?_
 refine .makeSlice (enc:=dv) d.length 0 rfl rfl (by decide) (by simp[dv,ay]) rfl rfl (by omega) (by omega) (λbn Tn c4=>?_)
 refine .bh i l hz (λf6=>?_)
 refine .gk i l hz ((.slice (some ⟨bn,0,none⟩) d.length d.length,List.replicate d.length 0):fR) (λC a4=>?_)
 rw[jK a3]at a4
 refine .nil<|ba<|au<|.region<|.ia (i+1) .add<|.mo rfl<|.nil ?_
 ·exact bp (i+1,D++[((.slice (some ⟨bn,0,none⟩) d.length d.length,List.replicate d.length 0),Tn)],C) ⟨b1,by simp[Z],by simp only;rw[d2,afC];exact a4,λq hq=>by
   rcases afL.1 hq with hq|hq
   ·exact hI q hq
   ·rw[afJ]at hq;subst hq;exact c4,by simp only;rw[eo d5,afC,afC,Y];simp[cF.plain]⟩ (by simp only;omega) kE.c.c.c.c.c.c ((aK [2,2,0]).trans (bz.fH (by simp[take,bN])))
 have c9:i=c.aV.length:=by have:=bI S;omega
 have b9:D.map (·.1.2)=rows c.plain.aV (List.replicate tot 0):=by
  rw[e0,Y,dZ (by omega)]
 rw[c9,Nat.sub_self]at l
 simp only[List.replicate_zero,afM]at l
 refine .exit<|bD<|bG<|bE<|au<|.seq<|.sr<|.mo rfl<|.nc rfl<|.fa rfl<|.lo rfl<|.q (.uB (d0.rm.pj λb o hb=>.inl hb) rfl) ?_
 rw[e1]
 refine .ia (tot+1) .add<|.mo rfl<|.zn<|.block<|.cX [(1,_),(6,_),(43,_)] (X:=Nat×List Nat×List iD×av) (λy=>y.1<=tot+1/\y.2.1.length=tot/\nO (.slice (some ⟨Q,0,none⟩) c.aV.length c.aV.length) y.2.2.1 y.2.2.2/\y.2.2.1.map (·.1.2)=rows c.plain.aV y.2.1/\(∀x∈y.2.1,x<=y.1*a.length)/\settle (a.map c.ed) (tot+1) (List.replicate tot 0)=settle (a.map c.ed) (tot+1-y.1) y.2.1) (λy E=>(44,iN y.1)::E) (λy _=>[y.2.2.2]) (λy=>tot+1-y.1) (0,List.replicate tot 0,D,To++(D.flatMap (·.2)++[])) (G:=[]) ⟨afA _,by simp,⟨To,by simp,l,hI⟩,b9,λx g=>by rw[List.eq_of_mem_replicate g];exact afA _,rfl⟩ kE.c.c.c.c (bz.one [0,0] _) ?_
 rintro⟨m,A,O,T⟩ ⟨hm,W,a5,b3,a7,M⟩
 simp only at hm W a5 b3 a7 M⊢
 refine .sr<|.q .lss<|.zs<|.cond rfl (λF=>?_) λF=>?_
 have d4:m<tot+1:=by have:=cL F;omega
 have e8:m*a.length<=256*131072:=Nat.mul_le_mul (by omega) c0
 refine .kn<|.seq<|.block<|.sr<|.ag rfl<|.zs<|.sr<|.mo rfl<|.q (.bK b7)<|.mo rfl<|.zn<|.block<|.cX [(1,_),(6,_),(43,_),(44,_),(46,_),(47,_)] (X:=Nat×List Nat×List iD×av) (λy=>y.1<=a.length/\y.2.1=((a.take y.1).map c.ed).foldl gi A/\y.2.1.length=tot/\nO (.slice (some ⟨Q,0,none⟩) c.aV.length c.aV.length) y.2.2.1 y.2.2.2/\y.2.2.1.map (·.1.2)=rows c.plain.aV y.2.1/\(∀x∈y.2.1,x<=m*a.length+y.1)/\∀i,A.getD i 0<=y.2.1.getD i 0) (λy E=>(48,iN y.1)::(9,.bool (decide (y.2.1≠A)))::E) (λy _=>[y.2.2.2]) (λy=>a.length-y.1) (0,A,O,T) (G:=[]) ⟨afA _,rfl,W,a5,b3,λx g=>a7 x g,λi=>Nat.le_refl _⟩ ((kE.c.c.c.c.c.c.cj rfl (by simp)).cons rfl) rH ?_
 rintro⟨j,X,B,TX⟩ ⟨hj,v,n,H,K,J,a2⟩
 simp only at hj v n H K J a2⊢
 refine .sr<|.q .lss<|.zs<|.cond rfl (λU=>?_) λU=>?_
 have b0:j<a.length:=cK U
 obtain⟨e,a1⟩:=ca b0
 have a9:=aR a1
 have d9:=d8 _ B TX H X n K e (N e a9) (λx g=>by have:=J x g;omega)
 have a8:=c8 e a9
 refine .kn<|.seq<|.block<|.sr ?_
 refine .bF j b7 a1 (λf7=>?_)
 refine .q (.aL rfl) ?_
 refine .cq (λe3=>?_)
 refine .bZ rfl rfl<|.z<|.mo rfl<|.q (.aL rfl)<|.dT (d9 R) (λu C hu=>?_)
 obtain⟨ch,L1,rfl,c7,c5,d7⟩:=hu
 refine .zn ?_
 refine bu.dc [(1,_),(6,_),(43,_),(44,_),(46,_),(47,_),(48,_)] kE.c.c.c.c.c.c.c (X:=Unit) (λ_=>True) (λ_ E=>(9,.bool (decide (X≠A)||ch))::E) (λ_=>[C]) ?_ ?_
 refine .cond rfl (λr=>?_) λr=>?_
 refine .region<|.ag rfl<|.nil ?_
 ·exact aD () afF (kE.c.c.c.c.c.c.c.cj rfl (by simp[r])) (aK [1])
 refine .skip ?_
 ·exact aD () afF (kE.c.c.c.c.c.c.c.cj rfl (by simp[r])) (aK [1])
 intro x g
 refine ba<|au<|.region<|.ia (j+1) .add<|.mo rfl<|.nil ?_
 ·exact bp (j+1,gi X (c.ed e),L1,C) ⟨b0,by simp only;rw[eo a1,afC,List.foldl_append, <-v];rfl,by simp only;rw[pG,n],c5,d7,λy hy=>by have:=O1 J y hy;simp only;omega,λi=>afO (a2 i) (sN X _ (by rw[n];exact a8) i)⟩ (by simp only;omega) ((kE.c.c.c.c.c.c.cj rfl (by
   simp only
   rw[c7, <-Bool.decide_or]
   exact decide_eq_decide.2 (O4 a2 (by rw[n,W]) (by rw[n];exact a8)).symm)).cons rfl) rH
 have d1:j=a.length:=by have:=bI U;omega
 have a0:X=pass (a.map c.ed) A:=by rw[v,d1,afE];rfl
 refine .exit<|bD<|bG<|bE<|au<|.sr<|.mo rfl<|.q .not<|.zn<|.cond rfl (λV=>?_) λV=>?_
 have I:X=A:=Decidable.not_not.1 (show ¬¬X=A by simpa using V)
 refine .sr<|.mo rfl<|.ag rfl<|.az rfl<|.ret (bA (aJ (cW (bA (aJ (br _ (.two (.tmp rfl) (.tmp rfl)) (.one [0] _) ?_))))))
 ·refine⟨_,rfl,?_⟩
  rw[M,show tot+1-m=tot+1-(m+1)+1 by omega,settle,afz (by rw[<-a0];exact I)]
  obtain⟨e2,a6,c2,c1⟩:=H
  refine⟨_,B.map (·.1),rfl,⟨c2.rs λp hp=>?_,λq hq=>?_⟩,?_⟩
  ·show p∈_
   simp[take,a6,hp]
  ·obtain⟨q2,b2,rfl⟩:=List.mem_map.1 hq
   refine(c1 q2 b2).rs λp hp=>?_
   show p∈_
   have:p∈B.flatMap (·.2):=List.mem_flatMap.2 ⟨q2,b2,hp⟩
   simp only[take,a6,af2,afY,afZ,afM]
   exact afK _ this
  ·rw[List.map_map, <-I]
   exact K
 have I:X≠A:=by simpa using V
 refine .skip<|ba<|au<|.region<|.ia (m+1) .add<|.mo rfl<|.nil ?_
 ·exact bp (m+1,X,B,TX) ⟨d4,n,H,K,λx g=>by have h6:=J x g;simp only;rw[Nat.add_mul];omega,by
   simp only
   rw[M,show tot+1-m=tot+1-(m+1)+1 by omega,settle,afy (by rw[<-a0];exact I), <-a0]⟩ (by simp only;omega) kE.c.c.c.c rH
 refine .exit<|bD<|bG<|bE<|au<|.sr<|.ag rfl<|.az rfl<|.ret (br _ (.two (.tmp rfl) (.tmp rfl)) (.one [0] _) ?_)
 ·refine⟨_,rfl,?_⟩
  have d3:m=tot+1:=by have:=bI F;omega
  rw[M,d3,Nat.sub_self,settle]
theorem P3{c:bO}{k:Nat}{E:List Ed}(h:c.plain.all.length=k):settle E (k+1) (List.replicate k 0)=settle E (c.plain.all.length+1) (List.replicate c.plain.all.length 0):=by rw[h]
def SA(c:bO)(ok:Bool)(w:Value)(T:av)(o:Option (List Nat)):Prop:=match o with
 |none=>ok=false
 |some A=>ok=true/\∃ll,NN (sg T) w ll/\ll.map (·.2)=rows c.plain.aV A
theorem N5(c:bO)(R:aA)(h:c.is R):Spec prog 67 [.agg c.enc.toArray] R [] λu H'=>∃T,H'=[T]/\∃w ll,u=.tuple [w,.int .i64 (c.plain.numbers isWord dd).1].toArray/\NN (sg T) w ll/\ll.map (·.2)=(c.plain.numbers isWord dd).2:=by
 rw[<-N3]
 have hR:=OW c R h
 have X:=NL c R h
 have a2:=ug (c:=c)
 have a:c.plain.sA isWord dd=if c.plain.right isWord dd=false then((4:Int),([]:List (List Nat)))else if ¬c.plain.dN then(10,[])else match c.plain.ma with|none=>(14,[])|some E=>match settle E (c.plain.all.length+1) (List.replicate c.plain.all.length 0)with|none=>(15,[])|some n=>(0,rows c.plain.aV n):=rfl
 have a1:=λ(R:aA) xb vm (H:IX R xb vm c) Q F=>PJ (R:=R) (xb:=xb) (vm:=vm) H Q F
 have a5:=λ(R:aA) xb vm (H:IX R xb vm c) F ve f a8 hl hv=>P5 (R:=R) (xb:=xb) (vm:=vm) H F ve f a8 hl hv
 have a6:=pR c.plain
 generalize a9:c.plain.sA isWord dd=nn at *
 refine Spec.body func67 rfl results67 ntmps67 rfl<|.sr ?_
 refine .cg rfl (λb1=>?_)
 refine .ag rfl<|.ag rfl<|.zs<|.sr<|.q (.aL rfl)<|.aQ (hR.weaken dt) (λu v=>?_)
 subst v
 refine .q .not<|.zn<|.cond rfl (λk=>?_) λk=>?_
 refine .sr<|.ag rfl<|.az rfl<|.ret (aJ (br _ (.two (.tmp rfl) (.tmp rfl)) bz.ka ?_))
 ·refine⟨[],rfl,sZ,[],?_,.nil,?_⟩
  ·rw[a,afz (by simpa using k)]
  ·rw[a,afz (by simpa using k)];rfl
 have N:c.plain.right isWord dd=true:=by simpa using k
 obtain⟨L,Z⟩:=a2 N
 rw[afy (by rw[N];simp)]at a
 refine .kn<|.sr<|.q (.aL rfl)<|.dx (X.weaken dt) (λu J v=>?_)
 obtain⟨o,m,rfl,y,v⟩:∃(o:Option Addr) (m:Bool),u=.tuple [.pointer o,.bool m].toArray/\m=decide c.plain.dN/\(m=true->∃xb,o=some ⟨xb,0,none⟩/\qd xb c J):=by
  rcases v with⟨i,xb,rfl,V⟩|⟨i,rfl⟩
  ·exact⟨_,true,rfl,(decide_eq_true i).symm,λ_=>⟨xb,rfl,V⟩⟩
  ·exact⟨_,false,rfl,(af3 i).symm,λG=>(by cases G)⟩
 refine .mo rfl<|.q .extract<|.q .extract<|.ag rfl<|.ag rfl<|.zs<|.sr<|.mo rfl<|.q .not<|.zn<|.cond rfl (λs=>?_) λs=>?_
 refine .sr<|.ag rfl<|.az rfl<|.ret (aJ (br _ (.two (.tmp rfl) (.tmp rfl)) bz.ka ?_))
 ·have d:m=false:=by simpa using s
  rw[d]at y
  have i:¬c.plain.dN:=bI y.symm
  refine⟨[],rfl,sZ,[],?_,.nil,?_⟩
  ·rw[a,afz i]
  ·rw[a,afz i];rfl
 have M:m=true:=by simpa using s
 obtain⟨xb,rfl,W⟩:=v M
 rw[M]at y
 have i:c.plain.dN:=cL y.symm
 rw[afy (λG=>G i)]at a
 obtain⟨vm,K⟩:=W.view h
 refine .kn<|.sr<|.mo rfl<|.dx ((a1 _ xb vm K (yk Z) L).weaken λb o hb=>hb.elim .inl λhb=>.inr (by simp[hb])) (λu O a7=>?_)
 obtain⟨w6,f,I,rfl,a0,a3,j⟩:=a7
 refine .mo rfl<|.q .extract<|.q .extract<|.ag rfl<|.ag rfl<|.zs<|.sr<|.mo rfl<|.q .not<|.zn<|.cond rfl (λt=>?_) λt=>?_
 have d:I=false:=by simpa using t
 have D:c.plain.ma=none:=by
  cases he:c.plain.ma with
  |none=>rfl
  |some E=>rw[he]at j;rw[j.1]at d;cases d
 rw[D]at a
 simp only at a
 refine .sr<|.ag rfl<|.az rfl<|.ret (aJ (br _ (.two (.tmp rfl) (.tmp rfl)) bz.ka ?_))
 ·refine⟨[],rfl,sZ,[],?_,.nil,?_⟩
  ·rw[a]
  ·rw[a];rfl
 have d:I=true:=by simpa using t
 obtain⟨E,D,S,U⟩:∃E,c.plain.ma=some E/\f.map c.ed=E/\∀e∈f,c.valid e.1/\c.valid e.2.1:=by
  cases he:c.plain.ma with
  |none=>rw[he]at j;rw[show I=false from j]at d;cases d
  |some E=>rw[he]at j;exact⟨E,rfl,j.2.1,j.2.2⟩
 subst S
 rw[D]at a
 simp only at a
 rw[<-P3 a6.symm]at a
 refine .kn<|.sr<|.mo rfl<|.mo rfl<|.dx ((a5 _ xb vm (K.mono (R':=λb o=>R b o\/(b,o)∈J\/(b,o)∈O) λb o hb=>hb.elim .inl λhb=>.inr (.inl hb)) L w6 f (a0.rs λp hp=>.inr (.inr hp)) a3 U).weaken λb o hb=>hb.elim .inl λhb=>.inr (by rcases hb with hb|hb<;>simp[hb])) (λu B z=>?_)
 obtain⟨x,r,rfl,l⟩:∃(x:Value) (r:Bool),u=.tuple [x,.bool r].toArray/\SA c r x B (settle (f.map c.ed) (total c.plain.aV+1) (List.replicate (total c.plain.aV) 0)):=by
  cases g:settle (f.map c.ed) (total c.plain.aV+1) (List.replicate (total c.plain.aV) 0)with
  |none=>rw[g]at z;exact⟨_,_,z,rfl⟩
  |some A=>rw[g]at z;obtain⟨w,ll,k,s,t⟩:=z;exact⟨w,true,k,rfl,ll,s,t⟩
 refine .mo rfl<|.q .extract<|.q .extract<|.ag rfl<|.ag rfl<|.zs<|.sr<|.mo rfl<|.q .not<|.zn<|.cond rfl (λC=>?_) λC=>?_
 have d:r=false:=by simpa using C
 have g:settle (f.map c.ed) (total c.plain.aV+1) (List.replicate (total c.plain.aV) 0)=none:=by
  cases g:settle (f.map c.ed) (total c.plain.aV+1) (List.replicate (total c.plain.aV) 0)with
  |none=>rfl
  |some A=>rw[g]at l;rw[l.1]at d;cases d
 rw[g]at a
 simp only at a
 refine .sr<|.ag rfl<|.az rfl<|.ret (aJ (br _ (.two (.tmp rfl) (.tmp rfl)) bz.ka ?_))
 ·refine⟨[],rfl,sZ,[],?_,.nil,?_⟩
  ·rw[a]
  ·rw[a];rfl
 have d:r=true:=by simpa using C
 obtain⟨A,g,ll,Y,a4⟩:∃A,settle (f.map c.ed) (total c.plain.aV+1) (List.replicate (total c.plain.aV) 0)=some A/\∃ll,NN (sg B) x ll/\ll.map (·.2)=rows c.plain.aV A:=by
  cases g:settle (f.map c.ed) (total c.plain.aV+1) (List.replicate (total c.plain.aV) 0)with
  |none=>rw[g]at l;rw[show r=false from l]at d;cases d
  |some A=>rw[g]at l;exact⟨A,rfl,l.2⟩
 rw[g]at a
 simp only at a
 refine .kn<|.sr<|.mo rfl<|.ag rfl<|.az rfl<|.ret (br _ (.two (.tmp rfl) (.tmp rfl)) (.one [0] _) ?_)
 ·refine⟨B,by simp[take],x,ll,?_,Y,?_⟩
  ·rw[a]
  ·rw[a];exact a4
def qv(r:Rl):Rl:=⟨r.name,r.types.take 9,r.nodes.take 66⟩
def rK(s:Sp):Sp:=⟨short s.name 40,(s.bS.take 6).map qv⟩
def jT(c:Cf):Cf:=⟨(c.aV.take 5).map rK,c.scopes.take 5⟩
theorem cm.is.taken{R:aA}{i g d c:Value}{r:Rl}(h:cm.is R ⟨i,g,r⟩){R':aA}(j:∀b o,R b o->R' b o){n m:Nat}(f:RS R' 2 Ty.enc d (r.types.take n))(e:RS R' 5 Nd.enc c (r.nodes.take m)):cm.is R' ⟨d,c,⟨r.name,r.types.take n,r.nodes.take m⟩⟩:=
 ⟨h.n,f,e,λx a=>h.ft x (af9 a),λx a=>h.fd x (af9 a)⟩
theorem yj(c:bO)(R:aA)(h:c.is R):Spec prog 22 [.agg c.enc.toArray] R [] λu H'=>∃T,H'=[T]/\∃c':bO,u=.agg c'.enc.toArray/\c'.is (λb o=>R b o\/(b,o)∈T)/\c'.plain=jT c.plain:=by
 obtain⟨vs,vc,K,A⟩:=c
 have J:=h.ss
 have Z:=h.sc
 have i1:=J.ay
 have i2:=Z.ay
 simp only at J Z i1 i2
 have e0:=J.le
 have d9:=Z.le
 refine Spec.body func22 rfl results22 ntmps22 rfl ?_
 refine .sr ?_
 refine .cg rfl (λO=>?_)
 refine .cq (λQ=>?_)
 refine .z ?_
 refine .q .dw ?_
 refine .cq (λD=>?_)
 refine .bZ rfl rfl<|.zs<|.sr<|.az rfl<|.block ?_
 refine .cX [(1,_),(2,_),(3,_)] (X:=Nat×Value×List cF×av×av) (λy=>(y.1<=5/\y.1<=K.length)/\OS 164 2 cF.enc y.2.1 y.2.2.1 y.2.2.2.1/\(∀s∈y.2.2.1,s.is (λb o=>R b o\/(b,o)∈y.2.2.2.2))/\y.2.2.1.map (·.plain)=((K.take y.1).map (·.plain)).map rK) (λy E=>(4,iN y.1)::E) (λy G=>y.2.2.2.1::y.2.2.2.2::bl D [y.2.1,sZ] 25::G) (λy=>5-y.1) (0,sZ,[],[],[]) ⟨⟨by simp,by simp⟩,OS.nil,λs a=>(by cases a),by simp⟩ kE.c.c.c.c bz.jk ?_
 rintro⟨i,w,L,M,C⟩ ⟨⟨b8,hi⟩,hO,f,V⟩
 simp only at b8 hi hO f V⊢
 have io:=hO.ay
 have d8:L.length=i:=by have:=afD List.length V;rw[afB,afB,afB,afH]at this;omega
 refine .seq<|.seq ?_
 refine bu.dc [(1,_),(2,_),(3,_),(4,_)] kE.c.c.c.c (X:=Unit) (λ_=>True) (λ_ E=>(21,.bool (decide (i<K.length/\i<5)))::E) (λ_=>[M,C,bl D [w,sZ] 25,bl Q [sZ,sZ] 25,bl O [vs,vc] 25]) ?_ ?_
 refine .region<|.mo rfl<|.fa rfl<|.lo rfl<|.q (.bK J) ?_
 refine .q .lss<|.mo rfl ?_
 refine .split (t:=18) rfl (λH=>?_) (λH=>?_)
 refine .gT H<|.mo rfl<|.gT H<|.q .lss<|.q (.aU H) ?_
 refine .nil ?_
 ·exact aD () afF (kE.c.c.c.c.cj rfl (by clear f;grind)) rH
 refine .gF H<|.gF H<|.q (.aN H) ?_
 refine .nil ?_
 ·exact aD () afF (kE.c.c.c.c.cj rfl (by clear f;grind)) rH
 intro y l
 refine au ?_
 refine .cond rfl (λh1=>?_) λh1=>?_
 obtain⟨b0,c6⟩:=cL h1
 obtain⟨⟨B,sv,m⟩,a⟩:=ca b0
 have b6:=h.all _ (aR a)
 have a6:RS R 3 cm.enc sv m:=b6.rs
 have e1:=a6.le
 refine .kn<|.seq<|.block<|.sr<|.fa rfl<|.lo rfl<|.mo rfl ?_
 refine .bF i J a (λe5=>?_)
 refine .fa rfl<|.lo rfl ?_
 refine .aQ (Qc B 40 _) (λu hu=>?_)
 subst hu
 refine .q .dw ?_
 refine .cq (λb5=>?_)
 refine .bZ rfl rfl<|.zs<|.sr<|.az rfl<|.block ?_
 refine .cX [(1,_),(2,_),(3,_),(4,_),(5,_)] (X:=Nat×Value×List cm×av) (λy=>(y.1<=6/\y.1<=m.length)/\OS 167 3 cm.enc y.2.1 y.2.2.1 y.2.2.2/\(∀r∈y.2.2.1,r.is R)/\y.2.2.1.map (·.r)=((m.take y.1).map (·.r)).map qv) (λy E=>(6,iN y.1)::E) (λy G=>y.2.2.2::bl b5 [.string (short B 40),y.2.1] 164::G) (λy=>6-y.1) (0,sZ,[],[]) ⟨⟨by simp,by simp⟩,OS.nil,λs a=>(by cases a),by simp⟩ kE.c.c.c.c.c.c bz.ir ?_
 rintro⟨k,w2,L2,T2⟩ ⟨⟨c3,hk⟩,a2,U,a1⟩
 simp only at c3 hk a2 U a1⊢
 have c9:=a2.ay
 have d7:L2.length=k:=by have:=afD List.length a1;rw[afB,afB,afB,afH]at this;omega
 refine .seq<|.seq ?_
 refine bu.dc [(1,_),(2,_),(3,_),(4,_),(5,_),(6,_)] kE.c.c.c.c.c.c (X:=Unit) (λ_=>True) (λ_ E=>(44,.bool (decide (k<m.length/\k<6)))::E) (λ_=>[T2,bl b5 [.string (short B 40),w2] 164,M,C,bl D [w,sZ] 25,bl Q [sZ,sZ] 25,bl O [vs,vc] 25]) ?_ ?_
 refine .region<|.mo rfl<|.fa rfl<|.lo rfl<|.mo rfl ?_
 refine .bF i J a (λe6=>?_)
 refine .fa rfl<|.lo rfl<|.q (.bK a6) ?_
 refine .q .lss<|.mo rfl ?_
 refine .split (t:=41) rfl (λI=>?_) (λI=>?_)
 refine .gT I<|.mo rfl<|.gT I<|.q .lss<|.q (.aU I) ?_
 refine .nil ?_
 ·exact aD () afF (kE.c.c.c.c.c.c.cj rfl (by clear f U;grind)) rH
 refine .gF I<|.gF I<|.q (.aN I) ?_
 refine .nil ?_
 ·exact aD () afF (kE.c.c.c.c.c.c.cj rfl (by clear f U;grind)) rH
 intro y l
 refine au ?_
 refine .cond rfl (λh2=>?_) λh2=>?_
 obtain⟨a9,c5⟩:=cL h2
 obtain⟨⟨vt,vn,r⟩,Y⟩:=ca a9
 have a4:=b6.all _ (aR Y)
 have a7:RS R 2 Ty.enc vt r.types:=a4.t
 have a5:RS R 5 Nd.enc vn r.nodes:=a4.d
 have e2:cM (cm.enc ⟨vt,vn,r⟩):=⟨a4.dl⟩
 refine .kn<|.seq<|.block<|.sr<|.fa rfl<|.lo rfl<|.mo rfl ?_
 refine .bF i J a (λe7=>?_)
 refine .fa rfl<|.lo rfl<|.mo rfl ?_
 refine .bF k a6 Y (λe8=>?_)
 refine .q (.aL rfl) ?_
 refine .cq (λb7=>?_)
 refine .bZ rfl rfl<|.zs<|.sr<|.fa rfl<|.lo rfl<|.q (.bK a7) ?_
 refine .q .gtr<|.zn ?_
 refine bu.dc [(1,_),(2,_),(3,_),(4,_),(5,_),(6,_),(7,_)] kE.c.c.c.c.c.c.c (X:=Value) (λv=>RS R 2 Ty.enc v (r.types.take 9)) (λ_ E=>E) (λv=>[bl b7 [.string r.name,v,vn] 167,T2,bl b5 [.string (short B 40),w2] 164,M,C,bl D [w,sZ] 25,bl Q [sZ,sZ] 25,bl O [vs,vc] 25]) ?_ ?_
 refine .cond rfl (λh3=>?_) λh3=>?_
 refine .region<|.fa rfl<|.lo rfl ?_
 refine .oB 0 9 a7 rfl ⟨_,rfl⟩ (by omega) (by have:=cL h3;omega) (λv2 a0=>?_)
 have d0:=a0.ay
 refine .fa rfl<|.ek rfl rfl<|.nil ?_
 ·exact aD v2 (by simpa using a0) kE.c.c.c.c.c.c.c rH
 refine .skip ?_
 ·exact aD vt (by rw[dZ (kS h3)];exact a7) kE.c.c.c.c.c.c.c rH
 intro x hx
 have c8:RS R 2 Ty.enc x (r.types.take 9):=hx
 clear hx
 obtain⟨xt,rfl⟩:∃z,z=x:=⟨_,rfl⟩
 refine au<|.seq<|.sr<|.fa rfl<|.lo rfl<|.q (.bK a5) ?_
 refine .q .gtr<|.zn ?_
 refine bu.dc [(1,_),(2,_),(3,_),(4,_),(5,_),(6,_),(7,_)] kE.c.c.c.c.c.c.c (X:=Value) (λv=>RS R 5 Nd.enc v (r.nodes.take 66)) (λ_ E=>E) (λv=>[bl b7 [.string r.name,xt,v] 167,T2,bl b5 [.string (short B 40),w2] 164,M,C,bl D [w,sZ] 25,bl Q [sZ,sZ] 25,bl O [vs,vc] 25]) ?_ ?_
 refine .cond rfl (λh4=>?_) λh4=>?_
 refine .region<|.fa rfl<|.lo rfl ?_
 refine .oB 0 66 a5 rfl ⟨_,rfl⟩ (by omega) (by have:=cL h4;omega) (λv2 a0=>?_)
 have d0:=a0.ay
 refine .fa rfl<|.ek rfl rfl<|.nil ?_
 ·exact aD v2 (by simpa using a0) kE.c.c.c.c.c.c.c rH
 refine .skip ?_
 ·exact aD vn (by rw[dZ (kS h4)];exact a5) kE.c.c.c.c.c.c.c rH
 intro x hx
 have c7:RS R 5 Nd.enc x (r.nodes.take 66):=hx
 have b4:cm.is R ⟨xt,x,qv r⟩:=a4.taken (λb o e=>e) c8 c7
 refine au<|.sr<|.fa rfl<|.lo rfl<|.az rfl<|.region<|.mo rfl<|.q (.aL rfl) ?_
 refine .fq (λd2=>?_)
 refine .append a2 (RS.lits (xs:=[(⟨xt,x,qv r⟩:cm)]) rfl (by simp[cm.enc]) (by intro y l;rw[afJ]at l;subst l;exact b4.dl)) (by simp only[afI];omega) (λv5 N g=>?_)
 have i5:=g.ay
 refine .fa rfl<|.ek rfl rfl<|.nil<|ba<|au<|.region<|.mo rfl ?_
 refine .ia (k+1) .add ?_
 refine .ag rfl<|.nil ?_
 ·exact bp (k+1,v5,L2++[⟨xt,x,qv r⟩],N) ⟨⟨c5,a9⟩,g,λq hq=>by
   rcases afL.1 hq with hq|hq
   ·exact U q hq
   ·rw[afJ]at hq;subst hq;exact b4,by simp only;rw[eo Y,afC,afC,afC,a1];rfl⟩ (by simp only;omega) kE.c.c.c.c.c.c (aK [2,2,2,2,2,2,2])
 refine .exit<|bD<|bG<|bE<|au<|.sr<|.fa rfl<|.lo rfl<|.az rfl<|.region<|.mo rfl<|.q (.aL rfl) ?_
 refine .fq (λd3=>?_)
 refine .append hO (RS.lits (xs:=[(⟨short B 40,w2,L2⟩:cF)]) rfl (by simp[cF.enc]) (by intro y l u hu;rw[afJ]at l;subst l;simp only[cF.enc,afR,afV,afW]at hu;rcases hu with rfl|rfl;rfl;exact c9.h)) (by simp only[afI];omega) (λv5 N g=>?_)
 have i5:=g.ay
 refine .fa rfl<|.ek rfl rfl<|.nil<|ba<|au<|.region<|.mo rfl ?_
 refine .ia (i+1) .add ?_
 refine .ag rfl<|.nil ?_
 ·exact bp (i+1,v5,L++[⟨short B 40,w2,L2⟩],N,T2++C) ⟨⟨c6,b0⟩,g,λq hq=>by
   rcases afL.1 hq with hq|hq
   ·exact(f q hq).mono λb o e=>e.elim .inl λe=>.inr (afK _ e)
   ·rw[afJ]at hq
    subst hq
    refine⟨?_,a2.rs λp W=>.inr (af4 _ W),λr Y=>(U r Y).mono λb o e=>.inl e⟩
    have:=Qb (s:=B) (n:=40)
    simp only
    omega,by
   simp only
   rw[eo a,afC,afC,afC,V]
   have c4:m.take k=m.take 6:=by
    have d5:=bI h2
    by_cases h6:k=6
    ·rw[h6]
    ·rw[dZ (show m.length<=k by omega),dZ (show m.length<=6 by omega)]
   simp only[af0,af1]
   congr 1
   unfold cF.plain rK
   simp only
   rw[a1,c4]
   simp[List.map_take]⟩ (by simp only;omega) kE.c.c.c.c ((aK [3,1,2,2,2,2]).trans (bz.fH (by simp[take,bN,du,bO.enc])))
 have b9:K.take i=K.take 5:=by
  have d4:=bI h1
  by_cases S:i=5
  ·rw[S]
  ·rw[dZ (show K.length<=i by omega),dZ (show K.length<=5 by omega)]
 rw[b9]at V
 refine .exit<|bD<|bG<|bE<|au<|.seq<|.sr<|.az rfl<|.block ?_
 refine .cX [(1,_),(2,_),(3,_)] (X:=Nat×Value×av) (λy=>(y.1<=5/\y.1<=A.length)/\OS 169 4 Sc.enc y.2.1 (A.take y.1) y.2.2) (λy E=>(10,iN y.1)::E) (λy G=>y.2.2::M::C::bl D [w,y.2.1] 25::G) (λy=>5-y.1) (0,sZ,[]) ⟨⟨by simp,by simp⟩,OS.nil⟩ kE.c.c.c.c bz.ir ?_
 rintro⟨j,w3,T3⟩ ⟨⟨c0,hj⟩,a3⟩
 simp only at c0 hj a3⊢
 have e3:=a3.ay
 refine .seq<|.seq ?_
 refine bu.dc [(1,_),(2,_),(3,_),(10,_)] kE.c.c.c.c (X:=Unit) (λ_=>True) (λ_ E=>(94,.bool (decide (j<A.length/\j<5)))::E) (λ_=>[T3,M,C,bl D [w,w3] 25,bl Q [sZ,sZ] 25,bl O [vs,vc] 25]) ?_ ?_
 refine .region<|.mo rfl<|.fa rfl<|.lo rfl<|.q (.bK Z) ?_
 refine .q .lss<|.mo rfl ?_
 refine .split (t:=91) rfl (λF=>?_) (λF=>?_)
 refine .gT F<|.mo rfl<|.gT F<|.q .lss<|.q (.aU F) ?_
 refine .nil ?_
 ·exact aD () afF (kE.c.c.c.c.cj rfl (by clear f;grind)) rH
 refine .gF F<|.gF F<|.q (.aN F) ?_
 refine .nil ?_
 ·exact aD () afF (kE.c.c.c.c.cj rfl (by clear f;grind)) rH
 intro y l
 refine au ?_
 refine .cond rfl (λS=>?_) λS=>?_
 obtain⟨a8,c2⟩:=cL S
 obtain⟨s,a⟩:=ca a8
 refine .kn<|.seq<|.block<|.sr<|.fa rfl<|.lo rfl<|.az rfl<|.region<|.mo rfl<|.fa rfl<|.lo rfl<|.mo rfl ?_
 refine .bF j Z a (λe4=>?_)
 refine .q (.aL rfl) ?_
 refine .fq (λd1=>?_)
 refine .append a3 (RS.lits (xs:=[s]) rfl (by simp[Sc.enc]) (by simp[Sc.enc,ay])) (by simp only[afH,afI];omega) (λv5 N g=>?_)
 have i5:=g.ay
 refine .fa rfl<|.ek rfl rfl<|.nil<|ba<|au<|.region<|.mo rfl ?_
 refine .ia (j+1) .add ?_
 refine .ag rfl<|.nil ?_
 ·exact bp (j+1,v5,N) ⟨⟨c2,a8⟩,by simp only;rw[eo a];exact g⟩ (by simp only;omega) kE.c.c.c.c (aK [1,1,1,1,1,1])
 refine .exit<|bD<|bG<|bE<|au<|.sr<|.q (.aL rfl)<|.bZ rfl rfl<|.zn ?_
 refine .ret (br _ (.one (.iU rfl rfl)) (.one [1,1,0] _) ?_)
 ·refine⟨_,rfl,⟨w,w3,L,A.take j⟩,rfl,⟨hO.rs λp W=>.inr (by simp[take,bN,W]),a3.rs λp W=>.inr (by simp[take,bN,W]),λs a=>(f s a).mono λb o e=>e.elim .inl λe=>.inr (by simp[take,bN,e]),λs a=>h.fc s (af9 a)⟩,?_⟩
  have c1:A.take j=A.take 5:=by
   have d6:=bI S
   by_cases h6:j=5
   ·rw[h6]
   ·rw[dZ (show A.length<=j by omega),dZ (show A.length<=5 by omega)]
  unfold bO.plain jT
  simp only
  rw[V,c1,List.map_take]
namespace LIN
theorem mC(v:Value)(xs:List Nat)(R:aA)(h:RS R 1 dv v xs)(i:xs.length<=1000000):
  Spec prog 143 [v] R [] λv' H'=>∃T,H'=[T]/\OS 3 1 dv v' xs T:=by
 obtain⟨b,d,rfl⟩:=h.val
 have f:∀H,RS (Rx R H) 1 dv (.slice b xs.length d) xs:=λH=>h.rx
 refine Spec.gj (H':=[[]]) (by simp)<|Spec.body func143 rfl results143 ntmps143 rfl<|.sr<|.ag rfl<|.zs<|.sr<|.mo rfl<|.q (.qq rfl rfl)<|.zn<|.cond rfl (λa=>?_) λa=>?_
 refine .sr<|.az rfl<|.ret (aJ (br _ (.one (.tmp rfl)) (.one [0] _) ?_))
 ·obtain rfl:b=none:=by simpa using a
  have:=h.qI
  subst this
  exact⟨[],rfl,OS.nil⟩
 refine .kn<|.sr ?_
 refine .qg (λg=>?_)
 refine .mo rfl ?_
 refine .append (OS.empty (enc:=dv) (sz:=1)) (f _) (by simp;omega) (λv' c e=>?_)
 refine .az rfl<|.ret (br _ (.one (.tmp rfl)) (.one [0] _) ?_)
 ·exact⟨c,by simp[take],by simpa using e⟩
end LIN
def bO.uf(c:bO):Prop:=c.jF/\c.qu/\c.scopes.length<=16
theorem yl{c:bO}(h:c.plain.right isWord dd=true):c.uf:=by
 obtain⟨b,d⟩:=ug h
 refine⟨b,yk d,?_⟩
 have a:c.plain.lI isWord=false:=by
  unfold Cf.right at h
  simp only[Bool.and_eq_true,Bool.not_eq_true']at h
  exact h.2
 rw[qF]at a
 simp only[Bool.or_eq_false_iff,aga,Nat.not_lt]at a
 exact a.1.2
theorem xq(c:bO)(R:aA)(h:c.is R)(hf:c.uf):Spec prog 68 [.agg c.enc.toArray] R [] λu H'=>∃T,H'=[T]/\∃c':bO,u=.agg c'.enc.toArray/\c'.is (sg T)/\c'.plain=c.plain:=by
 obtain⟨⟨b4,a4⟩,h8,b0⟩:=hf
 obtain⟨vs,vc,O,a7⟩:=c
 have F:=h.ss
 have a0:=h.sc
 have i1:=F.ay
 have i2:=a0.ay
 simp only at F a0 i1 i2 b4 a4 b0
 have c4:=F.le
 refine Spec.body func68 rfl results68 ntmps68 rfl<|.sr ?_
 refine .cg rfl (λb1=>?_)
 refine .cq (λb2=>?_)
 refine .z ?_
 refine .cq (λb3=>?_)
 refine .zs<|.sr<|.fa rfl<|.lo rfl<|.q (.bK F)<|.mo rfl<|.zn<|.block<|.cX [(1,_),(2,_),(3,_),(10,_),(11,_)] (X:=Nat×Value×List cF×av×av) (λy=>y.1<=O.length/\OS 164 2 cF.enc y.2.1 y.2.2.1 y.2.2.2.1/\(∀s∈y.2.2.1,s.is (sg y.2.2.2.2))/\y.2.2.1.map (·.plain)=(O.take y.1).map (·.plain)) (λy E=>(12,iN y.1)::E) (λy G=>y.2.2.2.1::y.2.2.2.2::bl b3 [y.2.1,sZ] 25::G) (λy=>O.length-y.1) (0,sZ,[],[],[]) ⟨by simp,OS.nil,λs e=>(by cases e),by simp⟩ kE.c.c.c.c.c.c bz.jk ?_
 rintro⟨i,w,L,To,Ti⟩ ⟨hi,J,Y,C⟩
 simp only at hi J Y C⊢
 have io:=J.ay
 have c3:L.length=i:=by have:=afD List.length C;rw[afB,afB,afH]at this;omega
 refine .sr<|.q .lss<|.zs<|.cond rfl (λV=>?_) λV=>?_
 have a2:i<O.length:=cK V
 obtain⟨⟨x,sv,j⟩,e⟩:=ca a2
 have N:=h.all _ (aR e)
 have M:RS R 3 cm.enc sv j:=N.rs
 have c8:=M.ay
 have c5:=M.le
 have d0:cM (cF.enc ⟨x,sv,j⟩):=⟨N.dl⟩
 have a9:=a4 _ (aR e)
 simp only at a9
 refine .kn<|.seq<|.block<|.sr ?_
 refine .bF i F e (λd4=>?_)
 refine .q (.aL rfl) ?_
 refine .cq (λb5=>?_)
 refine .bZ rfl rfl<|.z<|.fa rfl<|.lo rfl ?_
 refine .q .dw ?_
 refine .cq (λb6=>?_)
 refine .bZ rfl rfl<|.zs<|.sr<|.fa rfl<|.lo rfl<|.q (.bK M)<|.mo rfl<|.zn<|.block<|.cX [(1,_),(2,_),(3,_),(6,_),(10,_),(11,_),(12,_),(20,_),(21,_)] (X:=Nat×Value×List cm×av×av) (λy=>y.1<=j.length/\OS 167 3 cm.enc y.2.1 y.2.2.1 y.2.2.2.1/\(∀r∈y.2.2.1,r.is (sg y.2.2.2.2))/\y.2.2.1.map (·.r)=(j.take y.1).map (·.r)) (λy E=>(22,iN y.1)::E) (λy G=>y.2.2.2.1::y.2.2.2.2::bl b6 [.string x,y.2.1] 164::G) (λy=>j.length-y.1) (0,sZ,[],[],[]) ⟨by simp,OS.nil,λs e=>(by cases e),by simp⟩ kE.c.c.c.c.c.c.c.c.c.c bz.jk ?_
 rintro⟨k,w2,A,T2,S⟩ ⟨hk,K,Z,D⟩
 simp only at hk K Z D⊢
 have b9:=K.ay
 have c2:A.length=k:=by have:=afD List.length D;rw[afB,afB,afH]at this;omega
 refine .sr<|.q .lss<|.zs<|.cond rfl (λW=>?_) λW=>?_
 have a1:k<j.length:=cK W
 obtain⟨⟨vt,vn,r⟩,l⟩:=ca a1
 have m:=N.all _ (aR l)
 have a5:RS R 2 Ty.enc vt r.types:=m.t
 have a3:RS R 5 Nd.enc vn r.nodes:=m.d
 have c9:=a5.ay
 have c7:=a3.ay
 have c6:cM (cm.enc ⟨vt,vn,r⟩):=⟨m.dl⟩
 obtain⟨b7,a8,_⟩:=h8 _ (aR e) _ (aR l)
 simp only at b7 a8
 refine .kn<|.seq<|.block<|.sr ?_
 refine .bF k M l (λd5=>?_)
 refine .q (.aL rfl) ?_
 refine .cq (λb8=>?_)
 refine .bZ rfl rfl<|.zn ?_
 refine bu.dc [(1,_),(2,_),(3,_),(6,_),(10,_),(11,_),(12,_),(20,_),(21,_),(22,_)] kE.c.c.c.c.c.c.c.c.c.c (X:=(Value×av)×(Value×av)×(Value×av)) (λy=>OS 167 3 cm.enc y.1.1 (A++[(⟨y.2.1.1,y.2.2.1,r⟩:cm)]) y.1.2/\OS 249 2 Ty.enc y.2.1.1 r.types y.2.1.2/\OS 199 5 Nd.enc y.2.2.1 r.nodes y.2.2.2) (λ_ E=>E) (λy=>[y.1.2,y.2.1.2,y.2.2.2,S,bl b6 [.string x,y.1.1] 164,bl b5 (cF.enc ⟨x,sv,j⟩) 164,To,Ti,bl b3 [w,sZ] 25,bl b2 [sZ,sZ] 25,bl b1 [vs,vc] 25]) ?_ ?_
 refine .dz [12,14] mixed<|.tO 0 rfl (.fieldAddr rfl)<|.tO 1 rfl (.cI rfl)<|.tO 2 rfl (.fieldAddr rfl)<|.tO 3 rfl (.cI rfl)<|.tO 4 rfl (.fieldAddr rfl)<|.tO 5 rfl (.cI rfl)<|.tO 7 rfl (.fieldAddr rfl)<|.tO 8 rfl (.cI rfl)<|.sT 6 rfl<|.dx (LTY.mC vt r.types _ a5.rx (by omega)) (λut U v=>?_)
 obtain⟨pt,ct,rfl,_⟩:=v.shape
 have d3:=v.ay
 refine .nil<|Next.sub<|.sT 9 rfl<|.dx (LND.mC vn r.nodes _ a3.rx (by omega)) (λun Q p=>?_)
 obtain⟨pn,cn,rfl,_⟩:=p.shape
 have d2:=p.ay
 refine .nil<|Next.sub<|.tO 10 rfl .dw<|.sT 11 rfl ?_
 refine .fq (λc0=>?_)
 refine .nil<|Next.sub<|.sT 12 rfl<|.append K (RS.lits (xs:=[(⟨.slice pt r.types.length ct,.slice pn r.nodes.length cn,r⟩:cm)]) rfl (by simp[cm.enc]) (by intro y g u H;rw[afJ]at g;subst g;simp only[cm.enc,afR,afV,afW]at H;rcases H with rfl|rfl|rfl<;>rfl)) (by simp only[afI];omega) (λI B f=>?_)
 have i5:=f.ay
 refine .nil<|Next.mod rfl<|.tK 13 rfl (.kr rfl)<|.sT 14 rfl<|.ek rfl rfl<|.nil<|Next.mod rfl<|RA.nil (by kernel_rfl) ?_
 ·exact aD ((I,B),(_,U),(_,Q)) ⟨f,v,p⟩ ((((((((((kE.d rfl).d rfl).d rfl).d rfl).d rfl).d rfl).d rfl).d rfl).d rfl).d rfl) (aK [4,2,1,2,2,2,2,2,2,2,2])
 intro y g
 obtain⟨⟨I,B⟩,⟨ut,U⟩,⟨un,Q⟩⟩:=y
 obtain⟨f,v,p⟩:=g
 simp only at f v p⊢
 have i5:=f.ay
 refine ba<|au<|.region<|.ia (k+1) .add<|.mo rfl<|.nil ?_
 ·exact bp (k+1,I,A++[⟨ut,un,r⟩],B,U++(Q++S)) ⟨a1,f,λq hq=>by
   rcases afL.1 hq with hq|hq
   ·exact(Z q hq).mono λb o a=>ju (ju a)
   ·rw[afJ]at hq
    subst hq
    exact⟨m.n,v.sg.mono λb o a=>kD a,p.sg.mono λb o a=>ju (kD a),m.ft,m.fd⟩,by simp only;rw[eo l,afC,afC,D];rfl⟩ (by simp only;omega) kE.c.c.c.c.c.c.c.c.c.c (bz.fH (by simp[du,bO.enc,cF.enc]))
 rw[dZ (kS W)]at D
 refine .exit<|bD<|bG<|bE<|au<|.region<|.fa rfl<|.lo rfl<|.q (.aL rfl) ?_
 refine .fq (λc1=>?_)
 refine .append J (RS.lits (xs:=[(⟨x,w2,A⟩:cF)]) rfl (by simp[cF.enc]) (by intro y g u H;rw[afJ]at g;subst g;simp only[cF.enc,afR,afV,afW]at H;rcases H with rfl|rfl;rfl;exact b9.h)) (by simp only[afI];omega) (λI B f=>?_)
 have i5:=f.ay
 refine .fa rfl<|.ek rfl rfl<|.nil<|ba<|au<|.region<|.ia (i+1) .add<|.mo rfl<|.nil ?_
 ·exact bp (i+1,I,L++[⟨x,w2,A⟩],B,T2++(S++Ti)) ⟨a2,f,λq hq=>by
   rcases afL.1 hq with hq|hq
   ·exact(Y q hq).mono λb o a=>ju (ju a)
   ·rw[afJ]at hq
    subst hq
    exact⟨N.n,K.sg.mono λb o a=>kD a,λr l=>(Z r l).mono λb o a=>ju (kD a)⟩,by
   simp only
   rw[eo e,afC,afC,C]
   simp only[af0,af1]
   congr 1
   unfold cF.plain
   simp only
   rw[D]⟩ (by simp only;omega) kE.c.c.c.c.c.c ((aK [5,1,1,3,3,3,3]).trans (bz.fH (by simp[take,bN,du,bO.enc])))
 rw[dZ (kS V)]at C
 refine .exit<|bD<|bG<|bE<|au<|.sr<|.fa rfl<|.lo rfl<|.dx (LSC.mC vc a7 _ a0.rx (by omega)) (λuc Tc a6=>?_)
 have d1:=a6.ay
 refine .fa rfl<|.ek rfl rfl<|.z<|.q (.aL rfl)<|.bZ rfl rfl<|.zn ?_
 refine .ret (br _ (.one (.iU rfl rfl)) (.one [1,1,0] _) ?_)
 ·refine⟨_,rfl,⟨w,uc,L,a7⟩,rfl,⟨J.sg.mono λb o a=>?_,a6.sg.mono λb o a=>?_,λs e=>(Y s e).mono λb o a=>?_,h.fc⟩,?_⟩
  ·simp only[take,bN,af2,agb,afY,afZ,afM];exact kD a
  ·simp only[take,bN,af2,agb,afY,afZ,afM];exact ju (ju a)
  ·simp only[take,bN,af2,agb,afY,afZ,afM];exact ju (kD a)
  ·unfold bO.plain;simp only;rw[C]
def cm.zero:cm:=⟨sZ,sZ,⟨⟨#[]⟩,[],[]⟩⟩
def mX(c:bO)(t:Ty)(r:cm)(ok:Bool):Prop:=match bV c.plain.all t with
 |none=>ok=false/\r=cm.zero
 |some j=>ok=true/\∃p s,c.aV[p.1]? =some s/\s.bS[p.2]? =some r/\c.ix p=j
theorem Me{l:List (ByteArray×Rl)}{t:Ty}(h:∀j x,j<l.length->l[j]? =some x->fw x≠t):bV l t=none:=by
 unfold bV
 rw[List.findIdx?_eq_none_iff]
 intro x b
 obtain⟨j,a,e⟩:=af5.1 b
 have:=h j x a (by rw[bk a,e])
 simpa using this
theorem Mg{l:List (ByteArray×Rl)}{t:Ty}{i:Nat}{x:ByteArray×Rl}(d:l[i]? =some x)(b:fw x=t)(h:∀j y,j<i->l[j]? =some y->fw y≠t):bV l t=some i:=by
 obtain⟨c,e⟩:=afP.1 d
 unfold bV
 rw[List.findIdx?_eq_some_iff_getElem]
 refine⟨c,by rw[e];exact decide_eq_true b,λj a=>?_⟩
 have:=h j _ a (bk (by omega))
 simpa using this
theorem AQ(c:bO)(R:aA)(h:c.is R)(e b:ByteArray):Spec prog 144 [.agg c.enc.toArray,.string e,.string b] R [] λu H'=>H'=[]/\∃r ok,u=.tuple [.agg r.enc.toArray,.bool ok].toArray/\mX c ⟨e,b⟩ r ok:=by
 have J:=h.ss
 have b2:=J.le
 have a1:=h.all
 have a8:=pR c.plain
 have a7:c.plain.aV.length=c.aV.length:=by unfold bO.plain;simp
 have a5:∀(i:Nat) (s:cF),c.aV[i]? =some s->c.plain.aV[i]? =some s.plain:=λi s f=>pC f
 have a9:=λ(p:gu) (s:cF) (r:cm)=>pz (c:=c) (p:=p) (s:=s) (r:=r)
 have O:∀i k,c.ix (i,k)=cO c.plain.aV i+k:=λ_ _=>rfl
 have N:∀r ok,mX c ⟨e,b⟩ r ok=(match bV c.plain.all ⟨e,b⟩with
  |none=>ok=false/\r=cm.zero
  |some j=>ok=true/\∃p s,c.aV[p.1]? =some s/\s.bS[p.2]? =some r/\c.ix p=j):=λ_ _=>rfl
 generalize hA:c.plain.all=A at *
 generalize C:cO c.plain.aV=of at *
 have a2:of 0=0:=by rw[<-C];cases c.plain.aV<;>rfl
 refine Spec.body func144 rfl results144 ntmps144 rfl<|.sr ?_
 refine .cg rfl (λV=>?_)
 refine .cq (λW=>?_)
 refine .ag rfl<|.zs<|.sr<|.fa rfl<|.lo rfl<|.q (.bK J)<|.mo rfl<|.zn<|.block<|.cX [(1,_),(2,_),(6,_),(13,_),(14,_)] (X:=Nat) (λi=>i<=c.aV.length/\∀j x,j<of i->A[j]? =some x->fw x≠⟨e,b⟩) (λi E=>(15,iN i)::E) (λ_ G=>G) (λi=>c.aV.length-i) 0 ⟨afA _,λj x n=>by rw[a2]at n;omega⟩ kE.c.c.c.c.c.c rH ?_
 rintro i ⟨hi,T⟩
 refine .sr<|.q .lss<|.zs<|.cond rfl (λw=>?_) λw=>?_
 have S:i<c.aV.length:=cK w
 obtain⟨⟨l,v,d⟩,f⟩:=ca S
 have I:=a1 _ (aR f)
 have H:RS R 3 cm.enc v d:=I.rs
 have b4:=H.le
 have b7:cM (cF.enc ⟨l,v,d⟩):=⟨I.dl⟩
 have a4:=a5 i _ f
 have a3:=pA a4
 rw[C,show(cF.plain ⟨l,v,d⟩).bS.length=d.length by simp[cF.plain]]at a3
 refine .kn<|.seq<|.block<|.sr ?_
 refine .bF i J f (λb8=>?_)
 refine .q (.aL rfl) ?_
 refine .cq (λY=>?_)
 refine .bZ rfl rfl<|.z<|.fa rfl<|.lo rfl<|.q (.bK H)<|.mo rfl<|.zn<|.block<|.cX [(1,_),(2,_),(6,_),(9,_),(13,_),(14,_),(15,_),(20,_),(21,_)] (X:=Nat) (λk=>k<=d.length/\∀j x,j<of i+k->A[j]? =some x->fw x≠⟨e,b⟩) (λk E=>(22,iN k)::E) (λ_ G=>G) (λk=>d.length-k) 0 ⟨afA _,λj x n=>T j x (by omega)⟩ kE.c.c.c.c.c.c.c.c.c.c rH ?_
 rintro k ⟨hk,F⟩
 refine .sr<|.q .lss<|.zs<|.cond rfl (λm=>?_) λm=>?_
 have Q:k<d.length:=cK m
 obtain⟨⟨L,K,r⟩,o⟩:=ca Q
 have a6:=I.all _ (aR o)
 have b5:cM (cm.enc ⟨L,K,r⟩):=⟨a6.dl⟩
 have D:=a9 (i,k) _ _ f o
 rw[O]at D
 refine .kn<|.seq<|.block<|.sr ?_
 refine .bF k H o (λc0=>?_)
 refine .q (.aL rfl) ?_
 refine .cq (λU=>?_)
 refine .bZ rfl rfl<|.zs ?_
 refine bu.dc [(1,_),(2,_),(6,_),(9,_),(11,_),(13,_),(14,_),(15,_),(20,_),(21,_),(22,_)] kE.c.c.c.c.c.c.c.c.c.c.c (X:=Unit) (λ_=>True) (λ_ E=>(35,.bool (decide (l=e)&&decide (r.name=b)))::E) (λ_=>[bl U (cm.enc ⟨L,K,r⟩) 167,bl Y (cF.enc ⟨l,v,d⟩) 164,bl W [.string ⟨#[]⟩,sZ,sZ] 167,bl V c.enc 25]) ?_ ?_
 refine .region<|.fa rfl<|.lo rfl<|.mo rfl<|.q .fb<|.mo rfl<|.split (t:=30) rfl (λa=>?_) (λa=>?_)
 refine .gT a<|.fa rfl<|.gT a<|.lo rfl<|.gT a<|.mo rfl<|.gT a<|.q .fb<|.q (.aU a)<|.nil ?_
 ·exact aD () afF (kE.c.c.c.c.c.c.c.c.c.c.c.cj rfl (by simp[m,a])) rH
 refine .gF a<|.gF a<|.gF a<|.gF a<|.q (.aN a)<|.nil ?_
 ·exact aD () afF (kE.c.c.c.c.c.c.c.c.c.c.c.cj rfl (by simp[m,a])) rH
 intro y hy
 refine au<|.cond rfl (λB=>?_) λB=>?_
 refine .sr<|.q (.aL rfl)<|.bZ rfl rfl<|.az rfl ?_
 refine .ret (bA (aJ (cW (bA (bA (aJ (cW (bA (aJ (br _ (.two (.iU rfl rfl) (.tmp rfl)) (.none _) ?_))))))))))
 ·refine⟨rfl,⟨L,K,r⟩,true,rfl,?_⟩
  have M:l=e/\r.name=b:=by simpa using B
  rw[N,Mg D (show(⟨l,r.name⟩:Ty)=_ by rw[M.1,M.2]) F]
  exact⟨rfl,(i,k),_,f,o,O i k⟩
 refine .skip<|ba<|au<|.region<|.ia (k+1) .add<|.mo rfl<|.nil ?_
 ·exact bp (k+1) ⟨Q,λj x n g=>by
   rcases Nat.lt_or_ge j (of i+k)with hh|hh
   ·exact F j x hh g
   ·obtain rfl:j=of i+k:=by omega
    rw[D]at g
    cases g
    intro he
    injection he with e1 e2
    have Z:l=e:=e1
    have a0:r.name=b:=e2
    simp[Z,a0]at B⟩ (by omega) kE.c.c.c.c.c.c.c.c.c.c (aK [1,1,1])
 have b1:k=d.length:=by have:=bI m;omega
 refine .exit<|bD<|bG<|bE<|ba<|au<|.region<|.ia (i+1) .add<|.mo rfl<|.nil ?_
 ·exact bp (i+1) ⟨S,λj x n g=>F j x (by omega) g⟩ (by omega) kE.c.c.c.c.c.c (aK [1,1])
 refine .exit<|bD<|bG<|bE<|au<|.sr<|.q .dw<|.bZ rfl rfl<|.az rfl ?_
 refine .ret (br _ (.two (.iU rfl rfl) (.tmp rfl)) (.none _) ?_)
 ·refine⟨rfl,cm.zero,false,rfl,?_⟩
  have b0:of i=A.length:=by
   have:i=c.aV.length:=by have:=bI w;omega
   rw[this, <-a7, <-C, <-a8]
   rfl
  rw[N,Me λj x n g=>T j x (by omega) g]
  exact⟨rfl,rfl⟩
theorem Qa(t:Ty)(s:Sub)(R:aA):Spec prog 243 [.agg t.enc.toArray,.agg s.enc.toArray] R [] λu H'=>u=.bool (lG s t)/\H'=[]:=by
 obtain⟨e,d⟩:=t
 obtain⟨k,j,h,i⟩:=s
 refine Spec.body func243 rfl results243 ntmps243 rfl<|.sr ?_
 refine .cg rfl (λf=>?_)
 refine .cg rfl (λg=>?_)
 refine .ag rfl<|.zs<|.sr<|.fa rfl<|.lo rfl<|.q .iJ<|.zn<|.cond rfl (λc=>?_) λc=>?_
 refine .sr<|.q (.aL rfl)<|.q .dw<|.q (.cast (.nq (xs:=Ty.enc ⟨e,d⟩) (ys:=Ty.enc ⟨⟨#[]⟩,⟨#[]⟩⟩) rfl rfl (Ty.kinds _) (Ty.kinds _)) (afD Value.bool (Ty.eq _ _)))<|.az rfl<|.ret (aJ (aP rfl ?_))
 ·refine⟨afD _ ?_,rfl⟩
  simp only[lG]
  grind
 refine .kn<|.sr<|.fa rfl<|.lo rfl<|.q .iJ<|.mo rfl<|.split (t:=14) rfl (λa=>?_) (λa=>?_)
 refine .gT a<|.fa rfl<|.gT a<|.lo rfl<|.gT a<|.fa rfl<|.gT a<|.fa rfl<|.gT a<|.lo rfl<|.gT a<|.q .fb<|.q (.aU a)<|.mo rfl<|.split (t:=22) rfl (λb=>?_) (λb=>?_)
 refine .gT b<|.fa rfl<|.gT b<|.lo rfl<|.gT b<|.fa rfl<|.gT b<|.lo rfl<|.gT b<|.q .fb<|.q (.aU b)<|.az rfl<|.ret (aP rfl ?_)
 ·refine⟨afD _ ?_,rfl⟩
  simp only[lG]
  grind
 refine .gF b<|.gF b<|.gF b<|.gF b<|.gF b<|.q (.aN b)<|.az rfl<|.ret (aP rfl ?_)
 ·refine⟨afD _ ?_,rfl⟩
  simp only[lG]
  grind
 refine .gF a<|.gF a<|.gF a<|.gF a<|.gF a<|.gF a<|.q (.aN a)<|.mo rfl<|.gX<|.gX<|.gX<|.gX<|.gX<|.q .dq<|.az rfl<|.ret (aP rfl ?_)
 ·refine⟨afD _ ?_,rfl⟩
  simp only[lG]
  grind
theorem BT(t:Ty)(s:Sub)(b c d:Value)(q:Nat)(R:aA) [pc:PC R (pT q) (b::c::d::s.enc)]:Spec prog 242 [.agg t.enc.toArray,pT q] R [] λu H'=>u=.bool (lG s t)/\H'=[]:=by
 refine Spec.body func242 rfl results242 ntmps242 rfl<|.sr ?_
 refine .cg rfl (λe=>?_)
 refine .ag rfl<|.z<|.q (.aL rfl)<|.fa rfl<|.q (.loadT rfl)<|.aQ (Qa t s _) (λu a=>?_)
 subst a
 refine .az rfl<|.ret (aP rfl ?_)
 ·exact⟨rfl,rfl⟩
theorem BU(c:bO)(R:aA)(h:c.is R)(t:aw):Spec prog 189 [.agg c.enc.toArray,.agg t.enc.toArray] R [] λu H'=>u=.int .i64 (if allowed c.plain t.di t.sub then 0 else 14)/\H'=[]:=by
 have B:=AQ c R h t.os t.rel
 have n:=h.all
 have A:allowed c.plain t.di t.sub=match bV c.plain.all ⟨t.os,t.rel⟩with
  |none=>false
  |some i=>((c.plain.all.map (·.2.types)).getD i []).any (lG t.sub):=rfl
 refine Spec.body func189 rfl results189 ntmps189 rfl<|.sr ?_
 refine .cg rfl (λF=>?_)
 refine .cg rfl (λk=>?_)
 refine .ag rfl<|.z<|.q (.aL rfl)<|.fa rfl<|.fa rfl<|.lo rfl<|.fa rfl<|.lo rfl<|.aQ ((B.mono λu H' d=>⟨d.2,d.1⟩).weaken dt) (λu d=>?_)
 obtain⟨r,C,rfl,b⟩:=d
 obtain⟨g,v,l⟩:∃g,RS R 2 Ty.enc r.vt g/\allowed c.plain t.di t.sub=(C&&g.any (lG t.sub)):=by
  rw[A]
  unfold mX at b
  cases hf:bV c.plain.all ⟨t.os,t.rel⟩with
  |none=>rw[hf]at b;obtain⟨rfl,rfl⟩:=b;exact⟨[],RS.kZ,rfl⟩
  |some j=>
   rw[hf]at b
   obtain⟨rfl,p,s,f,e,o⟩:=b
   refine⟨r.r.types,((n _ (aR f)).all _ (aR e)).t,?_⟩
   have:=pz f e
   rw[o]at this
   simp only[Bool.true_and]
   rw[afU,afG,this]
   rfl
 have H:cM r.enc:=by
  unfold mX at b
  cases hf:bV c.plain.all ⟨t.os,t.rel⟩with
  |none=>rw[hf]at b;obtain⟨_,rfl⟩:=b;exact⟨by simp[cm.enc,cm.zero,ay]⟩
  |some j=>rw[hf]at b;obtain⟨_,p,s,f,e,o⟩:=b;exact⟨((n _ (aR f)).all _ (aR e)).dl⟩
 obtain⟨D,J,r⟩:=r
 simp only at v
 refine .mo rfl<|.q .extract<|.q .extract ?_
 refine .cq (λG=>?_)
 refine .bZ rfl rfl<|.ag rfl<|.zs<|.sr<|.mo rfl<|.q .not<|.mo rfl<|.split (t:=19) rfl (λa=>?_) (λa=>?_)
 refine .gF a<|.gF a<|.gF a<|.gF a<|.gF a<|.q (.aU a)<|.zn<|.gL<|.sr<|.az rfl<|.ret (aJ (aP rfl ?_))
 ·refine⟨?_,rfl⟩
  rw[l,afy (by simp_all)]
 refine .gT a<|.fa rfl<|.gT a<|.lo rfl<|.gT a<|.q .makeFunc<|.gT a ?_
 refine .aQ (LTY.jU 242 [pT k] (lG t.sub) D g _ v.rx (λy _ m x=>by
  have I:PC m (pT k) (.string t.os:: .string t.oi:: .string t.rel::t.sub.enc):=PC.of (E:=119) (fr:=(0,0)) (x _ _ (.inr (by simp[aw.enc,Sub.enc,aw.sub])))
  exact BT y t.sub _ _ _ k m)) (λu d=>?_)
 subst d
 refine .gT a<|.q .not<|.q (.aN a)<|.zn<|.cond rfl (λw=>?_) λw=>?_
 refine .sr<|.az rfl<|.ret (aJ (aP rfl ?_))
 ·refine⟨?_,rfl⟩
  rw[l,afy (by simp_all)]
 refine .kn<|.sr<|.az rfl<|.ret (aP rfl ?_)
 ·refine⟨?_,rfl⟩
  rw[l,afz (by simp_all)]
structure cZ where
 rev:Int
 c:bO
 vn:Value
 ll:List fR
def cZ.enc(e:cZ):List Value:=[.int .u64 e.rev,e.c.vs,e.c.vc,e.vn]
structure cZ.is(R:aA)(e:cZ):Prop where
 c:e.c.is R
 n:NN R e.vn e.ll
 ok:(e.c.plain.numbers isWord dd).1=0
 eq:e.ll.map (·.2)=(e.c.plain.numbers isWord dd).2
theorem cZ.is.mono{R R':aA}{e:cZ}(h:e.is R)(a:∀b o,R b o->R' b o):e.is R':=⟨h.c.mono a,h.n.mono a,h.ok,h.eq⟩
theorem cZ.is.dl{R:aA}{e:cZ}(h:e.is R):∀u∈e.enc,ay u=true:=by
 have b:=h.c.ss.ay
 have d:=h.c.sc.ay
 have f:=h.n.rs.ay
 intro u a
 simp only[cZ.enc,afR,afV,afW]at a
 rcases a with rfl|rfl|rfl|rfl
 ·rfl
 ·exact b.h
 ·exact d.h
 ·exact f.h
theorem An{c:Cf}(h:(c.numbers isWord dd).1=0):c.right isWord dd=true:=by
 cases hr:c.right isWord dd with
 |true=>rfl
 |false=>unfold Cf.numbers at h;rw[afz hr]at h;cases h
def HI(hb:Nat)(es:List cZ)(gone:Nat)(T:av):Prop:=∃vl Te Tp,T=(hb,.cells [.bool true,vl,iN gone].toArray 155 (0,0))::(Te++Tp)/\OS 159 4 cZ.enc vl es Te/\∀e∈es,e.is (sg Tp)
structure HV(R:aA)(hb:Nat)(vl:Value)(es:List cZ)(gone:Nat):Prop where
 pc:PC R (pT hb) [.bool true,vl,iN gone]
 rs:RS R 4 cZ.enc vl es
 all:∀e∈es,e.is R
theorem HV.mono{R R':aA}{f:Nat}{g:Value}{c:List cZ}{d:Nat}(h:HV R f g c d)(a:∀b o,R b o->R' b o):HV R' f g c d:=⟨h.pc.mono a,h.rs.mono a,λe i=>(h.all e i).mono a⟩
theorem HI.view{a:Nat}{d:List cZ}{f:Nat}{T:av}{R:aA}(h:HI a d f T)(c:∀p∈T,R p.1 p.2):∃vl,HV R a vl d f:=by
 obtain⟨vl,m,g,rfl,j,i⟩:=h
 refine⟨vl,PC.of (E:=155) (fr:=(0,0)) (c (a,_) (by simp)),j.rs λp l=>c p (by simp[l]),λe k=>(i e k).mono λb o a=>c (b,o) ?_⟩
 have:(b,o)∈g:=a
 simp[this]
theorem MA(R:aA):Spec prog 48 [] R [] λu H'=>∃T,H'=[T]/\∃hb,u=pT hb/\HI hb [] 0 T:=by
 refine Spec.body func48 rfl results48 ntmps48 rfl<|.sr<|.ag rfl<|.z<|.q .dw ?_
 refine .cg rfl (λa=>?_)
 refine .az rfl<|.ret (br _ (.one (.tmp rfl)) (.one [0] _) ?_)
 ·exact⟨_,rfl,a,rfl,sZ,[],[],rfl,OS.nil,λe b=>(by cases b)⟩
section
variable{R:aA}{hb:Nat}{vl:Value}{es:List cZ}{gone:Nat}
theorem HV.made(h:HV R hb vl es gone):Spec prog 66 [pT hb] R [] λu H'=>u=.bool true/\H'=[]:=by
 have a:=h.pc
 refine Spec.body func66 rfl results66 ntmps66 rfl<|.sr<|.ag rfl<|.z<|.mo rfl<|.q (.uQ rfl rfl)<|.mo rfl<|.gt rfl<|.mo rfl<|.gt rfl<|.nc rfl<|.gt rfl<|.fa rfl<|.gt rfl<|.lo rfl<|.q .dj<|.az rfl<|.ret (aP rfl ?_)
 ·exact⟨rfl,rfl⟩
def hl(es:List cZ)(r:Int):Nat->Option Nat
 |0=>none
 |n+1=>match es[n]? with
  |some e=>if e.rev<=r then some n else hl es r n
  |none=>hl es r n
theorem oY{b:List cZ}{r:Int}:∀{n i:Nat},hl b r n=some i->i<n/\∃e,b[i]? =some e
 |0,i,h=>by cases h
 |n+1,i,h=>by
  unfold hl at h
  split at h
  ·rename_i e d
   split at h
   ·cases h;exact⟨by omega,e,d⟩
   ·obtain⟨c,a⟩:=oY h;exact⟨by omega,a⟩
  ·obtain⟨c,a⟩:=oY h;exact⟨by omega,a⟩
theorem HV.last(h:HV R hb vl es gone)(r:Int):Spec prog 75 [pT hb,.int .u64 r] R [] λu H'=>u=.int .i64 (fI (hl es r es.length))/\H'=[]:=by
 have v:=h.pc
 have f:=h.rs
 have o:=f.le
 have k:=h.all
 refine Spec.body func75 rfl results75 ntmps75 rfl<|.sr<|.ag rfl<|.zs<|.sr<|.mo rfl<|.aQ (h.made.weaken dt) (λu l=>?_)
 subst l
 refine .q .not<|.zn<|.dA<|.kn<|.sr<|.ag rfl<|.zs<|.sr<|.mo rfl<|.nc rfl<|.fa rfl<|.lo rfl<|.q (.bK f)<|.mo rfl<|.zn<|.block<|.cX [(1,_),(14,_),(15,_)] (X:=Nat) (λi=>i<=es.length) (λi E=>(16,iN i)::(5,.int .i64 (fI (hl es r i)))::E) (λ_ G=>G) (λi=>es.length-i) 0 (afA _) kE.c.c.c.c.c rH ?_
 rintro i n
 refine .sr<|.q .lss<|.zs<|.cond rfl (λb=>?_) λb=>?_
 have g:i<es.length:=cK b
 obtain⟨e,d⟩:=ca g
 have p:cM e.enc:=⟨(k e (aR d)).dl⟩
 have j:hl es r (i+1)=if e.rev<=r then some i else hl es r i:=by rw[hl,d]
 refine .kn<|.seq<|.block<|.sr<|.mo rfl ?_
 refine .bF i f d (λt=>?_)
 refine .q (.aL rfl) ?_
 refine .cq (λm=>?_)
 refine .ag rfl<|.bZ rfl rfl<|.z<|.fa rfl<|.fa rfl<|.lo rfl<|.mo rfl<|.q .leq<|.zn ?_
 refine bu.dc [(1,_),(14,_),(15,_),(16,_)] kE.c.c.c.c (X:=Unit) (λ_=>True) (λ_ E=>(5,.int .i64 (fI (hl es r (i+1))))::E) (λ_=>[]) ?_ ?_
 refine .cond rfl (λa=>?_) λa=>?_
 refine .region<|.mo rfl<|.ag rfl<|.nil ?_
 ·exact aD () afF (kE.c.c.c.c.nk rfl (by rw[j];first|rw[afz (cL a)];rfl|rw[afy (bI a)])) (bz.none _)
 refine .skip ?_
 ·exact aD () afF (kE.c.c.c.c.nk rfl (by rw[j];first|rw[afz (cL a)];rfl|rw[afy (bI a)])) (bz.none _)
 intro x s
 refine ba<|au<|.region<|.ia (i+1) .add<|.mo rfl<|.nil ?_
 ·exact bp (i+1) g (by omega) kE.c.c.c.c.c rH
 refine .exit<|bD<|bG<|bE<|au<|.sr<|.mo rfl<|.az rfl<|.ret (aP rfl ?_)
 ·refine⟨?_,rfl⟩
  rw[show i=es.length by have:=bI b;omega]
def fB(es:List cZ)(gone:Nat)(r:Int):Int:=match hl es r es.length with
 |none=>0
 |some i=>(gone+i+1:Nat)
def hZ(es:List cZ)(r:Int):Option cZ:=(hl es r es.length).bind λi=>es[i]?
theorem HV.at_(h:HV R hb vl es gone)(r:Int)(x:gone<=1000000/\es.length<=1000000):Spec prog 27 [pT hb,.int .u64 r] R [] λu H'=>∃T,H'=[T]/\∃c':bO,u=.tuple [.agg c'.enc.toArray,.int .i64 (fB es gone r)].toArray/\c'.is (sg T)/\c'.plain=((hZ es r).map (·.c.plain)).getD ⟨[],[]⟩:=by
 have H:=h.pc
 have k:=h.rs
 have G:=k.le
 have t:=h.all
 obtain⟨C,D⟩:=x
 refine Spec.body func27 rfl results27 ntmps27 rfl<|.sr ?_
 refine .cq (λp=>?_)
 refine .ag rfl<|.z<|.mo rfl<|.mo rfl<|.aQ ((h.last r).weaken dt) (λu m=>?_)
 subst m
 refine .ag rfl<|.zs<|.sr<|.mo rfl<|.q .lss<|.zn<|.cond rfl (λa=>?_) λa=>?_
 have o:hl es r es.length=none:=by
  cases hh:hl es r es.length with
  |none=>rfl
  |some i=>rw[hh]at a;simp only[fI]at a;have:=cL a;omega
 refine .sr<|.q .dw<|.bZ rfl rfl<|.az rfl ?_
 refine .ret (aJ (br _ (.two (.iU rfl rfl) (.tmp rfl)) bz.ka ?_))
 ·refine⟨[],rfl,⟨sZ,sZ,[],[]⟩,?_,⟨RS.kZ,RS.kZ,λs l=>(by cases l),λs l=>(by cases l)⟩,?_⟩
  ·unfold fB;rw[o];rfl
  ·unfold hZ;rw[o];rfl
 obtain⟨i,g⟩:∃i,hl es r es.length=some i:=by
  cases hh:hl es r es.length with
  |none=>rw[hh]at a;simp[fI]at a
  |some i=>exact⟨i,rfl⟩
 obtain⟨F,e,f⟩:=oY g
 have n:=t e (aR f)
 have v:=xq e.c R n.c (yl (An n.ok))
 have w:fI (hl es r es.length)=(i:Int):=by rw[g];rfl
 have I:=k.pc f
 rw[w]
 refine .kn<|.seq ?_
 refine bu.dc [(4,_)] kE.c (X:=bO×av) (λy=>y.1.is (sg y.2)/\y.1.plain=e.c.plain) (λ_ E=>(5,.int .i64 ((gone+i+1:Nat):Int))::E) (λy=>[y.2,bl p y.1.enc 25]) ?_ ?_
 refine .dz [17] mixed<|.tO 0 rfl .move<|.tO 1 rfl (.nilCheck rfl)<|.tO 2 rfl (.fieldAddr rfl)<|.tO 3 rfl (.cI rfl)<|.tO 4 rfl .move<|.tO 5 rfl (.bF i k f rfl rfl rfl)<|.tO 6 rfl (.fieldAddr rfl)<|.tO 7 rfl (.fieldAddr rfl)<|.tO 8 rfl (.loadT rfl)<|.tK 10 rfl .move<|.tK 11 rfl (.ml rfl)<|.tK 12 rfl (.kr rfl)<|.tK 13 rfl (.cI rfl)<|.tK 14 rfl .move<|.take 15 rfl (.i64 ((gone+i:Nat):Int) .add ⟨by omega,by omega,by omega⟩) (by kernel_rfl)<|.take 16 rfl (.i64 ((gone+i+1:Nat):Int) .add ⟨by omega,by omega,by omega⟩) (by kernel_rfl)<|.sT 9 rfl<|.dx (v.weaken dt) (λu j m=>?_)
 obtain⟨c',rfl,b,d⟩:=m
 have B:cM c'.enc:=⟨b.dl⟩
 refine .nil<|Next.sub<|.sT 17 rfl<|.bZ rfl rfl<|.nil<|Next.mod rfl<|.tK 18 rfl .assign<|RA.nil (by kernel_rfl) ?_
 ·exact aD (c',j) ⟨b,d⟩ kE.c.c (by first|exact bz.refl _|exact bz.pick [0,0] _|exact aK [1,0])
 intro y A
 obtain⟨c',j⟩:=y
 obtain⟨b,d⟩:=A
 simp only at b d⊢
 refine au<|.ret (br _ (.two (.iU rfl rfl) (.tmp rfl)) (.one [0] _) ?_)
 ·refine⟨j,by simp[take],c',?_,b,?_⟩
  ·unfold fB;rw[g]
  ·unfold hZ;rw[g,Option.bind_some,f];exact d
end
theorem HV.numbers{R:aA}{d:Nat}{vl:Value}{a:List cZ}{J:Nat}(h:HV R d vl a J)(r:Int)(S:∀e∈a,e.ll.length<=1000000/\∀q∈e.ll,q.2.length<=1000000):Spec prog 82 [pT d,.int .u64 r] R [] λu H'=>∃T,H'=[T]/\∃ll,NN (sg T) u ll/\ll.map (·.2)=((hZ a r).map λe=>e.ll.map (·.2)).getD []:=by
 have pc:=h.pc
 have V:=h.rs
 have K:=h.all
 refine Spec.body func82 rfl results82 ntmps82 rfl<|.sr<|.ag rfl<|.z<|.mo rfl<|.mo rfl<|.aQ ((h.last r).weaken dt) (λu l=>?_)
 subst l
 refine .ag rfl<|.zs<|.sr<|.mo rfl<|.q .lss<|.zn<|.cond rfl (λg=>?_) λg=>?_
 have p:hl a r a.length=none:=by
  cases hh:hl a r a.length with
  |none=>rfl
  |some i=>rw[hh]at g;simp only[fI]at g;have:=cL g;omega
 refine .sr<|.az rfl<|.ret (aJ (br _ (.one (.tmp rfl)) bz.ka ?_))
 ·refine⟨[],rfl,[],.nil,?_⟩
  unfold hZ;rw[p];rfl
 obtain⟨i,w⟩:∃i,hl a r a.length=some i:=by
  cases hh:hl a r a.length with
  |none=>rw[hh]at g;simp[fI]at g
  |some i=>exact⟨i,rfl⟩
 obtain⟨a2,e,m⟩:=oY w
 have M:=K e (aR m)
 have p:=M.n
 have C:=p.rs
 obtain⟨a3,Q⟩:=S e (aR m)
 have N:fI (hl a r a.length)=(i:Int):=by rw[w];rfl
 rw[N]
 refine .kn<|.sr<|.ag rfl<|.zs<|.sr<|.mo rfl<|.nc rfl<|.fa rfl<|.lo rfl<|.mo rfl ?_
 refine .bF i V m (λa4=>?_)
 refine .fa rfl<|.lo rfl<|.q (.bK C)<|.mo rfl<|.zn<|.block<|.cX [(21,_),(22,_)] (X:=Nat×Value×List fR×av×av) (λy=>y.1<=e.ll.length/\OS 182 1 eD y.2.1 y.2.2.1 y.2.2.2.1/\(∀q∈y.2.2.1,RS (sg y.2.2.2.2) 1 dv q.1 q.2)/\y.2.2.1.map (·.2)=(e.ll.take y.1).map (·.2)) (λy E=>(23,iN y.1)::(6,y.2.1)::E) (λy G=>y.2.2.2.1::y.2.2.2.2::G) (λy=>e.ll.length-y.1) (0,sZ,[],[],[]) ⟨afA _,OS.nil,λq f=>(by cases f),rfl⟩ kE.c.c.c.c bz.jk ?_
 rintro⟨k,vo,L,I,x⟩ ⟨O,v,t,j⟩
 simp only at O v t j⊢
 have a1:L.length=k:=by have:=afD List.length j;rw[afB,afB,afH]at this;omega
 refine .sr<|.q .lss<|.zs<|.cond rfl (λs=>?_) λs=>?_
 have B:k<e.ll.length:=cK s
 obtain⟨q,f⟩:=ca B
 have U:=p.all q (aR f)
 refine .kn<|.seq<|.block<|.sr ?_
 refine .bF k C f (λa5=>?_)
 refine .lo rfl<|.az rfl<|.region<|.mo rfl<|.mo rfl<|.dx (LIN.mC q.1 q.2 _ U.rx (Q q (aR f))) (λu F l=>?_)
 have iu:=l.ay
 obtain⟨D,A,rfl,_⟩:=l.shape
 refine .jB (λa0=>?_)
 refine .append v (RS.lits (xs:=[((.slice D q.2.length A,q.2):fR)]) rfl (by simp[eD]) (by simp[eD,ay])) (by simp only[afI];omega) (λZ H W=>?_)
 refine .ag rfl<|.nil<|ba<|au<|.region<|.ia (k+1) .add<|.mo rfl<|.nil ?_
 ·exact bp (k+1,Z,L++[(.slice D q.2.length A,q.2)],H,F++x) ⟨B,W,λY hq'=>by
   rcases afL.1 hq' with hq'|hq'
   ·exact(t Y hq').mono λb o d=>ju d
   ·rw[afJ]at hq'
    subst hq'
    exact l.sg.mono λb o d=>kD d,by simp only;rw[eo f,afC,afC,j];rfl⟩ (by simp only;omega) kE.c.c.c.c ((aK [2,1,1]).trans (bz.fH (by simp[take,bN])))
 refine .exit<|bD<|bG<|bE<|au<|.sr<|.mo rfl<|.az rfl<|.ret (br _ (.one (.tmp rfl)) (.one [0,0] _) ?_)
 ·refine⟨I++x,by simp[take,bN],L,⟨v.sg.mono λb o d=>kD d,λq f=>(t q f).mono λb o d=>ju d⟩,?_⟩
  rw[dZ (kS s)]at j
  unfold hZ;rw[w,Option.bind_some,m,j];rfl
def nt(es:List cZ)(rev:Int)(c:Cf):Int:=
 if(es.getLast?.map λe=>decide (rev<=e.rev)).getD false then 12 else if(c.numbers isWord dd).1≠0 then(c.numbers isWord dd).1 else if 16<=es.length then 8 else 0
theorem yK(f:Nat)(d:List cZ)(j:Nat)(T:av)(h:HI f d j T)(b8:d.length<=1000)(rev:Int)(c:bO)(R:aA)(hc:c.is R):
  Spec prog 20 [pT f,.int .u64 rev,.agg c.enc.toArray] R [T] λu H'=>∃T',H'=[T']/\u=.int .i64 (nt d rev c.plain)/\(nt d rev c.plain=0->∃e:cZ,e.rev=rev/\e.c.plain=c.plain/\HI f (d++[e]) j T')/\(nt d rev c.plain≠0->HI f d j T'):=by
 have b3:=N5 c R hc
 have a9:=xq c R hc
 obtain⟨k,l,g,rfl,m,x⟩:=h
 have b4:(c.plain.numbers isWord dd).1=0->c.uf:=λv=>yl (An v)
 have C:nt d rev c.plain=if(d.getLast?.map λe=>decide (rev<=e.rev)).getD false then 12 else if(c.plain.numbers isWord dd).1≠0 then(c.plain.numbers isWord dd).1 else if 16<=d.length then 8 else 0:=rfl
 generalize hk:nt d rev c.plain=kc at *
 generalize a5:c.plain.numbers isWord dd=nn at *
 have a8:∀D:aA,(∀p∈((f,.cells [.bool true,k,iN j].toArray 155 (0,0))::(l++g):av),D p.1 p.2)->HV D f k d j:=λD L=>by
  refine⟨PC.of (E:=155) (fr:=(0,0)) (L (f,_) (by simp)),m.rs λp hp=>L p (by simp[hp]),λe he=>(x e he).mono λb o f=>L (b,o) ?_⟩
  have:(b,o)∈g:=f
  simp[this]
 have M:∀w,HI f d j w↔∃k l g,w=(f,.cells [.bool true,k,iN j].toArray 155 (0,0))::(l++g)/\OS 159 4 cZ.enc k d l/\∀e∈d,e.is (sg g):=λ_=>Iff.rfl
 refine Spec.gj (H':=[bl f [.bool true,k,iN j] 155,l,g]) (by simp)<|Spec.body func20 rfl results20 ntmps20 rfl<|.sr ?_
 refine .cg rfl (λb5=>?_)
 refine .ag rfl<|.zs<|.block<|.sr<|.mo rfl ?_
 refine .aQ (HV.made (a8 _ λp hp=>.inr (by
  rcases afR.1 hp with rfl|hp
  ·simp
  ·rcases afL.1 hp with hp|hp<;>simp[hp]))) (λu S=>?_)
 subst S
 refine .q .not<|.az rfl<|.dA<|.seq ?_
 refine bu.dc [(0,_),(1,_),(5,_)] kE.c.c.c (X:=Unit) (λ_=>True) (λ_ E=>(13,.bool ((d.getLast?.map λe=>decide (rev<=e.rev)).getD false))::E) (λ_=>[bl b5 c.enc 25,bl f [.bool true,k,iN j] 155,l,g]) ?_ ?_
 refine .fX mixed (by kernel_rfl)<|.mo rfl<|.nc rfl<|.fa rfl<|.lo rfl<|.q (.eR m)<|.q .gtr<|.mo rfl<|.split (t:=20) rfl (λa=>?_) (λa=>?_)
 obtain⟨n,hn⟩:∃n,d.length=n+1:=⟨d.length-1,by have:=cL a;omega⟩
 obtain⟨V,O⟩:∃e,d[n]? =some e:=⟨_,bk (by omega)⟩
 have a3:d.getLast? =some V:=by rw[List.getLast?_eq_getElem?,hn];exact O
 have b9:=x V (aR O)
 refine .gT a<|.mo rfl<|.gT a<|.mo rfl<|.gT a<|.nc rfl<|.gT a<|.fa rfl<|.gT a<|.lo rfl<|.gT a<|.mo rfl<|.gT a<|.nc rfl<|.gT a<|.fa rfl<|.gT a<|.lo rfl<|.gT a<|.q (.eR m)<|.gT a<|.q (.i64 (n:Int) .sub ⟨by omega,by omega,by omega⟩)<|.gT a ?_
 refine .bh n m O (λc2=>?_)
 refine .gT a<|.fa rfl<|.gT a<|.fa rfl<|.gT a<|.lo rfl<|.gT a<|.q .leq<|.q (.aU a)<|.ag rfl<|.nil ?_
 ·exact aD () afF (kE.c.c.c.cj rfl (by first|rfl|(rw[a3];rfl))) rH
 have b2:d=[]:=List.eq_nil_of_length_eq_zero (by have:=bI a;omega)
 subst b2
 refine .gF a<|.gF a<|.gF a<|.gF a<|.gF a<|.gF a<|.gF a<|.gF a<|.gF a<|.gF a<|.gF a<|.gF a<|.gF a<|.gF a<|.gF a<|.gF a<|.q (.aN a)<|.ag rfl<|.nil ?_
 ·exact aD () afF (kE.c.c.c.cj rfl (by first|rfl|(rw[a3];rfl))) rH
 intro y hy
 refine au<|.cond rfl (λz=>?_) λz=>?_
 refine .sr<|.az rfl<|.ret (bA (aJ (br _ (.one (.tmp rfl)) (.one [1,1,1] _) ?_)))
 ·have r:((d.getLast?.map λe=>decide (rev<=e.rev)).getD false)=true:=z
  have i:kc=12:=by rw[C,afz r]
  have Q:kc≠0:=by rw[i];decide
  exact⟨_,rfl,by rw[i],λs=>absurd s Q,λ_=>(M _).2 ⟨k,l,g,by simp[take,bN],m,x⟩⟩
 refine .skip<|ba<|au<|.sr<|.q (.aL rfl)<|.dx (b3.weaken dt) (λu T7 b6=>?_)
 obtain⟨w7,ll,rfl,K,b0⟩:=b6
 have i7:=K.rs.ay
 refine .mo rfl<|.q .extract<|.q .extract<|.ag rfl<|.ag rfl<|.zs<|.block<|.sr<|.mo rfl<|.q .de<|.az rfl<|.cond rfl (λI=>?_) λI=>?_
 have a4:nn.1≠0:=by simpa using I
 refine .sr<|.mo rfl<|.az rfl<|.ret (bA (aJ (br _ (.one (.tmp rfl)) (.one [2,2,2] _) ?_)))
 ·have r:((d.getLast?.map λe=>decide (rev<=e.rev)).getD false)=false:=z
  have i:kc=nn.1:=by rw[C,afy (by rw[r];simp),afz a4]
  exact⟨_,rfl,by rw[i],λs=>absurd (i.symm.trans s) a4,λ_=>(M _).2 ⟨k,l,g,by simp[take,bN],m,x⟩⟩
 have v:nn.1=0:=by simpa using I
 refine .sr<|.mo rfl<|.nc rfl<|.fa rfl<|.lo rfl<|.q (.eR m)<|.q .geq<|.az rfl<|.cond rfl (λJ=>?_) λJ=>?_
 refine .sr<|.az rfl<|.ret (bA (aJ (br _ (.one (.tmp rfl)) (.one [2,2,2] _) ?_)))
 ·have r:((d.getLast?.map λe=>decide (rev<=e.rev)).getD false)=false:=z
  have i:kc=8:=by rw[C,afy (by rw[r];simp),afy (by rw[v];simp),afz (by have:=cL J;omega)]
  have Q:kc≠0:=by rw[i];decide
  exact⟨_,rfl,by rw[i],λs=>absurd s Q,λ_=>(M _).2 ⟨k,l,g,by simp[take,bN],m,x⟩⟩
 have b1:¬16<=d.length:=by have:=bI J;omega
 have r:((d.getLast?.map λe=>decide (rev<=e.rev)).getD false)=false:=z
 have i:kc=0:=by rw[C,afy (by rw[r];simp),afy (by rw[v];simp),afy b1]
 refine .skip<|ba<|au<|.seq ?_
 refine bu.dc [] (dS.nil _) (X:=Value×av×cZ×av) (λy=>OS 159 4 cZ.enc y.1 (d++[y.2.2.1]) y.2.1/\y.2.2.1.is (sg y.2.2.2)/\y.2.2.1.rev=rev/\y.2.2.1.c.plain=c.plain) (λ_ E=>E) (λy=>[bl f [.bool true,y.1,iN j] 155,y.2.1,y.2.2.2,g]) ?_ ?_
 refine .dz [12,15] mixed<|.tK 0 rfl .move<|.tO 1 rfl .move<|.tO 2 rfl (.nilCheck rfl)<|.tO 3 rfl (.fieldAddr rfl)<|.tO 4 rfl (.cI rfl)<|.tO 5 rfl .move<|.tO 6 rfl (.aL rfl)<|.tO 9 rfl .move<|.sT 7 rfl<|.dx ((a9 (b4 v)).weaken dt) (λu G S=>?_)
 obtain⟨H,rfl,A,N⟩:=S
 have c0:One H.vs:=RS.ay A.ss
 have c1:One H.vc:=RS.ay A.sc
 obtain⟨ps,cs,W⟩:=A.ss.val
 obtain⟨pc,cc,Y⟩:=A.sc.val
 obtain⟨pw,cw,Z⟩:=K.rs.val
 obtain⟨c4,c3,a7,a6⟩:=H
 simp only at W Y Z
 subst W Y Z
 refine .nil<|Next.sub<|.tO 8 rfl .dw<|.tO 10 rfl .dw<|.sT 11 rfl ?_
 refine .fq (λb7=>?_)
 refine .nil<|Next.sub<|.sT 12 rfl<|.append m (RS.lits (xs:=[(⟨rev,⟨.slice ps a7.length cs,.slice pc a6.length cc,a7,a6⟩,.slice pw ll.length cw,ll⟩:cZ)]) rfl (by simp[cZ.enc]) (by simp[cZ.enc,ay])) (by simp only[afI];omega) (λU F B=>?_)
 have i5:=B.ay
 refine .nil<|Next.mod rfl<|.tK 13 rfl (.ml rfl)<|.tK 14 rfl (.kr rfl)<|.sT 15 rfl<|.ek rfl rfl<|.nil<|Next.mod rfl<|RA.nil (by kernel_rfl) ?_
 ·exact aD (U,F,_,G++T7) ⟨B,⟨A.mono λb o f=>kD f,K.mono λb o f=>ju f,by simp only;rw[N,a5];exact v,by simp only;rw[N,a5];exact b0⟩,rfl,N⟩ (dS.nil _) (by first|exact(aK [4,4,1,1,2]).trans (bz.fH (by simp[take,bN,du]))|exact(aK [3,3,0,1,2]).trans (bz.fH (by simp[take,bN,du])))
 intro y hy
 obtain⟨U,F,e5,G⟩:=y
 obtain⟨B,a0,a2,a1⟩:=hy
 simp only at B a0 a2 a1⊢
 refine au<|.sr<|.az rfl<|.ret (br _ (.one (.tmp rfl)) (.one [0,0,0,0] _) ?_)
 ·refine⟨_,rfl,by rw[i],λ_=>⟨e5,a2,a1,U,F,G++g,by simp[take,bN],B,λe he=>?_⟩,λs=>absurd i s⟩
  rcases afL.1 he with he|he
  ·exact(x e he).mono λb o f=>ju f
  ·rw[afJ]at he
   subst he
   exact a0.mono λb o f=>kD f
theorem OJ(a b:bf)(R:aA):Spec prog 169 [.agg a.enc.toArray,.agg b.enc.toArray] R [] λv H'=>v=.bool (eA a b)/\H'=[]:=by
 refine Spec.body func169 rfl results169 ntmps169 rfl<|.sr ?_
 refine .cg rfl (λf=>?_)
 refine .cg rfl (λg=>?_)
 refine .ag rfl<|.z<|.fa rfl<|.q (.loadT rfl)<|.fa rfl<|.q (.loadT rfl)<|.aQ (O7 a.t b.t _) (λv e=>?_)
 subst e
 refine .mo rfl<|.split (t:=10) rfl (λc=>?_) (λc=>?_)
 refine .gF c<|.gF c<|.gF c<|.gF c<|.gF c<|.gF c<|.dB rfl<|.dB rfl<|.dB rfl<|.dB rfl<|.dB rfl<|.gF c<|.q (.aU c)<|.az rfl<|.ret (aP rfl ?_)
 ·refine⟨afD _ ?_,rfl⟩
  unfold eA
  simp_all
 refine .gT c<|.fa rfl<|.gT c<|.q (.loadT rfl) ?_
 refine .gT c<|.fa rfl<|.gT c<|.q (.loadT rfl) ?_
 refine .gT c<|.q (.nq rfl rfl (aw.kinds a.t) (aw.kinds b.t)) ?_
 rw[show eI (List.take 7 (List.drop 0 a.enc)) (List.take 7 (List.drop 0 b.enc))=decide (a.t=b.t)from aw.eq a.t b.t]
 refine .gT c<|.mo rfl<|.split (t:=16) rfl (λd=>?_) (λd=>?_)
 refine .gT d<|.fa rfl<|.gT d<|.lo rfl<|.gT d<|.fa rfl<|.gT d<|.lo rfl<|.gT d<|.q .lss<|.gT c<|.q (.aU d)<|.q (.aN c)<|.az rfl<|.ret (aP rfl ?_)
 ·refine⟨afD _ ?_,rfl⟩
  unfold eA
  simp_all
 refine .gF d<|.gF d<|.gF d<|.gF d<|.gF d<|.gT c<|.q (.aN d)<|.q (.aN c)<|.az rfl<|.ret (aP rfl ?_)
 ·refine⟨afD _ ?_,rfl⟩
  unfold eA
  simp_all
theorem OY(v:Value)(l:List bf)(t:bf)(R:aA)(h:RS R 9 bf.enc v l)(hl:l.length<=100000):
    Spec prog 110 [v,.agg t.enc.toArray] R [] λu H'=>∃T,H'=[T]/\OS 226 9 bf.enc u (gN eA t l) T:=by
  obtain⟨I,H,rfl⟩:=h.val
  refine Spec.gj (H':=[[]]) (by simp)<|Spec.body func110 rfl results110 ntmps110 rfl<|.sr ?_
  refine .cg rfl (λm=>?_)
  refine .ag rfl<|.z<|.ag rfl<|.z<|.ag rfl<|.zs<|.sr<|.az rfl<|.block<|.loop (X:=Nat×Value×av) (λy=>y.1<=l.length/\OS 226 9 bf.enc y.2.1 (kv eA t (l.take y.1)) y.2.2) (λy=>[(0,.slice I l.length H),(3,pT m),(5,y.2.1),(6,.bool ((l.take y.1).any (eA t))),(7,iN y.1)]) (λy=>[bl m t.enc 226,y.2.2]) (λy=>l.length-y.1) (0,sZ,[]) ⟨afA _,OS.nil⟩ kE.c.c.c.c.c rH ?_
  rintro⟨i,D,s⟩ ⟨N,e⟩
  simp only at N e⊢
  have M:(kv eA t (l.take i)).length<=100001:=afO yH (by rw[afH];omega)
  refine .seq<|.sr<|.mo rfl<|.mo rfl<|.q (.bK h)<|.q .lss<|.zn<|.cond rfl (λA=>?_) λA=>?_
  have G:i<l.length:=cK A
  obtain⟨x,f⟩:=ca G
  have E:=Mv (lt:=eA) (p:=t) f
  refine .kn<|.seq<|.block<|.seq ?_
  refine bu.cut (X:=Value×av) (λz=>OS 226 9 bf.enc z.1 (nr eA t (l.take i) x) z.2) (λz=>[(0,.slice I l.length H),(3,pT m),(5,z.1),(6,.bool ((l.take (i+1)).any (eA t))),(7,iN i)]) (λz=>[bl m t.enc 226,z.2]) ?_ ?_
  refine .seq<|.dY 8 mixed (by kernel_rfl) ?_
  conv=>arg 6;dsimp only[List.take]
  refine .mo rfl<|.q .not<|.mo rfl<|.split (t:=16) rfl (λa=>?_) (λa=>?_)
  refine .gT a<|.q (.aL rfl)<|.gT a<|.mo rfl<|.gT a<|.mo rfl<|.gT a ?_
  refine .bF i h f (λa0=>?_)
  refine .gT a<|.q (.aL rfl)<|.nil<|.gT a<|.aQ (OJ t x _) (λv Q=>?_)
  subst Q
  refine .q (.aU a)<|.zn<|.cond rfl (λn=>?_) λn=>?_
  first|have C:=Mw f a n|skip
  refine .sr<|.mo rfl<|.q (.aL rfl) ?_
  refine .fq (λW=>?_)
  refine .append e (RS.lits (xs:=[t]) rfl (by simp[bf.enc,aw.enc]) (by simp[bf.enc,aw.enc,ay])) (by simp only[afI];omega) (λr k g=>?_)
  refine .az rfl<|.region<|.ag rfl<|.nil ?_
  ·first
      |(obtain⟨d,b⟩:=C
        exact aD (r,k) (by simp only;rw[d];exact g) (by simp only;rw[b];exact kE.c.c.c.c.c) (aK [1,1]))
      |(obtain⟨d,b⟩:=j
        exact aD (D,s) (by simp only;rw[d];simpa using e) (by simp only;rw[b];exact kE.c.c.c.c.c) rH)
  first|have j:=ur (p:=t) f (.inr n)|skip
  refine .skip ?_
  ·first
      |(obtain⟨d,b⟩:=C
        exact aD (r,k) (by simp only;rw[d];exact g) (by simp only;rw[b];exact kE.c.c.c.c.c) (aK [1,1]))
      |(obtain⟨d,b⟩:=j
        exact aD (D,s) (by simp only;rw[d];simpa using e) (by simp only;rw[b];exact kE.c.c.c.c.c) rH)
  have j:=ur (p:=t) f (.inl a)
  refine .gF a<|.gF a<|.gF a<|.gF a<|.gF a<|.nil<|.gF a<|.q (.aN a)<|.zn<|.dA ?_
  first|have j:=ur (p:=t) f (.inr n)|skip
  refine .skip ?_
  ·first
      |(obtain⟨d,b⟩:=C
        exact aD (r,k) (by simp only;rw[d];exact g) (by simp only;rw[b];exact kE.c.c.c.c.c) (aK [1,1]))
      |(obtain⟨d,b⟩:=j
        exact aD (D,s) (by simp only;rw[d];simpa using e) (by simp only;rw[b];exact kE.c.c.c.c.c) rH)
  intro y S
  obtain⟨V,K⟩:=y
  have L:OS 226 9 bf.enc V (nr eA t (l.take i) x) K:=S
  simp only
  refine au<|.region<|.mo rfl<|.mo rfl<|.mo rfl ?_
  refine .bF i h f (λa1=>?_)
  refine .q (.aL rfl) ?_
  refine .fq (λY=>?_)
  refine .append L (RS.lits (xs:=[x]) rfl (by simp[bf.enc,aw.enc]) (by simp[bf.enc,aw.enc,ay])) (by have:=yH (lt:=eA) (p:=t) (X:=l.take (i+1));rw[<-E,afH]at this;simp at this⊢;omega) (λU J F=>?_)
  rw[E]at F
  refine .ag rfl<|.nil<|ba<|au<|.region<|.mo rfl<|.ia (i+1) .add<|.ag rfl<|.nil ?_
  ·exact bp (i+1,U,J) ⟨G,F⟩ (by simp only;omega) kE.c.c.c.c.c (aK [1,1])
  have O:i=l.length:=by have:=bI A;omega
  subst O
  rw[afE]at e M⊢
  refine .exit<|bD<|bG<|bE<|au<|.seq<|.sr<|.mo rfl<|.q .not<|.zn<|.cond rfl (λB=>?_) λB=>?_
  refine .region<|.mo rfl<|.q (.aL rfl) ?_
  refine .fq (λZ=>?_)
  refine .append e (RS.lits (xs:=[t]) rfl (by simp[bf.enc,aw.enc]) (by simp[bf.enc,aw.enc,ay])) (by simp;omega) (λr k g=>?_)
  refine .ag rfl<|.z<|.mo rfl<|.az rfl<|.ret (br _ (.one (.tmp rfl)) ((aK [2])) ?_)
  ·have o:l.any (eA t)=false:=by simpa using B
   refine⟨_,by simp[take,bN];rfl,?_⟩
   have w:kv eA t l=l:=by unfold kv;rw[o];rfl
   rw[w]at g
   rw[Mt o];exact g
  refine .kn<|.sr<|.mo rfl<|.az rfl<|.ret (br _ (.one (.tmp rfl)) ((aK [1])) ?_)
  ·have o:l.any (eA t)=true:=by simpa using B
   refine⟨_,by simp[take,bN];rfl,?_⟩
   have w:kv eA t l=gN eA t l:=by unfold kv;rw[o];rfl
   rw[w]at e;exact e
def qb(L:List bf)(t:aw)(z:Int):Prop:=(∃(j:Nat) (x:bf),z=j/\L[j]? =some x/\x.eS t=true/\∀k y,k<j->L[k]? =some y->y.eS t=false)\/(z= -1/\dE L t=false)
theorem qb.lt{L:List bf}{t:aw}{z:Int}(h:qb L t z):decide (z<0)= !dE L t:=by
 rcases h with⟨j,x,rfl,b,a,_⟩|⟨rfl,h⟩
 ·rw[af3 (by omega),dE,afQ.2 ⟨x,aR b,a⟩];rfl
 ·rw[h];rfl
theorem qb.ge{L:List bf}{t:aw}{z:Int}(h:qb L t z):decide (0<=z)=dE L t:=by
 have a:=h.lt
 have b:decide (0<=z)= !decide (z<0):=by rw[Bool.eq_iff_iff];simp
 rw[b,a,Bool.not_not]
section
variable{R:aA}{b:Nat}{S:cE}{vL:Value}{L:List bf}
theorem DV.find(h:DV R b S vL L)(t:aw):Spec prog 111 [pT b,.agg t.enc.toArray] R [] λu H'=>(∃z,u=.int .i64 z/\qb L t z)/\H'=[]:=by
 have F:=h.pc
 have B:=h.rs.ay
 have A:=h.rs.le
 obtain⟨G,C,rfl⟩:=h.rs.val
 have n:=h.rs
 refine Spec.body func111 rfl results111 ntmps111 rfl<|.sr ?_
 refine .cg rfl (λo=>?_)
 refine .ag rfl<|.zs<|.sr<|.az rfl<|.block<|.loop (X:=Nat) (λi=>i<=L.length/\∀k y,k<i->L[k]? =some y->y.eS t=false) (λi=>[(0,pT b),(3,pT o),(5,iN i)]) (λ_=>[bl o t.enc 119]) (λi=>L.length-i) 0 ⟨afA _,λk y e=>absurd e (Nat.not_lt_zero _)⟩ kE.c.c.c rH ?_
 rintro i ⟨v,g⟩
 refine .seq<|.sr<|.mo rfl<|.mo rfl<|.nc rfl<|.fa rfl<|.lo rfl<|.q (.bK n)<|.q .lss<|.zn<|.cond rfl (λl=>?_) λl=>?_
 have m:i<L.length:=cK l
 obtain⟨x,f⟩:=ca m
 refine .kn<|.seq<|.block<|.seq<|.fX mixed (by kernel_rfl) ?_
 refine .mo rfl<|.nc rfl<|.fa rfl<|.lo rfl<|.mo rfl ?_
 refine .bF i n f (λD=>?_)
 refine .fa rfl<|.q (.loadT rfl) ?_
 refine .q (.aL rfl)<|.q (.nq rfl rfl (aw.kinds x.t) (aw.kinds t)) ?_
 rw[show eI (List.take 7 (List.drop 0 x.enc)) t.enc=decide (x.t=t)from aw.eq x.t t]
 refine .mo rfl<|.split (t:=25) rfl (λa=>?_) (λa=>?_)
 refine .gT a<|.mo rfl<|.gT a<|.nc rfl<|.gT a<|.fa rfl<|.gT a<|.lo rfl<|.gT a<|.mo rfl<|.gT a ?_
 refine .bF i n f (λE=>?_)
 refine .gT a<|.fa rfl<|.gT a<|.lo rfl<|.gT a<|.q .cr<|.q (.aU a)<|.zn<|.cond rfl (λr=>?_) λr=>?_
 refine .sr<|.mo rfl<|.az rfl<|.ret (bA (aJ (cW (bA (aJ (aP rfl ?_))))))
 ·exact⟨⟨_,rfl,.inl ⟨i,x,rfl,f,by unfold bf.eS;simp_all,g⟩⟩,rfl⟩
 refine .skip<|ba<|au<|.region<|.mo rfl<|.ia (i+1) .add<|.ag rfl<|.nil ?_
 ·exact bp (i+1) ⟨m,λk y e d=>by
   rcases Nat.lt_or_eq_of_le (Nat.le_of_lt_succ e)with h3|h3
   ·exact g k y h3 d
   ·subst h3
    rw[f]at d
    cases d
    unfold bf.eS
    simp_all⟩ (by omega) kE.c.c.c rH
 refine .gF a<|.gF a<|.gF a<|.gF a<|.gF a<|.gF a<|.gF a<|.gF a<|.gF a<|.q (.aN a)<|.zn<|.dA<|.skip<|ba<|au<|.region<|.mo rfl<|.ia (i+1) .add<|.ag rfl<|.nil ?_
 ·exact bp (i+1) ⟨m,λk y e d=>by
   rcases Nat.lt_or_eq_of_le (Nat.le_of_lt_succ e)with h3|h3
   ·exact g k y h3 d
   ·subst h3
    rw[f]at d
    cases d
    unfold bf.eS
    simp_all⟩ (by omega) kE.c.c.c rH
 refine .exit<|bD<|bG<|bE<|au<|.sr<|.az rfl<|.ret (aP rfl ?_)
 ·have w:i=L.length:=by have:=bI l;omega
  refine⟨⟨_,rfl,.inr ⟨rfl,?_⟩⟩,rfl⟩
  unfold dE
  rw[agc]
  intro y d p
  obtain⟨j,s,rfl⟩:=af5.1 d
  have:=g j _ (by omega) (bk s)
  rw[this]at p
  cases p
theorem OL(vm vn vc:Value)(bj no:List aw)(cs:List cz)(R:aA)(s:RS R 7 aw.enc vm bj)(w:RS R 7 aw.enc vn no)(m:RS R 8 cz.enc vc cs)(fm:∀t∈bj,t.fits)(fn:∀t∈no,t.fits)(fc:∀c∈cs,c.t.fits):
  Spec prog 108 [vm,vn,vc] R [] λu H'=>u=.int .i64 (fQ bj no cs)/\H'=[]:=by
 have lm:=s.le
 have ln:=w.le
 have lc:=m.le
 obtain⟨D,B,rfl⟩:=s.val
 obtain⟨E,C,rfl⟩:=w.val
 obtain⟨F,A,rfl⟩:=m.val
 refine Spec.body func108 rfl results108 ntmps108 rfl<|.sr<|.ag rfl<|.zs<|.sr<|.mo rfl<|.q (.bK m)<|.q .gtr<|.mo rfl<|.split (t:=15) rfl (λj=>?_) (λj=>?_)
 refine .gF j<|.gF j<|.gF j<|.q (.aU j)<|.mo rfl<|.gX<|.gX<|.gX<|.q .dj<|.mo rfl<|.gX<|.gX<|.gX<|.q .dj<|.zn<|.gL ?_
 have f:32<cs.length\/cs.length=0\/32<bj.length\/32<no.length:=by simp_all;try omega
 refine .sr<|.az rfl<|.ret (aJ (aP rfl ?_))
 ·(refine⟨?_,rfl⟩;rw[nE f];done)
 refine .gT j<|.mo rfl<|.gT j<|.q (.bK m)<|.gT j<|.q .cr<|.q (.aN j)<|.mo rfl<|.split (t:=20) rfl (λl=>?_) (λl=>?_)
 refine .gF l<|.gF l<|.gF l<|.q (.aU l)<|.mo rfl<|.gX<|.gX<|.gX<|.q .dj<|.zn<|.gL ?_
 have f:32<cs.length\/cs.length=0\/32<bj.length\/32<no.length:=by simp_all;try omega
 refine .sr<|.az rfl<|.ret (aJ (aP rfl ?_))
 ·(refine⟨?_,rfl⟩;rw[nE f];done)
 refine .gT l<|.mo rfl<|.gT l<|.q (.bK s)<|.gT l<|.q .gtr<|.q (.aN l)<|.mo rfl<|.split (t:=25) rfl (λh=>?_) (λh=>?_)
 refine .gF h<|.gF h<|.gF h<|.q (.aU h)<|.zn<|.gL ?_
 have f:32<cs.length\/cs.length=0\/32<bj.length\/32<no.length:=by simp_all;try omega
 refine .sr<|.az rfl<|.ret (aJ (aP rfl ?_))
 ·(refine⟨?_,rfl⟩;rw[nE f];done)
 refine .gT h<|.mo rfl<|.gT h<|.q (.bK w)<|.gT h<|.q .gtr<|.q (.aN h)<|.zn<|.cond rfl (λh1=>?_) λh1=>?_
 have f:32<cs.length\/cs.length=0\/32<bj.length\/32<no.length:=by simp_all;try omega
 refine .sr<|.az rfl<|.ret (aJ (aP rfl ?_))
 ·(refine⟨?_,rfl⟩;rw[nE f];done)
 have f:¬(32<cs.length\/cs.length=0\/32<bj.length\/32<no.length):=by simp_all;try omega
 refine .kn<|.seq<|.sr<|.az rfl<|.block<|.loop (X:=Nat) (λi=>i<=bj.length/\(bj.take i).any (λt=> !eQ t)=false) (λi=>[(0,.slice D bj.length B),(1,.slice E no.length C),(2,.slice F cs.length A),(7,iN i)]) (λ_=>[]) (λi=>bj.length-i) 0 ⟨afA _,by simp⟩ kE.c.c.c.c rH ?_
 rintro i ⟨T,p⟩
 refine .seq<|.sr<|.mo rfl<|.mo rfl<|.q (.bK s)<|.q .lss<|.zn<|.cond rfl (λH=>?_) λH=>?_
 have g:i<bj.length:=cK H
 obtain⟨x,d⟩:=ca g
 refine .kn<|.seq<|.block<|.sr<|.mo rfl<|.mo rfl ?_
 refine .bF i s d (λa2=>?_)
 refine .q (.aL rfl)<|.aQ (vz x (fm x (aR d)) _) (λv z=>?_)
 subst z
 refine .q .not<|.zn<|.cond rfl (λI=>?_) λI=>?_
 have n:fQ bj no cs=9:=pM f (by rw[afQ.2 ⟨x,aR d,I⟩];simp)
 refine .sr<|.az rfl<|.ret (bA (aJ (cW (bA (aJ (aP rfl ?_))))))
 ·(refine⟨?_,rfl⟩;rw[n];done)
 refine .skip<|ba<|au<|.region<|.mo rfl<|.ia (i+1) .add<|.ag rfl<|.nil ?_
 ·exact bp (i+1) ⟨g,by rw[afX,d,af6,p];simp;simpa using I⟩ (by omega) kE.c.c.c.c rH
 have o:i=bj.length:=by have:=bI H;omega
 subst o
 rw[afE]at p
 refine .exit<|bD<|bG<|bE<|au<|.seq<|.sr<|.az rfl<|.block<|.loop (X:=Nat) (λi=>i<=no.length/\(no.take i).any (λt=> !eQ t)=false) (λi=>[(0,.slice D bj.length B),(1,.slice E no.length C),(2,.slice F cs.length A),(8,iN i)]) (λ_=>[]) (λi=>no.length-i) 0 ⟨afA _,by simp⟩ kE.c.c.c.c rH ?_
 rintro i ⟨T,r⟩
 refine .seq<|.sr<|.mo rfl<|.mo rfl<|.q (.bK w)<|.q .lss<|.zn<|.cond rfl (λJ=>?_) λJ=>?_
 have g:i<no.length:=cK J
 obtain⟨x,d⟩:=ca g
 refine .kn<|.seq<|.block<|.sr<|.mo rfl<|.mo rfl ?_
 refine .bF i w d (λa3=>?_)
 refine .q (.aL rfl)<|.aQ (vz x (fn x (aR d)) _) (λv z=>?_)
 subst z
 refine .q .not<|.zn<|.cond rfl (λK=>?_) λK=>?_
 have n:fQ bj no cs=9:=pM f (by rw[p,afQ.2 ⟨x,aR d,K⟩];simp)
 refine .sr<|.az rfl<|.ret (bA (aJ (cW (bA (aJ (aP rfl ?_))))))
 ·(refine⟨?_,rfl⟩;rw[n];done)
 refine .skip<|ba<|au<|.region<|.mo rfl<|.ia (i+1) .add<|.ag rfl<|.nil ?_
 ·exact bp (i+1) ⟨g,by rw[afX,d,af6,r];simp;simpa using K⟩ (by omega) kE.c.c.c.c rH
 have o:i=no.length:=by have:=bI J;omega
 subst o
 rw[afE]at r
 refine .exit<|bD<|bG<|bE<|au<|.seq<|.sr<|.az rfl<|.block<|.loop (X:=Nat) (λi=>i<=cs.length/\(cs.take i).any (λc=> !eQ c.t)=false) (λi=>[(0,.slice D bj.length B),(1,.slice E no.length C),(2,.slice F cs.length A),(9,iN i)]) (λ_=>[]) (λi=>cs.length-i) 0 ⟨afA _,by simp⟩ kE.c.c.c.c rH ?_
 rintro i ⟨T,Q⟩
 refine .seq<|.sr<|.mo rfl<|.mo rfl<|.q (.bK m)<|.q .lss<|.zn<|.cond rfl (λL=>?_) λL=>?_
 have g:i<cs.length:=cK L
 obtain⟨x,d⟩:=ca g
 refine .kn<|.seq<|.block<|.sr<|.mo rfl<|.mo rfl ?_
 refine .bF i m d (λa4=>?_)
 refine .fa rfl<|.q (.loadT rfl)<|.aQ (vz x.t (fc x (aR d)) _) (λv z=>?_)
 subst z
 refine .q .not<|.zn<|.cond rfl (λM=>?_) λM=>?_
 have n:fQ bj no cs=9:=pM f (by rw[p,r,afQ.2 ⟨x,aR d,M⟩];simp)
 refine .sr<|.az rfl<|.ret (bA (aJ (cW (bA (aJ (aP rfl ?_))))))
 ·(refine⟨?_,rfl⟩;rw[n];done)
 refine .skip<|ba<|au<|.region<|.mo rfl<|.ia (i+1) .add<|.ag rfl<|.nil ?_
 ·exact bp (i+1) ⟨g,by rw[afX,d,af6,Q];simp;simpa using M⟩ (by omega) kE.c.c.c.c rH
 have o:i=cs.length:=by have:=bI L;omega
 subst o
 rw[afE]at Q
 have V:∀c∈cs,eQ c.t=true:=λc n=>by
  have:=agc.1 Q c n
  simpa using this
 refine .exit<|bD<|bG<|bE<|au<|.seq<|.sr<|.az rfl<|.block<|.loop (X:=Nat) (λi=>i<=cs.length/\((cs.take i).map (·.t)).Nodup) (λi=>[(0,.slice D bj.length B),(1,.slice E no.length C),(2,.slice F cs.length A),(10,iN i)]) (λ_=>[]) (λi=>cs.length-i) 0 ⟨afA _,by simp⟩ kE.c.c.c.c rH ?_
 rintro i ⟨T,S⟩
 refine .seq<|.sr<|.mo rfl<|.mo rfl<|.q (.bK m)<|.q .lss<|.zn<|.cond rfl (λN=>?_) λN=>?_
 have g:i<cs.length:=cK N
 obtain⟨x,d⟩:=ca g
 have a1:(cs.take (i+1)).map (·.t)=(cs.take i).map (·.t)++[x.t]:=by rw[afX,d,Option.toList_some,afC];rfl
 refine .kn<|.seq<|.block<|.sr<|.az rfl<|.block<|.loop (X:=Nat) (λk=>k<=i/\x.t∉(cs.take k).map (·.t)) (λk=>[(0,.slice D bj.length B),(1,.slice E no.length C),(2,.slice F cs.length A),(10,iN i),(11,iN k)]) (λ_=>[]) (λk=>i-k) 0 ⟨afA _,by simp⟩ kE.c.c.c.c.c rH ?_
 rintro k ⟨hk,W⟩
 refine .seq<|.sr<|.mo rfl<|.mo rfl<|.q .lss<|.zn<|.cond rfl (λO=>?_) λO=>?_
 have Z:k<i:=cK O
 obtain⟨y,U⟩:∃x,cs[k]? =some x:=⟨_,bk (by omega)⟩
 refine .kn<|.seq<|.block<|.seq<|.fX mixed (by kernel_rfl)<|.mo rfl<|.mo rfl ?_
 refine .bF i m d (λa5=>?_)
 refine .fa rfl<|.q (.loadT rfl) ?_
 refine .mo rfl<|.mo rfl ?_
 refine .bF k m U (λa6=>?_)
 refine .fa rfl<|.q (.loadT rfl) ?_
 refine .q (.nq rfl rfl (aw.kinds x.t) (aw.kinds y.t)) ?_
 rw[show eI (List.take 7 (List.drop 1 x.enc)) (List.take 7 (List.drop 1 y.enc))=decide (x.t=y.t)from aw.eq x.t y.t]
 refine .zn<|.cond rfl (λG=>?_) λG=>?_
 have n:fQ bj no cs=2:=by
  rw[sR f p r V true ?_];rfl
  rw[eq_comm,Bool.not_eq_true',aga]
  intro hn
  have:=List.pairwise_iff_getElem.1 hn k i (by simp;omega) (by simp;omega) Z
  rw[agd,agd,(afP.1 d).2,(afP.1 U).2]at this
  exact this (cL G).symm
 refine .sr<|.az rfl<|.ret (bA (aJ (cW (bA (bA (aJ (cW (bA (aJ (aP rfl ?_))))))))))
 ·(refine⟨?_,rfl⟩;rw[n];done)
 refine .skip<|ba<|au<|.region<|.mo rfl<|.ia (k+1) .add<|.ag rfl<|.nil ?_
 ·exact bp (k+1) ⟨Z,by
   rw[afX,U,Option.toList_some,afC,afL,not_or]
   exact⟨W,by simpa using G⟩⟩ (by omega) kE.c.c.c.c.c rH
 have a0:k=i:=by have:=bI O;omega
 subst a0
 refine .exit<|bD<|bG<|bE<|ba<|au<|.region<|.mo rfl<|.ia (k+1) .add<|.ag rfl<|.nil ?_
 ·exact bp (k+1) ⟨g,by
   rw[a1,List.nodup_append]
   exact⟨S,by simp,λa ha b Y=>by simp only[afJ]at Y;subst Y;exact λe=>W (e▸ha)⟩⟩ (by omega) kE.c.c.c.c rH
 have o:i=cs.length:=by have:=bI N;omega
 subst o
 rw[afE]at S
 refine .exit<|bD<|bG<|bE<|au<|.sr<|.az rfl<|.ret (aP rfl ?_)
 ·(refine⟨?_,rfl⟩;rw[sR f p r V false (by simp[S])];rfl)
end
theorem oN{α:Type}{p:α->Bool}{l:List α}{i:Nat}{x:α}(h:(l.take i).any p=false)(b:l[i]? =some x)(a:p x=false):(l.take (i+1)).any p=false:=by
 rw[afX,b,af6,h]
 simp[a]
theorem AR{L:List bf}{head:Int}{bj no:List aw}{cs:List cz}(h:(bj.any (λt=> !dE L t)||no.any (λt=>dE L t))=true):fj L head bj no cs=13:=by unfold fj;rw[afz h]
theorem P8{L:List bf}{head:Int}{bj no:List aw}{cs:List cz}(a:bj.any (λt=> !dE L t)=false)(b:no.any (λt=>dE L t)=false)(h:cs.any (λc=>c.put&&dE L c.t)=true):fj L head bj no cs=10:=by unfold fj;rw[a,b,afy (by simp),afz h]
theorem P6{L:List bf}{head:Int}{bj no:List aw}{cs:List cz}(a:bj.any (λt=> !dE L t)=false)(b:no.any (λt=>dE L t)=false)(d:cs.any (λc=>c.put&&dE L c.t)=false)(h:cs.any (λc=> !c.put&& !dE L c.t)=true):fj L head bj no cs=11:=by unfold fj;rw[a,b,afy (by simp),afy (by rw[d];simp),afz h]
theorem P9{L:List bf}{head:Int}{bj no:List aw}{cs:List cz}(a:bj.any (λt=> !dE L t)=false)(b:no.any (λt=>dE L t)=false)(d:cs.any (λc=>c.put&&dE L c.t)=false)(e:cs.any (λc=> !c.put&& !dE L c.t)=false):fj L head bj no cs=if 4611686018427387903<=head\/4096<L.length+fx cs/\0<fx cs then 8 else 0:=by unfold fj;rw[a,b,afy (by simp),afy (by rw[d];simp),afy (by rw[e];simp)]
theorem OR{R:aA}{b:Nat}{S:cE}{vL:Value}{L:List bf}(h:DV R b S vL L)(a4:L.length<=5000)(vm vn vc:Value)(bj no:List aw)(cs:List cz)(E:RS R 7 aw.enc vm bj)(F:RS R 7 aw.enc vn no)(m:RS R 8 cz.enc vc cs)(a3:cs.length<=1000):
  Spec prog 109 [pT b,vm,vn,vc] R [] λu H'=>u=.int .i64 (fj L S.head bj no cs)/\H'=[]:=by
 have pc:=h.pc
 have a6:=h.rs.ay
 obtain⟨pw,a7,rfl⟩:=h.rs.val
 have a0:=h.rs
 have lm:=E.le
 have ln:=F.le
 have lc:=m.le
 obtain⟨M,J,rfl⟩:=E.val
 obtain⟨N,K,rfl⟩:=F.val
 obtain⟨O,I,rfl⟩:=m.val
 refine Spec.body func109 rfl results109 ntmps109 rfl<|.sr<|.ag rfl<|.zs<|.sr<|.az rfl<|.block<|.loop (X:=Nat) (λi=>i<=bj.length/\(bj.take i).any (λt=> !dE L t)=false) (λi=>[(0,pT b),(1,.slice M bj.length J),(2,.slice N no.length K),(3,.slice O cs.length I),(9,iN i)]) (λ_=>[]) (λi=>bj.length-i) 0 ⟨afA _,by simp⟩ kE.c.c.c.c.c rH ?_
 rintro i ⟨hi,y⟩
 refine .seq<|.sr<|.mo rfl<|.mo rfl<|.q (.bK E)<|.q .lss<|.zn<|.cond rfl (λQ=>?_) λQ=>?_
 have j:i<bj.length:=cK Q
 obtain⟨x,e⟩:=ca j
 refine .kn<|.seq<|.block<|.sr<|.mo rfl<|.mo rfl<|.mo rfl ?_
 refine .bF i E e (λa8=>?_)
 refine .q (.aL rfl)<|.aQ ((h.mono λb o n=>.inl n).find x) (λv s=>?_)
 obtain⟨z,rfl,w⟩:=s
 have k:=w.lt
 refine .q .lss<|.zn<|.cond rfl (λT=>?_) λT=>?_
 have p:fj L S.head bj no cs=13:=AR (by rw[afQ.2 ⟨x,aR e,by rw[<-k];exact T⟩];simp)
 refine .sr<|.az rfl<|.ret (bA (aJ (cW (bA (aJ (aP rfl ?_))))))
 ·(refine⟨?_,rfl⟩;rw[p];done)
 refine .skip<|ba<|au<|.region<|.mo rfl<|.ia (i+1) .add<|.ag rfl<|.nil ?_
 ·exact bp (i+1) ⟨j,oN y e (by rw[<-k];exact T)⟩ (by omega) kE.c.c.c.c.c (aK [])
 have r:i=bj.length:=by have:=bI Q;omega
 subst r
 rw[afE]at y
 refine .exit<|bD<|bG<|bE<|au<|.seq<|.sr<|.az rfl<|.block<|.loop (X:=Nat) (λi=>i<=no.length/\(no.take i).any (λt=>dE L t)=false) (λi=>[(0,pT b),(1,.slice M bj.length J),(2,.slice N no.length K),(3,.slice O cs.length I),(10,iN i)]) (λ_=>[]) (λi=>no.length-i) 0 ⟨afA _,by simp⟩ kE.c.c.c.c.c rH ?_
 rintro i ⟨hi,B⟩
 refine .seq<|.sr<|.mo rfl<|.mo rfl<|.q (.bK F)<|.q .lss<|.zn<|.cond rfl (λU=>?_) λU=>?_
 have j:i<no.length:=cK U
 obtain⟨x,e⟩:=ca j
 refine .kn<|.seq<|.block<|.sr<|.mo rfl<|.mo rfl<|.mo rfl ?_
 refine .bF i F e (λa9=>?_)
 refine .q (.aL rfl)<|.aQ ((h.mono λb o n=>.inl n).find x) (λv s=>?_)
 obtain⟨z,rfl,w⟩:=s
 have k:=w.ge
 refine .q .geq<|.zn<|.cond rfl (λV=>?_) λV=>?_
 have p:fj L S.head bj no cs=13:=AR (by rw[y,afQ.2 ⟨x,aR e,by rw[<-k];exact V⟩];rfl)
 refine .sr<|.az rfl<|.ret (bA (aJ (cW (bA (aJ (aP rfl ?_))))))
 ·(refine⟨?_,rfl⟩;rw[p];done)
 refine .skip<|ba<|au<|.region<|.mo rfl<|.ia (i+1) .add<|.ag rfl<|.nil ?_
 ·exact bp (i+1) ⟨j,oN B e (by rw[<-k];exact V)⟩ (by omega) kE.c.c.c.c.c (aK [])
 have r:i=no.length:=by have:=bI U;omega
 subst r
 rw[afE]at B
 refine .exit<|bD<|bG<|bE<|au<|.seq<|.sr<|.az rfl<|.block<|.loop (X:=Nat) (λi=>i<=cs.length/\(cs.take i).any (λc=>c.put&&dE L c.t)=false) (λi=>[(0,pT b),(1,.slice M bj.length J),(2,.slice N no.length K),(3,.slice O cs.length I),(11,iN i)]) (λ_=>[]) (λi=>cs.length-i) 0 ⟨afA _,by simp⟩ kE.c.c.c.c.c rH ?_
 rintro i ⟨hi,C⟩
 refine .seq<|.sr<|.mo rfl<|.mo rfl<|.q (.bK m)<|.q .lss<|.zn<|.cond rfl (λW=>?_) λW=>?_
 have j:i<cs.length:=cK W
 obtain⟨x,e⟩:=ca j
 refine .kn<|.seq<|.block<|.sr<|.mo rfl<|.mo rfl ?_
 refine .bF i m e (λb0=>?_)
 refine .fa rfl<|.lo rfl<|.mo rfl<|.split (t:=51) rfl (λd=>?_) (λd=>?_)
 refine .gT d<|.mo rfl<|.gT d<|.mo rfl<|.gT d<|.mo rfl<|.gT d ?_
 refine .bF i m e (λb1=>?_)
 refine .gT d<|.fa rfl<|.gT d<|.q (.loadT rfl)<|.gT d<|.aQ ((h.mono λb o n=>.inl n).find x.t) (λv s=>?_)
 obtain⟨z,rfl,w⟩:=s
 have k:=w.ge
 refine .gT d<|.q .geq<|.q (.aU d)<|.zn<|.cond rfl (λY=>?_) λY=>?_
 have p:fj L S.head bj no cs=10:=P8 y B (afQ.2 ⟨x,aR e,by rw[<-k,d];exact Y⟩)
 refine .sr<|.az rfl<|.ret (bA (aJ (cW (bA (aJ (aP rfl ?_))))))
 ·(refine⟨?_,rfl⟩;rw[p];done)
 refine .skip<|ba<|au<|.region<|.mo rfl<|.ia (i+1) .add<|.ag rfl<|.nil ?_
 ·exact bp (i+1) ⟨j,oN C e (by rw[<-k,d];exact Y)⟩ (by omega) kE.c.c.c.c.c (aK [])
 refine .gF d<|.gF d<|.gF d<|.gF d<|.gF d<|.gF d<|.gF d<|.gF d<|.q (.aN d)<|.zn<|.dA<|.skip<|ba<|au<|.region<|.mo rfl<|.ia (i+1) .add<|.ag rfl<|.nil ?_
 ·exact bp (i+1) ⟨j,oN C e (by rw[d];rfl)⟩ (by omega) kE.c.c.c.c.c (aK [])
 have r:i=cs.length:=by have:=bI W;omega
 subst r
 rw[afE]at C
 refine .exit<|bD<|bG<|bE<|au<|.sr<|.mo rfl<|.nc rfl<|.fa rfl<|.lo rfl<|.q (.bK a0)<|.ag rfl<|.zs<|.sr<|.az rfl<|.block<|.loop (X:=Nat) (λi=>i<=cs.length/\(cs.take i).any (λc=> !c.put&& !dE L c.t)=false) (λi=>[(0,pT b),(1,.slice M bj.length J),(2,.slice N no.length K),(3,.slice O cs.length I),(12,.int .i64 ((L.length+fx (cs.take i):Nat):Int)),(13,iN i)]) (λ_=>[]) (λi=>cs.length-i) 0 ⟨afA _,by simp⟩ kE.c.c.c.c.c.c rH ?_
 rintro i ⟨hi,D⟩
 have a5:fx (cs.take i)<=1000:=by unfold fx;exact afO (afS _ _) (by rw[afH];omega)
 refine .seq<|.sr<|.mo rfl<|.mo rfl<|.q (.bK m)<|.q .lss<|.zn<|.cond rfl (λZ=>?_) λZ=>?_
 have j:i<cs.length:=cK Z
 obtain⟨x,e⟩:=ca j
 have H:=A1 e
 refine .kn<|.seq<|.block<|.seq<|.sr<|.mo rfl<|.mo rfl ?_
 refine .bF i m e (λb2=>?_)
 refine .fa rfl<|.lo rfl<|.q .not<|.mo rfl<|.split (t:=78) rfl (λa=>?_) (λa=>?_)
 refine .gT a<|.mo rfl<|.gT a<|.mo rfl<|.gT a<|.mo rfl<|.gT a ?_
 refine .bF i m e (λb3=>?_)
 refine .gT a<|.fa rfl<|.gT a<|.q (.loadT rfl)<|.gT a<|.aQ ((h.mono λb o n=>.inl n).find x.t) (λv s=>?_)
 obtain⟨z,rfl,w⟩:=s
 have k:=w.lt
 refine .gT a<|.q .lss<|.q (.aU a)<|.zn<|.cond rfl (λh8=>?_) λh8=>?_
 have p:fj L S.head bj no cs=11:=P6 y B C (afQ.2 ⟨x,aR e,by rw[<-k,a];exact h8⟩)
 refine .sr<|.az rfl<|.ret (aJ (bA (aJ (cW (bA (aJ (aP rfl ?_)))))))
 ·(refine⟨?_,rfl⟩;rw[p];done)
 refine .kn<|.sr<|.mo rfl<|.mo rfl ?_
 refine .bF i m e (λa2=>?_)
 refine .fa rfl<|.lo rfl<|.zn<|.cond rfl (λl=>?_) λl=>?_
 have A:L.length+fx (cs.take (i+1))=L.length+fx (cs.take i)+1:=by rw[H,afz l];rfl
 refine .region<|.mo rfl<|.ia (L.length+fx (cs.take i)+1) .add<|.ag rfl<|.nil<|ba<|au<|.region<|.mo rfl<|.ia (i+1) .add<|.ag rfl<|.nil ?_
 ·(exfalso;rw[l]at a;cases a;done)
 have A:L.length+fx (cs.take (i+1))=L.length+fx (cs.take i):=by rw[H,afy (by rw[l];simp)];rfl
 refine .skip<|ba<|au<|.region<|.mo rfl<|.ia (i+1) .add<|.ag rfl<|.nil ?_
 ·(refine bp (i+1) ⟨j,oN D e ?_⟩ (by omega) (by simp only[A];exact kE.c.c.c.c.c.c) (aK []);rw[<-k,a];exact h8)
 refine .gF a<|.gF a<|.gF a<|.gF a<|.gF a<|.gF a<|.gF a<|.gF a<|.q (.aN a)<|.zn<|.dA<|.kn<|.sr<|.mo rfl<|.mo rfl ?_
 refine .bF i m e (λa2=>?_)
 refine .fa rfl<|.lo rfl<|.zn<|.cond rfl (λl=>?_) λl=>?_
 have A:L.length+fx (cs.take (i+1))=L.length+fx (cs.take i)+1:=by rw[H,afz l];rfl
 refine .region<|.mo rfl<|.ia (L.length+fx (cs.take i)+1) .add<|.ag rfl<|.nil<|ba<|au<|.region<|.mo rfl<|.ia (i+1) .add<|.ag rfl<|.nil ?_
 ·(refine bp (i+1) ⟨j,oN D e ?_⟩ (by omega) (by simp only[A];exact kE.c.c.c.c.c.c) (aK []);rw[l];rfl)
 have A:L.length+fx (cs.take (i+1))=L.length+fx (cs.take i):=by rw[H,afy (by rw[l];simp)];rfl
 refine .skip<|ba<|au<|.region<|.mo rfl<|.ia (i+1) .add<|.ag rfl<|.nil ?_
 ·(exfalso;rw[l]at a;cases a;done)
 have r:i=cs.length:=by have:=bI Z;omega
 subst r
 rw[afE]at D
 rw[afE]
 have G:=P9 (head:=S.head) y B C D
 refine .exit<|bD<|bG<|bE<|au<|.seq<|.sr<|.mo rfl<|.nc rfl<|.fa rfl<|.lo rfl<|.q .geq<|.mo rfl<|.split (t:=100) rfl (λg=>?_) (λg=>?_)
 refine .gF g<|.gF g<|.gF g<|.dB rfl<|.dB rfl<|.dB rfl<|.dB rfl<|.dB rfl<|.dB rfl<|.dB rfl<|.gF g<|.q (.aU g)<|.zn<|.gL<|.sr<|.az rfl<|.ret (aJ (aP rfl ?_))
 ·(refine⟨?_,rfl⟩;rw[G];congr 1;split<;>first|rfl|(exfalso;simp_all;done)|(exfalso;simp_all;omega))
 refine .gT g<|.mo rfl<|.gT g<|.q .gtr<|.gT g<|.mo rfl<|.split (t:=103) rfl (λf=>?_) (λf=>?_)
 refine .gT f<|.mo rfl<|.gT f<|.mo rfl<|.gT f<|.nc rfl<|.gT f<|.fa rfl<|.gT f<|.lo rfl<|.gT f<|.q (.bK a0)<|.gT f<|.q .gtr<|.gT g<|.q (.aU f)<|.q (.aN g)<|.zn<|.cond rfl (λa1=>?_) λa1=>?_
 refine .sr<|.az rfl<|.ret (aJ (aP rfl ?_))
 ·(refine⟨?_,rfl⟩;rw[G];congr 1;split<;>first|rfl|(exfalso;simp_all;done)|(exfalso;simp_all;omega))
 refine .kn<|.sr<|.az rfl<|.ret (aP rfl ?_)
 ·(refine⟨?_,rfl⟩;rw[G];congr 1;split<;>first|rfl|(exfalso;simp_all;done)|(exfalso;simp_all;omega))
 refine .gF f<|.gF f<|.gF f<|.gF f<|.gF f<|.gF f<|.gF f<|.gT g<|.q (.aN f)<|.q (.aN g)<|.zn<|.dA<|.kn<|.sr<|.az rfl<|.ret (aP rfl ?_)
 ·(refine⟨?_,rfl⟩;rw[G];congr 1;split<;>first|rfl|(exfalso;simp_all;done)|(exfalso;simp_all;omega))
def DO(b:Nat)(S:cE)(T:av):Prop:=∃vL L TL,T=(b,.cells [vL,.int .u64 S.head,.int .u64 S.dV].toArray 103 (0,0))::TL/\OS 226 9 bf.enc vL L TL/\RL S L
theorem DO.view{b:Nat}{S:cE}{T:av}{R:aA}(h:DO b S T)(a:∀p∈T,R p.1 p.2):∃vL L,DV R b S vL L/\RL S L:=by
 obtain⟨vL,L,f,rfl,c,d⟩:=h
 exact⟨vL,L,⟨PC.of (E:=103) (fr:=(0,0)) (a (b,_) (by simp)),c.rs λp e=>a p (by simp[e])⟩,d⟩
theorem RL.len{S:cE}(a:eH S){L:List bf}(h:RL S L):L.length<=4096:=by rw[h.pm.length_eq];exact a.len
theorem PD(b:Nat)(S:cE)(T:av)(h:DO b S T)(g:eH S)(vm vn vc:Value)(bj no:List aw)(cs:List cz)(R:aA)(D:RS R 7 aw.enc vm bj)(F:RS R 7 aw.enc vn no)(a:RS R 8 cz.enc vc cs)(fm:∀t∈bj,t.fits)(fn:∀t∈no,t.fits)(fc:∀c∈cs,c.t.fits)(a5:cs.length<=1000):
  Spec prog 58 [pT b,vm,vn,vc] R [T] λu H'=>∃T',H'=[T']/\u=.tuple [.int .u64 (if fY S bj no cs=0 then S.head+1 else 0),.int .i64 (fY S bj no cs)].toArray/\DO b (fy S bj no cs) T':=by
 have a0:=g.h0
 have a1:=g.h1
 have a2:=g.h2
 have h0:=h
 obtain⟨pm,km,rfl⟩:=D.val
 obtain⟨pn,kn,rfl⟩:=F.val
 obtain⟨pv,kc,rfl⟩:=a.val
 obtain⟨c1,L0,a3,W⟩:=h.view (R:=Rx R [T]) λp hp=>.inr (by simp[hp])
 have b2:=W.len g
 refine Spec.body func58 rfl results58 ntmps58 rfl<|.sr<|.ag rfl<|.ag rfl<|.z<|.mo rfl<|.mo rfl<|.mo rfl<|.aQ (OL _ _ _ bj no cs _ D.rx F.rx a.rx fm fn fc) (λv n=>?_)
 subst n
 refine .ag rfl<|.zs<|.sr<|.mo rfl<|.q .cr<|.zn ?_
 refine bu.cut (X:=Unit) (λ_=>True) (λ_=>[(0,pT b),(1,.slice pm bj.length km),(2,.slice pn no.length kn),(3,.slice pv cs.length kc),(10,.int .i64 (fY S bj no cs))]) (λ_=>[T]) ?_ ?_
 refine .cond rfl (λw=>?_) λw=>?_
 have G:fQ bj no cs=0:=by simpa using w
 have s:fj L0 S.head bj no cs=fY S bj no cs:=by rw[sS G,P7 W.pm]
 refine .region<|.mo rfl<|.mo rfl<|.mo rfl<|.mo rfl<|.aQ (OR a3 (by omega) _ _ _ bj no cs D.rx F.rx a.rx a5) (λv n=>?_)
 subst n
 refine .ag rfl<|.nil ?_
 ·exact aD () afF (by rw[<-s];exact kE.c.c.c.c.c) rH
 have G:fQ bj no cs≠0:=by simpa using w
 have s:fQ bj no cs=fY S bj no cs:=by rw[vM G]
 refine .skip ?_
 ·exact aD () afF (by rw[<-s];exact kE.c.c.c.c.c) rH
 intro x hx
 skip
 refine au<|.seq<|.sr<|.mo rfl<|.q .de<|.zn<|.cond rfl (λA=>?_) λA=>?_
 have f:fY S bj no cs≠0:=by simpa using A
 refine .sr<|.mo rfl<|.ag rfl<|.az rfl<|.ret (aJ (br _ (.two (.tmp rfl) (.tmp rfl)) (.one [0] _) ?_))
 ·exact⟨T,by simp[take],by rw[afy f],by rw[pP f];exact h0⟩
 have f:fY S bj no cs=0:=by simpa using A
 have K:=sU f
 have b4:=K.head
 obtain⟨vL,L,O,rfl,V,U⟩:=h
 have b6:=V.ay
 refine .kn<|.sr<|.sub (H':=[bl b [vL,.int .u64 S.head,.int .u64 S.dV] 103,O]) (bz.fH (by simp))<|.mo rfl<|.mo rfl<|.nc rfl<|.fa rfl<|.lo rfl<|.q (.u64 (S.head+1) .add ⟨rfl,by omega,by omega⟩)<|.nc rfl<|.fa rfl<|.ek rfl rfl<|.zs<|.sr<|.az rfl<|.block<|.loop (X:=Nat×Value×List bf×av) (λy=>y.1<=cs.length/\OS 226 9 bf.enc y.2.1 y.2.2.1 y.2.2.2/\RL ⟨(cs.take y.1).foldl (fi (S.head+1)) S.rows,S.head+1,S.dV⟩ y.2.2.1) (λy=>[(0,pT b),(3,.slice pv cs.length kc),(11,iN y.1)]) (λy=>[bl b [y.2.1,.int .u64 (S.head+1),.int .u64 S.dV] 103,y.2.2.2]) (λy=>cs.length-y.1) (0,vL,L,O) ⟨afA _,V,⟨U.pm,U.st⟩⟩ kE.c.c.c rH ?_
 rintro⟨i,M,N,Q⟩ ⟨hi,e,o⟩
 simp only at hi e o⊢
 have b5:=e.ay
 have b3:=o.len (g.fold (K.take i))
 have lc:=a.le
 refine .seq<|.sr<|.mo rfl<|.mo rfl<|.q (.bK a)<|.q .lss<|.zn<|.cond rfl (λB=>?_) λB=>?_
 have H:i<cs.length:=cK B
 obtain⟨c,l⟩:=ca H
 have c0:=a.pc l
 obtain⟨m,a6⟩:=RL.next g K l o
 refine .kn<|.seq<|.block<|.sr<|.mo rfl<|.mo rfl ?_
 refine .bF i a l (λb7=>?_)
 refine .fa rfl<|.lo rfl<|.zn<|.cond rfl (λC=>?_) λC=>?_
 refine .dz [18] mixed<|.tO 0 rfl .move<|.tO 1 rfl .move<|.tO 2 rfl (.nilCheck rfl)<|.tO 3 rfl (.fieldAddr rfl)<|.tO 4 rfl (.cI rfl)<|.tO 5 rfl .move<|.tO 6 rfl .move<|.tO 7 rfl (.bF i a l rfl rfl rfl)<|.tO 8 rfl (.fieldAddr rfl)<|.tO 9 rfl (.loadT rfl)<|.tO 10 rfl .move<|.tO 11 rfl (.nilCheck rfl)<|.tO 12 rfl (.fieldAddr rfl)<|.tO 13 rfl (.cI rfl)<|.tO 14 rfl .dw<|.sT 15 rfl<|.dx (OY _ N ⟨c.t,S.head+1,0⟩ _ e.rx (by omega)) (λu Tn hu=>?_)
 have iu:=hu.ay
 refine .nil<|Next.sub<|.tO 16 rfl (.nilCheck rfl)<|.tO 17 rfl (.fieldAddr rfl)<|.sT 18 rfl<|.ek rfl rfl<|.nil<|Next.mod rfl<|RA.nil (by kernel_rfl)<|ba<|au<|.region<|.mo rfl<|.ia (i+1) .add<|.ag rfl<|.nil ?_
 ·exact bp (i+1,u,_,Tn) ⟨H,by simp only;exact hu,by simp only;unfold pD at m;rw[afz C]at m;exact m⟩ (by simp only;omega) (((kE.d rfl).d rfl).d rfl) (aK [1,0])
 obtain⟨j,x,r,J,b0,b1⟩:=a6 C
 refine .sr<|.mo rfl<|.mo rfl<|.mo rfl ?_
 refine .bF i a l (λb8=>?_)
 refine .fa rfl<|.q (.loadT rfl)<|.aQ (DV.find (S:=⟨[],S.head+1,S.dV⟩) ⟨PC.of (E:=103) (fr:=(0,0)) (.inr (by simp)),e.rx⟩ c.t) (λv n=>?_)
 obtain⟨z,rfl,hz⟩:=n
 obtain rfl:z=(j:Int):=by
  rcases hz with⟨k,y,rfl,hy,Y,a9⟩|⟨_,I⟩
  ·rcases Nat.lt_trichotomy k j with h9|h9|h9
   ·rw[b0 k y h9 hy]at Y;cases Y
   ·rw[h9]
   ·rw[a9 j x h9 r]at J;cases J
  ·unfold dE at I
   rw[afQ.2 ⟨x,aR r,J⟩]at I
   cases I
 refine .az rfl<|.dY 11 mixed (by kernel_rfl) ?_
 conv=>arg 6;dsimp only[List.take]
 refine .mo rfl<|.nc rfl<|.fa rfl<|.lo rfl<|.mo rfl<|.mo rfl<|.nc rfl<|.fa rfl<|.lo rfl ?_
 refine .bh j e r (λb9=>?_)
 refine .fa rfl<|.nil ?_
 refine .qV (k:=8) (cs:=[.int .u64 (S.head+1)]) (z':=⟨x.t,x.fr,S.head+1⟩) j e r rfl rfl rfl rfl rfl (by simp[ay]) rfl (by simp) (λTd a4=>?_)
 refine .nil<|ba<|au<|.region<|.mo rfl<|.ia (i+1) .add<|.ag rfl<|.nil ?_
 ·exact bp (i+1,M,_,Td) ⟨H,by simp only;exact a4,by simp only;rw[b1]at m;exact m⟩ (by simp only;omega) (((kE.d rfl).d rfl).d rfl) (aK [0,0])
 refine .exit<|bD<|bG<|bE<|au<|.sr<|.mo rfl<|.nc rfl<|.fa rfl<|.lo rfl<|.ag rfl<|.az rfl<|.ret (br _ (.two (.tmp rfl) (.tmp rfl)) ((bz.fH (H':=[(b,.cells [M,.int .u64 (S.head+1),.int .u64 S.dV].toArray 103 (0,0))::Q]) (by simp))) ?_)
 ·have a8:i=cs.length:=by have:=bI B;omega
  subst a8
  have a7:=o.write f
  have Z:(fy S bj no cs).head=S.head+1/\(fy S bj no cs).dV=S.dV:=by unfold fy;rw[afz f];exact⟨rfl,rfl⟩
  exact⟨_,rfl,by rw[f];rfl,M,N,Q,by rw[Z.1,Z.2],e,a7⟩
structure kl where
 c:bO
 vw:Value
 calls:List eW
def kl.enc(w:kl):List Value:=[w.c.vs,w.c.vc,w.vw]
structure kl.is(R:aA)(w:kl):Prop where
 c:w.c.is R
 rs:RS R 12 eW.enc w.vw w.calls
 all:∀d∈w.calls,d.is R
theorem Bs{S:cE}(d:eH S)(bj no:List aw)(cs:List cz):(fy S bj no cs).rows.length<=S.rows.length+32:=by
 by_cases h:fY S bj no cs=0
 ·rw[vY d h]
  have b:fQ bj no cs=0:=by
   unfold fY at h
   split at h
   ·rename_i a;exact absurd h a
   ·rename_i a;simpa using a
  have e:cs.length<=32:=by
   unfold fQ at b
   split at b
   ·cases b
   ·omega
  simp only[af8,afB,news]
  have:=afS (λc:cz=>c.put) cs
  omega
 ·rw[pP h];omega
theorem eH.new:eH ⟨[],0,0⟩:=⟨λx a=>(by cases a),List.Pairwise.nil,by simp,Int.le_refl _,Int.le_refl _,by decide⟩
theorem Mx(c:Cf):nt [] 0 c=(c.numbers isWord dd).1:=by
 unfold nt
 simp only[List.getLast?_nil,Option.map_none,Option.getD_none,Bool.false_eq_true,if_false,List.length_nil]
 by_cases h:(c.numbers isWord dd).1=0
 ·rw[afy (by rw[h];simp),h];rfl
 ·rw[afz h]
def Bx(R:aA)(w:kl)(u:Value)(H:aM):Prop:=∃Tc Th Ts Tx hb g x e S,∃c:bO,H=[Tc,Th,Ts,Tx]/\u=.tuple [pT hb,pT g,.agg c.enc.toArray,pT x,.bool true].toArray/\
 c.is (λb o=>R b o\/(b,o)∈Tc)/\c.plain=jT w.c.plain/\((jT w.c.plain).numbers isWord dd).1=0/\cZ.rev e=0/\(cZ.c e).plain=jT w.c.plain/\HI hb [e] 0 Th/\SI g S Ts/\eH S/\DO x S Tx/\S.rows.length<=512
theorem Ni(w:kl)(R:aA)(h:w.is R):Spec prog 14 [.agg w.enc.toArray] R [] λu H'=>Bx R w u H'\/
  ∃T c,∃x:Nat,H'=[T]/\u=.tuple [.pointer none,.pointer none,.agg (bO.enc c).toArray,pT x,.bool false].toArray/\c.is (λb o=>R b o\/(b,o)∈T)/\c.plain=jT w.c.plain/\((jT w.c.plain).numbers isWord dd).1≠0:=by
 obtain⟨c,vw,a4⟩:=w
 have I:=h.c
 have M:=h.rs
 have Z:=h.all
 simp only at I M Z⊢
 have i1:One c.vs:=RS.ay I.ss
 have i2:One c.vc:=RS.ay I.sc
 have i3:=M.ay
 have a9:=Mx (jT c.plain)
 refine Spec.body func14 rfl results14 ntmps14 rfl<|.sr ?_
 refine .cg rfl (λb1=>?_)
 refine .ag rfl<|.ag rfl ?_
 refine .cq (λb4=>?_)
 refine .ag rfl<|.ag rfl<|.z<|.fa rfl<|.q (.loadT rfl)<|.dx ((yj c R I).weaken dt) (λu Tc a=>?_)
 obtain⟨n,rfl,r,J⟩:=a
 have ic:cM n.enc:=⟨r.dl⟩
 have c7:One n.vs:=RS.ay r.ss
 have c8:One n.vc:=RS.ay r.sc
 refine .cq (λb7=>?_)
 refine .bZ rfl rfl<|.z<|.q (.aL rfl)<|.dx ((Pd n _ r).weaken λb o j=>j.elim .inl λj=>.inr (by simp[j])) (λu Tn a=>?_)
 obtain⟨wn,d3,rfl,a7,c4⟩:=a
 rw[J]
 have c9:One wn:=a7.rs.ay
 refine .mo rfl<|.q .extract<|.q .extract<|.ag rfl<|.ag rfl<|.z<|.dx (MA _) (λu Th a=>?_)
 obtain⟨j,rfl,hH⟩:=a
 refine .dx (Qh _) (λu A a=>?_)
 obtain⟨g,rfl,v⟩:=a
 refine .q .dw ?_
 refine .cg rfl (λD=>?_)
 refine .ag rfl<|.ag rfl<|.ag rfl<|.zs<|.sr<|.mo rfl<|.q .de<|.mo rfl<|.split (t:=29) rfl (λk=>?_) (λk=>?_)
 have b9:((jT c.plain).numbers isWord dd).1≠0:=by simpa using k
 refine .gF k<|.gF k<|.gF k<|.gF k<|.q (.aU k)<|.zn<|.gL<|.seq<|.dz [4] mixed<|.tO 0 rfl (.aL rfl)<|.tK 1 rfl .move<|.tO 2 rfl .assign<|.tO 3 rfl .assign<|.sT 4 rfl<|.bZ rfl rfl<|.nil<|Next.mod rfl<|.tK 5 rfl .assign<|.tK 6 rfl .assign<|RA.nil (by kernel_rfl)<|au ?_
 refine .ret (aJ (br _ (.uj (.tmp rfl) (.tmp rfl) (.iU rfl rfl) (.tmp rfl) (.tmp rfl)) (.one [5] _) ?_))
 ·exact .inr ⟨_,n,_,rfl,rfl,r.mono λb o j=>j.elim .inl λj=>.inr (by simp[take,bN,j]),J,b9⟩
 have O:((jT c.plain).numbers isWord dd).1=0:=by simpa using k
 refine .gT k<|.mo rfl<|.gT k<|.q (.aL rfl)<|.gT k<|.tF (yK j [] 0 Th hH (by simp) 0 n _ (r.mono λb o j=>j.elim .inl λj=>.inr (by simp[j]))) (λu a1 a=>?_)
 rw[J,a9]at a
 obtain⟨rfl,a5,c0⟩:=a
 refine .gT k<|.q .de<|.q (.aN k)<|.zn<|.cond rfl (λL=>?_) λL=>?_
 refine .seq<|.dz [4] mixed<|.tO 0 rfl (.aL rfl)<|.tK 1 rfl .move<|.tO 2 rfl .assign<|.tO 3 rfl .assign<|.sT 4 rfl<|.bZ rfl rfl<|.nil<|Next.mod rfl<|.tK 5 rfl .assign<|.tK 6 rfl .assign<|RA.nil (by kernel_rfl)<|au ?_
 refine .ret (aJ (br _ (.uj (.tmp rfl) (.tmp rfl) (.iU rfl rfl) (.tmp rfl) (.tmp rfl)) (.one [5] _) ?_))
 ·exfalso
  rw[O]at L
  simp at L
 obtain⟨e,b6,b5,Y⟩:=a5 O
 rw[afN]at Y
 refine .kn<|.sr<|.fa rfl<|.lo rfl<|.dx (yi _ a4 16 (by omega) _ R M.rx Z) (λu a0 a=>?_)
 obtain⟨F,l,b3,b2⟩:=a
 have c6:=l.ay
 have c3:F.length<=16:=by rw[b2];exact Nat.min_le_right _ _
 refine .ag rfl<|.zs<|.sr<|.az rfl<|.block<|.cX [(4,_),(7,_),(10,_),(11,_),(12,_),(13,_)] (X:=Nat×cE×av×av) (λy=>y.1<=F.length/\SI g y.2.1 y.2.2.1/\eH y.2.1/\DO D y.2.1 y.2.2.2/\y.2.1.rows.length<=32*y.1) (λy E=>(14,iN y.1)::E) (λy G=>a0::y.2.2.2::y.2.2.1::G) (λy=>F.length-y.1) (0,⟨[],0,0⟩,A,bl D [sZ,.int .u64 0,.int .u64 0] 103) ⟨afA _,v,eH.new,⟨_,[],[],rfl,OS.nil,RL.new⟩,by simp⟩ kE.c.c.c.c.c.c.c rH ?_
 rintro⟨i,S,A,K⟩ ⟨hi,v,p,H,b8⟩
 simp only at hi v p H b8⊢
 refine .seq<|.sr<|.mo rfl<|.mo rfl<|.q (.eR l)<|.q .lss<|.zn<|.cond rfl (λW=>?_) λW=>?_
 have N:i<F.length:=cK W
 obtain⟨d,m⟩:=ca N
 obtain⟨f,c1,c2,b0⟩:=b3 d (aR m)
 obtain⟨dk,U,V,Q,df,dr,B,C,s⟩:=d
 have c5:=Bs p B C s
 have d0:One U:=RS.ay f.hm
 have d1:One V:=RS.ay f.hn
 have d2:One Q:=RS.ay f.hc
 refine .kn<|.seq<|.block<|.sr<|.mo rfl<|.mo rfl ?_
 refine .bh i l m (λd4=>?_)
 refine .fa rfl<|.lo rfl<|.q .cr<|.zn<|.cond rfl (λh3=>?_) λh3=>?_
 refine .seq<|.dY 16 mixed (by kernel_rfl) ?_
 conv=>arg 6;dsimp only[List.take]
 refine .mo rfl<|.mo rfl<|.mo rfl ?_
 refine .bh i l m (λd5=>?_)
 refine .fa rfl<|.lo rfl<|.mo rfl<|.mo rfl ?_
 refine .bh i l m (λd6=>?_)
 refine .fa rfl<|.lo rfl<|.mo rfl<|.mo rfl ?_
 refine .bh i l m (λd7=>?_)
 refine .fa rfl<|.lo rfl<|.nil<|.dT (Bt g S A v p U V Q B C s _ f.hm f.hn f.hc f.fm f.fn f.fc) (λu a2 a=>?_)
 obtain⟨rfl,a8⟩:=a
 refine .zn<|.dY 16 mixed (by kernel_rfl) ?_
 conv=>arg 6;dsimp only[List.take]
 refine .mo rfl<|.mo rfl<|.mo rfl ?_
 refine .bh i l m (λd8=>?_)
 refine .fa rfl<|.lo rfl<|.mo rfl<|.mo rfl ?_
 refine .bh i l m (λd9=>?_)
 refine .fa rfl<|.lo rfl<|.mo rfl<|.mo rfl ?_
 refine .bh i l m (λe0=>?_)
 refine .fa rfl<|.lo rfl<|.nil<|.dT (PD D S K H p U V Q B C s _ f.hm f.hn f.hc f.fm f.fn f.fc (by have h9:s.length<=34:=b0;omega)) (λu a3 a=>?_)
 obtain⟨rfl,a6⟩:=a
 refine .nil<|ba<|au<|.region<|.mo rfl<|.ia (i+1) .add<|.ag rfl<|.nil ?_
 ·exact bp (i+1,fy S B C s,a2,a3) ⟨N,a8,p.write B C s,a6,by simp only;omega⟩ (by simp only;omega) kE.c.c.c.c.c.c.c rH
 refine .skip<|ba<|au<|.region<|.mo rfl<|.ia (i+1) .add<|.ag rfl<|.nil ?_
 ·exact bp (i+1,S,A,K) ⟨N,v,p,H,by simp only;omega⟩ (by simp only;omega) kE.c.c.c.c.c.c.c rH
 refine .exit<|bD<|bG<|bE<|au<|.seq<|.dz [6] mixed<|.tO 0 rfl .move<|.tO 1 rfl .move<|.tO 2 rfl (.aL rfl)<|.tK 3 rfl .move<|.tO 4 rfl .assign<|.tO 5 rfl .assign<|.sT 6 rfl<|.bZ rfl rfl<|.nil<|Next.mod rfl<|.tK 7 rfl .assign<|.tK 8 rfl .assign<|RA.nil (by kernel_rfl)<|au ?_
 refine .ret (br _ (.uj (.tmp rfl) (.tmp rfl) (.iU rfl rfl) (.tmp rfl) (.tmp rfl)) (aK [6,3,2,1]) ?_)
 ·exact .inl ⟨Tc,a1,A,K,j,g,D,e,S,n,rfl,rfl,r,J,O,b6,b5,Y,v,p,H,by omega⟩
abbrev kK(n:Nat):Value:=iN n
def mm(c:Cf)(num:List Nat):List (Ty×Nat):=(c.all.map fw).zip num
theorem N2(c:Cf)(num:List Nat)(a:num.length=c.all.length)(t:Ty):(cG t (mm c num)).getD 0=match bV c.all t with|none=>0|some i=>num.getD i 0:=by
 unfold mm bV
 generalize c.all=A at *
 induction A generalizing num with
 |nil=>simp[cG]
 |cons x A ih=>
  cases num with
  |nil=>simp at a
  |cons n num=>
   have:=ih num (by simpa using a)
   rw[af0,List.zip_cons_cons,cG,agf]
   by_cases e:t=fw x
   ·subst e;simp
   ·rw[afy e,this]
    have b:decide (fw x=t)=false:=af3 λh=>e h.symm
    rw[b]
    cases List.findIdx? (λx=>decide (fw x=t)) A with
    |none=>rfl
    |some i=>rfl
theorem uV(c:bO)(R:aA)(h:c.is R)(hu:c.plain.dN)(w:Value)(J:List fR)(num:List Nat)(M:NN R w J)(a6:J.map (·.2)=rows c.plain.aV num)(O:num.length=c.plain.all.length):
  Spec prog 81 [.agg c.enc.toArray,w] R [] λu H'=>∃T,H'=[T]/\MS mg kK u (mm c.plain num) T:=by
 have I:=h.ss
 have c1:=I.le
 have a2:=h.all
 have a8:=M.rs
 have a7:=M.all
 have b5:=pR c.plain
 have b4:c.plain.aV.length=c.aV.length:=by unfold bO.plain;simp
 have W:∀(i:Nat) (s:cF),c.aV[i]? =some s->c.plain.aV[i]? =some s.plain:=λi s d=>pC d
 have b6:=λ(p:gu) (s:cF) (r:cm)=>pz (c:=c) (p:=p) (s:=s) (r:=r)
 have a4:∀i k,c.ix (i,k)=cO c.plain.aV i+k:=λ_ _=>rfl
 have b8:(c.plain.all.map fw).Nodup:=hu.2.1
 have C:mm c.plain num=(c.plain.all.map fw).zip num:=rfl
 generalize hA:c.plain.all=A at *
 generalize hQ:mm c.plain num=Q at *
 have a1:Q.length=A.length:=by rw[C];simp[O]
 have a0:Q.map (·.1)=A.map fw:=by rw[C];exact List.map_fst_zip (by simp[O])
 have b3:∀i s,c.aV[i]? =some s->∃v,J[i]? =some (v,(num.drop (cO c.plain.aV i)).take s.bS.length):=λi s d=>by
  have f:=pH (n:=num) (W i s d)
  rw[<-a6,afG,show s.plain.bS.length=s.bS.length by simp[cF.plain]]at f
  obtain⟨⟨v,r⟩,g,K⟩:=Option.map_eq_some_iff.1 f
  exact⟨v,by rw[g];simp only at K;rw[K]⟩
 generalize o:cO c.plain.aV=of at *
 have a9:of 0=0:=by rw[<-o];cases c.plain.aV<;>rfl
 refine Spec.body func81 rfl results81 ntmps81 rfl<|.sr ?_
 refine .cg rfl (λb2=>?_)
 refine .ag rfl<|.z ?_
 refine .makeMap (λm=>?_)
 refine .ag rfl<|.zs<|.sr<|.fa rfl<|.lo rfl<|.q (.bK I)<|.mo rfl<|.zn<|.block<|.cX [(1,_),(5,_),(12,_),(13,_)] (X:=Nat×av) (λy=>y.1<=c.aV.length/\MS mg kK (.map (some m)) (Q.take (of y.1)) y.2) (λy E=>(14,iN y.1)::E) (λy G=>y.2::G) (λy=>c.aV.length-y.1) (0,[(m,.map #[] 0)]) ⟨afA _,by rw[a9];exact MS.nil⟩ kE.c.c.c.c.c rH ?_
 rintro⟨i,T⟩ ⟨hi,b⟩
 simp only at hi b⊢
 refine .sr<|.q .lss<|.zs<|.cond rfl (λf=>?_) λf=>?_
 have S:i<c.aV.length:=cK f
 obtain⟨⟨j,l,a⟩,d⟩:=ca S
 have H:=a2 _ (aR d)
 have F:RS R 3 cm.enc l a:=H.rs
 have c2:=F.le
 have c4:cM (cF.enc ⟨j,l,a⟩):=⟨H.dl⟩
 have V:=pA (W i _ d)
 rw[o,show(cF.plain ⟨j,l,a⟩).bS.length=a.length by simp[cF.plain]]at V
 obtain⟨vr,B⟩:=b3 i _ d
 simp only at B
 have Y:=a7 _ (aR B)
 simp only at Y
 refine .kn<|.seq<|.block<|.sr<|.mo rfl ?_
 refine .bF i I d (λc5=>?_)
 refine .q (.aL rfl) ?_
 refine .cq (λb7=>?_)
 refine .ag rfl<|.bZ rfl rfl<|.z<|.fa rfl<|.lo rfl<|.q (.bK F)<|.mo rfl<|.zn<|.block<|.cX [(1,_),(5,_),(6,_),(7,_),(12,_),(13,_),(14,_),(20,_),(21,_)] (X:=Nat×av) (λy=>y.1<=a.length/\MS mg kK (.map (some m)) (Q.take (of i+y.1)) y.2) (λy E=>(22,iN y.1)::E) (G:=[bl b2 c.enc 25]) (λy G=>bl b7 (cF.enc ⟨j,l,a⟩) 164::y.2::G) (λy=>a.length-y.1) (0,T) ⟨afA _,b⟩ kE.c.c.c.c.c.c.c.c.c.c rH ?_
 rintro⟨k,T⟩ ⟨hk,b⟩
 simp only at hk b⊢
 refine .sr<|.q .lss<|.zs<|.cond rfl (λg=>?_) λg=>?_
 have x:k<a.length:=cK g
 obtain⟨⟨vt,vn,r⟩,D⟩:=ca x
 have b0:=H.all _ (aR D)
 have c3:cM (cm.enc ⟨vt,vn,r⟩):=⟨b0.dl⟩
 have t:=b6 (i,k) _ _ d D
 rw[a4]at t
 have c0:of i+k<A.length:=(afP.1 t).1
 obtain⟨n,U⟩:∃n,num[of i+k]? =some n:=⟨_,bk (by omega)⟩
 have b1:((num.drop (of i)).take a.length)[k]? =some n:=by rw[List.getElem?_take_of_lt x,List.getElem?_drop];exact U
 have N:Q[of i+k]? =some (⟨j,r.name⟩,n):=by
  rw[C,List.getElem?_zip_eq_some]
  exact⟨by rw[afG,t];rfl,U⟩
 refine .kn<|.seq<|.block<|.sr<|.mo rfl ?_
 refine .bF k F D (λc6=>?_)
 refine .q (.aL rfl) ?_
 refine .cq (λb9=>?_)
 refine .ag rfl<|.bZ rfl rfl<|.zn<|.dY 13 mixed (by kernel_rfl) ?_
 conv=>arg 6;dsimp only[List.take]
 refine .mo rfl<|.fa rfl<|.lo rfl<|.fa rfl<|.lo rfl ?_
 refine .q .dw ?_
 refine .mo rfl<|.mo rfl ?_
 refine .bF i a8 B (λc7=>?_)
 refine .lo rfl<|.mo rfl ?_
 refine .bF k Y b1 (λc8=>?_)
 refine .lo rfl<|.nil<|.update (key:=(⟨j,r.name⟩:Ty)) (u:=n) b rfl rfl rfl (λZ L _=>?_)
 rw[mM (λhm=>by
  obtain⟨q,hq,e⟩:=af5.1 hm
  rw[afB,afH]at hq
  rw[agd,List.getElem_take]at e
  have f:(Q.map (·.1))[of i+k]? =some ⟨j,r.name⟩:=by rw[afG,N];rfl
  have g:(Q.map (·.1))[q]? =some ⟨j,r.name⟩:=by rw[afG,bk (by omega),Option.map_some,e]
  exact oq (show q<of i+k by omega) f g rfl (by rw[a0];exact b8)), <-eo N]at L
 refine .nil<|ba<|au<|.region<|.ia (k+1) .add<|.mo rfl<|.nil ?_
 ·exact bp (k+1,Z) ⟨x,L⟩ (by simp only;omega) kE.c.c.c.c.c.c.c.c.c.c (aK [1,1,1])
 have a5:k=a.length:=by have:=bI g;omega
 rw[a5, <-V]at b
 refine .exit<|bD<|bG<|bE<|ba<|au<|.region<|.ia (i+1) .add<|.mo rfl<|.nil ?_
 ·exact bp (i+1,T) ⟨S,b⟩ (by simp only;omega) kE.c.c.c.c.c (aK [1,1])
 refine .exit<|bD<|bG<|bE<|au<|.sr<|.mo rfl<|.az rfl<|.ret (br _ (.one (.tmp rfl)) (.one [0] _) ?_)
 ·refine⟨_,rfl,?_⟩
  have a3:i=c.aV.length:=by have:=bI f;omega
  have:of i=Q.length:=by
   rw[a3,a1, <-b4, <-o];exact b5
  rw[this,afE]at b
  simpa[take]using b
structure aY where
 k:aW
 found:Bool
 vn:Value
 nodes:List Nd
 vu:Value
 iC:List ByteArray
 vl:Value
 ll:List fR
 number:Nat
def aY.enc(p:aY):List Value:=[.string p.k.os,.string p.k.oi,.string p.k.rel,.bool p.found,p.vn,p.vu,p.vl,iN p.number]
def aY.plain(p:aY):bQ:=⟨p.k,p.found,p.nodes,p.number,p.iC,p.ll.map (·.2)⟩
structure aY.is(R:aA)(p:aY):Prop where
 n:RS R 5 Nd.enc p.vn p.nodes
 u:RS R 1 jW p.vu p.iC
 l:NN R p.vl p.ll
theorem aY.is.mono{R R':aA}{p:aY}(h:p.is R)(a:∀b o,R b o->R' b o):p.is R':=⟨h.n.mono a,h.u.mono a,h.l.mono a⟩
theorem aY.is.dl{R:aA}{p:aY}(h:p.is R):∀u∈p.enc,ay u=true:=by
 have b:=h.n.ay
 have c:=h.u.ay
 have d:=h.l.rs.ay
 intro u a
 simp only[aY.enc,afR,afV,afW]at a
 rcases a with rfl|rfl|rfl|rfl|rfl|rfl|rfl|rfl
 ·rfl
 ·rfl
 ·rfl
 ·rfl
 ·exact b.h
 ·exact c.h
 ·exact d.h
 ·rfl
instance aW.MW:eF prog 269 (λk:aW=>.agg k.enc.toArray):=eF.agg xX underlying269 rfl aW.kinds aW.eq
abbrev yY(k:aW):Value:=.agg k.enc.toArray
structure XC where
 c:bO
 num:List Nat
 vn:Value
 g:Nat
 S:cE
 L:List bf
 rev:Int
 b:Int
def XC.sub(x:XC)(k:aW):List Sub:=if scan x.S x.rev then(x.L.filter λy=>y.there x.rev&&decide (y.t.di=k)).map (·.t.sub)else []
structure XC.ok(R:aA)(x:XC):Prop where
 c:x.c.is R
 n:RM R mg kK x.vn (mm x.c.plain x.num)
 nl:x.num.length=x.c.plain.all.length
 s:∃ps vf vr Mf Mr,SV R x.g x.S ps vf vr Mf Mr
 l:RL x.S x.L
 len:x.S.rows.length<=1000
theorem XC.ok.mono{R R':aA}{x:XC}(h:x.ok R)(a:∀b o,R b o->R' b o):x.ok R':=⟨h.c.mono a,h.n.mono a,h.nl,let ⟨ps,vf,vr,Mf,Mr,h1⟩:=h.s;⟨ps,vf,vr,Mf,Mr,h1.mono a⟩,h.l,h.len⟩
def XC.cells(x:XC)(va vp:Value)(e:Nat):List Value:=[x.c.vs,x.c.vc,x.vn,.pointer (some ⟨x.g,0,none⟩),.int .u64 x.rev,va,vp,iN e,.int .i64 x.b]
abbrev XC.iE(x:XC)(xb:Nat)(va vp:Value)(e:Nat):av:=(bl xb (x.cells va vp e) 190)
def iO(ps:List aY)(va:Value)(T:av):Prop:=∃M,MS yY kK va M T/\∀k,cG k M=iz (ps.map aY.plain) k
theorem Ok(x:XC)(R:aA)(h:x.ok R)(xb:Nat)(va a:Value)(e:Nat)(ps:List aY) [g:One va] [pc:PC R (pT xb) (x.cells va a e)](c:RS R 8 aY.enc a ps)(f:e<=1000000000000)(d:0<=x.b/\x.b<=9223372036854775807):
  Spec prog 84 [pT xb] R [] λu H'=>u=.bool (decide (x.b<(ps.length+e:Nat)))/\H'=[]:=by
 refine Spec.body func84 rfl results84 ntmps84 rfl<|.sr<|.ag rfl<|.zs<|.fX mixed (by kernel_rfl)<|.mo rfl<|.nc rfl<|.fa rfl<|.fa rfl<|.lo rfl<|.q (.bK c) ?_
 refine .mo rfl<|.nc rfl<|.fa rfl<|.lo rfl<|.mo rfl ?_
 refine .nc rfl<|.fa rfl<|.fa rfl<|.lo rfl ?_
 refine .q (.i64 (x.b-e) .sub ⟨by omega,by omega,by omega⟩) ?_
 refine .q .gtr<|.az rfl<|.ret (aP rfl ?_)
 ·refine⟨afD _ ?_,rfl⟩
  rw[decide_eq_decide]
  omega
theorem Ou{ps:List bQ}{p:bQ}(h:iz ps p.k=none)(k:aW):iz (ps++[p]) k=if k=p.k then some ps.length else iz ps k:=by
 unfold iz at h⊢
 rw[List.findIdx?_append]
 by_cases e:k=p.k
 ·subst e
  rw[h,afz rfl]
  simp[agf]
 ·rw[afy e]
  have a:decide (p.k=k)=false:=af3 λh=>e h.symm
  simp[agf,a]
theorem iO.add{ps:List aY}{p:aY}{va:Value}{T:av}{M:List (aW×Nat)}(b:MS yY kK va (dy p.k ps.length M) T)(a:∀k,cG k M=iz (ps.map aY.plain) k)(h:iz (ps.map aY.plain) p.k=none):iO (ps++[p]) va T:=
 ⟨_,b,λk=>by
  rw[kV,a,afC,af0,af1,Ou h]
  rw[afB]
  rfl⟩
def wC(x:XC)(R:aA)(xb:Nat)(ps:List aY)(e:Nat)(va:Value)(k:aW)(u:Value)(H':aM):Prop:=∃ps' vp Ta To,H'=[x.iE xb va vp e,Ta,To]/\u=.int .i64 ((fp x.c.plain x.num (ps.map aY.plain) k).2:Nat)/\ps'.map aY.plain=(fp x.c.plain x.num (ps.map aY.plain) k).1/\iO ps' va Ta/\OS 95 8 aY.enc vp ps' To/\∃l,ps'=ps++l/\∀p∈l,p.is R
theorem z6(x:XC)(R:aA)(h:x.ok R)(xb:Nat)(ps:List aY)(e:Nat)(va t:Value)(g m:av)(hA:iO ps va g)(L:OS 95 8 aY.enc t ps m)(hl:ps.length<=3000000)(k:aW):
  Spec prog 83 [pT xb,.agg [.string k.os,.string k.oi].toArray,.string k.rel] R [x.iE xb va t e,g,m] (wC x R xb ps e va k):=by
 have U:∀u D,wC x R xb ps e va k u D↔∃ps' t g m,D=[x.iE xb va t e,g,m]/\u=.int .i64 ((fp x.c.plain x.num (ps.map aY.plain) k).2:Nat)/\ps'.map aY.plain=(fp x.c.plain x.num (ps.map aY.plain) k).1/\iO ps' va g/\OS 95 8 aY.enc t ps' m/\∃l,ps'=ps++l/\∀p∈l,p.is R:=λ_ _=>Iff.rfl
 have a1:=AQ x.c R h.c k.os k.rel
 have hn:=h.n
 have a8:=N2 x.c.plain x.num h.nl
 obtain⟨M,J,K⟩:=hA
 have a5:∀i,iz (ps.map aY.plain) k=some i->fp x.c.plain x.num (ps.map aY.plain) k=(ps.map aY.plain,i):=λi O=>by unfold fp;rw[O]
 have a6:iz (ps.map aY.plain) k=none->fp x.c.plain x.num (ps.map aY.plain) k=(ps.map aY.plain++[one x.c.plain x.num k],ps.length):=λO=>by unfold fp;rw[O];simp
 have a4:=λ(p:aY) (T:av)=>iO.add (ps:=ps) (p:=p) (va:=va) (T:=T) (M:=M)
 have b1:one x.c.plain x.num k=match bV x.c.plain.all ⟨k.os,k.rel⟩with
  |none=>⟨k,false,[],0,[],[]⟩
  |some i=>⟨k,true,(x.c.plain.all.map (·.2.nodes)).getD i [],x.num.getD i 0,[],[]⟩:=rfl
 have N:=h.c.all
 have b5:=λ(p:gu) (s:cF) (r:cm)=>pz (c:=x.c) (p:=p) (s:=s) (r:=r)
 obtain⟨i0,ok,b3,Z⟩:∃(i:Nat) (ok:Bool),[((cG k M).map kK).getD (kK 0),Value.bool (cG k M).isSome]=[kK i,.bool ok]/\iz (ps.map aY.plain) k=if ok then some i else none:=by
  rw[K k]
  cases iz (ps.map aY.plain) k with
  |none=>exact⟨0,false,rfl,rfl⟩
  |some i=>exact⟨i,true,rfl,rfl⟩
 refine Spec.body func83 rfl results83 ntmps83 rfl<|.sr ?_
 refine .cg rfl (λb4=>?_)
 refine .ag rfl<|.z<|.q (.aL rfl)<|.mo rfl<|.q .dw ?_
 refine .cq (λb7=>?_)
 refine .bZ rfl rfl<|.zs<|.seq<|.fX mixed (by kernel_rfl)<|.mo rfl<|.nc rfl<|.fa rfl<|.lo rfl<|.q (.aL rfl)<|.q (.cast (.ny J.rx rfl rfl) (afD (λl:List Value=>Value.tuple l.toArray) b3))<|.mo rfl<|.q .extract<|.q .extract<|.ag rfl<|.ag rfl<|.z<|.mo rfl<|.zn<|.cond rfl (λI=>?_) λI=>?_
 have b2:ok=true:=I
 subst b2
 have V:=a5 i0 Z
 refine .sr<|.mo rfl<|.az rfl<|.ret (aJ (br _ (.one (.tmp rfl)) (aK [2,2,2]) ?_))
 ·refine(U _ _).2 ⟨ps,t,g,m,?_,?_,?_,⟨M,J,K⟩,L,[],by simp,λp G=>(by cases G)⟩
  ·simp[take,bN]
  ·rw[V]
  ·rw[V]
 have b0:ok=false:=I
 subst b0
 have Y:iz (ps.map aY.plain) k=none:=Z
 have W:=a6 Y
 refine .kn<|.seq ?_
 refine bu.dc [(0,_),(2,_),(4,_),(7,_)] kE.c.c.c.c (X:=Nat×cm×Bool) (λy=>mX x.c ⟨k.os,k.rel⟩ y.2.1 y.2.2/\cM y.2.1.enc) (λy E=>(10,.pointer (some ⟨y.1,0,none⟩))::(11,.bool y.2.2)::E) (λy=>[[(y.1,.cells y.2.1.enc.toArray 167 (0,0))],bl b7 k.enc 269,bl b4 [.string k.os,.string k.oi] 44,x.iE xb va t e,g,m]) ?_ ?_
 refine .dz [12] mixed<|.tO 0 rfl .move<|.tO 1 rfl (.nilCheck rfl)<|.tO 2 rfl (.fieldAddr rfl) ?_
 refine .tO 3 rfl (.loadT rfl) ?_
 refine .tO 4 rfl (.fieldAddr rfl)<|.tO 5 rfl (.cI rfl)<|.tO 6 rfl .move<|RA.lN 7 11 rfl rfl (by kernel_rfl) rfl ?_ ?_
 refine .aQ ((a1.mono λu D f=>⟨f.2,f.1⟩).weaken dt) (λu f=>?_)
 obtain⟨r,v,rfl,a⟩:=f
 have B:cM r.enc:=by
  unfold mX at a
  cases hf:bV x.c.plain.all ⟨k.os,k.rel⟩with
  |none=>rw[hf]at a;obtain⟨_,rfl⟩:=a;exact⟨by simp[cm.enc,cm.zero,ay]⟩
  |some j=>rw[hf]at a;obtain⟨_,p,s,A,w,Q⟩:=a;exact⟨((N _ (aR A)).all _ (aR w)).dl⟩
 refine .nil<|Next.sub<|.tO 8 rfl .move<|.tO 9 rfl .extract<|.tK 10 rfl .extract<|.sT 11 rfl ?_
 refine .cq (λH=>?_)
 refine .nil<|Next.sub<|.sT 12 rfl<|.bZ rfl rfl<|.nil<|Next.mod rfl<|.tK 13 rfl .assign<|RA.nil (by kernel_rfl) ?_
 ·exact aD (H,r,v) ⟨a,B⟩ kE.c.c.c.c.c.c rH
 refine .cq (λH=>?_)
 refine .nil<|Next.sub<|.sT 7 rfl<|.aQ ((a1.mono λu D f=>⟨f.2,f.1⟩).weaken dt) (λu f=>?_)
 obtain⟨r,v,rfl,a⟩:=f
 have B:cM r.enc:=by
  unfold mX at a
  cases hf:bV x.c.plain.all ⟨k.os,k.rel⟩with
  |none=>rw[hf]at a;obtain⟨_,rfl⟩:=a;exact⟨by simp[cm.enc,cm.zero,ay]⟩
  |some j=>rw[hf]at a;obtain⟨_,p,s,A,w,Q⟩:=a;exact⟨((N _ (aR A)).all _ (aR w)).dl⟩
 refine .nil<|Next.sub<|.tO 8 rfl .move<|.tO 9 rfl .extract<|.tK 10 rfl .extract<|.sT 12 rfl<|.bZ rfl rfl<|.nil<|Next.mod rfl<|.tK 13 rfl .assign<|RA.nil (by kernel_rfl) ?_
 ·exact aD (H,r,v) ⟨a,B⟩ kE.c.c.c.c.c.c rH
 intro y hy
 obtain⟨bb,r,v⟩:=y
 obtain⟨a,B⟩:=hy
 simp only at a B⊢
 obtain⟨C,a9,a7⟩:∃C,(cG (⟨k.os,k.rel⟩:Ty) (mm x.c.plain x.num)).getD 0=C/\((cG (⟨k.os,k.rel⟩:Ty) (mm x.c.plain x.num)).map kK).getD (kK 0)=kK C:=by
  cases cG (⟨k.os,k.rel⟩:Ty) (mm x.c.plain x.num)with
  |none=>exact⟨0,rfl,rfl⟩
  |some i=>exact⟨i,rfl,rfl⟩
 obtain⟨a0,F⟩:one x.c.plain x.num k=⟨k,v,r.r.nodes,C,[],[]⟩/\RS R 5 Nd.enc r.vn r.r.nodes:=by
  rw[b1, <-a9,a8]
  unfold mX at a
  cases hf:bV x.c.plain.all ⟨k.os,k.rel⟩with
  |none=>rw[hf]at a;obtain⟨rfl,rfl⟩:=a;exact⟨rfl,RS.kZ⟩
  |some j=>
   rw[hf]at a
   obtain⟨rfl,p,s,A,w,Q⟩:=a
   refine⟨?_,((N _ (aR A)).all _ (aR w)).d⟩
   have:=b5 p s r A w
   rw[Q]at this
   simp only[afU,afG,this]
   rfl
 obtain⟨vt,vd,r⟩:=r
 simp only at a0 F
 have b8:One vd:=F.ay
 obtain⟨pd,cd,rfl⟩:=F.val
 refine au<|.seq<|.dY 11 mixed (by kernel_rfl) ?_
 conv=>arg 6;dsimp only[List.take]
 refine .mo rfl<|.nc rfl<|.fa rfl<|.lo rfl<|.q (.aL rfl)<|.mo rfl<|.nc rfl<|.fa rfl<|.fa rfl<|.lo rfl<|.q (.eR L)<|.nil ?_
 refine .update (key:=k) (u:=ps.length) J rfl rfl rfl (λa3 S _=>?_)
 refine .zs<|.dz [22,26] mixed<|.tK 0 rfl .move<|.tO 1 rfl .move<|.tO 2 rfl (.nilCheck rfl)<|.tO 3 rfl (.fieldAddr rfl)<|.tO 4 rfl (.fieldAddr rfl)<|.tO 5 rfl (.cI rfl)<|.tO 6 rfl (.aL rfl)<|.tO 7 rfl .move<|.tO 8 rfl .move<|.tO 9 rfl (.fieldAddr rfl)<|.tO 10 rfl (.cI rfl)<|.tO 11 rfl .move<|.tO 12 rfl (.nilCheck rfl)<|.tO 13 rfl (.fieldAddr rfl)<|.tO 14 rfl (.cI rfl)<|.tO 15 rfl (.fieldAddr rfl)<|.tO 16 rfl (.cI rfl)<|.tO 17 rfl .move<|.tO 18 rfl .dw<|.jw 19 rfl (.od (hn.mono λb o hb=>.inl hb) rfl rfl (key:=(⟨k.os,k.rel⟩:Ty)) a7) (by kernel_rfl)<|.tO 20 rfl .dw<|.sT 21 rfl ?_
 refine .fq (λb6=>?_)
 refine .nil<|Next.sub<|.sT 22 rfl<|.append L (RS.lits (xs:=[(⟨k,v,.slice pd r.nodes.length cd,r.nodes,sZ,[],sZ,[],C⟩:aY)]) rfl (by simp[aY.enc]) (by simp[aY.enc,ay])) (by simp only[afI];omega) (λv5 T5 a2=>?_)
 have i5:=a2.ay
 refine .nil<|Next.mod rfl<|.tK 23 rfl (.ml rfl)<|.tK 24 rfl (.kr rfl)<|.tK 25 rfl (.kr rfl)<|.sT 26 rfl<|.ek rfl rfl<|.nil<|Next.mod rfl<|RA.nil (by kernel_rfl)<|au<|.seq<|.fX mixed (by kernel_rfl)<|.mo rfl<|.nc rfl<|.fa rfl<|.lo rfl<|.q (.aL rfl)<|.q (.od S.rx rfl rfl (key:=k) rfl)<|.az rfl<|.ret (br _ (.one (.tmp rfl)) (aK [4,4,4]) ?_)
 ·refine(U _ _).2 ⟨_,v5,a3,T5,?_,?_,?_,a4 _ _ S K Y,a2,_,rfl,λp G=>?_⟩
  ·simp[take,bN,du,XC.cells]
  ·rw[W,kV,afz rfl];rfl
  ·rw[W,a0,afC];rfl
  ·rw[afJ]at G
   subst G
   exact⟨F,RS.kZ,NN.nil⟩
def oH(c:Cf)(k:aW)(l:List Sub):List ByteArray:=((l.filter (allowed c k)).filter λs=> !decide (s.us=⟨#[]⟩)).map (·.us)
def oC(c:Cf)(k:aW)(l:List Sub):List Sub:=(l.filter (allowed c k)).filter λs=>decide (s.us=⟨#[]⟩)
theorem Q7{c:Cf}{k:aW}{l:List Sub}{i:Nat}{s:Sub}(h:l[i]? =some s):oH c k (l.take (i+1))=oH c k (l.take i)++if allowed c k s=true/\s.us≠⟨#[]⟩then [s.us]else []:=by
 rw[eo h]
 unfold oH
 rw[af7,af7,afC]
 congr 1
 by_cases a:allowed c k s=true<;>by_cases b:s.us=⟨#[]⟩<;>simp[a,b]
theorem Qi{c:Cf}{k:aW}{l:List Sub}{i:Nat}{s:Sub}(h:l[i]? =some s):oC c k (l.take (i+1))=oC c k (l.take i)++if allowed c k s=true/\s.us=⟨#[]⟩then [s]else []:=by
 rw[eo h]
 unfold oC
 rw[af7,af7]
 congr 1
 by_cases a:allowed c k s=true<;>by_cases b:s.us=⟨#[]⟩<;>simp[a,b]
theorem XC.A9{x:XC}{R:aA}(h:x.ok R)(k:aW):(x.sub k).length<=1000:=by
 unfold XC.sub
 split
 ·rw[afB]
  have a:=afS (λy:bf=>y.there x.rev&&decide (y.t.di=k)) x.L
  have b:=h.l.pm.length_eq
  have c:=h.len
  omega
 ·simp
theorem Ba(x:XC)(R:aA)(h:x.ok R)(xb:Nat)(va U:Value)(e:Nat) [iv:One va] [ip:One U] [pc:PC R (pT xb) (x.cells va U e)](k:aW):
  Spec prog 145 [pT xb,.agg [.string k.os,.string k.oi].toArray,.string k.rel] R [] λu H'=>∃Tu Ts,H'=[Tu,Ts]/\∃wu ws,u=.tuple [wu,ws].toArray/\OS 9 1 jW wu (kJ x.c.plain x.sub k) Tu/\OS 117 4 Sub.enc ws (gD x.c.plain x.sub k) Ts:=by
 have Z:=BU x.c R h.c
 have i1:One x.c.vs:=RS.ay h.c.ss
 have i2:One x.c.vc:=RS.ay h.c.sc
 have i3:=h.n.one
 obtain⟨ps,vf,vr,Mf,Mr,W⟩:=h.s
 have b3:=XC.A9 h k
 have hl:=h.l
 have b1:=h.len
 have Y:kJ x.c.plain x.sub k=oH x.c.plain k (x.sub k):=rfl
 have V:gD x.c.plain x.sub k=oC x.c.plain k (x.sub k):=rfl
 have a4:x.sub k=if scan x.S x.rev then(x.L.filter λy=>y.there x.rev&&decide (y.t.di=k)).map (·.t.sub)else []:=rfl
 have a6:∀i,(oH x.c.plain k ((x.sub k).take i)).length<=1000:=λi=>by
  unfold oH
  rw[afB]
  refine afO (afS _ _) (afO (afS _ _) ?_)
  rw[afH];omega
 have a2:∀i,(oC x.c.plain k ((x.sub k).take i)).length<=1000:=λi=>by
  unfold oC
  refine afO (afS _ _) (afO (afS _ _) ?_)
  rw[afH];omega
 have a5:=λ(l:List Sub) (i:Nat) (s:Sub) (h:l[i]? =some s)=>Q7 (c:=x.c.plain) (k:=k) h
 have a3:=λ(l:List Sub) (i:Nat) (s:Sub) (h:l[i]? =some s)=>Qi (c:=x.c.plain) (k:=k) h
 rw[Y,V]
 generalize hL:x.sub k=l at *
 refine Spec.body func145 rfl results145 ntmps145 rfl ?_
 refine .sr ?_
 refine .cg rfl (λb4=>?_)
 refine .ag rfl<|.ag rfl<|.z<|.ag rfl<|.z<|.ag rfl<|.zs<|.seq<|.dz [] mixed ?_
 refine .tO 0 rfl .move<|.tO 1 rfl (.nilCheck rfl)<|.tO 2 rfl (.fieldAddr rfl)<|.tO 3 rfl (.cI rfl)<|.tO 4 rfl (.aL rfl)<|.tO 5 rfl .move<|.tO 6 rfl .move<|.tO 7 rfl (.nilCheck rfl)<|.tO 8 rfl (.fieldAddr rfl)<|.tO 9 rfl (.cI rfl)<|.tO 12 rfl .move ?_
 refine .sT 10 rfl ?_
 refine .dx ((SV.QE (W.mono λb o J=>.inl J) (by omega) k x.rev hl).weaken λb o J=>J) (λu a7 D=>?_)
 rw[<-a4]at D
 have iu:=D.ay
 refine .nil (Next.sub ?_)
 refine .tO 11 rfl (.eR D) ?_
 refine RA.nil (by kernel_rfl) ?_
 refine au<|.block ?_
 refine .cX [(0,_),(2,_),(4,_),(22,_),(23,_)] (X:=Nat×Value×Value×av×av) (λy=>y.1<=l.length/\OS 9 1 jW y.2.1 (oH x.c.plain k (l.take y.1)) y.2.2.2.1/\OS 117 4 Sub.enc y.2.2.1 (oC x.c.plain k (l.take y.1)) y.2.2.2.2) (λy E=>(24,iN y.1)::(8,y.2.1)::(9,y.2.2.1)::E) (λy G=>y.2.2.2.1::y.2.2.2.2::G) (λy=>l.length-y.1) (0,sZ,sZ,[],[]) ⟨afA _,OS.nil,OS.nil⟩ kE.c.c.c.c.c.c.c.c bz.jk ?_
 rintro⟨i,Q,O,Tu,Ts⟩ ⟨hi,m,j⟩
 simp only at hi m j⊢
 have b6:=m.ay
 have b7:=j.ay
 refine .sr<|.q .lss<|.zs ?_
 refine .cond rfl (λH=>?_) λH=>?_
 have C:i<l.length:=cK H
 obtain⟨s,M⟩:=ca C
 have b5:=a6 i
 have b2:=a2 i
 have r:=a5 l i s M
 have p:=a3 l i s M
 obtain⟨a,g,d,f⟩:=s
 refine .kn<|.seq<|.block<|.sr ?_
 refine .bh i D M (λb8=>?_)
 refine .q (.aL rfl) ?_
 refine .cq (λa8=>?_)
 refine .bZ rfl rfl<|.zn<|.block<|.seq ?_
 refine .dY 8 mixed (by kernel_rfl) ?_
 conv=>arg 6;dsimp only[List.take]
 refine .mo rfl<|.nc rfl<|.fa rfl<|.q (.loadT rfl) ?_
 refine .q (.aL rfl)<|.mo rfl<|.q (.aL rfl) ?_
 refine .q .dw ?_
 refine .nil ?_
 refine .aQ ((Z ⟨k.os,k.oi,k.rel,a,g,d,f⟩).weaken dt) (λw hw=>?_)
 subst hw
 refine .q .de<|.az rfl ?_
 refine .cond rfl (λv=>?_) λv=>?_
 have a1:allowed x.c.plain k ⟨a,g,d,f⟩=false:=by
  cases hq:allowed x.c.plain k ⟨a,g,d,f⟩with
  |false=>rfl
  |true=>
   have:allowed x.c.plain (⟨k.os,k.oi,k.rel,a,g,d,f⟩:aw).di (⟨k.os,k.oi,k.rel,a,g,d,f⟩:aw).sub=true:=hq
   rw[this]at v;simp at v
 rw[afy (by rw[a1];simp),afM]at r p
 refine .skip<|ba<|ba<|au<|.region ?_
 refine .ia (i+1) .add ?_
 refine .mo rfl<|.nil ?_
 ·exact bp (i+1,Q,O,Tu,Ts) ⟨C,by rw[r];exact m,by rw[p];exact j⟩ (by simp only;omega) kE.c.c.c.c.c.c.c.c (bz.drop [0] _)
 have T:allowed x.c.plain k ⟨a,g,d,f⟩=true:=by
  cases hq:allowed x.c.plain k ⟨a,g,d,f⟩with
  |true=>rfl
  |false=>
   have:allowed x.c.plain (⟨k.os,k.oi,k.rel,a,g,d,f⟩:aw).di (⟨k.os,k.oi,k.rel,a,g,d,f⟩:aw).sub=false:=hq
   rw[this]at v;simp at v
 refine .sr<|.fa rfl<|.lo rfl<|.q .iJ<|.az rfl ?_
 refine .cond rfl (λI=>?_) λI=>?_
 have A:a≠⟨#[]⟩:=by simpa using I
 rw[afz ⟨T,A⟩]at r
 rw[afy (λK=>A K.2),afM]at p
 refine .region<|.mo rfl<|.fa rfl<|.lo rfl ?_
 refine .jB (λb0=>?_)
 refine .append m (RS.lits (xs:=[a]) rfl (by simp[jW]) (by simp[jW,ay])) (by simp only[afI];omega) (λN F B=>?_)
 rw[<-r]at B
 refine .ag rfl<|.nil<|ba<|ba<|au<|.region ?_
 refine .ia (i+1) .add ?_
 refine .mo rfl<|.nil ?_
 ·exact bp (i+1,N,O,F,Ts) ⟨C,B,by rw[p];exact j⟩ (by simp only;omega) kE.c.c.c.c.c.c.c.c (bz.drop [0,0] _)
 have A:a=⟨#[]⟩:=by simpa using I
 rw[afy (λK=>K.2 A),afM]at r
 rw[afz ⟨T,A⟩]at p
 refine .region<|.mo rfl<|.q (.aL rfl) ?_
 refine .fq (λa9=>?_)
 refine .append j (RS.lits (xs:=[(⟨a,g,d,f⟩:Sub)]) rfl (by simp[Sub.enc]) (by simp[Sub.enc,ay])) (by simp only[afI];omega) (λN F B=>?_)
 rw[<-p]at B
 refine .ag rfl<|.nil<|ba<|ba<|au<|.region ?_
 refine .ia (i+1) .add ?_
 refine .mo rfl<|.nil ?_
 ·exact bp (i+1,Q,N,Tu,F) ⟨C,by rw[r];exact m,B⟩ (by simp only;omega) kE.c.c.c.c.c.c.c.c (bz.drop [0,0] _)
 refine .exit<|bD<|bG<|bE<|au<|.sr<|.mo rfl<|.mo rfl<|.ag rfl<|.az rfl ?_
 refine .ret (br _ (.two (.tmp rfl) (.tmp rfl)) (aK [0,0]) ?_)
 ·have a0:i=l.length:=by have:=bI H;omega
  subst a0
  rw[afE]at m j
  exact⟨Tu,Ts,by simp[take,bN],Q,O,rfl,m,j⟩
structure lV(x:XC)(R:aA)(ps:List aY)(va:Value)(ks:List aW)(ps':List aY)(vp:Value)(Ta To:av)(vo:Value)(Tl:av):Prop where
 l:OS 3 1 dv vo (dO x.c.plain x.num (ps.map aY.plain) ks).2 Tl
 eq:ps'.map aY.plain=(dO x.c.plain x.num (ps.map aY.plain) ks).1
 at_:iO ps' va Ta
 o:OS 95 8 aY.enc vp ps' To
 gr:∃l,ps'=ps++l/\∀p∈l,p.is R
theorem lV.len{x:XC}{R:aA}{ps a:List aY}{va g f:Value}{ks:List aW}{b e d:av}(h:lV x R ps va ks a g b e f d):a.length=(dO x.c.plain x.num (ps.map aY.plain) ks).1.length:=by rw[<-h.eq,afB]
theorem lV.next{x:XC}{R:aA}{ps d b:List aY}{va D s C r:Value}{ks:List aW}{i:Nat}{k:aW}{t v f m u j:av}(h:lV x R ps va (ks.take i) d D t v C u)(z:ks[i]? =some k)
  (e:b.map aY.plain=(fp x.c.plain x.num (d.map aY.plain) k).1)(a:iO b va f)(o:OS 95 8 aY.enc s b m)(g:∃l,b=d++l/\∀p∈l,p.is R)
  (q:OS 3 1 dv r ((dO x.c.plain x.num (ps.map aY.plain) (ks.take i)).2++[(fp x.c.plain x.num (d.map aY.plain) k).2]) j):lV x R ps va (ks.take (i+1)) b s f m r j:=by
 have n:=BK (c:=x.c.plain) (num:=x.num) z (ps.map aY.plain)
 rw[h.eq]at e q
 refine⟨by rw[n];exact q,by rw[n];exact e,a,o,?_⟩
 obtain⟨A,rfl,w⟩:=h.gr
 obtain⟨B,rfl,y⟩:=g
 refine⟨A++B,by rw[List.append_assoc],λp hp=>?_⟩
 rcases afL.1 hp with hp|hp
 ·exact w p hp
 ·exact y p hp
def wq(x:XC)(R:aA)(xb:Nat)(ps:List aY)(e:Nat)(va:Value)(ks:List aW)(u:Value)(H':aM):Prop:=∃ps' vp Ta To Tl,H'=[Tl,x.iE xb va vp e,Ta,To]/\lV x R ps va ks ps' vp Ta To u Tl
theorem M4(x:XC)(R:aA)(h:x.ok R)(xb:Nat)(ps:List aY)(e:Nat)(va j:Value)(m p:av)(hA:iO ps va m)(hO:OS 95 8 aY.enc j ps p)(k:aW)(H:List Value)(n:Nd) [ie:cM H]
  (hl:(dO x.c.plain x.num (ps.map aY.plain) (eC x.c.plain x.sub k n)).1.length<=3000000)(b1:H.length=5):
  Spec prog 146 [pT xb,.agg (.string k.os:: .string k.oi:: .string k.rel::H).toArray,.agg n.enc.toArray] R [x.iE xb va j e,m,p] (wq x R xb ps e va (eC x.c.plain x.sub k n)):=by
 obtain⟨x3,x4,x5,x6,x7,rfl⟩:∃a b c d f,H=[a,b,c,d,f]:=by
  match H,b1 with
  |[a,b,c,d,f],_=>exact⟨a,b,c,d,f,rfl⟩
 have c9:cM (Value.string k.os:: .string k.oi:: .string k.rel::[x3,x4,x5,x6,x7]):=⟨λu hu=>by
  simp only[afR,afV,afW]at hu
  rcases hu with rfl|rfl|rfl|hu
  ·rfl
  ·rfl
  ·rfl
  ·exact ie.h u (by simpa using hu)⟩
 have a9:=Ba x
 have a4:=z6 x R h xb
 have i1:One x.c.vs:=RS.ay h.c.ss
 have i2:One x.c.vc:=RS.ay h.c.sc
 have i3:=h.n.one
 obtain⟨M0,b0,_⟩:=id hA
 have d0:=b0.one
 have d1:=hO.ay
 have a0:∀ks u H',wq x R xb ps e va ks u H'↔∃ps' j m p w,H'=[w,x.iE xb va j e,m,p]/\lV x R ps va ks ps' j m p u w:=λ_ _ _=>Iff.rfl
 have r:eC x.c.plain x.sub k n=if n.kind=1 then(gD x.c.plain x.sub k).map λs=>⟨s.ss,s.si,s.sr⟩
  else if n.kind=3 then(gD x.c.plain x.sub ⟨k.os,k.oi,n.rel⟩).map λs=>⟨s.ss,s.si,n.ec⟩
  else if n.kind=2 then [⟨k.os,k.oi,n.rel⟩]
  else []:=rfl
 generalize c8:eC x.c.plain x.sub k n=ks at *
 have a6:=λi=>BJ (c:=x.c.plain) (num:=x.num) ks i (ps.map aY.plain)
 have b2:=BI (c:=x.c.plain) (num:=x.num) ks (ps.map aY.plain)
 rw[afB]at b2
 have a7:=λi=>tu (c:=x.c.plain) (num:=x.num) (ks.take i) (ps.map aY.plain)
 have a8:∀k',(gD x.c.plain x.sub k').length<=1000:=λk'=>by
  unfold gD fitting
  exact afO (afS _ _) (afO (afS _ _) (XC.A9 h k'))
 have S:lV x R ps va (ks.take 0) ps j m p (sZ) []:=⟨OS.nil,by simp[dO],hA,hO,[],by simp,by simp⟩
 refine Spec.gj (H':=[[],x.iE xb va j e,m,p]) (by simp)<|Spec.body func146 rfl results146 ntmps146 rfl<|.sr ?_
 refine .cg rfl (λb4=>?_)
 refine .cg rfl (λb5=>?_)
 refine .ag rfl<|.z<|.ag rfl<|.zs<|.sr<|.fa rfl<|.lo rfl<|.zn<|.block<|.sr<|.q .cr<|.az rfl<|.cond rfl (λh1=>?_) λh1=>?_
 have M:n.kind=1:=cL h1
 rw[afz M]at r
 have b9:=a8 k
 refine .sr<|.mo rfl<|.fa rfl<|.q (.loadT rfl)<|.fa rfl<|.lo rfl<|.call [] (a9 _ (h.mono λb o hb=>.inl hb) xb va j e (pc:=PC.of (E:=190) (fr:=(0,0)) (.inr (by simp[rest]))) k) (λu H' hu=>?_)
 obtain⟨Tu,Ts,rfl,wu,ws,rfl,a1,t⟩:=hu
 have c1:=a1.ay
 have c2:=t.ay
 conv=>arg 8;simp only[rest,bN,afT,afN]
 refine .mo rfl<|.q .extract<|.q .extract<|.ag rfl<|.ag rfl<|.z<|.mo rfl<|.q (.eR t)<|.mo rfl<|.zn<|.block<|.cX [(0,_),(29,_),(30,_)] (X:=Nat×List aY×Value×av×av×Value×av) (λy=>y.1<=(gD x.c.plain x.sub k).length/\lV x R ps va (ks.take y.1) y.2.1 y.2.2.1 y.2.2.2.1 y.2.2.2.2.1 y.2.2.2.2.2.1 y.2.2.2.2.2.2) (λy E=>(31,iN y.1)::(7,y.2.2.2.2.2.1)::E) (G:=[Ts,bl b5 n.enc 199,bl b4 (Value.string k.os:: .string k.oi:: .string k.rel::[x3,x4,x5,x6,x7]) 95]) (λy G=>y.2.2.2.2.2.2::x.iE xb va y.2.2.1 e::y.2.2.2.1::y.2.2.2.2.1::G) (λy=>(gD x.c.plain x.sub k).length-y.1) (0,ps,j,m,p,sZ,[]) ⟨afA _,S⟩ kE.c.c.c.c.c (aK [4,4,4,4,1,1,1]) ?_
 rintro⟨i,v,Y,B,D,vo,w⟩ ⟨hi,g⟩
 simp only at hi g⊢
 have io:=g.l.ay
 have c0:=g.o.ay
 have b8:=g.len
 have b7:=a6 i
 have a3:=a7 i
 rw[afH]at a3
 refine .sr<|.q .lss<|.zs<|.cond rfl (λh2=>?_) λh2=>?_
 have O:i<(gD x.c.plain x.sub k).length:=by have:=cL h2;omega
 obtain⟨s,Q⟩:=ca O
 have N:ks[i]? =some ⟨s.ss,s.si,s.sr⟩:=by rw[r,afG,Q];rfl
 obtain⟨us,W,V,sr⟩:=s
 refine .kn<|.seq<|.block<|.sr ?_
 refine .bh i t Q (λd2=>?_)
 refine .q (.aL rfl) ?_
 refine .cq (λc3=>?_)
 refine .bZ rfl rfl<|.zn<|.region<|.mo rfl<|.mo rfl<|.fa rfl<|.q (.loadT rfl)<|.fa rfl<|.lo rfl<|.call [2,2,2] ((a4 v e va Y B D g.at_ g.o (by omega) ⟨W,V,sr⟩).weaken dt) (λu H' hu=>?_)
 obtain⟨U,Z,C,F,rfl,rfl,K,I,J,L⟩:=hu
 conv=>arg 8;simp only[rest,bN,afT,afN]
 refine .jB (λc5=>?_)
 refine .append g.l (RS.lits (xs:=[(fp x.c.plain x.num (v.map aY.plain) ⟨W,V,sr⟩).2]) rfl (by simp[dv]) (by simp[dv,ay])) (by simp only[afI];omega) (λv5 A T=>?_)
 refine .ag rfl<|.nil<|ba<|au<|.region<|.ia (i+1) .add<|.mo rfl<|.nil ?_
 ·exact bp (i+1,U,Z,C,F,v5,A) ⟨O,g.next N K I J L T⟩ (by simp only;omega) kE.c.c.c.c.c (aK [5,1,1,1,2,2,2])
 have a2:i=ks.length:=by rw[r,afB];have:=bI h2;omega
 rw[a2,afE]at g
 refine .exit<|bD<|bG<|bE<|ba<|au<|.sr<|.mo rfl<|.az rfl<|.ret (br _ (.one (.tmp rfl)) (aK [0,0,0,0]) ?_)
 ·exact(a0 _ _ _).2 ⟨v,Y,B,D,w,by simp[take,bN],g⟩
 refine .sr<|.q .cr<|.az rfl<|.cond rfl (λh3=>?_) λh3=>?_
 have M:n.kind=2:=cL h3
 rw[afy (by omega),afy (by omega),afz M]at r
 have N:ks[0]? =some ⟨k.os,k.oi,n.rel⟩:=by rw[r];rfl
 have b3:ks.take 1=ks:=by rw[r];rfl
 refine .region<|.mo rfl<|.mo rfl<|.fa rfl<|.q (.loadT rfl)<|.fa rfl<|.lo rfl<|.call [3,3,3] ((a4 ps e va j m p hA hO (by omega) ⟨k.os,k.oi,n.rel⟩).weaken dt) (λu H' hu=>?_)
 obtain⟨U,Z,C,F,rfl,rfl,K,I,J,L⟩:=hu
 conv=>arg 8;simp only[rest,bN,afT,afN]
 refine .jB (λc6=>?_)
 refine .append S.l (RS.lits (xs:=[(fp x.c.plain x.num (ps.map aY.plain) ⟨k.os,k.oi,n.rel⟩).2]) rfl (by simp[dv]) (by simp[dv,ay])) (by simp[dO]) (λv5 A T=>?_)
 have a5:=S.next N K I J L T
 rw[show(0:Nat)+1=1 from rfl,b3]at a5
 refine .ag rfl<|.nil<|ba<|au<|.sr<|.mo rfl<|.az rfl<|.ret (br _ (.one (.tmp rfl)) (aK [6,1,1,1]) ?_)
 ·exact(a0 _ _ _).2 ⟨U,Z,C,F,A,by simp[take,bN],a5⟩
 refine .sr<|.q .cr<|.az rfl<|.cond rfl (λh4=>?_) λh4=>?_
 have M:n.kind=3:=cL h4
 rw[afy (by omega),afz M]at r
 have b9:=a8 ⟨k.os,k.oi,n.rel⟩
 refine .sr<|.mo rfl<|.fa rfl<|.q (.loadT rfl)<|.fa rfl<|.lo rfl<|.call [] (a9 _ (h.mono λb o hb=>.inl hb) xb va j e (pc:=PC.of (E:=190) (fr:=(0,0)) (.inr (by simp[rest]))) ⟨k.os,k.oi,n.rel⟩) (λu H' hu=>?_)
 obtain⟨Tu,Ts,rfl,wu,ws,rfl,a1,t⟩:=hu
 have c1:=a1.ay
 have c2:=t.ay
 conv=>arg 8;simp only[rest,bN,afT,afN]
 refine .mo rfl<|.q .extract<|.q .extract<|.ag rfl<|.ag rfl<|.z<|.mo rfl<|.q (.eR t)<|.mo rfl<|.zn<|.block<|.cX [(0,_),(5,_),(67,_),(68,_)] (X:=Nat×List aY×Value×av×av×Value×av) (λy=>y.1<=(gD x.c.plain x.sub ⟨k.os,k.oi,n.rel⟩).length/\lV x R ps va (ks.take y.1) y.2.1 y.2.2.1 y.2.2.2.1 y.2.2.2.2.1 y.2.2.2.2.2.1 y.2.2.2.2.2.2) (λy E=>(69,iN y.1)::(7,y.2.2.2.2.2.1)::E) (G:=[Ts,bl b5 n.enc 199,bl b4 (Value.string k.os:: .string k.oi:: .string k.rel::[x3,x4,x5,x6,x7]) 95]) (λy G=>y.2.2.2.2.2.2::x.iE xb va y.2.2.1 e::y.2.2.2.1::y.2.2.2.2.1::G) (λy=>(gD x.c.plain x.sub ⟨k.os,k.oi,n.rel⟩).length-y.1) (0,ps,j,m,p,sZ,[]) ⟨afA _,S⟩ kE.c.c.c.c.c.c (aK [4,4,4,4,1,1,1]) ?_
 rintro⟨i,v,Y,B,D,vo,w⟩ ⟨hi,g⟩
 simp only at hi g⊢
 have io:=g.l.ay
 have c0:=g.o.ay
 have b8:=g.len
 have b7:=a6 i
 have a3:=a7 i
 rw[afH]at a3
 refine .sr<|.q .lss<|.zs<|.cond rfl (λh5=>?_) λh5=>?_
 have O:i<(gD x.c.plain x.sub ⟨k.os,k.oi,n.rel⟩).length:=by have:=cL h5;omega
 obtain⟨s,Q⟩:=ca O
 have N:ks[i]? =some ⟨s.ss,s.si,n.ec⟩:=by rw[r,afG,Q];rfl
 obtain⟨us,W,V,sr⟩:=s
 refine .kn<|.seq<|.block<|.sr ?_
 refine .bh i t Q (λd3=>?_)
 refine .q (.aL rfl) ?_
 refine .cq (λc4=>?_)
 refine .bZ rfl rfl<|.zn<|.region<|.mo rfl<|.mo rfl<|.fa rfl<|.q (.loadT rfl)<|.fa rfl<|.lo rfl<|.call [2,2,2] ((a4 v e va Y B D g.at_ g.o (by omega) ⟨W,V,n.ec⟩).weaken dt) (λu H' hu=>?_)
 obtain⟨U,Z,C,F,rfl,rfl,K,I,J,L⟩:=hu
 conv=>arg 8;simp only[rest,bN,afT,afN]
 refine .jB (λc7=>?_)
 refine .append g.l (RS.lits (xs:=[(fp x.c.plain x.num (v.map aY.plain) ⟨W,V,n.ec⟩).2]) rfl (by simp[dv]) (by simp[dv,ay])) (by simp only[afI];omega) (λv5 A T=>?_)
 refine .ag rfl<|.nil<|ba<|au<|.region<|.ia (i+1) .add<|.mo rfl<|.nil ?_
 ·exact bp (i+1,U,Z,C,F,v5,A) ⟨O,g.next N K I J L T⟩ (by simp only;omega) kE.c.c.c.c.c.c (aK [5,1,1,1,2,2,2])
 have a2:i=ks.length:=by rw[r,afB];have:=bI h5;omega
 rw[a2,afE]at g
 refine .exit<|bD<|bG<|bE<|ba<|au<|.sr<|.mo rfl<|.az rfl<|.ret (br _ (.one (.tmp rfl)) (aK [0,0,0,0]) ?_)
 ·exact(a0 _ _ _).2 ⟨v,Y,B,D,w,by simp[take,bN],g⟩
 have b6:ks=[]:=by
  rw[r,afy (bI h1),afy (bI h4),afy (bI h3)]
 refine .skip<|ba<|au<|.sr<|.mo rfl<|.az rfl<|.ret (br _ (.one (.tmp rfl)) (aK [2,2,2,2]) ?_)
 ·refine(a0 _ _ _).2 ⟨ps,j,m,p,[],by simp[take,bN],?_⟩
  have:=S
  rw[List.take_zero, <-b6]at this
  exact this
instance Rz:eF prog 3 (λs:Int=>.int .i64 s):=eF.int rI tW
abbrev kI(n:Int):Value:=.int .i64 n
structure BA(x:XC)(R:aA)(ps:List aY)(va:Value)(k:aW)(ns:List Nd)(mp:Value)(ps1:List aY)(vp:Value)(Ta To:av)(vL:Value)(L:List fR)(TL Tr:av)(M:List (Int×Bool))(Tm:av):Prop where
 eq:ps1.map aY.plain=(dC x.c.plain x.num x.sub k (ps.map aY.plain) ns).1
 at_:iO ps1 va Ta
 o:OS 95 8 aY.enc vp ps1 To
 gr:∃l,ps1=ps++l/\∀p∈l,p.is R
 le:OS 182 1 eD vL L TL
 rows:∀q∈L,RS (sg Tr) 1 dv q.1 q.2
 ll:L.map (·.2)=(dC x.c.plain x.num x.sub k (ps.map aY.plain) ns).2
 ms:MS kI Value.bool mp M Tm
 zB:M.map (·.1)=(li [] (dC x.c.plain x.num x.sub k (ps.map aY.plain) ns).2.flatten).map λn:Nat=>(n:Int)
theorem Nv{β:Type}{M:List (Int×β)}{l:List Nat}(h:M.map (·.1)=l.map λn:Nat=>(n:Int))(y:β)(j:Nat):(dy (j:Int) y M).map (·.1)=(if j∈l then l else l++[j]).map λn:Nat=>(n:Int):=by
 by_cases c:j∈l
 ·rw[afz c, <-h]
  have b:(j:Int)∈M.map (·.1):=by rw[h];exact List.mem_map.2 ⟨j,c,rfl⟩
  clear h
  induction M with
  |nil=>simp at b
  |cons a M ih=>
   obtain⟨g,i⟩:=a
   rw[dy]
   split
   ·rename_i e;simp[e]
   ·rename_i e
    simp only[af0,afR]at b⊢
    rw[ih (b.resolve_left e)]
 ·rw[afy c,mM (λb=>by
   rw[h]at b
   obtain⟨n,f,e⟩:=List.mem_map.1 b
   have d:n=j:=by omega
   exact c (d▸f)),afC,afC,h]
  rfl
theorem AK{α:Type}{l:List α}{i:Nat}{x:α}(h:l[i]? =some x):l.set i x=l:=by
 obtain⟨a,e⟩:=afP.1 h
 rw[<-e]
 exact List.set_getElem_self a
theorem OS.B7{α:Type}{E sz:Nat}{enc:α->List Value}{v:Value}{xs:List α}{T:av}{i:Nat}{z:α}(h:OS E sz enc v xs T)(d:xs[i]? =some z):∃a,eO v (i*sz)=.pointer (some a):=by
 rcases h.h with⟨_,rfl,_⟩|⟨b,f,c,e,rfl,_⟩
 ·simp at d
 ·exact⟨_,rfl⟩
theorem Ov{a b:List bQ}(h:a.map (·.k)=b.map (·.k))(k:aW):iz a k=iz b k:=by
 have c:∀l:List bQ,iz l k=(l.map (·.k)).findIdx? λy=>decide (y=k):=λl=>by
  unfold iz
  rw[List.findIdx?_map]
  rfl
 rw[c,c,h]
theorem P1{ps:List aY}{i:Nat}{p q:aY}(a:ps[i]? =some p)(b:q.k=p.k):((ps.set i q).map aY.plain).map (·.k)=(ps.map aY.plain).map (·.k):=by
 rw[List.map_map,List.map_map]
 refine List.ext_getElem? λj=>?_
 rw[afG,afG,List.getElem?_set]
 split
 ·rename_i e
  subst e
  rw[afz (afP.1 a).1,a]
  show some q.k=some p.k
  rw[b]
 ·rfl
theorem iO.set{ps:List aY}{i:Nat}{p q:aY}{va:Value}{T:av}(h:iO ps va T)(d:ps[i]? =some p)(c:q.k=p.k):iO (ps.set i q) va T:=by
 obtain⟨M,b,a⟩:=h
 exact⟨M,b,λk=>by rw[a];exact Ov (P1 d c).symm k⟩
def tn(x:XC)(Rc:aA)(xb:Nat)(ps:List aY)(e:Nat)(va:Value)(i:Nat)(p:aY)(H':aM):Prop:=∃vp Ta To TL Tr Tu l q,
 H'=[x.iE xb va vp (e+(eJ x.c.plain x.num x.sub (ps.map aY.plain) i).2),Ta,To,TL,Tr,Tu]/\(∀p∈l,aY.is Rc p)/\((ps++l).set i q).map aY.plain=(eJ x.c.plain x.num x.sub (ps.map aY.plain) i).1/\iO ((ps++l).set i q) va Ta/\OS 95 8 aY.enc vp ((ps++l).set i q) To/\
 (q=p\/q.vn=p.vn/\q.nodes=p.nodes/\RS (sg Tu) 1 jW q.vu q.iC/\RS (sg TL) 1 eD q.vl q.ll/\∀y∈q.ll,RS (sg Tr) 1 dv y.1 y.2)
theorem Oc(x:XC)(A R:aA)(b5:∀b o,A b o->R b o)(h:x.ok A)(xb:Nat)(ps:List aY)(e:Nat)(va w:Value)(B C:av)(hA:iO ps va B)(V:OS 95 8 aY.enc w ps C)(i:Nat)(p:aY)(v:ps[i]? =some p)(hn:RS R 5 Nd.enc p.vn p.nodes)(a3:p.plain=one x.c.plain x.num p.k)(e9:p.nodes.length<=1000000)
  (hl:(eJ x.c.plain x.num x.sub (ps.map aY.plain) i).1.length<=3000000)(he:e<=1000000000000):
  Spec prog 85 [pT xb,iN i] R [x.iE xb va w e,B,C] λ_ H'=>tn x A xb ps e va i p H':=by
 have f3:=Ba x
 have e6:=M4 x A h xb
 obtain⟨M0,d6,_⟩:=id hA
 have g4:=d6.one
 have g5:=V.ay
 have f1:=aR v
 have f7:cM p.enc:=⟨V.one p f1⟩
 have a5:(ps.map aY.plain)[i]? =some p.plain:=by rw[afG,v];rfl
 have e0:=(afP.1 v).1
 have b6:∀H',tn x A xb ps e va i p H'↔∃w B C U H I l q,
  H'=[x.iE xb va w (e+(eJ x.c.plain x.num x.sub (ps.map aY.plain) i).2),B,C,U,H,I]/\(∀p∈l,aY.is A p)/\((ps++l).set i q).map aY.plain=(eJ x.c.plain x.num x.sub (ps.map aY.plain) i).1/\iO ((ps++l).set i q) va B/\OS 95 8 aY.enc w ((ps++l).set i q) C/\
  (q=p\/q.vn=p.vn/\q.nodes=p.nodes/\RS (sg I) 1 jW q.vu q.iC/\RS (sg U) 1 eD q.vl q.ll/\∀y∈q.ll,RS (sg H) 1 dv y.1 y.2):=λ_=>Iff.rfl
 have W:=N9 (c:=x.c.plain) (num:=x.num) (sub:=x.sub) a5
 have a4:=Ob (c:=x.c.plain) (num:=x.num) (sub:=x.sub) a5 a3
 have e5:=hn.le
 obtain⟨k,f,vn,d,S,Q,t,s,g⟩:=p
 have f0:aY.plain ⟨k,f,vn,d,S,Q,t,s,g⟩=⟨k,f,d,g,Q,s.map (·.2)⟩:=rfl
 rw[f0]at W a4 a5 a3
 simp only at W a4 hn a3 e5 e9
 have e3:=λj=>BL (c:=x.c.plain) (num:=x.num) (sub:=x.sub) k d j (ps.map aY.plain)
 have e7:=wO (c:=x.c.plain) (num:=x.num) (sub:=x.sub) k d (ps.map aY.plain)
 have f5:=λ(j:Nat) (n:Nd) (hj:d[j]? =some n)=>BM (c:=x.c.plain) (num:=x.num) (sub:=x.sub) hj k (ps.map aY.plain)
 have b9:(dC x.c.plain x.num x.sub k (ps.map aY.plain) d).1.length<=3000000:=by
  rw[W]at hl
  rwa [List.length_set]at hl
 refine Spec.body func85 rfl results85 ntmps85 rfl<|.sr<|.mo rfl<|.nc rfl<|.fa rfl<|.fa rfl<|.lo rfl<|.mo rfl ?_
 refine .bh i V v (λg6=>?_)
 refine .q (.aL rfl) ?_
 refine .cq (λb4=>?_)
 refine .bZ rfl rfl<|.zs<|.sr<|.fa rfl<|.lo rfl<|.q .not<|.zn<|.cond rfl (λh1=>?_) λh1=>?_
 have hf:f=false:=by simpa using h1
 have c3:=a4 hf
 refine .ret (aJ (br _ .none (bz.NK.trans (aK [4,4,4,0,0,0])) ?_))
 ·refine(b6 _).2 ⟨w,B,C,[],[],[],[],⟨k,f,vn,d,S,Q,t,s,g⟩,?_,λq hq=>(by cases hq),?_,?_,?_,.inl rfl⟩
  ·rw[c3];simp[take,bN]
  ·rw[c3,afM]
   rw[AK v]
  ·rw[afM];exact hA.set v rfl
  ·rw[afM]
   rw[AK v];exact V
 have hf:f=true:=by simpa using h1
 refine .kn<|.sr<|.mo rfl<|.fa rfl<|.q (.loadT rfl)<|.fa rfl<|.lo rfl<|.call [] (f3 _ (h.mono λb o D=>.inl (b5 b o D)) xb va w e (pc:=PC.of (E:=190) (fr:=(0,0)) (.inr (by simp[rest]))) k) (λu H' O=>?_)
 obtain⟨I,Ts,rfl,T,ws,rfl,b3,g2⟩:=O
 have c5:=b3.ay
 conv=>arg 8;simp only[rest,bN,afT,afN]
 refine .mo rfl<|.q .extract<|.q .extract<|.ag rfl<|.ag rfl<|.z<|.ag rfl<|.z ?_
 refine .makeMap (λa1=>?_)
 refine .ag rfl<|.zs<|.sr<|.fa rfl<|.lo rfl<|.q (.bK hn)<|.mo rfl<|.zn<|.block<|.cX [(0,_),(1,_),(4,_),(5,_),(8,_),(36,_),(37,_)] (X:=Nat×List aY×Value×av×av×Value×List fR×av×av×List (Int×Bool)×av) (λy=>y.1<=d.length/\BA x A ps va k (d.take y.1) (.map (some a1)) y.2.1 y.2.2.1 y.2.2.2.1 y.2.2.2.2.1 y.2.2.2.2.2.1 y.2.2.2.2.2.2.1 y.2.2.2.2.2.2.2.1 y.2.2.2.2.2.2.2.2.1 y.2.2.2.2.2.2.2.2.2.1 y.2.2.2.2.2.2.2.2.2.2) (λy E=>(38,iN y.1)::(7,y.2.2.2.2.2.1)::E) (G:=[I,bl b4 (aY.enc ⟨k,f,vn,d,S,Q,t,s,g⟩) 95]) (λy G=>x.iE xb va y.2.2.1 e::y.2.2.2.1::y.2.2.2.2.1::y.2.2.2.2.2.2.2.1::y.2.2.2.2.2.2.2.2.1::y.2.2.2.2.2.2.2.2.2.2::G) (λy=>d.length-y.1) (0,ps,w,B,C,sZ,[],[],[],[],[(a1,.map #[] 0)]) ⟨afA _,⟨rfl,hA,V,⟨[],by simp,λq hq=>(by cases hq)⟩,OS.nil,λq hq=>(by cases hq),rfl,MS.nil,rfl⟩⟩ kE.c.c.c.c.c.c.c.c.c (bz.jk.trans (aK [6,6,6,0,0,0,0,1])) ?_
 rintro⟨j,Y,c7,a7,d0,vL,L,U,H,M,Tm⟩ ⟨hj,a⟩
 simp only at hj a⊢
 have c6:=a.le.ay
 have g0:L.length<=j:=by
  have h9:=afD List.length a.ll
  have h8:=(tv (c:=x.c.plain) (num:=x.num) (sub:=x.sub) k (d.take j) (ps.map aY.plain)).1
  rw[afB]at h9
  rw[afH]at h8
  omega
 refine .sr<|.q .lss<|.zs<|.cond rfl (λh2=>?_) λh2=>?_
 have b7:j<d.length:=cK h2
 obtain⟨n,c2⟩:=ca b7
 have a0:=f5 j n c2
 have c0:=e3 (j+1)
 have e4:(dO x.c.plain x.num (Y.map aY.plain) (eC x.c.plain x.sub k n)).1.length<=3000000:=by
  rw[a.eq]
  rw[a0]at c0
  exact afO c0 b9
 refine .kn<|.seq<|.block<|.sr ?_
 refine .bF j hn c2 (λg7=>?_)
 refine .q (.aL rfl) ?_
 refine .cq (λd1=>?_)
 refine .bZ rfl rfl<|.z<|.mo rfl<|.q (.aL rfl)<|.q (.aL rfl)<|.call [1,1,1] ((e6 Y e va c7 a7 d0 a.at_ a.o k [.bool f,vn,S,t,iN g] n (ie:=⟨λu O=>f7.h u (by simp only[aY.enc];simp only[afR,afV,afW]at O⊢;simp[O])⟩) e4 rfl).weaken λb o D=>.inl (b5 b o D)) (λu H' O=>?_)
 obtain⟨f8,c8,a8,b0,Tl,rfl,J⟩:=O
 have iu:=J.l.ay
 have N:=J.l
 conv=>arg 8;simp only[rest,bN,afT,afN]
 obtain⟨r,a6⟩:∃r,r=(dO x.c.plain x.num (Y.map aY.plain) (eC x.c.plain x.sub k n)).2:=⟨_,rfl⟩
 rw[<-a6]at N
 have g3:=N.le
 refine .ag rfl<|.zs<|.sr<|.mo rfl<|.q (.eR N)<|.mo rfl<|.zn<|.block<|.cX [(0,_),(1,_),(4,_),(5,_),(7,_),(8,_),(11,_),(36,_),(37,_),(38,_),(46,_),(47,_)] (X:=Nat×List (Int×Bool)×av) (λy=>y.1<=r.length/\MS kI Value.bool (.map (some a1)) y.2.1 y.2.2/\y.2.1.map (·.1)=(li (li [] (dC x.c.plain x.num x.sub k (ps.map aY.plain) (d.take j)).2.flatten) (r.take y.1)).map λn:Nat=>(n:Int)) (λy E=>(48,iN y.1)::E) (G:=[Tl,x.iE xb va c8 e,a8,b0,bl d1 n.enc 199,U,H,I,bl b4 (aY.enc ⟨k,f,vn,d,S,Q,t,s,g⟩) 95]) (λy G=>y.2.2::G) (λy=>r.length-y.1) (0,M,Tm) ⟨afA _,a.ms,a.zB⟩ kE.c.c.c.c.c.c.c.c.c.c.c.c.c (aK [7,0,0,0,0,0,0,0,0,0]) ?_
 rintro⟨m,M2,c9⟩ ⟨hm,a2,Z⟩
 simp only at hm a2 Z⊢
 refine .sr<|.q .lss<|.zs<|.cond rfl (λh3=>?_) λh3=>?_
 have c1:m<r.length:=cK h3
 obtain⟨to,c4⟩:=ca c1
 have f4:=PY c4 (li [] (dC x.c.plain x.num x.sub k (ps.map aY.plain) (d.take j)).2.flatten)
 refine .kn<|.seq<|.block<|.sr ?_
 refine .bh m N c4 (λg8=>?_)
 refine .lo rfl<|.az rfl<|.region<|.mo rfl<|.mo rfl<|.update (key:=(to:Int)) (u:=true) a2 rfl rfl rfl (λT2 d7 _=>?_)
 have b8:=Nv Z true to
 rw[<-f4]at b8
 refine .nil<|ba<|au<|.region<|.ia (m+1) .add<|.mo rfl<|.nil ?_
 ·exact bp (m+1,dy (to:Int) true M2,T2) ⟨c1,d7,b8⟩ (by simp only;omega) kE.c.c.c.c.c.c.c.c.c.c.c.c.c rH
 have e8:m=r.length:=by have:=bI h3;omega
 rw[e8,afE]at Z
 obtain⟨pu,cu,rfl,_⟩:=N.shape
 refine .exit<|bD<|bG<|bE<|au<|.region<|.mo rfl<|.mo rfl ?_
 refine .jB (λf9=>?_)
 refine .append a.le (RS.lits (xs:=[((.slice pu r.length cu,r):fR)]) rfl (by simp[eD]) (by simp[eD,ay])) (by simp only[afI];omega) (λv5 T5 f6=>?_)
 refine .ag rfl<|.nil<|ba<|au<|.region<|.ia (j+1) .add<|.mo rfl<|.nil ?_
 ·exact bp (j+1,f8,c8,a8,b0,v5,L++[(.slice pu r.length cu,r)],T5,Tl++H,M2,c9) ⟨b7,⟨by rw[a0,J.eq,a.eq],J.at_,J.o,by
   obtain⟨l1,d2,d3⟩:=a.gr
   obtain⟨l2,d4,d5⟩:=J.gr
   refine⟨l1++l2,by rw[d4,d2,List.append_assoc],λq hq=>?_⟩
   rcases afL.1 hq with hq|hq
   ·exact d3 q hq
   ·exact d5 q hq,f6,λq hq=>by
   rcases afL.1 hq with hq|hq
   ·exact(a.rows q hq).mono λb o D=>ju D
   ·rw[afJ]at hq
    subst hq
    exact N.sg.mono λb o D=>kD D,by rw[a0,afC,a.ll,a6,a.eq];rfl,a2,by rw[a0,List.flatten_append,AE,Z,a6,a.eq];simp⟩⟩ (by simp only;omega) kE.c.c.c.c.c.c.c.c.c ((aK [3,3,3,4,2,3,1,2,2]).trans (bz.fH (by simp[take,bN])))
 have e1:j=d.length:=by have:=bI h2;omega
 rw[e1,afE]at a
 have K:Y[i]? =some ⟨k,f,vn,d,S,Q,t,s,g⟩:=by
  obtain⟨l,F,_⟩:=a.gr
  rw[F,List.getElem?_append_left e0,v]
 obtain⟨a9,d9⟩:=a.o.B7 K
 have b1:M.length=kX (dC x.c.plain x.num x.sub k (ps.map aY.plain) d).2.flatten:=by
  have:=afD List.length a.zB
  rw[afB,afB]at this
  exact this
 have g1:M.length<=3000000:=by
  rw[b1]
  refine afO (ND (n:=(dC x.c.plain x.num x.sub k (ps.map aY.plain) d).1.length) λy hy=>?_) b9
  obtain⟨l,F,hy⟩:=List.mem_flatten.1 hy
  exact e7 l F y hy
 refine .exit<|bD<|bG<|bE<|au<|.seq<|.dz [16,19] mixed<|.tO 0 rfl .move<|.tO 1 rfl (.nilCheck rfl)<|.tO 2 rfl (.fieldAddr rfl)<|.tO 3 rfl (.fieldAddr rfl)<|.tO 4 rfl (.cI rfl)<|.tO 5 rfl .move<|.tO 6 rfl .move<|.tO 7 rfl (.nilCheck rfl)<|.tO 8 rfl (.fieldAddr rfl)<|.tO 9 rfl (.fieldAddr rfl)<|.tO 10 rfl (.cI rfl)<|.tK 11 rfl .move<|.tO 12 rfl .move<|.tK 13 rfl .move ?_
 refine RA.bh 14 rfl i a.o K rfl rfl rfl (by kernel_rfl) (λg9=>?_)
 refine .tO 15 rfl (.fieldAddr rfl)<|.sT 16 rfl<|.qV (k:=5) (cs:=[T]) (z':=(⟨k,f,vn,d,T,kJ x.c.plain x.sub k,t,s,g⟩:aY)) i a.o K rfl rfl rfl (oQ c5.h) rfl (by simpa using c5.h) rfl (by simp) (λTd d8=>?_)
 have f2:(Y.set i (⟨k,f,vn,d,T,kJ x.c.plain x.sub k,t,s,g⟩:aY))[i]? =some ⟨k,f,vn,d,T,kJ x.c.plain x.sub k,t,s,g⟩:=by rw[List.getElem?_set_self (afP.1 K).1]
 refine .nil (Next.mod rfl ?_)
 refine RA.bh 17 rfl i a.o K rfl rfl rfl (by kernel_rfl) (λh0=>?_)
 refine .tK 18 rfl (.kr rfl d9)<|.sT 19 rfl<|.qV (k:=6) (cs:=[vL]) (z':=(⟨k,f,vn,d,T,kJ x.c.plain x.sub k,vL,L,g⟩:aY)) i d8 f2 rfl rfl rfl (oQ c6.h) rfl (by simpa using c6.h) rfl (by simp) (λTe b2=>?_)
 rw[List.set_set]at b2
 refine .nil<|Next.mod rfl<|RA.nil (by kernel_rfl)<|au<|.dY 11 mixed (by kernel_rfl) ?_
 conv=>arg 6;dsimp only[List.take]
 refine .mo rfl<|.nc rfl<|.fa rfl<|.fa rfl<|.lo rfl<|.mo rfl<|.q (.uB a.ms.rx rfl) ?_
 refine .ia (e+M.length) .add ?_
 refine .nc rfl<|.fa rfl<|.fa rfl<|.nil<|.ek rfl rfl<|.nil<|gC _ .none (aK [0,0,0,0,0,1]) ?_
 ·obtain⟨l,F,e2⟩:=a.gr
  refine(b6 _).2 ⟨c7,a7,Te,U,H,I,l,⟨k,f,vn,d,T,kJ x.c.plain x.sub k,vL,L,g⟩,?_,e2,?_,?_,?_,.inr ⟨rfl,rfl,b3.sg,a.le.sg,a.rows⟩⟩
  ·rw[W, <-b1];simp[take,bN];rfl
  ·rw[W, <-F,List.map_set,a.eq]
   simp only[hf,if_true]
   rw[<-a.ll]
   rfl
  ·rw[<-F];exact a.at_.set K rfl
  ·rw[<-F];exact b2
def pY(R:aA)(out:List bQ×Nat×Int)(u:Value)(H':aM):Prop:=∃vp ps T,H'=[T]/\u=.tuple [.agg [vp,iN out.2.1].toArray,.int .i64 out.2.2].toArray/\RS (λb o=>R b o\/(b,o)∈T) 8 aY.enc vp ps/\(∀p∈ps,aY.is (λb o=>R b o\/(b,o)∈T) p)/\ps.map aY.plain=out.1
theorem zL{W:ByteArray->Bool}{F:ByteArray->ByteArray->Bool}{c:Cf}{num:List Nat}{k:aW}(b:c.right W F=true):(one c num k).nodes.length<=64:=by
 unfold one
 split
 ·simp
 ·rename_i i d
  simp only[afU,afG]
  cases hy:c.all[i]? with
  |none=>simp
  |some y=>
   have a:=(ou b y (aR hy)).2
   unfold iI at a
   simp only[Bool.or_eq_false_iff,aga]at a
   simp only[Option.map_some,Option.getD_some]
   omega
theorem Od{c:Cf}{num:List Nat}{sub:aW->List Sub}{k:aW}{N i:Nat}(b:fK c num sub k N)(h:∀j,j<i->j<(opened c num sub k j).1.length):i<=N:=Nat.not_lt.1 λa=>by have:=h N a;have:=b.1;omega
theorem xA{R:aA}{hb:Nat}{vl:Value}{es:List cZ}{b4:Nat}(hV:HV R hb vl es b4){g:Nat}{S:cE}{c7:List RB}{vf vr:Value}{Mf:List (aW×(Value×av))}{Mr:List (Sub×(Value×av))}(hS:SV R g S c7 vf vr Mf Mr)
    {L:List bf}(hL:RL S L)(hl:S.rows.length<=1000)(rev:Int)(en:cZ)(b5:hZ es rev=some en)(num:List Nat)(V:kk isWord dd en.c.plain num)(f2:en.ll.map (·.2)=rows en.c.plain.aV num)(e8:b4<=1000000/\es.length<=1000000)(c2:∀e∈es,e.ll.length<=1000000/\∀q∈e.ll,q.2.length<=1000000)
    (k:aW)(b:Int)(g6:b<=9223372036854775807)(sub:aW->List Sub)(f9:sub=λk=>if scan S rev then(L.filter λy=>y.there rev&&decide (y.t.di=k)).map (·.t.sub)else [])
    (c3:∀i,(∀j,j<i->j<(opened en.c.plain num sub k j).1.length)->(opened en.c.plain num sub k i).1.length+(opened en.c.plain num sub k i).2<=1048576)(N:Nat)(hN:fK en.c.plain num sub k N):
    Spec prog 34 [pT hb,pT g,.int .u64 rev,.agg [.string k.os,.string k.oi].toArray,.string k.rel,.int .i64 b] R [] (pY R (jV en.c.plain num sub k b (scan S rev) N)):=by
  have d8:((hZ es rev).map λe=>e.c.plain).getD ⟨[],[]⟩=en.c.plain:=by rw[b5];rfl
  have b6:((hZ es rev).map λe=>e.ll.map (·.2)).getD []=rows en.c.plain.aV num:=by rw[b5];exact f2
  have J:∀out u H',pY R out u H'↔∃A s T,H'=[T]/\u=.tuple [.agg [A,iN out.2.1].toArray,.int .i64 out.2.2].toArray/\RS (λb o=>R b o\/(b,o)∈T) 8 aY.enc A s/\(∀p∈s,aY.is (λb o=>R b o\/(b,o)∈T) p)/\s.map aY.plain=out.1:=λ_ _ _=>Iff.rfl
  have r:jV en.c.plain num sub k b (scan S rev) N=if b<1 then([],0,2)else if scan S rev=false then([],0,12)
    else if(((opened en.c.plain num sub k N).1.length+(opened en.c.plain num sub k N).2:Nat):Int)<=b then((opened en.c.plain num sub k N).1,(opened en.c.plain num sub k N).2,0)else([],0,16):=rfl
  generalize g7:en.c.plain=cp at *
  refine Spec.body func34 rfl results34 ntmps34 rfl ?_
  refine .sr ?_
  refine .cg rfl (λb9=>?_)
  refine .cq (λb3=>?_)
  refine .ag rfl<|.z<|.mo rfl<|.fa rfl<|.lo rfl<|.fa rfl<|.lo rfl<|.mo rfl ?_
  refine .q .dw ?_
  refine .mo rfl ?_
  refine .dx ((Ai hS (by omega) ⟨k.os,k.oi,k.rel,⟨#[]⟩,⟨#[]⟩,⟨#[]⟩,⟨#[]⟩⟩ rev).weaken dt) (λu g4 a=>?_)
  obtain⟨wr,ys,rfl,d7,_⟩:=a
  have i3:=d7.ay
  refine .mo rfl<|.q .extract<|.q .extract<|.ag rfl<|.ag rfl<|.zs<|.block<|.sr<|.mo rfl ?_
  refine .aQ ((HV.made hV).weaken dt) (λu a=>?_)
  subst a
  refine .q .not<|.mo rfl ?_
  refine .split (t:=36) rfl (λa4=>?_) (λa4=>?_)
  ·simp at a4
  refine .gT a4<|.mo rfl<|.gT a4<|.q .cr<|.q (.aN a4) ?_
  refine .az rfl ?_
  refine .cond rfl (λh1=>?_) λh1=>?_
  ·cases I:scan S rev<;>simp[I]at h1
  refine .sr<|.mo rfl<|.q .lss<|.az rfl ?_
  refine .cond rfl (λh2=>?_) λh2=>?_
  have a1:b<1:=cL h2
  refine .sr ?_
  refine .q .dw ?_
  refine .bZ rfl rfl<|.az rfl ?_
  refine .ret (bA (aJ (br _ (.two (.iU rfl rfl) (.tmp rfl)) (bz.one [] _) ?_)))
  ·exact(J _ _ _).2 ⟨_,[],_,rfl,by rw[r,afz a1];rfl,RS.kZ,λp f=>(by cases f),by rw[r,afz a1];rfl⟩
  have a1:¬b<1:=bI h2
  refine .sr<|.mo rfl<|.q .de<|.az rfl ?_
  refine .cond rfl (λh3=>?_) λh3=>?_
  have I:scan S rev=false:=by
    cases I:scan S rev with
    |false=>rfl
    |true=>simp[I]at h3
  refine .sr ?_
  refine .q .dw ?_
  refine .mo rfl<|.bZ rfl rfl<|.az rfl ?_
  refine .ret (bA (aJ (br _ (.two (.iU rfl rfl) (.tmp rfl)) (bz.one [] _) ?_)))
  ·exact(J _ _ _).2 ⟨_,[],_,rfl,by rw[r,afy a1,afz I,I];rfl,RS.kZ,λp f=>(by cases f),by rw[r,afy a1,afz I];rfl⟩
  have I:scan S rev=true:=by
    cases I:scan S rev with
    |true=>rfl
    |false=>simp[I]at h3
  rw[afy a1,afy (by rw[I];simp)]at r
  refine .skip<|ba<|au<|.sr<|.mo rfl<|.mo rfl ?_
  refine .dx ((hV.at_ rev e8).weaken dt) (λu Tc a=>?_)
  obtain⟨U,rfl,Z,v⟩:=a
  rw[d8]at v
  have i0:cM U.enc:=⟨Z.dl⟩
  have h6:One U.vs:=RS.ay Z.ss
  have h7:One U.vc:=RS.ay Z.sc
  refine .mo rfl<|.q .extract<|.q .extract ?_
  refine .cq (λg5=>?_)
  refine .bZ rfl rfl<|.ag rfl<|.zs ?_
  refine bu.dc [(4,_),(9,_),(12,_)] kE.c.c.c (X:=Nat×Nat×Value×av) (λy=>MS mg kK y.2.2.1 (mm cp num) y.2.2.2) (λy E=>(18,.pointer (some ⟨y.1,0,none⟩))::E) (λy=>[XC.iE ⟨U,num,y.2.2.1,g,S,L,rev,b⟩ y.1 (.map (some y.2.1)) (sZ) 0,[(y.2.1,.map #[] 0)],[],[],Tc,y.2.2.2,bl b3 [sZ,.int .i64 0] 81,bl b9 [.string k.os,.string k.oi] 44]) ?_ ?_
  refine .dz [] mixed ?_
  refine .tO 0 rfl (.aL rfl)<|.tO 1 rfl (.aL rfl)<|.tO 2 rfl .move<|.tO 3 rfl .move<|.tO 6 rfl .move<|.tO 7 rfl .move<|.tO 9 rfl .move ?_
  refine RA.lN 4 8 rfl rfl (by kernel_rfl) rfl ?_ ?_
  refine .dx ((hV.numbers rev c2).weaken dt) (λu Tn a=>?_)
  obtain⟨ll,a0,a2⟩:=a
  rw[b6]at a2
  have g0:=a0.rs.ay
  refine .nil (Next.sub ?_)
  refine RA.lN 5 8 rfl rfl (by kernel_rfl) rfl ?_ ?_
  refine .dx ((uV U (λb o=>(b,o)∈Tc\/(b,o)∈Tn) (Z.mono λb o hb=>.inl hb) (by rw[v];exact V.dN) _ ll num (a0.mono λb o hb=>.inr hb) (by rw[v];exact a2) (by rw[v];exact V.len)).weaken λb o hb=>.inr (by rcases hb with hb|hb<;>simp[hb])) (λu w a=>?_)
  obtain⟨mn,rfl⟩:∃m,u=.map (some m):=by obtain⟨b,_,_,h,_⟩:=a;exact⟨b,h⟩
  refine .nil (Next.sub ?_)
  refine .sT 8 rfl ?_
  refine .makeMap (λB=>?_)
  refine .nil (Next.sub ?_)
  refine .tO 10 rfl .dw ?_
  refine .sT 11 rfl ?_
  refine .cg rfl (λC=>?_)
  refine .nil (Next.sub ?_)
  refine .tO 12 rfl .assign ?_
  refine RA.nil (by kernel_rfl) ?_
  ·first
      |exact aD (C,B,_,w) (by rw[<-v];exact a) ((((kE.d rfl).d rfl).d rfl).d rfl) (bz.jk.trans (aK [2,2,0,0,3,0,3,3]))
      |exact aD (C,B,_,w) (by rw[<-v];exact a) ((((kE.d rfl).d rfl).d rfl).d rfl) (bz.jk.trans (aK [2,3,0,0,3,0,3,3]))
      |exact aD (C,B,_,w) (by rw[<-v];exact a) ((((kE.d rfl).d rfl).d rfl).d rfl) (bz.jk.trans (aK [2,4,0,0,3,0,3,3]))
  refine .makeMap (λB=>?_)
  refine .nil (Next.sub ?_)
  refine .sT 5 rfl ?_
  refine .dx ((uV U (λb o=>(b,o)∈Tc\/(b,o)∈Tn) (Z.mono λb o hb=>.inl hb) (by rw[v];exact V.dN) _ ll num (a0.mono λb o hb=>.inr hb) (by rw[v];exact a2) (by rw[v];exact V.len)).weaken λb o hb=>.inr (by rcases hb with hb|hb<;>simp[hb])) (λu w a=>?_)
  obtain⟨mn,rfl⟩:∃m,u=.map (some m):=by obtain⟨b,_,_,h,_⟩:=a;exact⟨b,h⟩
  refine .nil (Next.sub ?_)
  refine .tO 10 rfl .dw ?_
  refine .sT 11 rfl ?_
  refine .cg rfl (λC=>?_)
  refine .nil (Next.sub ?_)
  refine .tO 12 rfl .assign ?_
  refine RA.nil (by kernel_rfl) ?_
  ·first
      |exact aD (C,B,_,w) (by rw[<-v];exact a) ((((kE.d rfl).d rfl).d rfl).d rfl) (bz.jk.trans (aK [2,2,0,0,3,0,3,3]))
      |exact aD (C,B,_,w) (by rw[<-v];exact a) ((((kE.d rfl).d rfl).d rfl).d rfl) (bz.jk.trans (aK [2,3,0,0,3,0,3,3]))
      |exact aD (C,B,_,w) (by rw[<-v];exact a) ((((kE.d rfl).d rfl).d rfl).d rfl) (bz.jk.trans (aK [2,4,0,0,3,0,3,3]))
  refine .makeMap (λB=>?_)
  refine .nil (Next.sub ?_)
  refine .sT 4 rfl ?_
  refine .dx ((hV.numbers rev c2).weaken dt) (λu Tn a=>?_)
  obtain⟨ll,a0,a2⟩:=a
  rw[b6]at a2
  have g0:=a0.rs.ay
  refine .nil (Next.sub ?_)
  refine .sT 5 rfl ?_
  refine .dx ((uV U (λb o=>(b,o)∈Tc\/(b,o)∈Tn) (Z.mono λb o hb=>.inl hb) (by rw[v];exact V.dN) _ ll num (a0.mono λb o hb=>.inr hb) (by rw[v];exact a2) (by rw[v];exact V.len)).weaken λb o hb=>.inr (by rcases hb with hb|hb<;>simp[hb])) (λu w a=>?_)
  obtain⟨mn,rfl⟩:∃m,u=.map (some m):=by obtain⟨b,_,_,h,_⟩:=a;exact⟨b,h⟩
  refine .nil (Next.sub ?_)
  refine .tO 10 rfl .dw ?_
  refine .sT 11 rfl ?_
  refine .cg rfl (λC=>?_)
  refine .nil (Next.sub ?_)
  refine .tO 12 rfl .assign ?_
  refine RA.nil (by kernel_rfl) ?_
  ·first
      |exact aD (C,B,_,w) (by rw[<-v];exact a) ((((kE.d rfl).d rfl).d rfl).d rfl) (bz.jk.trans (aK [2,2,0,0,3,0,3,3]))
      |exact aD (C,B,_,w) (by rw[<-v];exact a) ((((kE.d rfl).d rfl).d rfl).d rfl) (bz.jk.trans (aK [2,3,0,0,3,0,3,3]))
      |exact aD (C,B,_,w) (by rw[<-v];exact a) ((((kE.d rfl).d rfl).d rfl).d rfl) (bz.jk.trans (aK [2,4,0,0,3,0,3,3]))
  intro y hy
  obtain⟨xb,Q,vn,w⟩:=y
  simp only at hy⊢
  obtain⟨x,a3⟩:∃x:XC,x=⟨U,num,vn,g,S,L,rev,b⟩:=⟨_,rfl⟩
  have i2:=hy.one
  have c6:x.sub=sub:=by rw[f9,a3];rfl
  have a7:x.c.plain=cp:=by rw[a3];exact v
  have a8:x.num=num:=by rw[a3]
  have O:x.b=b:=by rw[a3]
  obtain⟨Rc,H⟩:∃Rc:aA,Rc=λb o=>R b o\/(b,o)∈Tc\/(b,o)∈w:=⟨_,rfl⟩
  have a5:x.ok Rc:=by
    rw[a3,H]
    exact⟨Z.mono λb o hb=>.inr (.inl hb),by simp only;rw[v];exact hy.rm λp f=>.inr (.inr f),by simp only;rw[v];exact V.len,⟨c7,vf,vr,Mf,Mr,hS.mono λb o hb=>.inl hb⟩,hL,hl⟩
  have f7:=z6 x Rc a5 xb
  have f4:=λR h=>Oc x Rc R h a5 xb
  have b2:=λR h=>Ok x R h xb
  rw[<-a3]
  refine au<|.sr<|.mo rfl<|.q (.aL rfl)<|.mo rfl ?_
  refine .call [0,0,0] ((f7 [] 0 (.map (some Q)) (sZ) [(Q,.map #[] 0)] [] ⟨[],MS.nil,λk=>rfl⟩ OS.nil (by simp) k).weaken λb o hb=>by
    rw[H]at hb
    rcases hb with hb|hb|hb
    ·exact .inl hb
    ·exact .inr (by simp[rest,bN,hb])
    ·exact .inr (by simp[rest,bN,hb])) (λu H' a=>?_)
  obtain⟨c8,g2,c9,d1,rfl,rfl,d9,d3,d5,l1,c1,f5⟩:=a
  rw[afN]at c1
  subst c1
  conv=>arg 8;simp only[rest,bN,afT,afN]
  have h0:c8.map aY.plain=(opened cp num sub k 0).1:=by rw[d9,a7,a8];rfl
  refine .zs<|.sr<|.az rfl<|.block ?_
  refine .cX [(12,_),(18,_)] (X:=Nat×List aY×Value×av×av×av) (λy=>(∀j,j<y.1->j<(opened cp num sub k j).1.length/\(((opened cp num sub k j).1.length+(opened cp num sub k j).2:Nat):Int)<=b)/\y.2.1.map aY.plain=(opened cp num sub k y.1).1/\iO y.2.1 (.map (some Q)) y.2.2.2.1/\OS 95 8 aY.enc y.2.2.1 y.2.1 y.2.2.2.2.1/\∀q∈y.2.1,q.is λb o=>Rc b o\/(b,o)∈y.2.2.2.2.2) (λy E=>(19,iN y.1)::E) (G:=[Tc,w,bl b3 [sZ,.int .i64 0] 81,bl b9 [.string k.os,.string k.oi] 44]) (λy G=>x.iE xb (.map (some Q)) y.2.2.1 (opened cp num sub k y.1).2::y.2.2.2.1::y.2.2.2.2.1::y.2.2.2.2.2::G) (λy=>N+1-y.1) (0,c8,g2,c9,d1,[]) ⟨λj hj=>(by omega),h0,d3,d5,λq hq=>(f5 q hq).mono λb o hb=>.inl hb⟩ kE.c.c.c rH ?_
  rintro⟨i,s,A,Ta,To,Tp⟩ ⟨hj,M,hA,F,K⟩
  simp only at hj M hA F K⊢
  have g1:=F.ay
  have i1:cM (List.take 2 (List.drop 6 (x.cells (.map (some Q)) A (opened cp num sub k i).2))):=⟨λu a=>by
    simp[XC.cells]at a
    rcases a with rfl|rfl
    ·exact g1.h
    ·rfl⟩
  have a9:∀j,j<i->j<(opened cp num sub k j).1.length:=λj Y=>(hj j Y).1
  have b7:=Od hN a9
  have g8:=c3 i a9
  have f6:s.length=(opened cp num sub k i).1.length:=by rw[<-M,afB]
  refine .seq<|.sr<|.mo rfl<|.mo rfl<|.nc rfl<|.fa rfl<|.fa rfl<|.lo rfl<|.q (.eR F) ?_
  refine .q .lss<|.mo rfl ?_
  refine .split (t:=80) rfl (λD=>?_) (λD=>?_)
  have b8:i<s.length:=by have:=cL D;omega
  refine .gT D<|.mo rfl<|.gT D ?_
  refine .aQ (b2 _ (a5.mono λb o hb=>by
    rw[H]at hb
    rcases hb with hb|hb|hb
    ·exact .inl hb
    ·exact .inr (by simp[hb])
    ·exact .inr (by simp[hb])) (.map (some Q)) A (opened cp num sub k i).2 s (pc:=PC.of (E:=190) (fr:=(0,0)) (.inr (by simp))) F.rx (by omega) (by rw[O];omega)) (λu a=>?_)
  subst a
  refine .gT D<|.q .not<|.q (.aU D) ?_
  refine .zn ?_
  refine .cond rfl (λh4=>?_) λh4=>?_
  have f0:(((opened cp num sub k i).1.length+(opened cp num sub k i).2:Nat):Int)<=b:=by
    have:¬x.b<(s.length+(opened cp num sub k i).2:Nat):=by simpa using h4
    rw[O]at this;omega
  obtain⟨p,f⟩:=ca b8
  have b0:p.plain=one x.c.plain x.num p.k:=by
    rw[a7,a8]
    exact zQ (c:=cp) (num:=num) (sub:=sub) (k:=k) i i p.plain (Nat.le_refl _) (by rw[<-M,afG,f];rfl)
  have f1:p.nodes.length<=1000000:=by
    have Y:=zL (num:=num) (k:=p.k) V.right
    rw[a7,a8]at b0
    rw[<-b0]at Y
    exact afO Y (by omega)
  have c0:∀j,j<i+1->j<(opened cp num sub k j).1.length/\(((opened cp num sub k j).1.length+(opened cp num sub k j).2:Nat):Int)<=b:=λj Y=>by
    rcases Nat.lt_or_ge j i with h8|h8
    ·exact hj j h8
    ·obtain rfl:j=i:=by omega
     exact⟨by omega,f0⟩
  have g9:=c3 (i+1) λj Y=>(c0 j Y).1
  have c5:=Of (c:=cp) (num:=num) (sub:=sub) (k:=k) i
  have c4:(eJ cp num sub (s.map aY.plain) i).1=(opened cp num sub k (i+1)).1:=by rw[c5,M]
  have f3:(opened cp num sub k i).2+(eJ cp num sub (s.map aY.plain) i).2=(opened cp num sub k (i+1)).2:=by rw[c5,M]
  refine .kn<|.seq<|.block<|.region<|.mo rfl<|.mo rfl ?_
  refine .call [0,0,0] (f4 _ (λb o hb=>by
    rw[H]at hb
    rcases hb with hb|hb|hb
    ·exact .inl hb
    ·exact .inr (by simp[rest,bN,hb])
    ·exact .inr (by simp[rest,bN,hb])) s (opened cp num sub k i).2 (.map (some Q)) A Ta To hA F i p f ((K p (aR f)).n.mono λb o hb=>by
    rw[H]at hb
    rcases hb with(hb|hb|hb)|hb
    ·exact .inl hb
    ·exact .inr (by simp[rest,bN,hb])
    ·exact .inr (by simp[rest,bN,hb])
    ·exact .inr (by simp[rest,bN,hb])) b0 f1 (by rw[a7,a8,c6,c4];omega) (by omega)) (λu H' a=>?_)
  rw[tn,a7,a8,c6,c4,f3]at a
  obtain⟨g3,d0,d2,TL,Tr,Tu,l,q,rfl,e9,e0,d4,d6,f8⟩:=a
  conv=>arg 8;simp only[rest,bN,afT,afN]
  refine .nil<|ba<|au<|.region<|.mo rfl ?_
  refine .ia (i+1) .add ?_
  refine .ag rfl<|.nil ?_
  ·exact bp (i+1,(s++l).set i q,g3,d0,d2,TL++(Tr++(Tu++Tp))) ⟨c0,e0,d4,d6,λz hz=>by
      rcases List.mem_or_eq_of_mem_set hz with hz|rfl
      ·rcases afL.1 hz with hz|hz
       ·exact(K z hz).mono λb o hb=>hb.imp id λhb=>afK _ (afK _ (afK _ hb))
       ·exact(e9 z hz).mono λb o hb=>.inl hb
      ·rcases f8 with rfl|⟨e1,e2,e3,e4,e5⟩
       ·exact(K _ (aR f)).mono λb o hb=>hb.imp id λhb=>afK _ (afK _ (afK _ hb))
       ·refine⟨?_,e3.mono λb o hb=>.inr (afK _ (afK _ (af4 _ hb))),e4.mono λb o hb=>.inr (af4 _ hb),λy hy=>(e5 y hy).mono λb o hb=>.inr (afK _ (af4 _ hb))⟩
        rw[e1,e2]
        exact(K p (aR f)).n.mono λb o hb=>hb.imp id λhb=>afK _ (afK _ (afK _ hb))⟩ (by simp only;omega) kE.c.c.c (bz.fH (by simp[du]))
  refine .exit<|bD<|bG<|bE<|au<|.seq<|.sr<|.mo rfl ?_
  refine .aQ (b2 _ (a5.mono λb o hb=>by
    rw[H]at hb
    rcases hb with hb|hb|hb
    ·exact .inl hb
    ·exact .inr (by simp[hb])
    ·exact .inr (by simp[hb])) (.map (some Q)) A (opened cp num sub k i).2 s (pc:=PC.of (E:=190) (fr:=(0,0)) (.inr (by simp))) F.rx (by omega) (by rw[O];omega)) (λu a=>?_)
  subst a
  refine .zn ?_
  refine .cond rfl (λW=>?_) λW=>?_
  have a6:b<(((opened cp num sub k i).1.length+(opened cp num sub k i).2:Nat):Int):=by
    have:x.b<(s.length+(opened cp num sub k i).2:Nat):=by simpa using W
    rw[O]at this;omega
  obtain⟨e6,e7⟩:=uZ (c:=cp) (num:=num) (sub:=sub) (k:=k) b7
  rw[afy (by omega)]at r
  refine .sr ?_
  refine .q .dw ?_
  refine .bZ rfl rfl<|.az rfl ?_
  refine .ret (aJ (br _ (.two (.iU rfl rfl) (.tmp rfl)) (bz.one [2,2,2,2] _) ?_))
  ·first
      |exact(J _ _ _).2 ⟨_,[],_,rfl,by rw[r];rfl,RS.kZ,λp f=>(by cases f),by rw[r];rfl⟩
      |exact(J _ _ _).2 ⟨A,s,_,rfl,by rw[r];rfl,F.rs λp f=>.inr (by simp[take,bN,f]),λp f=>(K p f).mono λb o hb=>(by
          rw[H]at hb
          rcases hb with(hb|hb|hb)|hb
          ·exact .inl hb
          ·exact .inr (by simp[take,bN,hb])
          ·exact .inr (by simp[take,bN,hb])
          ·exact .inr (by simp[take,bN,hb])),by rw[r];exact M⟩
  have a6:(((opened cp num sub k i).1.length+(opened cp num sub k i).2:Nat):Int)<=b:=by
    have:¬x.b<(s.length+(opened cp num sub k i).2:Nat):=by simpa using W
    rw[O]at this;omega
  have b1:i=N:=by
    refine fK.dN (c:=cp) (num:=num) (sub:=sub) (k:=k) ⟨?_,a9⟩ hN
    (exfalso
     have:x.b<(s.length+(opened cp num sub k i).2:Nat):=by simpa using h4
     rw[O]at this
     omega)
  subst b1
  rw[afz a6]at r
  refine .kn<|.sr<|.mo rfl<|.nc rfl<|.fa rfl<|.q (.loadT rfl) ?_
  refine .bZ rfl rfl<|.az rfl ?_
  refine .ret (br _ (.two (.iU rfl rfl) (.tmp rfl)) (bz.one [2,2,2,2] _) ?_)
  ·first
      |exact(J _ _ _).2 ⟨_,[],_,rfl,by rw[r];rfl,RS.kZ,λp f=>(by cases f),by rw[r];rfl⟩
      |exact(J _ _ _).2 ⟨A,s,_,rfl,by rw[r];rfl,F.rs λp f=>.inr (by simp[take,bN,f]),λp f=>(K p f).mono λb o hb=>(by
          rw[H]at hb
          rcases hb with(hb|hb|hb)|hb
          ·exact .inl hb
          ·exact .inr (by simp[take,bN,hb])
          ·exact .inr (by simp[take,bN,hb])
          ·exact .inr (by simp[take,bN,hb])),by rw[r];exact M⟩
  have b8:¬i<s.length:=by have:=bI D;omega
  refine .gF D<|.gF D<|.gF D<|.q (.aN D) ?_
  refine .zn<|.dA<|.exit<|bD<|bG<|bE<|au<|.seq<|.sr<|.mo rfl ?_
  refine .aQ (b2 _ (a5.mono λb o hb=>by
    rw[H]at hb
    rcases hb with hb|hb|hb
    ·exact .inl hb
    ·exact .inr (by simp[hb])
    ·exact .inr (by simp[hb])) (.map (some Q)) A (opened cp num sub k i).2 s (pc:=PC.of (E:=190) (fr:=(0,0)) (.inr (by simp))) F.rx (by omega) (by rw[O];omega)) (λu a=>?_)
  subst a
  refine .zn ?_
  refine .cond rfl (λW=>?_) λW=>?_
  have a6:b<(((opened cp num sub k i).1.length+(opened cp num sub k i).2:Nat):Int):=by
    have:x.b<(s.length+(opened cp num sub k i).2:Nat):=by simpa using W
    rw[O]at this;omega
  obtain⟨e6,e7⟩:=uZ (c:=cp) (num:=num) (sub:=sub) (k:=k) b7
  rw[afy (by omega)]at r
  refine .sr ?_
  refine .q .dw ?_
  refine .bZ rfl rfl<|.az rfl ?_
  refine .ret (aJ (br _ (.two (.iU rfl rfl) (.tmp rfl)) (bz.one [2,2,2,2] _) ?_))
  ·first
      |exact(J _ _ _).2 ⟨_,[],_,rfl,by rw[r];rfl,RS.kZ,λp f=>(by cases f),by rw[r];rfl⟩
      |exact(J _ _ _).2 ⟨A,s,_,rfl,by rw[r];rfl,F.rs λp f=>.inr (by simp[take,bN,f]),λp f=>(K p f).mono λb o hb=>(by
          rw[H]at hb
          rcases hb with(hb|hb|hb)|hb
          ·exact .inl hb
          ·exact .inr (by simp[take,bN,hb])
          ·exact .inr (by simp[take,bN,hb])
          ·exact .inr (by simp[take,bN,hb])),by rw[r];exact M⟩
  have a6:(((opened cp num sub k i).1.length+(opened cp num sub k i).2:Nat):Int)<=b:=by
    have:¬x.b<(s.length+(opened cp num sub k i).2:Nat):=by simpa using W
    rw[O]at this;omega
  have b1:i=N:=by
    refine fK.dN (c:=cp) (num:=num) (sub:=sub) (k:=k) ⟨?_,a9⟩ hN
    (rw[<-f6];omega)
  subst b1
  rw[afz a6]at r
  refine .kn<|.sr<|.mo rfl<|.nc rfl<|.fa rfl<|.q (.loadT rfl) ?_
  refine .bZ rfl rfl<|.az rfl ?_
  refine .ret (br _ (.two (.iU rfl rfl) (.tmp rfl)) (bz.one [2,2,2,2] _) ?_)
  ·first
      |exact(J _ _ _).2 ⟨_,[],_,rfl,by rw[r];rfl,RS.kZ,λp f=>(by cases f),by rw[r];rfl⟩
      |exact(J _ _ _).2 ⟨A,s,_,rfl,by rw[r];rfl,F.rs λp f=>.inr (by simp[take,bN,f]),λp f=>(K p f).mono λb o hb=>(by
          rw[H]at hb
          rcases hb with(hb|hb|hb)|hb
          ·exact .inl hb
          ·exact .inr (by simp[take,bN,hb])
          ·exact .inr (by simp[take,bN,hb])
          ·exact .inr (by simp[take,bN,hb])),by rw[r];exact M⟩
def dH.enc(x:dH):List Value:=[iN x.1,iN x.2]
instance dH.one(x:dH):cM (dH.enc x):=⟨by simp[dH.enc,ay]⟩
abbrev iW(sb:Nat)(vp:Value)(e:Nat)(us:ByteArray)(vv vb vw vq:Value):av:=(bl sb [vp,iN e,.string us,vv,vb,vw,vq] 206)
abbrev qP(sb:Nat):Value:=jd (pT sb) 6
def QI(sb:Nat)(vp:Value)(e:Nat)(us:ByteArray)(vv vb vw:Value)(L:List dH)(T:av):Prop:=∃vq Tq,T=iW sb vp e us vv vb vw vq++Tq/\OS 280 2 dH.enc vq L Tq/\L.length<=1000000000
theorem AU(v:Value)(L:List dH)(R:aA)(h:RS R 2 dH.enc v L):Spec prog 92 [v] R [] λu H'=>u=.int .i64 L.length/\H'=[]:=by
 refine Spec.body func92 rfl results92 ntmps92 rfl<|.sr<|.ag rfl<|.z<|.mo rfl<|.q (.bK h)<|.az rfl<|.ret (aP rfl ?_)
 ·exact⟨rfl,rfl⟩
theorem Qn(v:Value)(L:List dH)(R:aA)(h:RS R 2 dH.enc v L)(i k:Nat)(x y:dH)(f:L[i]? =some x)(g:L[k]? =some y):Spec prog 297 [v,.int .i64 i,.int .i64 k] R [] λu H'=>u=.bool (me x y)/\H'=[]:=by
 have e:me x y=(decide (x.1<y.1)||(decide (x.1=y.1)&&decide (x.2<y.2))):=rfl
 obtain⟨a,b⟩:=x
 obtain⟨c,d⟩:=y
 simp only at e
 generalize me (a,b) (c,d)=r at *
 refine Spec.body func297 rfl results297 ntmps297 rfl<|.sr<|.ag rfl<|.zs<|.seq<|.fX mixed (by kernel_rfl)<|.mo rfl<|.mo rfl ?_
 refine .bF i h f (λs=>?_)
 refine .fa rfl<|.lo rfl<|.mo rfl<|.mo rfl ?_
 refine .bF k h g (λl=>?_)
 refine .fa rfl<|.lo rfl<|.q .de<|.zn<|.cond rfl (λj=>?_) λj=>?_
 refine .seq<|.fX mixed (by kernel_rfl)<|.mo rfl<|.mo rfl ?_
 refine .bF i h f (λm=>?_)
 refine .fa rfl<|.lo rfl<|.mo rfl<|.mo rfl ?_
 refine .bF k h g (λn=>?_)
 refine .fa rfl<|.lo rfl<|.q .lss<|.az rfl<|.ret (aJ (aP rfl ?_))
 ·refine⟨afD _ ?_,rfl⟩
  rw[e]
  grind
 refine .kn<|.seq<|.fX mixed (by kernel_rfl)<|.mo rfl<|.mo rfl ?_
 refine .bF i h f (λo=>?_)
 refine .fa rfl<|.lo rfl<|.mo rfl<|.mo rfl ?_
 refine .bF k h g (λp=>?_)
 refine .fa rfl<|.lo rfl<|.q .lss<|.az rfl<|.ret (aP rfl ?_)
 ·refine⟨afD _ ?_,rfl⟩
  rw[e]
  grind
theorem Qu(v:Value)(L:List dH)(T:av)(R:aA)(a:OS 280 2 dH.enc v L T)(i k:Nat)(e:i<L.length)(f:k<L.length):Spec prog 298 [v,.int .i64 i,.int .i64 k] R [T] λ_ H'=>∃T',H'=[T']/\OS 280 2 dH.enc v (dM L i k) T':=by
 obtain⟨x,b⟩:=ca e
 obtain⟨y,c⟩:=ca f
 refine Spec.body func298 rfl results298 ntmps298 rfl<|.dz [13,15] mixed<|.tO 0 rfl .move<|.tO 1 rfl .move<|.tK 2 rfl .move<|.tK 3 rfl .move<|.tO 4 rfl .move<|.tO 5 rfl .move ?_
 refine RA.bh 6 rfl (k) a c rfl rfl rfl (by kernel_rfl) (λm=>?_)
 refine .tO 7 rfl (.aL rfl)<|.tO 8 rfl .move<|.tO 9 rfl .move ?_
 refine RA.bh 10 rfl (i) a b rfl rfl rfl (by kernel_rfl) (λn=>?_)
 refine .tO 11 rfl (.aL rfl) ?_
 refine RA.bh 12 rfl (i) a b rfl rfl rfl (by kernel_rfl) (λo=>?_)
 refine .sT 13 rfl<|.eK (i) a b y (λj g=>?_) (a.one _ (aR c))
 refine .nil (Next.mod rfl ?_)
 refine RA.bh 14 rfl (k) a c rfl rfl rfl (by kernel_rfl) (λp=>?_)
 refine .sT 15 rfl ?_
 obtain⟨q,h⟩:∃u,(L.set (i) y)[k]? =some u:=⟨_,bk (by rw[List.length_set];exact(afP.1 c).1)⟩
 refine .eK (k) g h x (λl d=>?_) (a.one _ (aR b))
 rw[<-iX b c]at d
 refine .nil<|Next.mod rfl<|RA.nil (by kernel_rfl)<|gC _ .none rH ?_
 ·exact⟨_,rfl,d⟩
section
variable(sb:Nat)(vp:Value)(e:Nat)(us:ByteArray)(vv vb vw:Value)
theorem Qs(L:List dH)(T:av)(h:QI sb vp e us vv vb vw L T)(x:dH)(j:L.length<1000000000)(R:aA):
  Spec prog 300 [qP sb,.iface 280 (.agg (dH.enc x).toArray)] R [T] λv H'=>∃T',H'=[T']/\QI sb vp e us vv vb vw (L++[x]) T':=by
 obtain⟨g,d,rfl,f,_⟩:=h
 refine Spec.gj (H':=[iW sb vp e us vv vb vw g,d]) (by simp) ?_
 refine Spec.body func300 rfl results300 ntmps300 rfl<|.dz [7,9] mixed<|.tK 0 rfl .move<|.tO 1 rfl .move<|.tO 2 rfl (.nilCheck rfl)<|.tO 3 rfl (.cI rfl)<|.tO 4 rfl .move<|.tO 5 rfl (.wV (ut:=⟨underlying280⟩))<|.sT 6 rfl ?_
 refine .fq (λi=>?_)
 refine .nil<|Next.sub<|.sT 7 rfl<|.append f (RS.lits (xs:=[x]) rfl (by simp[dH.enc]) (by simp[dH.enc,ay])) (by simp;omega) (λc a b=>?_)
 have k:=b.ay
 refine .nil<|Next.mod rfl<|.tK 8 rfl (.ml rfl)<|.sT 9 rfl<|.ek rfl rfl<|.nil<|Next.mod rfl<|RA.nil (by kernel_rfl)<|gC _ .none ((aK [1,1]).trans (bz.fH (H':=[iW sb vp e us vv vb vw c++a]) (by simp[take,bN,du]))) ?_
 ·exact⟨_,rfl,c,a,rfl,b,by simp;omega⟩
theorem Qr(L:List dH)(x:dH)(T:av)(h:QI sb vp e us vv vb vw (L++[x]) T)(R:aA):
  Spec prog 299 [qP sb] R [T] λv H'=>∃T',H'=[T']/\v=.iface 280 (.agg (dH.enc x).toArray)/\QI sb vp e us vv vb vw L T':=by
 obtain⟨g,b,rfl,a,f⟩:=h
 simp only[af8,afI]at f
 refine Spec.gj (H':=[iW sb vp e us vv vb vw g,b]) (by simp) ?_
 refine Spec.body func299 rfl results299 ntmps299 rfl<|.sr<|.ag rfl<|.z<|.mo rfl<|.nc rfl<|.lo rfl<|.ag rfl<|.z<|.mo rfl<|.mo rfl<|.q (.eR a)<|.q (.i64 ((L.length:Nat):Int) .sub ⟨by simp,by omega,by omega⟩) ?_
 refine .bh L.length a (z:=x) (by simp) (λk=>?_)
 refine .q (.aL rfl) ?_
 refine .cq (λi=>?_)
 refine .bZ rfl rfl<|.z<|.mo rfl<|.mo rfl<|.mo rfl<|.q (.eR a)<|.q (.i64 ((L.length:Nat):Int) .sub ⟨by simp,by omega,by omega⟩)<|.nG 0 L.length a rfl ⟨_,rfl⟩ (by omega) (by simp) (λd c=>?_)
 have j:=c.ay
 refine .nc rfl<|.ek rfl rfl<|.z<|.q (.aL rfl)<|.q (.makeInterface (ut:=⟨underlying280⟩))<|.az rfl<|.ret (br _ (.one (.tmp rfl)) ((aK [1,1]).trans (bz.fH (H':=[iW sb vp e us vv vb vw d++b]) (by simp[take,bN,du]))) ?_)
 ·exact⟨_,rfl,rfl,d,b,rfl,by simpa using c,by omega⟩
theorem qU:∀w,(typeInfo 282).run prog w=.ok t282 w:=typeInfo282
theorem Ac(R:aA):qc prog R 282 (qP sb) me (QI sb vp e us vv vb vw) where
 kO L T h:=by obtain⟨a,b,rfl,d,g⟩:=h;exact g
 len L T h:=by
  obtain⟨a,b,rfl,d,g⟩:=h
  have j:RS (Rx R [iW sb vp e us vv vb vw a++b]) 2 dH.enc a L:=d.rs λp c=>.inr (by simp[c])
  have c:PC (Rx R [iW sb vp e us vv vb vw a++b]) (pT sb) [vp,iN e,.string us,vv,vb,vw,a]:=PC.of (E:=206) (fr:=(0,0)) (.inr (by simp))
  refine(hY.gY (r:=a) (f:=92) (jx.val qU (by kernel_rfl) inferInstance (by kernel_rfl) inferInstance (c.add 6)) (AU a L _ j)).mono λu n l=>?_
  obtain⟨rfl,rfl⟩:=l
  exact⟨rfl,a,b,rfl,d,g⟩
 less L T i k x y h hx hy:=by
  obtain⟨a,b,rfl,d,g⟩:=h
  have j:RS (Rx R [iW sb vp e us vv vb vw a++b]) 2 dH.enc a L:=d.rs λp c=>.inr (by simp[c])
  have c:PC (Rx R [iW sb vp e us vv vb vw a++b]) (pT sb) [vp,iN e,.string us,vv,vb,vw,a]:=PC.of (E:=206) (fr:=(0,0)) (.inr (by simp))
  refine(hY.gY (r:=a) (f:=297) (jx.val qU (by kernel_rfl) inferInstance (by kernel_rfl) inferInstance (c.add 6)) (Qn a L _ j i k x y hx hy)).mono λu n l=>?_
  obtain⟨rfl,rfl⟩:=l
  exact⟨rfl,a,b,rfl,d,g⟩
 swap L T i k h hi hk:=by
  obtain⟨a,b,rfl,d,g⟩:=h
  have c:PC (Rx R [iW sb vp e us vv vb vw a++b]) (pT sb) [vp,iN e,.string us,vv,vb,vw,a]:=PC.of (E:=206) (fr:=(0,0)) (.inr (by simp))
  refine⟨298,a,jx.val qU (by kernel_rfl) inferInstance (by kernel_rfl) inferInstance (c.add 6),inferInstance,?_⟩
  refine Spec.gj (H':=[iW sb vp e us vv vb vw a,b]) (by simp)<|Spec.flat ((Spec.qB [1] (Qu a L b _ d i k hi hk)).mono λv H' q=>?_)
  obtain⟨s,rfl,m,rfl,o⟩:=q
  refine⟨_,iW sb vp e us vv vb vw a++m,rfl,?_,_,rfl,a,m,rfl,o,by rw[oE];exact g⟩
  simp only[rest,bN,List.flatten_append,afY,afZ,afM]
  exact List.perm_append_comm
theorem OH(L:List dH)(T:av)(h:QI sb vp e us vv vb vw L T)(x:dH)(hl:L.length<1000000000)(R:aA):hY Tryz.prog 282 (qP sb) "Push" [.iface 280 (.agg (dH.enc x).toArray)] R T fun _ T'=>QI sb vp e us vv vb vw (L++[x]) T':=
 ⟨300,_,jx.ptr qU (by kernel_rfl) inferInstance (by kernel_rfl),inferInstance,Qs sb vp e us vv vb vw L T h x hl R⟩
theorem OG(L:List dH)(x:dH)(T:av)(h:QI sb vp e us vv vb vw (L++[x]) T)(R:aA):hY Tryz.prog 282 (qP sb) "Pop" [] R T fun v T'=>v=.iface 280 (.agg (dH.enc x).toArray)∧QI sb vp e us vv vb vw L T':=
 ⟨299,_,jx.ptr qU (by kernel_rfl) inferInstance (by kernel_rfl),inferInstance,Qr sb vp e us vv vb vw L x T h R⟩
end
def ee(b:Bool):List Value:=[.bool b]
structure QW(ps:List bQ)(q:List Bool)(L:List dH):Prop where
 p:L.Perm (items ps q)
 h:fE me L L.length
section
variable(sb:Nat)(vp:Value)(e:Nat)(us:ByteArray)(vv vb vw:Value)
theorem AW(L:List dH)(T k:av)(h:QI sb vp e us vv vb vw L T)(ps:List aY)(R:aA)(B:RS R 8 aY.enc vp ps)(A:∀p∈ps,∀u∈p.enc,ay u=true)(q:List Bool)(d:OS 4 1 ee vw q k)(M:q.length=ps.length)(a:QW (ps.map aY.plain) q L)(i:Nat)(z:i<ps.length)(J:ps.length<1000000000)
  [O:One vp] [Q:One vv] [N:One vb] [S:One vw]:Spec prog 95 [pT sb,.int .i64 i] R [T,k] λ_ H'=>∃T' Tw' L',H'=[T',Tw']/\QI sb vp e us vv vb vw L' T'/\OS 4 1 ee vw (q.set i true) Tw'/\QW (ps.map aY.plain) (q.set i true) L':=by
 have l:=h
 obtain⟨o,r,rfl,H,I⟩:=h
 have a0:PS (iW sb vp e us vv vb vw o++r) (pT sb) [vp,iN e,.string us,vv,vb,vw,o]:=PS.of (E:=206) (fr:=(0,0)) (by simp)
 obtain⟨b,c⟩:∃b,q[i]? =some b:=⟨_,bk (by omega)⟩
 obtain⟨p,g⟩:=ca z
 have K:cM p.enc:=⟨A p (aR g)⟩
 have j:q.getD i false=b:=by rw[afU,c];rfl
 have m:fW (ps.map aY.plain) i=p.number:=by
  unfold fW
  rw[afG,g]
  rfl
 obtain⟨U,F,vn,W,vu,a1,vl,V,n⟩:=p
 simp only at m
 have G:=MM a.p
 refine Spec.body func95 rfl results95 ntmps95 rfl<|.sr<|.mo rfl<|.nc rfl<|.fa rfl<|.lo rfl<|.mo rfl ?_
 refine .bh i d c (λZ=>?_)
 refine .lo rfl<|.q .not<|.zn<|.cond rfl (λf=>?_) λf=>?_
 have x:b=false:=by simpa using f
 subst x
 refine .sr<|.mo rfl<|.nc rfl<|.fa rfl<|.lo rfl<|.mo rfl ?_
 refine .bh i d c (λX=>?_)
 refine .gk i d c true (λD v=>?_)
 refine .zn<|.dY 16 mixed (by kernel_rfl) ?_
 conv=>arg 6;dsimp only[List.take]
 refine .mo rfl<|.nc rfl<|.fa rfl<|.q .makeInterface<|.mo rfl<|.nc rfl<|.fa rfl<|.fa rfl<|.lo rfl<|.mo rfl ?_
 refine .bF i B g (λY=>?_)
 refine .fa rfl<|.lo rfl<|.mo rfl ?_
 refine .q .dw ?_
 refine .q (.makeInterface (ut:=⟨underlying280⟩))<|.nil<|.dT (R:=R) (OA (Ac sb vp e us vv vb vw R) uy L _ _ (n,i) (OH sb vp e us vv vb vw L _ l (n,i) (by omega) R) a.h) (λu T' C=>?_)
 obtain⟨rfl,L',t,w,s⟩:=C
 refine .nil<|gC _ .none rH ?_
 ·exact⟨_,_,L',rfl,t,v,⟨w.trans (by rw[<-m];exact(a.p.append_right _).trans (MO (by omega) j)),s⟩⟩
 have y:b=true:=by simpa using f
 subst y
 refine .skip<|gC _ .none rH ?_
 ·exact⟨_,_,L,rfl,l,by rw[tE j (by omega)];exact d,by rw[tE j (by omega)];exact a⟩
theorem Qq(L:List dH)(T g:av)(h:QI sb vp e us vv vb vw L T)(R:aA)(ps:List bQ)(q:List Bool)(l:OS 4 1 ee vw q g)(c:QW ps q L)(x:dH)(m:L[0]? =some x) [N:One vp] [O:One vv] [M:One vb] [Q:One vw]:
  Spec prog 93 [pT sb] R [T,g] λu H'=>∃T' Tw' L',H'=[T',Tw']/\u=iN x.2/\QI sb vp e us vv vb vw L' T'/\OS 4 1 ee vw (q.set x.2 false) Tw'/\QW ps (q.set x.2 false) L'/\mL ps q x.2/\x.2<q.length:=by
 have B:=h
 obtain⟨o,s,rfl,I,D⟩:=h
 have U:PS (iW sb vp e us vv vb vw o++s) (pT sb) [vp,iN e,.string us,vv,vb,vw,o]:=PS.of (E:=206) (fr:=(0,0)) (by simp)
 obtain⟨f,n,d⟩:=yL c.p c.h m
 obtain⟨a,i⟩:=x
 simp only at f n d
 obtain⟨b,k⟩:=ca d
 refine Spec.body func93 rfl results93 ntmps93 rfl<|.sr<|.ag rfl<|.z<|.mo rfl<|.nc rfl<|.fa rfl<|.q .makeInterface<|.dT (R:=R) (Ox (Ac sb vp e us vv vb vw R) uy L _ B (a,i) m c.h (λx=>.iface 280 (.agg (dH.enc x).toArray)) (QI sb vp e us vv vb vw) (λL' T' w D=>OG sb vp e us vv vb vw L' (a,i) T' w R)) (λu T' F=>?_)
 obtain⟨rfl,L',j,A,v⟩:=F
 have C:=j
 obtain⟨r,t,rfl,J,K⟩:=j
 have V:PS (iW sb vp e us vv vb vw r++t) (pT sb) [vp,iN e,.string us,vv,vb,vw,r]:=PS.of (E:=206) (fr:=(0,0)) (by simp)
 refine .q (.wV (ut:=⟨underlying280⟩)) ?_
 refine .cq (λH=>?_)
 refine .bZ rfl rfl<|.zs<|.dY 7 mixed (by kernel_rfl) ?_
 conv=>arg 6;dsimp only[List.take]
 refine .mo rfl<|.nc rfl<|.fa rfl<|.lo rfl<|.fa rfl<|.lo rfl ?_
 refine .bh i l k (λS=>?_)
 refine .nil ?_
 skip
 refine .gk i l k false (λG y=>?_)
 refine .z<|.fa rfl<|.lo rfl<|.az rfl<|.ret (br _ (.one (.tmp rfl)) (aK [1,1]) ?_)
 ·exact⟨_,_,L',rfl,rfl,C,y,⟨ML c.p d f.1 (by rw[<-n];exact A),v⟩,f,d⟩
theorem Qj(a:Value) [g:One a](v:List Bool)(j:Nat)(b:Bool)(c:v[j]? =some b)(R:aA)(d:RS R 1 ee vv v)(pc:PC R (pT sb) [vp,iN e,.string us,vv,vb,vw,a]) [f:One vp] [h:One vv]:
  Spec prog 152 [pT sb,.int .i64 j] R [] λu H'=>u=.bool b/\H'=[]:=by
 refine Spec.body func152 rfl results152 ntmps152 rfl<|.sr<|.ag rfl<|.z<|.mo rfl<|.nc rfl<|.fa rfl<|.lo rfl<|.mo rfl ?_
 refine .bF j d c (λi=>?_)
 refine .lo rfl<|.az rfl<|.ret (aP rfl ?_)
 ·exact⟨rfl,rfl⟩
end
namespace LIM
theorem MF(f:FuncId)(g:List Value) [e:aT prog f](p:Nat->Bool)(v:Value)(l:List Nat)(R:aA)(h:RS R 1 dv v l)(C:∀s∈l,∀R',(∀b o,R b o->R' b o)->Spec prog f (g++[(λn:Nat=>iN n) s]) R' [] λu H'=>u=.bool (p s)/\H'=[]):
  Spec prog 192 [v,.func (.func f) g.toArray #[]] R [] λu H'=>(∃k:Int,u=.int .i64 k/\((∃(i:Nat) (x:Nat),l[i]? =some x/\p x=true/\(∀j y,j<i->l[j]? =some y->p y=false)/\k=i)\/((∀y∈l,p y=false)/\k= -1)))/\H'=[]:=by
 have H:=h.le
 refine Spec.body func192 rfl results192 ntmps192 rfl<|.sr<|.ag rfl<|.zs<|.sr<|.mo rfl<|.q (.bK h)<|.mo rfl<|.zn<|.block<|.loop (X:=Nat) (λi=>i<=l.length/\∀j z,j<i->l[j]? =some z->p z=false) (λi=>[(0,v),(1,.func (.func f) g.toArray #[]),(7,.int .i64 l.length),(8,iN i)]) (λ_=>[]) (λi=>l.length-i) 0 ⟨by omega,by omega⟩ kE.c.c.c.c rH ?_
 rintro i ⟨G,w⟩
 refine .sr<|.q .lss<|.zs<|.cond rfl (λm=>?_) λm=>?_
 have D:i<l.length:=by simp at m;omega
 obtain⟨z,d⟩:=ca D
 have F:=aR d
 refine .kn<|.seq<|.block<|.sr<|.mo rfl<|.ag rfl<|.z<|.mo rfl<|.mo rfl<|.mo rfl ?_
 refine .bF i h d (λI=>?_)
 refine .lo rfl<|.gx (first:=g) (captured:=[]) (vs:=[(λn:Nat=>iN n) z]) (by rw[afM];exact C z F _ λb o A=>.inl A) (λu E=>?_)
 subst E
 refine .zn<|.cond rfl (λr=>?_) λr=>?_
 refine .sr<|.mo rfl<|.az rfl<|.ret (bA (aJ (cW (bA (aJ (aP rfl ?_))))))
 ·exact⟨⟨_,rfl,.inl ⟨i,z,d,r,w,rfl⟩⟩,rfl⟩
 refine .skip<|ba<|au<|.region<|.q (.inc (n:=i) (by omega))<|.mo rfl<|.nil ?_
 ·exact bp (i+1) ⟨by omega,λj y t a=>by
   rcases Nat.lt_or_ge j i with hh|hh
   ·exact w j y hh a
   ·obtain rfl:j=i:=by omega
    rw[d]at a;cases a;exact r⟩ (by omega) kE.c.c.c.c rH
 refine .exit<|bD<|bG<|bE<|au<|.sr<|.az rfl<|.ret (aP rfl ?_)
 ·have B:i=l.length:=by simp at m;omega
  subst B
  refine⟨⟨_,rfl,.inr ⟨λy a=>?_,rfl⟩⟩,rfl⟩
  obtain⟨j,t,rfl⟩:=af5.1 a
  exact w j _ t (bk t)
theorem xp(f:FuncId)(c:List Value) [e:aT prog f](p:Nat->Bool)(v:Value)(l:List Nat)(R:aA)(h:RS R 1 dv v l)(m:∀s∈l,∀R',(∀b o,R b o->R' b o)->Spec prog f (c++[(λn:Nat=>iN n) s]) R' [] λu H'=>u=.bool (p s)/\H'=[]):
  Spec prog 151 [v,.func (.func f) c.toArray #[]] R [] λu H'=>u=.bool (l.any p)/\H'=[]:=by
 refine Spec.body func151 rfl results151 ntmps151 rfl<|.sr<|.ag rfl<|.z<|.mo rfl<|.mo rfl<|.aQ (MF f c p v l _ h.rx λs w R' g=>m s w R' λb o j=>g b o (.inl j)) (λu A=>?_)
 obtain⟨k,rfl,r⟩:=A
 have t:decide (0<=k)=l.any p:=by
  rcases r with⟨i,x,a,d,_,rfl⟩|⟨a,rfl⟩
  ·rw[afQ.2 ⟨x,aR a,d⟩];simp
  ·rw[agc.2 λy B=>by rw[a y B];simp];rfl
 refine .q .geq<|.az rfl<|.ret (aP rfl ?_)
 ·exact⟨by simp only[t],rfl⟩
end LIM
end Go.Proofs.YtdljmchhecoakaaGreat
